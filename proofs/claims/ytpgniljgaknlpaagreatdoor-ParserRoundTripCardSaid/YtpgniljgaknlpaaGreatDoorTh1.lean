import Derived.Test.YtpgniljgaknlpaaGreatDoorSpec2
/-
  The theory of the lexer, in plain Lean: what it says of a text that is put together.
-/
namespace Tpl

/-- Does a tag begin here? -/
def opn : Bs → Bool
  | [] => false
  | c :: r => decide (c.toNat = 123) && !(match r with | d :: _ => decide (d.toNat = 123) | [] => false)

theorem c_eq {c : UInt8} {n : Nat} (h : c.toNat = n) : c = UInt8.ofNat n := by
  rw [← h]; exact (UInt8.ofNat_toNat).symm

theorem isT_123 : isT 123 = true := by decide
theorem opn_ne {c : UInt8} (r : Bs) (h : ¬ c.toNat = 123) : opn (c :: r) = false := by simp [opn, h]

theorem lit_not {c : UInt8} (h : isT c = true) : (decide (c.toNat ≠ 10) && !isP c) = false := by
  unfold isT at h
  simp only [Bool.or_eq_true, decide_eq_true_eq] at h
  rcases h with h | h <;> simp [h]
theorem lit_not' {c : UInt8} (h : (decide (c.toNat ≠ 10) && !isP c) = false) : isT c = true := by
  unfold isT
  simp only [Bool.and_eq_false_iff, decide_eq_false_iff_not, Bool.not_eq_false'] at h
  simp only [Bool.or_eq_true, decide_eq_true_eq]
  rcases h with h | h
  · left; omega
  · right; exact h

theorem esc_cons (c : UInt8) (t : Bs) : esc (c :: t) = (if c.toNat = 123 then [c, c] else [c]) ++ esc t := by simp [esc]
theorem esc_app (s t : Bs) : esc (s ++ t) = esc s ++ esc t := by simp [esc]
theorem esc_ne {t : Bs} (h : t ≠ []) : esc t ≠ [] := by
  cases t with
  | nil => exact absurd rfl h
  | cons c t => rw [esc_cons]; split <;> simp
theorem esc_len (t : Bs) : t.length ≤ (esc t).length := by
  induction t with
  | nil => simp [esc]
  | cons c t ih => rw [esc_cons]; split <;> simp <;> omega

/-- A text that is followed by nothing or by a tag. -/
theorem lit_stop (r : Bs) (h : r = [] ∨ opn r = true) : lit r = ([], 0, r, true) := by
  rcases h with rfl | h
  · rfl
  · match r, h with
    | [c], h =>
      have hc : c.toNat = 123 := by simpa [opn] using h
      simp [lit, hc]
    | c :: d :: r, h =>
      have hc : c.toNat = 123 ∧ ¬ d.toNat = 123 := by simpa [opn] using h
      rw [lit, if_pos hc.1, if_neg hc.2]

theorem lit_esc (r : Bs) (h : r = [] ∨ opn r = true) : ∀ t : Bs, t.all isT = true → lit (esc t ++ r) = (t, (esc t).length, r, true)
  | [], _ => by rw [show esc [] = [] from rfl, List.nil_append, lit_stop r h]; rfl
  | c :: t, ht => by
    simp only [List.all_cons, Bool.and_eq_true] at ht
    have ih := lit_esc r h t ht.2
    rw [esc_cons]
    by_cases hc : c.toNat = 123
    · rw [if_pos hc]
      simp only [List.cons_append, List.nil_append]
      rw [lit, if_pos hc, if_pos hc, ih]
      simp
    · rw [if_neg hc]
      simp only [List.cons_append, List.nil_append]
      cases hs : esc t ++ r with
      | nil =>
        have he : esc t = [] := (List.append_eq_nil_iff.1 hs).1
        have hr : r = [] := (List.append_eq_nil_iff.1 hs).2
        have ht0 : t = [] := by
          cases t with
          | nil => rfl
          | cons x y => exact absurd he (esc_ne (by simp))
        subst ht0; subst hr
        rw [lit, if_neg hc, if_neg (by rw [lit_not ht.1]; decide)]
        rfl
      | cons d u =>
        rw [lit, if_neg hc, if_neg (by rw [lit_not ht.1]; decide), ← hs, ih]
        simp

/-- What a run of literal text is. -/
theorem lit_inv (s : Bs) : (lit s).2.2.2 = true → s = esc (lit s).1 ++ (lit s).2.2.1 ∧ (lit s).1.all isT = true ∧ ((lit s).2.2.1 = [] ∨ opn (lit s).2.2.1 = true) ∧ (lit s).2.1 = (esc (lit s).1).length := by
  fun_induction lit s with
  | case1 => intro _; simp [esc]
  | case2 c hc => intro _; simp [esc, opn, hc]
  | case3 c hc hb => intro h; simp at h
  | case4 c hc hb => intro _; simp [esc, hc, lit_not' (by simpa using hb)]
  | case5 c d r hc hd x ih =>
    intro h
    obtain ⟨h1, h2, h3, h4⟩ := ih h
    have hcd : d = c := by rw [c_eq hc, c_eq hd]
    subst hcd
    refine ⟨?_, ?_, h3, ?_⟩
    · rw [esc_cons, if_pos hc]
      simp only [List.cons_append, List.nil_append]
      rw [← h1]
    · simp only [List.all_cons, Bool.and_eq_true]
      refine ⟨?_, h2⟩
      rw [c_eq hc]; decide
    · rw [esc_cons, if_pos hc]; simp only [List.cons_append, List.nil_append, List.length_cons]; rw [← h4]
  | case6 c d r hc hd => intro _; simp [esc, opn, hc, hd]
  | case7 c d r hc hb => intro h; simp at h
  | case8 c d r hc hb x ih =>
    intro h
    obtain ⟨h1, h2, h3, h4⟩ := ih h
    refine ⟨?_, ?_, h3, ?_⟩
    · rw [esc_cons, if_neg hc]
      simp only [List.cons_append, List.nil_append]
      rw [← h1]
    · simp only [List.all_cons, Bool.and_eq_true]
      exact ⟨lit_not' (by simpa using hb), h2⟩
    · rw [esc_cons, if_neg hc]; simp only [List.cons_append, List.nil_append, List.length_cons]; rw [← h4]

theorem lit_len (s : Bs) : (lit s).2.1 + (lit s).2.2.1.length = s.length := by
  fun_induction lit s with
  | case1 => rfl
  | case2 c hc => simp
  | case3 c hc hb => simp
  | case4 c hc hb => simp
  | case5 c d r hc hd x ih => simp only [List.length_cons]; rw [show x = lit r from rfl]; omega
  | case6 c d r hc hd => simp
  | case7 c d r hc hb => simp
  | case8 c d r hc hb x ih => simp only [List.length_cons] at ih ⊢; rw [show x = lit (d :: r) from rfl]; omega

theorem lit_pos {c : UInt8} {r : Bs} (h : opn (c :: r) = false) (hok : (lit (c :: r)).2.2.2 = true) : 0 < (lit (c :: r)).2.1 := by
  obtain ⟨h1, -, h3, h4⟩ := lit_inv _ hok
  rw [h4]
  by_cases h0 : esc (lit (c :: r)).1 = []
  · rw [h0, List.nil_append] at h1
    rw [← h1, h] at h3
    simp at h3
  · exact List.length_pos_iff.2 h0

/-- No word character (or digit) at the head. -/
def noH (p : UInt8 → Bool) : Bs → Bool
  | [] => true
  | c :: _ => !p c

theorem takeWhile_app {p : UInt8 → Bool} : ∀ {w r : Bs}, w.all p = true → noH p r = true → (w ++ r).takeWhile p = w ∧ (w ++ r).dropWhile p = r
  | [], [], _, _ => by simp
  | [], c :: r, _, h => by
    have : p c = false := by simpa [noH] using h
    simp [this]
  | a :: w, r, h, h2 => by
    simp only [List.all_cons, Bool.and_eq_true] at h
    have ih := takeWhile_app h.2 h2
    simp [h.1, ih]

theorem noH_drop (p : UInt8 → Bool) : ∀ r : Bs, noH p (r.dropWhile p) = true
  | [] => rfl
  | c :: r => by
    by_cases h : p c = true
    · rw [List.dropWhile_cons, if_pos h]; exact noH_drop p r
    · rw [List.dropWhile_cons, if_neg h]; simp [noH, h]

theorem all_take (p : UInt8 → Bool) : ∀ r : Bs, (r.takeWhile p).all p = true
  | [] => rfl
  | c :: r => by
    by_cases h : p c = true
    · rw [List.takeWhile_cons, if_pos h]; simp [h]
    · rw [List.takeWhile_cons, if_neg h]; rfl

def numOk (w : Bs) : Bool := !w.isEmpty && w.all isD && decide (w.length ≤ 6) && !(decide (1 < w.length) && decide (w.head? = some 48))

/-- Is a token as the lexer makes it? -/
def tkOk (t : Tk) : Bool :=
  if t.kind = 1 then txOk t.text
  else if t.kind = 2 then nameOk t.text
  else if t.kind = 3 then numOk t.text
  else if t.kind = 4 then t.text.all isA
  else decide (t.kind = 5) || decide (t.kind = 6) || decide (t.kind = 7)

/-- The bytes that a token takes. -/
def tkLen (t : Tk) : Nat :=
  if t.kind = 1 then (esc t.text).length
  else if t.kind = 2 ∨ t.kind = 3 then t.text.length
  else if t.kind = 4 then t.text.length + 2
  else 1

/-- The token in a tag. -/
theorem part_inv {c : UInt8} {r : Bs} {k : Nat} {w : Bs} {n : Nat} {t : Bs} (h : part c r = some (k, w, n, t)) :
    (k = 2 ∨ k = 3 ∨ k = 4 ∨ k = 5 ∨ k = 7) ∧ (∀ o, tkOk ⟨k, w, o⟩ = true ∧ tkLen ⟨k, w, o⟩ = n) ∧ n + t.length = r.length + 1 ∧ 0 < n ∧ ((k = 2 ∨ k = 3) → c :: r = w ++ t) ∧ (k = 2 → noH isW t = true) ∧ (k = 3 → noH isD t = true) ∧ (k = 2 ∨ k = 3 → isW c = true) := by
  unfold part at h
  by_cases hl : isL c = true
  · rw [if_pos hl] at h
    simp only at h
    split at h
    · simp at h
    · rename_i hlen
      injection h with h; injection h with h1 h; injection h with h2 h; injection h with h3 h4
      subst h1; subst h2; subst h3; subst h4
      have hw : isW c = true := by simp [isW, hl]
      have e := List.takeWhile_append_dropWhile (p := isW) (l := r)
      have el : (r.takeWhile isW).length + (r.dropWhile isW).length = r.length := by rw [← List.length_append, e]
      refine ⟨.inl rfl, fun o => ⟨?_, ?_⟩, ?_, by simp, fun _ => ?_, fun _ => noH_drop _ _, fun h => by omega, fun _ => hw⟩
      · simp only [tkOk]
        simp only [nameOk, List.all_cons, hw, hl, all_take, Bool.and_true]
        simp only [List.length_cons] at hlen ⊢
        simp
        omega
      · simp [tkLen]
      · simp only [List.length_cons]; omega
      · rw [List.cons_append, e]
  · rw [if_neg hl] at h
    by_cases hd : isD c = true
    · rw [if_pos hd] at h
      simp only at h
      split at h
      · simp at h
      · rename_i hlen
        injection h with h; injection h with h1 h; injection h with h2 h; injection h with h3 h4
        subst h1; subst h2; subst h3; subst h4
        have hw : isW c = true := by simp [isW, hd]
        have e := List.takeWhile_append_dropWhile (p := isD) (l := r)
        have el : (r.takeWhile isD).length + (r.dropWhile isD).length = r.length := by rw [← List.length_append, e]
        refine ⟨.inr (.inl rfl), fun o => ⟨?_, ?_⟩, ?_, by simp, fun _ => ?_, fun h => by omega, fun _ => noH_drop _ _, fun _ => hw⟩
        · simp only [tkOk]
          simp only [Bool.or_eq_true, Bool.and_eq_true, decide_eq_true_eq, not_or, not_and, List.length_cons] at hlen
          simp only [numOk, List.all_cons, hd, all_take, Bool.and_true, Bool.true_and, List.isEmpty_cons, Bool.not_false, List.head?_cons, List.length_cons]
          simp
          refine ⟨by omega, ?_⟩
          by_cases h0 : r.takeWhile isD = []
          · exact .inl h0
          · right
            have := hlen.2 (by have := List.length_pos_iff.2 h0; omega)
            intro e
            rw [e] at this
            exact this (by decide)
        · simp [tkLen]
        · simp only [List.length_cons]; omega
        · rw [List.cons_append, e]
    · rw [if_neg hd] at h
      by_cases hq : c.toNat = 34
      · rw [if_pos hq] at h
        simp only at h
        have e := List.takeWhile_append_dropWhile (p := isA) (l := r)
        have el : (r.takeWhile isA).length + (r.dropWhile isA).length = r.length := by rw [← List.length_append, e]
        split at h
        · simp at h
        · rename_i d u hu
          rw [hu] at el
          simp only [List.length_cons] at el
          split at h
          · injection h with h; injection h with h1 h; injection h with h2 h; injection h with h3 h4
            subst h1; subst h2; subst h3; subst h4
            refine ⟨.inr (.inr (.inl rfl)), fun o => ⟨?_, ?_⟩, by omega, by omega, fun h => by omega, fun h => by omega, fun h => by omega, fun h => by omega⟩
            · simp [tkOk]
            · simp [tkLen]
          · simp at h
      · rw [if_neg hq] at h
        by_cases hp : c.toNat = 124
        · rw [if_pos hp] at h
          injection h with h; injection h with h1 h; injection h with h2 h; injection h with h3 h4
          subst h1; subst h2; subst h3; subst h4
          exact ⟨by simp, fun o => by simp [tkOk, tkLen], by omega, by omega, fun h => by omega, fun h => by omega, fun h => by omega, fun h => by omega⟩
        · rw [if_neg hp] at h
          by_cases hc : c.toNat = 125
          · rw [if_pos hc] at h
            injection h with h; injection h with h1 h; injection h with h2 h; injection h with h3 h4
            subst h1; subst h2; subst h3; subst h4
            exact ⟨by simp, fun o => by simp [tkOk, tkLen], by omega, by omega, fun h => by omega, fun h => by omega, fun h => by omega, fun h => by omega⟩
          · rw [if_neg hc] at h; simp at h

theorem scan_none (f : Nat) (c : UInt8) (r : Bs) (off : Nat) : scan (f + 1) (c :: r) off none = if opn (c :: r) = true then ⟨6, [c], off⟩ :: scan f r (off + 1) (some off) else if (lit (c :: r)).2.2.2 = true then ⟨1, (lit (c :: r)).1, off⟩ :: scan f (lit (c :: r)).2.2.1 (off + (lit (c :: r)).2.1) none else [⟨0, [], off + (lit (c :: r)).2.1⟩] := by
  cases r <;> rfl
theorem scan_some (f : Nat) (c : UInt8) (r : Bs) (off tag : Nat) : scan (f + 1) (c :: r) off (some tag) = if c.toNat = 32 ∨ c.toNat = 10 then scan f r (off + 1) (some tag) else match part c r with
    | none => [⟨0, [], off⟩]
    | some (k, w, n, t) => ⟨k, w, off⟩ :: scan f t (off + n) (if k = 7 then none else some tag) := rfl

/-- Enough fuel. -/
theorem scan_fuel : ∀ (f g : Nat) (s : Bs) (off : Nat) (tag : Option Nat), s.length + 1 ≤ f → s.length + 1 ≤ g → scan f s off tag = scan g s off tag
  | 0, _, _, _, _, h, _ => by omega
  | _ + 1, 0, _, _, _, _, h => by omega
  | f + 1, g + 1, [], off, none, _, _ => rfl
  | f + 1, g + 1, [], off, some tag, _, _ => rfl
  | f + 1, g + 1, c :: r, off, none, hf, hg => by
    simp only [List.length_cons] at hf hg
    rw [scan_none, scan_none]
    split
    · rw [scan_fuel f g r _ _ (by omega) (by omega)]
    · rename_i ho
      have ho : opn (c :: r) = false := by simpa using ho
      split
      · rename_i hok
        have h1 := lit_len (c :: r)
        have h2 := lit_pos ho hok
        simp only [List.length_cons] at h1
        rw [scan_fuel f g _ _ _ (by omega) (by omega)]
      · rfl
  | f + 1, g + 1, c :: r, off, some tag, hf, hg => by
    simp only [List.length_cons] at hf hg
    rw [scan_some, scan_some]
    split
    · rw [scan_fuel f g r _ _ (by omega) (by omega)]
    · split
      · rfl
      · rename_i k w n t hp
        obtain ⟨-, -, h3, h4, -⟩ := part_inv hp
        rw [scan_fuel f g t _ _ (by omega) (by omega)]

def lexS (s : Bs) (off : Nat) (tag : Option Nat) : List Tk := scan (s.length + 1) s off tag

theorem lexS_scan {f : Nat} {s : Bs} {off : Nat} {tag : Option Nat} (h : s.length + 1 ≤ f) : scan f s off tag = lexS s off tag := scan_fuel _ _ _ _ _ h (Nat.le_refl _)

theorem lexS_nil (off : Nat) : lexS [] off none = [] := rfl
theorem lexS_nil_tag (off tag : Nat) : lexS [] off (some tag) = [⟨0, [], tag⟩] := rfl
theorem lexS_opn {c : UInt8} {r : Bs} (off : Nat) (h : opn (c :: r) = true) : lexS (c :: r) off none = ⟨6, [c], off⟩ :: lexS r (off + 1) (some off) := by
  rw [lexS, List.length_cons, scan_none, if_pos h, lexS_scan (by simp)]
theorem lexS_lit {c : UInt8} {r : Bs} (off : Nat) (h : opn (c :: r) = false) (hok : (lit (c :: r)).2.2.2 = true) : lexS (c :: r) off none = ⟨1, (lit (c :: r)).1, off⟩ :: lexS (lit (c :: r)).2.2.1 (off + (lit (c :: r)).2.1) none := by
  have h1 := lit_len (c :: r)
  have h2 := lit_pos h hok
  simp only [List.length_cons] at h1
  rw [lexS, List.length_cons, scan_none, if_neg (by rw [h]; decide), if_pos hok, lexS_scan (by omega)]
theorem lexS_bad {c : UInt8} {r : Bs} (off : Nat) (h : opn (c :: r) = false) (hok : (lit (c :: r)).2.2.2 = false) : lexS (c :: r) off none = [⟨0, [], off + (lit (c :: r)).2.1⟩] := by
  rw [lexS, List.length_cons, scan_none, if_neg (by rw [h]; decide), if_neg (by rw [hok]; decide)]
theorem lexS_sp {c : UInt8} {r : Bs} (off tag : Nat) (h : c.toNat = 32 ∨ c.toNat = 10) : lexS (c :: r) off (some tag) = lexS r (off + 1) (some tag) := by
  rw [lexS, List.length_cons, scan_some, if_pos h, lexS_scan (by simp)]
theorem lexS_part {c : UInt8} {r : Bs} (off tag : Nat) (h : ¬ (c.toNat = 32 ∨ c.toNat = 10)) {k : Nat} {w : Bs} {n : Nat} {t : Bs} (hp : part c r = some (k, w, n, t)) : lexS (c :: r) off (some tag) = ⟨k, w, off⟩ :: lexS t (off + n) (if k = 7 then none else some tag) := by
  obtain ⟨-, -, h3, h4, -⟩ := part_inv hp
  rw [lexS, List.length_cons, scan_some, if_neg h, hp]
  simp only
  rw [lexS_scan (by simp; omega)]
theorem lexS_wrong {c : UInt8} {r : Bs} (off tag : Nat) (h : ¬ (c.toNat = 32 ∨ c.toNat = 10)) (hp : part c r = none) : lexS (c :: r) off (some tag) = [⟨0, [], off⟩] := by
  rw [lexS, List.length_cons, scan_some, if_neg h, hp]

/-! ### The pieces that the printer puts. -/
theorem isW_plain {c : UInt8} (h : isW c = true) : ¬ (c.toNat = 32 ∨ c.toNat = 10) ∧ ¬ c.toNat = 34 ∧ ¬ c.toNat = 124 ∧ ¬ c.toNat = 125 := by
  simp only [isW, isL, isD, Bool.or_eq_true, Bool.and_eq_true, decide_eq_true_eq] at h
  omega
theorem isL_isD {c : UInt8} (h : isD c = true) : isL c = false := by
  simp only [isD, Bool.and_eq_true, decide_eq_true_eq] at h
  simp only [isL, Bool.and_eq_false_iff, decide_eq_false_iff_not]
  omega

theorem lex_text {t : Bs} (h : txOk t = true) (r : Bs) (hr : r = [] ∨ opn r = true) (off : Nat) : lexS (esc t ++ r) off none = ⟨1, t, off⟩ :: lexS r (off + (esc t).length) none := by
  simp only [txOk, Bool.and_eq_true, Bool.not_eq_true', List.isEmpty_eq_false_iff] at h
  have hl := lit_esc r hr t h.2
  cases hs : esc t ++ r with
  | nil => exact absurd (List.append_eq_nil_iff.1 hs).1 (esc_ne h.1)
  | cons c u =>
    have ho : opn (c :: u) = false := by
      cases ht : t with
      | nil => exact absurd ht h.1
      | cons a t' =>
        rw [ht, esc_cons] at hs
        by_cases ha : a.toNat = 123
        · rw [if_pos ha] at hs
          simp only [List.cons_append, List.nil_append, List.cons.injEq] at hs
          obtain ⟨rfl, rfl⟩ := hs
          simp [opn, ha]
        · rw [if_neg ha] at hs
          simp only [List.cons_append, List.nil_append, List.cons.injEq] at hs
          obtain ⟨rfl, rfl⟩ := hs
          exact opn_ne _ ha
    rw [hs] at hl
    rw [lexS_lit off ho (by rw [hl]), hl]

theorem lex_name {n : Bs} (h : nameOk n = true) (r : Bs) (hr : noH isW r = true) (off tag : Nat) : lexS (n ++ r) off (some tag) = ⟨2, n, off⟩ :: lexS r (off + n.length) (some tag) := by
  cases n with
  | nil => simp [nameOk] at h
  | cons c u =>
    simp only [nameOk, Bool.and_eq_true, decide_eq_true_eq, List.all_cons] at h
    obtain ⟨⟨hlen, hl⟩, hw, hu⟩ := h
    have hp : part c (u ++ r) = some (2, c :: u, (c :: u).length, r) := by
      obtain ⟨e1, e2⟩ := takeWhile_app hu hr
      unfold part
      rw [if_pos hl]
      simp only [e1, e2]
      rw [if_neg (by omega)]
    rw [List.cons_append, lexS_part off tag (isW_plain hw).1 hp]
    simp

theorem lex_num {n : Bs} (h : numOk n = true) (r : Bs) (hr : noH isD r = true) (off tag : Nat) : lexS (n ++ r) off (some tag) = ⟨3, n, off⟩ :: lexS r (off + n.length) (some tag) := by
  cases n with
  | nil => simp [numOk] at h
  | cons c u =>
    simp only [numOk, Bool.and_eq_true, decide_eq_true_eq, List.all_cons, Bool.not_eq_true', List.head?_cons, Bool.and_eq_false_iff, decide_eq_false_iff_not] at h
    obtain ⟨⟨⟨-, hd, hu⟩, hlen⟩, hz⟩ := h
    have hp : part c (u ++ r) = some (3, c :: u, (c :: u).length, r) := by
      obtain ⟨e1, e2⟩ := takeWhile_app hu hr
      unfold part
      rw [if_neg (by rw [isL_isD hd]; decide), if_pos hd]
      simp only [e1, e2]
      rw [if_neg]
      simp only [Bool.or_eq_true, Bool.and_eq_true, decide_eq_true_eq, not_or, not_and]
      refine ⟨by omega, fun h1 h2 => ?_⟩
      rcases hz with hz | hz
      · exact hz h1
      · rw [c_eq h2] at hz
        exact of_decide_eq_false hz rfl
    have hw : isW c = true := by simp [isW, hd]
    rw [List.cons_append, lexS_part off tag (isW_plain hw).1 hp]
    simp

theorem lex_str {a : Bs} (h : a.all isA = true) (r : Bs) (off tag : Nat) : lexS (34 :: (a ++ 34 :: r)) off (some tag) = ⟨4, a, off⟩ :: lexS r (off + (a.length + 2)) (some tag) := by
  have hp : part 34 (a ++ 34 :: r) = some (4, a, a.length + 2, r) := by
    obtain ⟨e1, e2⟩ := takeWhile_app (p := isA) (w := a) (r := 34 :: r) h (by rfl)
    unfold part
    rw [if_neg (by decide), if_neg (by decide), if_pos (by decide)]
    simp only [e1, e2]
    rw [if_pos (by decide)]
  rw [lexS_part off tag (by decide) hp]
  simp

theorem lex_pipe (r : Bs) (off tag : Nat) : lexS (124 :: r) off (some tag) = ⟨5, [124], off⟩ :: lexS r (off + 1) (some tag) := by
  rw [lexS_part off tag (by decide) (show part 124 r = some (5, [124], 1, r) from rfl)]; simp
theorem lex_close (r : Bs) (off tag : Nat) : lexS (125 :: r) off (some tag) = ⟨7, [125], off⟩ :: lexS r (off + 1) none := by
  rw [lexS_part off tag (by decide) (show part 125 r = some (7, [125], 1, r) from rfl)]; simp
theorem lex_sp (r : Bs) (off tag : Nat) : lexS (32 :: r) off (some tag) = lexS r (off + 1) (some tag) := lexS_sp off tag (.inl rfl)
theorem lex_open {c : UInt8} (r : Bs) (off : Nat) (h : ¬ c.toNat = 123) : lexS (123 :: c :: r) off none = ⟨6, [123], off⟩ :: lexS (c :: r) (off + 1) (some off) :=
  lexS_opn off (by simp [opn, h])
end Tpl
