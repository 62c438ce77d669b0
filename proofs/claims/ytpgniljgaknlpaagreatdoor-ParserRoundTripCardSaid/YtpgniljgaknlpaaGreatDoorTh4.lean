import Derived.Test.YtpgniljgaknlpaaGreatDoorTh3
/-
  The theory of the parser, in plain Lean: what is printed is accepted with the same nodes; what is accepted is valid, and is printed within a bound.
-/
namespace Tpl

/-! ### Numbers -/
theorem dig_nat {n : Nat} (h : n < 10) : (dig n).toNat = 48 + n := by
  unfold dig
  rw [UInt8.toNat_ofNat']
  omega
theorem isD_dig {n : Nat} (h : n < 10) : isD (dig n) = true := by
  simp only [isD, dig_nat h, Bool.and_eq_true, decide_eq_true_eq]
  omega
theorem num_snoc (w : Bs) (c : UInt8) : num (w ++ [c]) = 10 * num w + (c.toNat - 48 : Int) := by
  unfold num
  rw [List.foldl_append]
  rfl
theorem decF_num : ∀ (f n : Nat), n < f → num (decF f n) = n
  | 0, n, h => by omega
  | f + 1, n, h => by
    rw [decF]
    split
    · rename_i h10
      show 10 * (0 : Int) + ((dig n).toNat - 48 : Int) = n
      rw [dig_nat h10]; omega
    · rw [num_snoc, decF_num f (n / 10) (by omega), dig_nat (Nat.mod_lt _ (by omega))]
      omega
theorem decF_all : ∀ (f n : Nat), (decF f n).all isD = true
  | 0, n => rfl
  | f + 1, n => by
    rw [decF]
    split
    · rename_i h10; simp [isD_dig h10]
    · simp only [List.all_append, decF_all f (n / 10), Bool.true_and, List.all_cons, List.all_nil, Bool.and_true]
      exact isD_dig (Nat.mod_lt _ (by omega))
theorem decF_len : ∀ (f n k : Nat), n < 10 ^ (k + 1) → n < f → (decF f n).length ≤ k + 1
  | 0, n, k, _, h => by omega
  | f + 1, n, k, hk, h => by
    rw [decF]
    split
    · simp
    · rename_i h10
      cases k with
      | zero => simp at hk; omega
      | succ k =>
        have : n / 10 < 10 ^ (k + 1) := by rw [Nat.div_lt_iff_lt_mul (by omega)]; rwa [Nat.pow_succ] at hk
        have := decF_len f (n / 10) k this (by omega)
        simp; omega
theorem decF_head : ∀ (f n : Nat), n < f → 1 ≤ n → ∃ c r, decF f n = c :: r ∧ c ≠ 48
  | 0, n, h, _ => by omega
  | f + 1, n, h, h1 => by
    rw [decF]
    split
    · rename_i h10
      refine ⟨dig n, [], rfl, fun e => ?_⟩
      have := dig_nat h10
      rw [e] at this
      have : 48 = 48 + n := this
      omega
    · obtain ⟨c, r, e, hc⟩ := decF_head f (n / 10) (by omega) (by omega)
      exact ⟨c, r ++ [dig (n % 10)], by rw [e]; rfl, hc⟩

theorem num_dec (n : Nat) : num (dec n) = n := decF_num _ _ (by omega)
theorem numOk_dec {n : Nat} (h1 : 1 ≤ n) (h : n ≤ 999999) : numOk (dec n) = true := by
  obtain ⟨c, r, e, hc⟩ := decF_head (n + 1) n (by omega) h1
  have hl := decF_len (n + 1) n 5 (by simp; omega) (by omega)
  have ha := decF_all (n + 1) n
  unfold dec
  rw [e] at hl ha ⊢
  simp only [numOk, ha, List.isEmpty_cons, Bool.not_false, Bool.true_and, List.head?_cons, Bool.and_eq_true, decide_eq_true_eq, Bool.not_eq_true', Bool.and_eq_false_iff, decide_eq_false_iff_not]
  refine ⟨hl, .inr (decide_eq_false fun h => hc (by injection h))⟩

theorem foldl_num : ∀ (w : Bs) (a : Int), w.all isD = true → 0 ≤ a → 0 ≤ w.foldl (fun n c => 10 * n + (c.toNat - 48 : Int)) a ∧ w.foldl (fun n c => 10 * n + (c.toNat - 48 : Int)) a < (a + 1) * 10 ^ w.length
  | [], a, _, h => by simp; omega
  | c :: w, a, hw, h => by
    simp only [List.all_cons, Bool.and_eq_true] at hw
    have hc := hw.1
    simp only [isD, Bool.and_eq_true, decide_eq_true_eq] at hc
    obtain ⟨h1, h2⟩ := foldl_num w (10 * a + (c.toNat - 48 : Int)) hw.2 (by omega)
    refine ⟨h1, Int.lt_of_lt_of_le h2 ?_⟩
    rw [List.length_cons, Int.pow_succ, Int.mul_comm (10 ^ w.length) 10, ← Int.mul_assoc]
    have hp : (0 : Int) ≤ 10 ^ w.length := Int.pow_nonneg (by omega)
    exact Int.mul_le_mul_of_nonneg_right (by omega) hp

theorem numOk_num {w : Bs} (h : numOk w = true) : 0 ≤ num w ∧ num w ≤ 999999 ∧ (dec (num w).toNat).length ≤ w.length ∧ 1 ≤ w.length := by
  simp only [numOk, Bool.and_eq_true, decide_eq_true_eq, Bool.not_eq_true', List.isEmpty_eq_false_iff] at h
  obtain ⟨⟨⟨hne, hd⟩, hl⟩, -⟩ := h
  obtain ⟨h1, h2⟩ := foldl_num w 0 hd (by omega)
  have hpos := List.length_pos_iff.2 hne
  change 0 ≤ num w at h1
  change num w < _ at h2
  simp only [Int.zero_add, Int.one_mul] at h2
  obtain ⟨k, hk⟩ : ∃ k, w.length = k + 1 := ⟨w.length - 1, by omega⟩
  have h3 : (num w).toNat < 10 ^ (k + 1) := by
    rw [← hk]
    have : ((10 ^ w.length : Nat) : Int) = (10 : Int) ^ w.length := by simp
    omega
  have h4 : 10 ^ (k + 1) ≤ 10 ^ 6 := Nat.pow_le_pow_right (by omega) (by omega)
  refine ⟨h1, by simp at h4; omega, ?_, hpos⟩
  rw [hk]
  exact decF_len _ _ k h3 (by omega)

/-! ### What is printed is accepted -/
theorem nameOk_head {n : Bs} (h : nameOk n = true) : ∃ c r, n = c :: r ∧ isL c = true ∧ ¬ c.toNat = 123 := by
  cases n with
  | nil => simp [nameOk] at h
  | cons c r =>
    simp only [nameOk, Bool.and_eq_true] at h
    refine ⟨c, r, rfl, h.1.2, ?_⟩
    have := h.1.2
    simp only [isL, Bool.and_eq_true, decide_eq_true_eq] at this
    omega

theorem opn_name {n : Bs} (h : nameOk n = true) (r : Bs) : opn (123 :: (n ++ r)) = true := by
  obtain ⟨c, r', rfl, -, hc⟩ := nameOk_head h
  simp [opn, hc]

theorem lexF : ∀ (f : List Bs), f.all nameOk = true → ∀ (r : Bs) (off tag : Nat), noH isW r = true → (noH isW (f.flatMap (fun x => 124 :: x) ++ r) = true ∧ ∃ ts, lexS (f.flatMap (fun x => 124 :: x) ++ r) off (some tag) = ts ++ lexS r (off + (f.flatMap (fun x => 124 :: x)).length) (some tag) ∧ Flt (ts.map kt) f)
  | [], _, r, off, tag, hr => ⟨by simpa using hr, [], by simp, .nil⟩
  | x :: f, hf, r, off, tag, hr => by
    simp only [List.all_cons, Bool.and_eq_true] at hf
    obtain ⟨h1, ts, h2, h3⟩ := lexF f hf.2 r (off + (x.length + 1)) tag hr
    refine ⟨rfl, ⟨5, [124], off⟩ :: ⟨2, x, off + 1⟩ :: ts, ?_, .cons h3⟩
    simp only [List.flatMap_cons, List.cons_append, List.append_assoc]
    rw [lex_pipe, lex_name hf.1 _ h1, show off + 1 + x.length = off + (x.length + 1) by omega, h2]
    simp only [List.length_cons, List.length_append]
    rw [show off + (x.length + 1) + (f.flatMap fun x => 124 :: x).length = off + (x.length + (f.flatMap fun x => 124 :: x).length + 1) by omega]

theorem lexArgs (a : Bs) (c : Int) (ha : a.all isA = true) (h0 : 0 ≤ c) (hc : c ≤ 999999) (R : Bs) (off tag : Nat) :
    noH isW ((if a.isEmpty = true then [] else [32, 34] ++ (a ++ [34])) ++ ((if c = 0 then [] else 32 :: dec c.toNat) ++ (125 :: R))) = true ∧
    ∃ ta tc, lexS ((if a.isEmpty = true then [] else [32, 34] ++ (a ++ [34])) ++ ((if c = 0 then [] else 32 :: dec c.toNat) ++ (125 :: R))) off (some tag) = ta ++ (tc ++ lexS (125 :: R) (off + ((if a.isEmpty = true then [] else [32, 34] ++ (a ++ [34])) : Bs).length + ((if c = 0 then [] else 32 :: dec c.toNat) : Bs).length) (some tag)) ∧ ArgK (ta.map kt) a ∧ CntK (tc.map kt) c := by
  have hC : ∀ o, noH isW ((if c = 0 then [] else 32 :: dec c.toNat) ++ (125 :: R)) = true ∧ ∃ tc, lexS ((if c = 0 then [] else 32 :: dec c.toNat) ++ (125 :: R)) o (some tag) = tc ++ lexS (125 :: R) (o + ((if c = 0 then [] else 32 :: dec c.toNat) : Bs).length) (some tag) ∧ CntK (tc.map kt) c := by
    intro o
    by_cases hz : c = 0
    · rw [if_pos hz, hz]
      exact ⟨rfl, [], rfl, .no⟩
    · rw [if_neg hz]
      refine ⟨rfl, [⟨3, dec c.toNat, o + 1⟩], ?_, ?_⟩
      · rw [List.cons_append, lex_sp, lex_num (numOk_dec (by omega) (by omega)) _ rfl, List.length_cons, show o + 1 + (dec c.toNat).length = o + ((dec c.toNat).length + 1) by omega]
        rfl
      · have := CntK.yes (dec c.toNat)
        rw [num_dec, Int.toNat_of_nonneg h0] at this
        exact this
  by_cases he : a.isEmpty = true
  · rw [if_pos he]
    have : a = [] := by simpa using he
    subst this
    obtain ⟨h1, tc, h2, h3⟩ := hC off
    exact ⟨h1, [], tc, h2, .no, h3⟩
  · rw [if_neg he]
    obtain ⟨h1, tc, h2, h3⟩ := hC (off + (a.length + 3))
    refine ⟨rfl, [⟨4, a, off + 1⟩], tc, ?_, .yes a, h3⟩
    have e : [32, 34] ++ (a ++ [34]) ++ ((if c = 0 then [] else 32 :: dec c.toNat) ++ (125 :: R)) = 32 :: (34 :: (a ++ 34 :: ((if c = 0 then [] else 32 :: dec c.toNat) ++ (125 :: R)))) := by simp
    rw [e, lex_sp, lex_str ha, show off + 1 + (a.length + 2) = off + (a.length + 3) by omega, h2]
    simp

theorem wFor_ok : nameOk wFor = true := by decide
theorem wIf_ok : nameOk wIf = true := by decide
theorem wElse_ok : nameOk wElse = true := by decide
theorem wEnd_ok : nameOk wEnd = true := by decide
theorem wInc_ok : nameOk wInclude = true := by decide

/-- A tag '{word}'. -/
theorem lex_tag {n : Bs} (h : nameOk n = true) (r : Bs) (off : Nat) : lexS (123 :: (n ++ (125 :: r))) off none = ⟨6, [123], off⟩ :: ⟨2, n, off + 1⟩ :: ⟨7, [125], off + 1 + n.length⟩ :: lexS r (off + (n.length + 2)) none := by
  rw [lexS_opn off (opn_name h _), lex_name h _ rfl, lex_close, show off + 1 + n.length + 1 = off + (n.length + 2) by omega]

theorem opn_form {x : Nd} {d : Nat} (h : valN x d = true) (hk : ¬ x.kind = 1) (r : Bs) : opn (formN x ++ r) = true := by
  cases x with
  | mk k t n a c f ks es =>
    simp only [Nd.kind] at hk
    unfold valN at h
    unfold formN
    rw [if_neg hk] at h ⊢
    by_cases h2 : k = 2
    · rw [if_pos h2] at h ⊢
      simp only [Bool.and_eq_true] at h
      simp only [List.cons_append, List.append_assoc]
      exact opn_name h.1.1.1 _
    · rw [if_neg h2] at h ⊢
      by_cases h3 : k = 3
      · rw [if_pos h3] at h ⊢
        simp only [List.cons_append, List.append_assoc]
        exact opn_name wFor_ok _
      · rw [if_neg h3] at h ⊢
        by_cases h4 : k = 4
        · rw [if_pos h4] at h ⊢
          simp only [List.cons_append, List.append_assoc]
          exact opn_name wIf_ok _
        · rw [if_neg h4] at h ⊢
          simp only [Bool.and_eq_true, decide_eq_true_eq] at h
          rw [if_pos h.1.1]
          simp only [List.cons_append, List.append_assoc]
          exact opn_name wInc_ok _

theorem opn_list {l : List Nd} {d : Nat} (h : valL l d true = true) {r : Bs} (hr : r = [] ∨ opn r = true) : formL l ++ r = [] ∨ opn (formL l ++ r) = true := by
  cases l with
  | nil => simpa [formL] using hr
  | cons x l =>
    simp only [valL, Bool.and_eq_true, Bool.true_and, Bool.not_eq_true', decide_eq_false_iff_not] at h
    right
    rw [formL, List.append_assoc]
    exact opn_form h.1.2 h.1.1 _

mutual
theorem lexN : ∀ (x : Nd) (d : Nat), valN x d = true → ∀ (r : Bs) (off : Nat), (x.kind = 1 → r = [] ∨ opn r = true) →
    ∃ ts, lexS (formN x ++ r) off none = ts ++ lexS r (off + (formN x).length) none ∧ ∀ k l, PNs d k l → PNs d (ts.map kt ++ k) (x :: l)
  | .mk k t n a c f ks es, d, h, r, off, hr => by
    unfold valN at h
    unfold formN
    by_cases h1 : k = 1
    · rw [if_pos h1] at h ⊢
      simp only [Bool.and_eq_true, decide_eq_true_eq, List.isEmpty_iff] at h
      obtain ⟨ht, ⟨⟨⟨⟨hn, ha⟩, hc⟩, hf⟩, hks⟩, hes⟩ := h
      subst h1; subst hn; subst ha; subst hc; subst hf; subst hks; subst hes
      exact ⟨[⟨1, t, off⟩], lex_text ht r (hr rfl) off, fun k l hp => .text hp⟩
    · rw [if_neg h1] at h ⊢
      by_cases h2 : k = 2
      · rw [if_pos h2] at h ⊢
        simp only [Bool.and_eq_true, decide_eq_true_eq, List.isEmpty_iff, Bool.not_eq_true'] at h
        obtain ⟨⟨⟨hn, hkw⟩, ⟨⟨⟨ht, ha⟩, hc⟩, hks⟩, hes⟩, hf⟩ := h
        subst h2; subst ht; subst ha; subst hc; subst hks; subst hes
        obtain ⟨g1, tf, g2, g3⟩ := lexF f hf (125 :: r) (off + 1 + n.length) off rfl
        refine ⟨⟨6, [123], off⟩ :: ⟨2, n, off + 1⟩ :: (tf ++ [⟨7, [125], off + 1 + n.length + (f.flatMap (fun x => 124 :: x)).length⟩]), ?_, fun k l hp => ?_⟩
        · simp only [List.cons_append, List.append_assoc, List.nil_append]
          rw [lexS_opn off (opn_name hn _), lex_name hn _ g1, g2, lex_close]
          simp only [List.length_cons, List.length_append, List.length_nil]
          rw [show off + 1 + n.length + (f.flatMap fun x => 124 :: x).length + 1 = off + (n.length + ((f.flatMap fun x => 124 :: x).length + (0 + 1)) + 1) by omega]
        · simp only [isKw, Bool.or_eq_false_iff, decide_eq_false_iff_not] at hkw
          have := PNs.field (o := [123]) (n := n) (c := [125]) (f := f) (fun e => e.elim hkw.1.1.2 hkw.1.2) (fun e => e.elim hkw.1.1.1.1 hkw.1.1.1.2) hkw.2 g3 hp
          simpa [kt] using this
      · rw [if_neg h2] at h ⊢
        by_cases h3 : k = 3
        · rw [if_pos h3] at h ⊢
          simp only [Bool.and_eq_true, decide_eq_true_eq, List.isEmpty_iff] at h
          obtain ⟨⟨⟨⟨hd, ⟨hn, h0⟩, hc⟩, ⟨ht, hf⟩, hes⟩, ha⟩, hk⟩ := h
          subst h3; subst ht; subst hf; subst hes
          have hR : ∀ o, _ := fun o => lexL ks (d + 1) false hk (123 :: (wEnd ++ (125 :: r))) o (.inr (opn_name wEnd_ok _))
          obtain ⟨g1, ta, tc, g2, g3, g4⟩ := lexArgs a c ha h0 hc (formL ks ++ (123 :: (wEnd ++ (125 :: r)))) (off + 1 + wFor.length + 1 + n.length) off
          generalize hA : (if a.isEmpty = true then [] else [32, 34] ++ (a ++ [34]) : Bs) = A at g1 g2 ⊢
          generalize hC : (if c = 0 then [] else 32 :: dec c.toNat : Bs) = C at g1 g2 ⊢
          obtain ⟨tk, g5, g6⟩ := hR (off + 1 + wFor.length + 1 + n.length + A.length + C.length + 1)
          refine ⟨⟨6, [123], off⟩ :: ⟨2, wFor, off + 1⟩ :: ⟨2, n, off + 1 + wFor.length + 1⟩ :: (ta ++ (tc ++ ⟨7, [125], off + 1 + wFor.length + 1 + n.length + A.length + C.length⟩ :: (tk ++ [⟨6, [123], off + 1 + wFor.length + 1 + n.length + A.length + C.length + 1 + (formL ks).length⟩, ⟨2, wEnd, off + 1 + wFor.length + 1 + n.length + A.length + C.length + 1 + (formL ks).length + 1⟩, ⟨7, [125], off + 1 + wFor.length + 1 + n.length + A.length + C.length + 1 + (formL ks).length + 1 + wEnd.length⟩]))), ?_, fun k l hp => ?_⟩
          · simp only [List.cons_append, List.append_assoc, List.nil_append]
            rw [lexS_opn off (opn_name wFor_ok _), lex_name wFor_ok _ rfl, lex_sp, lex_name hn _ g1, g2, lex_close, g5, lex_tag wEnd_ok]
            simp only [List.length_cons, List.length_append, List.length_nil]
            rw [show off + 1 + wFor.length + 1 + n.length + A.length + C.length + 1 + (formL ks).length + (wEnd.length + 2) = off + (wFor.length + (n.length + (A.length + (C.length + ((formL ks).length + (wEnd.length + (0 + 1) + 1) + 1))) + 1) + 1) by omega]
          · have := PNs.loop (o := [123]) (n := n) (c1 := [125]) (o2 := [123]) (c2 := [125]) hd g3 g4 g6 hp
            simpa [kt] using this
        · rw [if_neg h3] at h ⊢
          by_cases h4 : k = 4
          · rw [if_pos h4] at h ⊢
            simp only [Bool.and_eq_true, decide_eq_true_eq, List.isEmpty_iff] at h
            obtain ⟨⟨⟨⟨hd, hn⟩, ⟨⟨ht, ha⟩, hc⟩, hf⟩, hk⟩, he⟩ := h
            subst h4; subst ht; subst ha; subst hc; subst hf
            by_cases hes : es = []
            · subst hes
              obtain ⟨tk, g5, g6⟩ := lexL ks (d + 1) false hk (123 :: (wEnd ++ (125 :: r))) (off + 1 + wIf.length + 1 + n.length + 1) (.inr (opn_name wEnd_ok _))
              refine ⟨⟨6, [123], off⟩ :: ⟨2, wIf, off + 1⟩ :: ⟨2, n, off + 1 + wIf.length + 1⟩ :: ⟨7, [125], off + 1 + wIf.length + 1 + n.length⟩ :: (tk ++ [⟨6, [123], off + 1 + wIf.length + 1 + n.length + 1 + (formL ks).length⟩, ⟨2, wEnd, off + 1 + wIf.length + 1 + n.length + 1 + (formL ks).length + 1⟩, ⟨7, [125], off + 1 + wIf.length + 1 + n.length + 1 + (formL ks).length + 1 + wEnd.length⟩]), ?_, fun k l hp => ?_⟩
              · simp only [List.cons_append, List.append_assoc, List.nil_append, List.isEmpty_nil, if_true]
                rw [lexS_opn off (opn_name wIf_ok _), lex_name wIf_ok _ rfl, lex_sp, lex_name hn _ rfl, lex_close, g5, lex_tag wEnd_ok]
                simp only [List.length_cons, List.length_append, List.length_nil]
                rw [show off + 1 + wIf.length + 1 + n.length + 1 + (formL ks).length + (wEnd.length + 2) = off + (wIf.length + (n.length + ((formL ks).length + (wEnd.length + (0 + 1) + 1) + 1) + 1) + 1) by omega]
              · have := PNs.cond (o := [123]) (n := n) (c1 := [125]) (o2 := [123]) (c2 := [125]) hd g6 hp
                simpa [kt] using this
            · have hem : es.isEmpty = false := by simpa using hes
              obtain ⟨tk, g5, g6⟩ := lexL ks (d + 1) false hk (123 :: (wElse ++ (125 :: (formL es ++ (123 :: (wEnd ++ (125 :: r))))))) (off + 1 + wIf.length + 1 + n.length + 1) (.inr (opn_name wElse_ok _))
              obtain ⟨te, g7, g8⟩ := lexL es (d + 1) false he (123 :: (wEnd ++ (125 :: r))) (off + 1 + wIf.length + 1 + n.length + 1 + (formL ks).length + (wElse.length + 2)) (.inr (opn_name wEnd_ok _))
              refine ⟨⟨6, [123], off⟩ :: ⟨2, wIf, off + 1⟩ :: ⟨2, n, off + 1 + wIf.length + 1⟩ :: ⟨7, [125], off + 1 + wIf.length + 1 + n.length⟩ :: (tk ++ ⟨6, [123], off + 1 + wIf.length + 1 + n.length + 1 + (formL ks).length⟩ :: ⟨2, wElse, off + 1 + wIf.length + 1 + n.length + 1 + (formL ks).length + 1⟩ :: ⟨7, [125], off + 1 + wIf.length + 1 + n.length + 1 + (formL ks).length + 1 + wElse.length⟩ ::
                (te ++ [⟨6, [123], off + 1 + wIf.length + 1 + n.length + 1 + (formL ks).length + (wElse.length + 2) + (formL es).length⟩, ⟨2, wEnd, off + 1 + wIf.length + 1 + n.length + 1 + (formL ks).length + (wElse.length + 2) + (formL es).length + 1⟩, ⟨7, [125], off + 1 + wIf.length + 1 + n.length + 1 + (formL ks).length + (wElse.length + 2) + (formL es).length + 1 + wEnd.length⟩])), ?_, fun k l hp => ?_⟩
              · simp only [List.cons_append, List.append_assoc, List.nil_append, hem, if_neg Bool.false_ne_true]
                rw [lexS_opn off (opn_name wIf_ok _), lex_name wIf_ok _ rfl, lex_sp, lex_name hn _ rfl, lex_close, g5, lex_tag wElse_ok, g7, lex_tag wEnd_ok]
                simp only [List.length_cons, List.length_append, List.length_nil]
                rw [show off + 1 + wIf.length + 1 + n.length + 1 + (formL ks).length + (wElse.length + 2) + (formL es).length + (wEnd.length + 2) = off + (wIf.length + (n.length + ((formL ks).length + (wElse.length + ((formL es).length + 1) + 1 + (wEnd.length + (0 + 1) + 1)) + 1) + 1) + 1) by omega]
                rfl
              · have := PNs.conde (o := [123]) (n := n) (c1 := [125]) (o2 := [123]) (c2 := [125]) (o3 := [123]) (c3 := [125]) hd g6 g8 hp
                simpa [kt] using this
          · rw [if_neg h4] at h ⊢
            simp only [Bool.and_eq_true, decide_eq_true_eq, List.isEmpty_iff] at h
            obtain ⟨⟨h5, hn⟩, ⟨⟨⟨⟨ht, ha⟩, hc⟩, hf⟩, hks⟩, hes⟩ := h
            subst h5; subst ht; subst ha; subst hc; subst hf; subst hks; subst hes
            rw [if_pos rfl]
            refine ⟨[⟨6, [123], off⟩, ⟨2, wInclude, off + 1⟩, ⟨2, n, off + 1 + wInclude.length + 1⟩, ⟨7, [125], off + 1 + wInclude.length + 1 + n.length⟩], ?_, fun k l hp => ?_⟩
            · simp only [List.cons_append, List.append_assoc, List.nil_append]
              rw [lexS_opn off (opn_name wInc_ok _), lex_name wInc_ok _ rfl, lex_sp, lex_name hn _ rfl, lex_close]
              simp only [List.length_cons, List.length_append, List.length_nil]
              rw [show off + 1 + wInclude.length + 1 + n.length + 1 = off + (wInclude.length + (n.length + (0 + 1) + 1) + 1) by omega]
            · have := PNs.incl (o := [123]) (m := n) (c := [125]) hp
              simpa [kt] using this
theorem lexL : ∀ (l : List Nd) (d : Nat) (prev : Bool), valL l d prev = true → ∀ (r : Bs) (off : Nat), (r = [] ∨ opn r = true) →
    ∃ ts, lexS (formL l ++ r) off none = ts ++ lexS r (off + (formL l).length) none ∧ PNs d (ts.map kt) l
  | [], d, prev, _, r, off, _ => ⟨[], by simp [formL], .nil⟩
  | x :: l, d, prev, h, r, off, hr => by
    unfold valL at h
    simp only [Bool.and_eq_true] at h
    obtain ⟨⟨-, hx⟩, hl⟩ := h
    obtain ⟨t2, g3, g4⟩ := lexL l d (decide (x.kind = 1)) hl r (off + (formN x).length) hr
    obtain ⟨t1, g1, g2⟩ := lexN x d hx (formL l ++ r) off (fun hk => by
      rw [decide_eq_true hk] at hl
      exact opn_list hl hr)
    refine ⟨t1 ++ t2, ?_, ?_⟩
    · rw [formL, List.append_assoc, g1, g3, List.append_assoc, List.length_append, Nat.add_assoc]
    · rw [List.map_append]; exact g2 _ _ g4
end

/-- What is printed is accepted with the same nodes. -/
theorem parse_form {l : List Nd} (h : valL l 0 false = true) (hl : (formL l).length ≤ 1000) : parse (formL l) = .ok l := by
  obtain ⟨ts, h1, h2⟩ := lexL l 0 false h [] 0 (.inl rfl)
  rw [List.append_nil, lexS_nil, List.append_nil] at h1
  refine parse_of hl ?_
  rw [h1]; exact h2
end Tpl
