import Derived.Test.YtpgniljgaknlpaaGreatDoorThAll
import Derived.Test.YtpgniljgaknlpaaGreatDoorLibAll
import Derived.Test.YtpgniljgaknlpaaGreatDoorProg
import Derived.Laws.Strings
/-
  The lexer's functions on bytes.
-/
namespace Go.Proofs.YtpgniljgaknlpaaGreatDoor
open Go.RowKit Cdk Tpl

set_option maxHeartbeats 400000 in
theorem letter_any (c : UInt8) (w : World) : Calls Tryz.prog 78 #[.int .u8 c.toNat] w fun e w' => e = .returned (.bool (isL c)) ∧ w = w' := by
  have e1 : Hid (isL c = (decide (97 ≤ c.toNat) && decide (c.toNat ≤ 122))) := hid rfl
  generalize isL c = r at e1 ⊢
  generalize c.toNat = n at e1 ⊢
  by_cases h1 : (97 : Int) ≤ (n : Int) <;> by_cases h2 : (n : Int) ≤ 122
  all_goals
    go_enter Tryz.func78, Tryz.ntmps78
    go_wp2
    go_ret
    refine ⟨?_, rfl⟩
    rw [e1.out]
    congr 2
    simp only
    first | omega | (simp; omega)

set_option maxHeartbeats 400000 in
theorem digit_any (c : UInt8) (w : World) : Calls Tryz.prog 81 #[.int .u8 c.toNat] w fun e w' => e = .returned (.bool (isD c)) ∧ w = w' := by
  have e1 : Hid (isD c = (decide (48 ≤ c.toNat) && decide (c.toNat ≤ 57))) := hid rfl
  generalize isD c = r at e1 ⊢
  generalize c.toNat = n at e1 ⊢
  by_cases h1 : (48 : Int) ≤ (n : Int) <;> by_cases h2 : (n : Int) ≤ 57
  all_goals
    go_enter Tryz.func81, Tryz.ntmps81
    go_wp2
    go_ret
    refine ⟨?_, rfl⟩
    rw [e1.out]
    congr 2
    simp only
    first | omega | (simp; omega)

set_option maxHeartbeats 400000 in
theorem printable_any (c : UInt8) (w : World) : Calls Tryz.prog 77 #[.int .u8 c.toNat] w fun e w' => e = .returned (.bool (isP c)) ∧ w = w' := by
  have e1 : Hid (isP c = (decide (32 ≤ c.toNat) && decide (c.toNat ≤ 126))) := hid rfl
  generalize isP c = r at e1 ⊢
  generalize c.toNat = n at e1 ⊢
  by_cases h1 : (32 : Int) ≤ (n : Int) <;> by_cases h2 : (n : Int) ≤ 126
  all_goals
    go_enter Tryz.func77, Tryz.ntmps77
    go_wp2
    go_ret
    refine ⟨?_, rfl⟩
    rw [e1.out]
    congr 2
    simp only
    first | omega | (simp; omega)

set_option maxHeartbeats 400000 in
theorem word_any (c : UInt8) (w : World) : Calls Tryz.prog 80 #[.int .u8 c.toNat] w fun e w' => e = .returned (.bool (isW c)) ∧ w = w' := by
  have e1 : Hid (isW c = (isL c || isD c || decide (c.toNat = 45))) := hid rfl
  have hl := letter_any c w
  have hd := digit_any c w
  generalize isW c = r at e1 ⊢
  generalize isL c = bl at e1 hl
  generalize isD c = bd at e1 hd
  generalize c.toNat = n at e1 hl hd ⊢
  replace hl := hid hl
  replace hd := hid hd
  cases bl <;> cases bd
  all_goals
    go_enter Tryz.func80, Tryz.ntmps80
    go_wp2_with fail
    refine hl.out.mono ?_; rintro e w' ⟨rfl, rfl⟩
    go_wp2_with fail
    try (refine hd.out.mono ?_; rintro e w' ⟨rfl, rfl⟩)
    try go_wp2_with fail
    go_ret
    refine ⟨?_, rfl⟩
    rw [e1.out]
    first
      | rfl
      | (show Ending.returned (.bool ((n : Int) == 45)) = _; congr 2; rw [Bool.eq_iff_iff]; simp; omega)

set_option maxHeartbeats 400000 in
theorem quoted_any (c : UInt8) (w : World) : Calls Tryz.prog 82 #[.int .u8 c.toNat] w fun e w' => e = .returned (.bool (isA c)) ∧ w = w' := by
  have e1 : Hid (isA c = (isP c && !decide (c.toNat = 34))) := hid rfl
  have hl := printable_any c w
  generalize isA c = r at e1 ⊢
  generalize isP c = bl at e1 hl
  generalize c.toNat = n at e1 hl ⊢
  replace hl := hid hl
  cases bl
  all_goals
    go_enter Tryz.func82, Tryz.ntmps82
    go_wp2_with fail
    refine hl.out.mono ?_; rintro e w' ⟨rfl, rfl⟩
    go_wp2_with fail
    go_ret
    refine ⟨?_, rfl⟩
    rw [e1.out]
    first
      | rfl
      | (show Ending.returned (.bool ((n : Int) != 34)) = _; congr 2; rw [Bool.eq_iff_iff]; simp; omega)

/-- A tag begins here. -/
def opensB (l : Bs) : Bool :=
  match l with
  | c :: d :: _ => decide (c.toNat = 123) && !decide (d.toNat = 123)
  | [c] => decide (c.toNat = 123)
  | [] => false

theorem drop_at (s : ByteArray) {k : Nat} (hk : k < s.size) : s.data.toList.drop k = s[k] :: s.data.toList.drop (k + 1) := by
  have : k < s.data.toList.length := by simpa using hk
  rw [List.drop_eq_getElem_cons this]
  rfl

theorem toList_eq (s : ByteArray) : s.toList = s.data.toList := Go.ByteArray.toList_eq s

set_option maxHeartbeats 1000000 in
theorem prefix_any (t : ByteArray) (w : World) : Calls Tryz.prog 76 #[.string t, .string ⟨#[123, 123]⟩] w fun e w' => e = .returned (.bool (t.data.toList.take 2 == [123, 123])) ∧ w = w' := by
  by_cases h : 2 ≤ t.size
  · have h2 : (t.extract 0 2).toList = t.data.toList.take 2 := by
      rw [toList_eq]; simp [ByteArray.data_extract]
    have hz : (2 : Int) ≤ (t.size : Int) := by omega
    cases hb : (t.data.toList.take 2 == [123, 123]) with
    | true =>
      rw [← h2] at hb
      clear h2
      go_enter Tryz.func76, Tryz.ntmps76
      go_wp2
      go_ret
      exact ⟨rfl, rfl⟩
    | false =>
      rw [← h2] at hb
      clear h2
      go_enter Tryz.func76, Tryz.ntmps76
      go_wp2
      go_ret
      exact ⟨rfl, rfl⟩
  · have hz : ¬ (2 : Int) ≤ (t.size : Int) := by omega
    have hf : (t.data.toList.take 2 == [123, 123]) = false := by
      rw [beq_eq_false_iff_ne]
      intro e
      have := congrArg List.length e
      simp at this
      have h0 : t.data.size = t.size := rfl
      omega
    rw [hf]
    clear hf
    go_enter Tryz.func76, Tryz.ntmps76
    go_wp2
    go_ret
    exact ⟨rfl, rfl⟩

set_option maxHeartbeats 1000000 in
theorem opens_any (s : ByteArray) (k : Nat) (hk : k < s.size) (hs : s.size ≤ 1000) (w : World) : Calls Tryz.prog 59 #[.string s, .int .i64 k] w fun e w' => e = .returned (.bool (opensB (s.data.toList.drop k))) ∧ w = w' := by
  have hp := prefix_any (s.extract k s.size) w
  have hpe : (s.extract k s.size).data.toList.take 2 = (s.data.toList.drop k).take 2 := by
    rw [ByteArray.data_extract, Array.toList_extract, List.extract_eq_take_drop, List.take_take]
    by_cases h2 : 2 ≤ s.size - k
    · rw [Nat.min_eq_left h2]
    · rw [Nat.min_eq_right (by omega), List.take_of_length_le (by have h0 : s.data.size = s.size := rfl; simp <;> omega), List.take_of_length_le (by have h0 : s.data.size = s.size := rfl; simp <;> omega)]
  rw [hpe] at hp
  have hd := drop_at s hk
  rw [hd] at hp ⊢
  have hres := hid (show opensB (s[k] :: s.data.toList.drop (k + 1)) = (decide (s[k].toNat = 123) && !((s[k] :: s.data.toList.drop (k + 1)).take 2 == [123, 123])) by
    generalize s.data.toList.drop (k + 1) = r
    generalize s[k] = c
    cases r with
    | nil => simp [opensB]
    | cons d r =>
      simp only [opensB, List.take_succ_cons, List.take_zero]
      rw [Bool.eq_iff_iff]
      simp only [Bool.and_eq_true, Bool.not_eq_true', decide_eq_true_eq, decide_eq_false_iff_not, beq_eq_false_iff_ne, ne_eq, List.cons.injEq, and_true]
      constructor
      · rintro ⟨h1, h2⟩
        refine ⟨h1, fun h => h2 ?_⟩
        rw [h.2]; rfl
      · rintro ⟨h1, h2⟩
        refine ⟨h1, fun h => h2 ⟨UInt8.toNat_inj.1 (by rw [h1]; rfl), UInt8.toNat_inj.1 (by rw [h]; rfl)⟩⟩)
  generalize opensB (s[k] :: s.data.toList.drop (k + 1)) = res at hres ⊢
  generalize ((s[k] :: s.data.toList.drop (k + 1)).take 2 == [123, 123]) = pb at hp hres
  clear hpe hd
  replace hp := hid hp
  cases hb : ((s[k].toNat : Int) == 123) with
  | false =>
    go_enter Tryz.func59, Tryz.ntmps59
    go_wp2_with fail
    go_ret
    refine ⟨?_, rfl⟩
    rw [hres.out]
    have : ¬ s[k].toNat = 123 := by intro h; rw [h] at hb; simp at hb
    simp [this]
  | true =>
    have h123 : s[k].toNat = 123 := by have : (s[k].toNat : Int) = 123 := (by simpa using hb); omega
    replace h123 := hid h123
    go_enter Tryz.func59, Tryz.ntmps59
    go_wp2_with fail
    refine hp.out.mono ?_; rintro e w' ⟨rfl, rfl⟩
    go_wp2_with fail
    go_ret
    refine ⟨?_, rfl⟩
    rw [hres.out, h123.out]
    simp
end Go.Proofs.YtpgniljgaknlpaaGreatDoor
