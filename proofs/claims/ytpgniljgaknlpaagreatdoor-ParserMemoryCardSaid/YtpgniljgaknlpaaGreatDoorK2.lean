import Derived.Test.YtpgniljgaknlpaaGreatDoorK1
/-
  The lexer's 'run', at its three kinds of bytes.
-/
namespace Go.Proofs.YtpgniljgaknlpaaGreatDoor
open Go.RowKit Cdk Tpl

set_option maxHeartbeats 1000000 in
theorem run_word (s : ByteArray) (k : Nat) (hk : k ≤ s.size) (hs : s.size ≤ 1000) (w : World) :
    Calls Tryz.prog 79 #[.string s, .int .i64 k, .func (.func 80) #[] #[]] w fun e w' => e = .returned (.int .i64 ((k + ((s.data.toList.drop k).takeWhile isW).length : Nat) : Int)) ∧ w = w' := by
  go_enter Tryz.func79, Tryz.ntmps79
  go_wp2_with fail
  go_loopg [1] (s.size - k) (fun g i wr => ∃ j : Nat, k ≤ j ∧ j + g = s.size ∧ i = .int .i64 j ∧ wr = w ∧ k + ((s.data.toList.drop k).takeWhile isW).length = j + ((s.data.toList.drop j).takeWhile isW).length)
  case atStart => exact ⟨k, Nat.le_refl _, by omega, rfl, rfl, rfl⟩
  case round =>
    obtain ⟨j, hkj, hj, rfl, rfl, hr⟩ := hrel
    have hjs : j ≤ s.size := by omega
    replace hj := hid hj
    by_cases hlt : j < s.size
    · rw [drop_at s hlt, List.takeWhile_cons] at hr
      have hc := word_any s[j] wr
      cases hb : isW s[j] with
      | true =>
        rw [hb] at hc hr
        simp only [if_true, List.length_cons] at hr
        replace hr := hid hr
        replace hc := hid hc
        clear hb
        go_wp2_with fail
        refine hc.out.mono ?_; rintro e w' ⟨rfl, rfl⟩
        go_wp2_with fail
        go_roundg (gk - 1)
        case measure => have := hj.out; omega
        case rel => exact ⟨j + 1, by omega, by have := hj.out; omega, by go_num, rfl, by have := hr.out; omega⟩
      | false =>
        rw [hb] at hc hr
        simp only [Bool.false_eq_true, if_false, List.length_nil, Nat.add_zero] at hr
        replace hr := hid hr
        replace hc := hid hc
        clear hb
        go_wp2_with fail
        refine hc.out.mono ?_; rintro e w' ⟨rfl, rfl⟩
        go_wp2_with fail
        go_ret
        refine ⟨?_, rfl⟩
        rw [hr.out]
        rfl
    · obtain rfl : j = s.size := by omega
      have hd : s.data.toList.drop s.size = [] := List.drop_eq_nil_of_le (Nat.le_refl _)
      rw [hd] at hr
      simp only [List.takeWhile_nil, List.length_nil, Nat.add_zero] at hr
      replace hr := hid hr
      clear hd
      go_wp2_with fail
      go_ret
      refine ⟨?_, rfl⟩
      rw [hr.out]
      rfl

set_option maxHeartbeats 1000000 in
theorem run_digit (s : ByteArray) (k : Nat) (hk : k ≤ s.size) (hs : s.size ≤ 1000) (w : World) :
    Calls Tryz.prog 79 #[.string s, .int .i64 k, .func (.func 81) #[] #[]] w fun e w' => e = .returned (.int .i64 ((k + ((s.data.toList.drop k).takeWhile isD).length : Nat) : Int)) ∧ w = w' := by
  go_enter Tryz.func79, Tryz.ntmps79
  go_wp2_with fail
  go_loopg [1] (s.size - k) (fun g i wr => ∃ j : Nat, k ≤ j ∧ j + g = s.size ∧ i = .int .i64 j ∧ wr = w ∧ k + ((s.data.toList.drop k).takeWhile isD).length = j + ((s.data.toList.drop j).takeWhile isD).length)
  case atStart => exact ⟨k, Nat.le_refl _, by omega, rfl, rfl, rfl⟩
  case round =>
    obtain ⟨j, hkj, hj, rfl, rfl, hr⟩ := hrel
    have hjs : j ≤ s.size := by omega
    replace hj := hid hj
    by_cases hlt : j < s.size
    · rw [drop_at s hlt, List.takeWhile_cons] at hr
      have hc := digit_any s[j] wr
      cases hb : isD s[j] with
      | true =>
        rw [hb] at hc hr
        simp only [if_true, List.length_cons] at hr
        replace hr := hid hr
        replace hc := hid hc
        clear hb
        go_wp2_with fail
        refine hc.out.mono ?_; rintro e w' ⟨rfl, rfl⟩
        go_wp2_with fail
        go_roundg (gk - 1)
        case measure => have := hj.out; omega
        case rel => exact ⟨j + 1, by omega, by have := hj.out; omega, by go_num, rfl, by have := hr.out; omega⟩
      | false =>
        rw [hb] at hc hr
        simp only [Bool.false_eq_true, if_false, List.length_nil, Nat.add_zero] at hr
        replace hr := hid hr
        replace hc := hid hc
        clear hb
        go_wp2_with fail
        refine hc.out.mono ?_; rintro e w' ⟨rfl, rfl⟩
        go_wp2_with fail
        go_ret
        refine ⟨?_, rfl⟩
        rw [hr.out]
        rfl
    · obtain rfl : j = s.size := by omega
      have hd : s.data.toList.drop s.size = [] := List.drop_eq_nil_of_le (Nat.le_refl _)
      rw [hd] at hr
      simp only [List.takeWhile_nil, List.length_nil, Nat.add_zero] at hr
      replace hr := hid hr
      clear hd
      go_wp2_with fail
      go_ret
      refine ⟨?_, rfl⟩
      rw [hr.out]
      rfl

set_option maxHeartbeats 1000000 in
theorem run_quoted (s : ByteArray) (k : Nat) (hk : k ≤ s.size) (hs : s.size ≤ 1000) (w : World) :
    Calls Tryz.prog 79 #[.string s, .int .i64 k, .func (.func 82) #[] #[]] w fun e w' => e = .returned (.int .i64 ((k + ((s.data.toList.drop k).takeWhile isA).length : Nat) : Int)) ∧ w = w' := by
  go_enter Tryz.func79, Tryz.ntmps79
  go_wp2_with fail
  go_loopg [1] (s.size - k) (fun g i wr => ∃ j : Nat, k ≤ j ∧ j + g = s.size ∧ i = .int .i64 j ∧ wr = w ∧ k + ((s.data.toList.drop k).takeWhile isA).length = j + ((s.data.toList.drop j).takeWhile isA).length)
  case atStart => exact ⟨k, Nat.le_refl _, by omega, rfl, rfl, rfl⟩
  case round =>
    obtain ⟨j, hkj, hj, rfl, rfl, hr⟩ := hrel
    have hjs : j ≤ s.size := by omega
    replace hj := hid hj
    by_cases hlt : j < s.size
    · rw [drop_at s hlt, List.takeWhile_cons] at hr
      have hc := quoted_any s[j] wr
      cases hb : isA s[j] with
      | true =>
        rw [hb] at hc hr
        simp only [if_true, List.length_cons] at hr
        replace hr := hid hr
        replace hc := hid hc
        clear hb
        go_wp2_with fail
        refine hc.out.mono ?_; rintro e w' ⟨rfl, rfl⟩
        go_wp2_with fail
        go_roundg (gk - 1)
        case measure => have := hj.out; omega
        case rel => exact ⟨j + 1, by omega, by have := hj.out; omega, by go_num, rfl, by have := hr.out; omega⟩
      | false =>
        rw [hb] at hc hr
        simp only [Bool.false_eq_true, if_false, List.length_nil, Nat.add_zero] at hr
        replace hr := hid hr
        replace hc := hid hc
        clear hb
        go_wp2_with fail
        refine hc.out.mono ?_; rintro e w' ⟨rfl, rfl⟩
        go_wp2_with fail
        go_ret
        refine ⟨?_, rfl⟩
        rw [hr.out]
        rfl
    · obtain rfl : j = s.size := by omega
      have hd : s.data.toList.drop s.size = [] := List.drop_eq_nil_of_le (Nat.le_refl _)
      rw [hd] at hr
      simp only [List.takeWhile_nil, List.length_nil, Nat.add_zero] at hr
      replace hr := hid hr
      clear hd
      go_wp2_with fail
      go_ret
      refine ⟨?_, rfl⟩
      rw [hr.out]
      rfl

end Go.Proofs.YtpgniljgaknlpaaGreatDoor
