import Derived.Test.YtpgniljgaknlpaaGreatDoorK14
import Derived.Test.YtpgniljgaknlpaaGreatDoorThAll
/-
  The printer's small functions.
-/
namespace Go.Proofs.YtpgniljgaknlpaaGreatDoor
open Go.RowKit Cdk Tpl

set_option maxHeartbeats 400000 in
theorem pprintable_any (c : UInt8) (w : World) : Calls Tryz.prog 68 #[.int .u8 c.toNat] w fun e w' => e = .returned (.bool (isP c)) ∧ w = w' := by
  have e1 : Hid (isP c = (decide (32 ≤ c.toNat) && decide (c.toNat ≤ 126))) := hid rfl
  generalize isP c = r at e1 ⊢
  generalize c.toNat = n at e1 ⊢
  by_cases h1 : (32 : Int) ≤ (n : Int) <;> by_cases h2 : (n : Int) ≤ 126
  all_goals
    go_enter Tryz.func68, Tryz.ntmps68
    go_wp2
    go_ret
    refine ⟨?_, rfl⟩
    rw [e1.out]
    congr 2
    simp only
    first | omega | (simp; omega)

/-- The panic of 'require'. -/
def invE : PanicEntry := { v := .iface 102 (.agg #[]), recovered := false }

theorem require_true (w : World) : Calls Tryz.prog 48 #[.bool true] w fun e w' => e = .returned (.tuple #[]) ∧ w = w' := by
  go_enter Tryz.func48, Tryz.ntmps48
  go_wp2
  go_end0
  exact ⟨rfl, rfl⟩

theorem require_false (w : World) : Calls Tryz.prog 48 #[.bool false] w fun e w' => e = .panicked [invE] ∧ w = w' := by
  unfold invE
  go_enter Tryz.func48, Tryz.ntmps48
  go_wp2
  exact ⟨rfl, rfl, rfl⟩

theorem isKeyword_any (s : Bs) (w : World) : Calls Tryz.prog 70 #[strV s] w fun e w' => e = .returned (.bool (isKw s)) ∧ w = w' := by
  unfold strV
  have q1 : (s == [102, 111, 114]) = decide (s = wFor) := by rw [Bool.eq_iff_iff, decide_eq_true_eq, beq_iff_eq]; rfl
  have q2 : (s == [105, 102]) = decide (s = wIf) := by rw [Bool.eq_iff_iff, decide_eq_true_eq, beq_iff_eq]; rfl
  have q3 : (s == [101, 108, 115, 101]) = decide (s = wElse) := by rw [Bool.eq_iff_iff, decide_eq_true_eq, beq_iff_eq]; rfl
  have q4 : (s == [101, 110, 100]) = decide (s = wEnd) := by rw [Bool.eq_iff_iff, decide_eq_true_eq, beq_iff_eq]; rfl
  have q5 : (s == [105, 110, 99, 108, 117, 100, 101]) = decide (s = wInclude) := by rw [Bool.eq_iff_iff, decide_eq_true_eq, beq_iff_eq]; rfl
  have hk : Hid (isKw s = (decide (s = wFor) || decide (s = wIf) || decide (s = wElse) || decide (s = wEnd) || decide (s = wInclude))) := hid rfl
  generalize isKw s = r at hk ⊢
  generalize decide (s = wFor) = b1 at q1 hk
  generalize decide (s = wIf) = b2 at q2 hk
  generalize decide (s = wElse) = b3 at q3 hk
  generalize decide (s = wEnd) = b4 at q4 hk
  generalize decide (s = wInclude) = b5 at q5 hk
  cases b1 with
  | true =>
    clear q2 q3 q4 q5
    go_enter Tryz.func70, Tryz.ntmps70
    go_wp2
    go_ret
    exact ⟨by rw [hk.out]; rfl, rfl⟩
  | false =>
    cases b2 with
    | true =>
      clear q3 q4 q5
      go_enter Tryz.func70, Tryz.ntmps70
      go_wp2
      go_ret
      exact ⟨by rw [hk.out]; rfl, rfl⟩
    | false =>
      cases b3 with
      | true =>
        clear q4 q5
        go_enter Tryz.func70, Tryz.ntmps70
        go_wp2
        go_ret
        exact ⟨by rw [hk.out]; rfl, rfl⟩
      | false =>
        cases b4 with
        | true =>
          clear q5
          go_enter Tryz.func70, Tryz.ntmps70
          go_wp2
          go_ret
          exact ⟨by rw [hk.out]; rfl, rfl⟩
        | false =>
          cases b5 with
          | true =>
            go_enter Tryz.func70, Tryz.ntmps70
            go_wp2
            go_ret
            exact ⟨by rw [hk.out]; rfl, rfl⟩
          | false =>
            go_enter Tryz.func70, Tryz.ntmps70
            go_wp2
            go_ret
            exact ⟨by rw [hk.out]; rfl, rfl⟩

theorem all_bytes (s : ByteArray) (p : UInt8 → Bool) : s.data.toList.all p = true ↔ ∀ (j : Nat) (h : j < s.size), p s[j] = true := by
  rw [List.all_eq_true]
  constructor
  · intro h j hj
    exact h _ (List.getElem_mem (l := s.data.toList) (n := j) hj)
  · intro h x hx
    obtain ⟨j, hj, rfl⟩ := List.getElem_of_mem hx
    exact h j hj

theorem nameOk_eq (s : ByteArray) (h : 0 < s.size) : nameOk s.data.toList = (decide (s.size ≤ 20) && isL s[0] && s.data.toList.all isW) := by
  obtain ⟨⟨l⟩⟩ := s
  cases l with
  | nil => simp [ByteArray.size] at h
  | cons c r => rfl

theorem nameOk_no {s : ByteArray} (h : 0 < s.size) (hb : (decide (s.size ≤ 20) && isL s[0] && s.data.toList.all isW) = false) : nameOk s.data.toList = false := by rw [nameOk_eq s h, hb]

set_option maxHeartbeats 2000000 in
theorem isName_any (s : ByteArray) (w : World) : Calls Tryz.prog 53 #[.string s] w fun e w' => e = .returned (.bool (nameOk s.data.toList)) ∧ w = w' := by
  by_cases h0 : s.size = 0
  · have e0 : s = ⟨#[]⟩ := by
      obtain ⟨⟨l⟩⟩ := s
      cases l with
      | nil => rfl
      | cons c r => simp [ByteArray.size] at h0
    subst e0
    go_enter Tryz.func53, Tryz.ntmps53
    go_wp2
    go_ret
    exact ⟨rfl, rfl⟩
  · have hpos : 0 < s.size := by omega
    have heq := nameOk_eq s hpos
    have hne : s.toList.isEmpty = false := by
      rw [ByteArray.toList_eq]
      obtain ⟨⟨l⟩⟩ := s
      cases l with
      | nil => simp [ByteArray.size] at h0
      | cons c r => rfl
    have hne2 : ¬ s.toList = [] := by intro h; rw [h] at hne; cases hne
    clear h0
    have hall := all_bytes s isW
    have hL : Hid (isL s[0] = (decide (97 ≤ s[0].toNat) && decide (s[0].toNat ≤ 122))) := hid rfl
    generalize nameOk s.data.toList = r at heq ⊢
    replace heq := hid heq
    replace hall := hid hall
    by_cases h20 : s.size ≤ 20
    · have h20' : decide ((20 : Int) < (s.size : Int)) = false := decide_eq_false (by omega)
      have h20i : ¬ (20 : Int) < (s.size : Int) := by omega
      by_cases ha : 97 ≤ s[0].toNat
      · have ha' : ¬ (s[0].toNat : Int) < 97 := by omega
        by_cases hz : s[0].toNat ≤ 122
        · have hz' : ¬ (122 : Int) < (s[0].toNat : Int) := by omega
          have hl1 : isL s[0] = true := by rw [hL.out, decide_eq_true ha, decide_eq_true hz]; rfl
          replace hl1 := hid hl1
          clear ha hz
          go_enter Tryz.func53, Tryz.ntmps53
          go_wp2
          go_loopg [3] s.size (fun g i wr => ∃ k : Nat, k + g = s.size ∧ i = .int .i64 k ∧ wr = w ∧ Hid (∀ (j : Nat) (h : j < s.size), j < k → isW s[j] = true))
          case atStart => exact ⟨0, by omega, rfl, rfl, hid (fun j _ h => by omega)⟩
          case round =>
            obtain ⟨k, hk, rfl, rfl, hw⟩ := hrel
            replace hk := hid hk
            have hks : k ≤ s.size := by have := hk.out; omega
            by_cases hlt : k < s.size
            · have hd : decide ((k : Int) < (s.size : Int)) = true := decide_eq_true (by omega)
              have hdi : (k : Int) < (s.size : Int) := by omega
              have hWe : Hid (isW s[k] = (isL s[k] || isD s[k] || decide (s[k].toNat = 45))) := hid rfl
              have hLe : Hid (isL s[k] = (decide (97 ≤ s[k].toNat) && decide (s[k].toNat ≤ 122))) := hid rfl
              have hDe : Hid (isD s[k] = (decide (48 ≤ s[k].toNat) && decide (s[k].toNat ≤ 57))) := hid rfl
              have hw2 : Hid (isW s[k] = true → ∀ (j : Nat) (h : j < s.size), j < k + 1 → isW s[j] = true) := hid (fun hb j hj hjk => by
                by_cases e : j < k
                · exact hw.out j hj e
                · obtain rfl : j = k := by omega
                  exact hb)
              have hways : (97 ≤ s[k].toNat ∧ s[k].toNat ≤ 122) ∨ (122 < s[k].toNat) ∨ (57 < s[k].toNat ∧ s[k].toNat < 97) ∨ (48 ≤ s[k].toNat ∧ s[k].toNat ≤ 57) ∨ (s[k].toNat < 48 ∧ s[k].toNat ≠ 45) ∨ s[k].toNat = 45 := by omega
              rcases hways with hc | hc | hc | hc | hc | hc
              · have g1 : (97 : Int) ≤ (s[k].toNat : Int) := by omega
                have g2 : (s[k].toNat : Int) ≤ 122 := by omega
                have hb : Hid (isW s[k] = true) := hid (by rw [hWe.out, hLe.out, hDe.out]; simp only [Bool.or_eq_true, Bool.and_eq_true, decide_eq_true_eq]; omega)
                clear hc
                go_wp2
                go_roundg (gk - 1)
                case measure => have := hk.out; omega
                case rel => exact ⟨k + 1, by have := hk.out; omega, by go_num, rfl, hid (hw2.out hb.out)⟩
              · have g1 : (97 : Int) ≤ (s[k].toNat : Int) := by omega
                have g2 : ¬ (s[k].toNat : Int) ≤ 122 := by omega
                have g3 : (48 : Int) ≤ (s[k].toNat : Int) := by omega
                have g4 : ¬ (s[k].toNat : Int) ≤ 57 := by omega
                have gq : ((s[k].toNat : Int) == 45) = false := by rw [beq_eq_false_iff_ne]; omega
                have hb : Hid (isW s[k] = false) := hid (by rw [hWe.out, hLe.out, hDe.out, Bool.eq_false_iff]; simp only [ne_eq, Bool.or_eq_true, Bool.and_eq_true, decide_eq_true_eq]; omega)
                clear hc
                have hno : Hid (s.data.toList.all isW = false) := hid (by rw [Bool.eq_false_iff]; intro h; have := hall.out.1 h k hlt; rw [hb.out] at this; cases this)
                go_wp2
                go_ret
                exact ⟨by rw [heq.out, hno.out, Bool.and_false]; rfl, rfl⟩
              · have g1 : ¬ (97 : Int) ≤ (s[k].toNat : Int) := by omega
                have g2 : (48 : Int) ≤ (s[k].toNat : Int) := by omega
                have g3 : ¬ (s[k].toNat : Int) ≤ 57 := by omega
                have gq : ((s[k].toNat : Int) == 45) = false := by rw [beq_eq_false_iff_ne]; omega
                have hb : Hid (isW s[k] = false) := hid (by rw [hWe.out, hLe.out, hDe.out, Bool.eq_false_iff]; simp only [ne_eq, Bool.or_eq_true, Bool.and_eq_true, decide_eq_true_eq]; omega)
                clear hc
                have hno : Hid (s.data.toList.all isW = false) := hid (by rw [Bool.eq_false_iff]; intro h; have := hall.out.1 h k hlt; rw [hb.out] at this; cases this)
                go_wp2
                go_ret
                exact ⟨by rw [heq.out, hno.out, Bool.and_false]; rfl, rfl⟩
              · have g1 : ¬ (97 : Int) ≤ (s[k].toNat : Int) := by omega
                have g2 : (48 : Int) ≤ (s[k].toNat : Int) := by omega
                have g3 : (s[k].toNat : Int) ≤ 57 := by omega
                have hb : Hid (isW s[k] = true) := hid (by rw [hWe.out, hLe.out, hDe.out]; simp only [Bool.or_eq_true, Bool.and_eq_true, decide_eq_true_eq]; omega)
                clear hc
                go_wp2
                go_roundg (gk - 1)
                case measure => have := hk.out; omega
                case rel => exact ⟨k + 1, by have := hk.out; omega, by go_num, rfl, hid (hw2.out hb.out)⟩
              · have g1 : ¬ (97 : Int) ≤ (s[k].toNat : Int) := by omega
                have g2 : ¬ (48 : Int) ≤ (s[k].toNat : Int) := by omega
                have gq : ((s[k].toNat : Int) == 45) = false := by rw [beq_eq_false_iff_ne]; omega
                have hb : Hid (isW s[k] = false) := hid (by rw [hWe.out, hLe.out, hDe.out, Bool.eq_false_iff]; simp only [ne_eq, Bool.or_eq_true, Bool.and_eq_true, decide_eq_true_eq]; omega)
                clear hc
                have hno : Hid (s.data.toList.all isW = false) := hid (by rw [Bool.eq_false_iff]; intro h; have := hall.out.1 h k hlt; rw [hb.out] at this; cases this)
                go_wp2
                go_ret
                exact ⟨by rw [heq.out, hno.out, Bool.and_false]; rfl, rfl⟩
              · have g1 : ¬ (97 : Int) ≤ (s[k].toNat : Int) := by omega
                have g2 : ¬ (48 : Int) ≤ (s[k].toNat : Int) := by omega
                have gq : ((s[k].toNat : Int) == 45) = true := by rw [beq_iff_eq]; omega
                have hb : Hid (isW s[k] = true) := hid (by rw [hWe.out, hLe.out, hDe.out]; simp only [Bool.or_eq_true, Bool.and_eq_true, decide_eq_true_eq]; omega)
                clear hc
                go_wp2
                go_roundg (gk - 1)
                case measure => have := hk.out; omega
                case rel => exact ⟨k + 1, by have := hk.out; omega, by go_num, rfl, hid (hw2.out hb.out)⟩
            · have hd : decide ((k : Int) < (s.size : Int)) = false := decide_eq_false (by omega)
              have hdi : ¬ (k : Int) < (s.size : Int) := by omega
              go_wp2
              go_ret
              refine ⟨by rw [heq.out, decide_eq_true h20, hl1.out, hall.out.2 (fun j hj => hw.out j hj (by omega))]; rfl, rfl⟩
        · have hz' : (122 : Int) < (s[0].toNat : Int) := by omega
          have hl1 : isL s[0] = false := by rw [hL.out, decide_eq_false hz, Bool.and_false]
          replace hl1 := hid hl1
          clear ha hz
          go_enter Tryz.func53, Tryz.ntmps53
          go_wp2
          go_ret
          exact ⟨by rw [heq.out, hl1.out, Bool.and_false, Bool.false_and]; rfl, rfl⟩
      · have ha' : (s[0].toNat : Int) < 97 := by omega
        have hl1 : isL s[0] = false := by rw [hL.out, decide_eq_false ha, Bool.false_and]
        replace hl1 := hid hl1
        clear ha
        go_enter Tryz.func53, Tryz.ntmps53
        go_wp2
        go_ret
        exact ⟨by rw [heq.out, hl1.out, Bool.and_false, Bool.false_and]; rfl, rfl⟩
    · have h20' : decide ((20 : Int) < (s.size : Int)) = true := decide_eq_true (by omega)
      have h20i : (20 : Int) < (s.size : Int) := by omega
      go_enter Tryz.func53, Tryz.ntmps53
      go_wp2
      go_ret
      exact ⟨by rw [heq.out, decide_eq_false h20, Bool.false_and, Bool.false_and]; rfl, rfl⟩
end Go.Proofs.YtpgniljgaknlpaaGreatDoor
