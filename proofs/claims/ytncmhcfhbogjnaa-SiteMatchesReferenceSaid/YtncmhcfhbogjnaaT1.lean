import Derived.Test.YtncmhcfhbogjnaaRows
import Derived.Test.YtncmhcfhbogjnaaMapIter
namespace Go.Proofs.Ytncmhcfhbogjnaa
open Go.RowKit Cdk

def pickI (c n : Int) : Int := (if c < 0 then -(c+1) else c) % n

set_option maxHeartbeats 400000 in
theorem pick_any (c n : Int) (w : World) (h1 : -9223372036854775808 ≤ c) (h2 : c ≤ 9223372036854775807) (hn : 0 < n) (hn2 : n < 1000000) :
    Calls Try.prog 14 #[.int .i64 c, .int .i64 n] w fun e w' => e = .returned (.int .i64 (pickI c n)) ∧ w = w' := by
  have hn0 : (n == 0) = false := by simp; omega
  by_cases hc : c < 0
  · have e1 : Hid ((-(c + 1)).tmod n = pickI c n) := by
      show _ = _; unfold pickI; rw [if_pos hc, Int.tmod_eq_emod_of_nonneg (by omega)]
    go_enter Try.func14, Try.ntmps14
    go_wp2
    go_ret
    refine ⟨?_, rfl⟩
    have := e1.out
    rw [Int.neg_tmod] at this
    simp [this]
  · have e1 : Hid (c % n = pickI c n) := by show _ = _; unfold pickI; rw [if_neg hc]
    go_enter Try.func14, Try.ntmps14
    go_wp2
    go_ret
    refine ⟨?_, rfl⟩
    simp [e1.out]

theorem pickI_bd (c n : Int) (hn : 0 < n) : 0 ≤ pickI c n ∧ pickI c n < n := by
  unfold pickI; exact ⟨Int.emod_nonneg _ (by omega), Int.emod_lt_of_pos _ hn⟩

def classI (c : Int) : Int := if pickI c 6 = 5 then -1 else pickI c 6
def sessionI (n opened : Int) : Int := pickI n (opened + 2)

set_option maxHeartbeats 400000 in
theorem class_any (c : Int) (w : World) (h1 : -9223372036854775808 ≤ c) (h2 : c ≤ 9223372036854775807) :
    Calls Try.prog 16 #[.int .i64 c] w fun e w' => e = .returned (.int .i64 (classI c)) ∧ w = w' := by
  by_cases hc : pickI c 6 = 5
  · have e1 : Hid (classI c = -1) := by show _ = _; unfold classI; rw [if_pos hc]
    have hb : (pickI c 6 == 5) = true := by simpa using hc
    clear hc
    go_enter Try.func16, Try.ntmps16
    go_wp2_with (go_at_call 14; refine (pick_any _ _ _ h1 h2 (by omega) (by omega)).mono ?_; rintro e w' ⟨rfl, rfl⟩)
    go_ret
    rw [e1.out]; exact ⟨rfl, rfl⟩
  · have e1 : Hid (classI c = pickI c 6) := by show _ = _; unfold classI; rw [if_neg hc]
    have hb : (pickI c 6 == 5) = false := by simpa using hc
    clear hc
    go_enter Try.func16, Try.ntmps16
    go_wp2_with (go_at_call 14; refine (pick_any _ _ _ h1 h2 (by omega) (by omega)).mono ?_; rintro e w' ⟨rfl, rfl⟩)
    go_ret
    rw [e1.out]; exact ⟨rfl, rfl⟩

set_option maxHeartbeats 400000 in
theorem session_any (n o : Int) (w : World) (h1 : -9223372036854775808 ≤ n) (h2 : n ≤ 9223372036854775807) (ho : 0 ≤ o) (ho2 : o < 1000) :
    Calls Try.prog 20 #[.int .i64 n, .int .i64 o] w fun e w' => e = .returned (.int .i64 (sessionI n o)) ∧ w = w' := by
  go_enter Try.func20, Try.ntmps20
  go_wp2_with (go_at_call 14; refine (pick_any _ _ _ h1 h2 (by omega) (by omega)).mono ?_; rintro e w' ⟨rfl, rfl⟩)
  go_ret
  exact ⟨rfl, rfl⟩

def isClassB (c : Int) : Bool := decide (0 ≤ c) && decide (c < 4)
set_option maxHeartbeats 400000 in
theorem isClass_any (c : Int) (w : World)  :
    Calls Try.prog 37 #[.int .i64 c] w fun e w' => e = .returned (.bool (isClassB c)) ∧ w = w' := by
  by_cases h : 0 ≤ c <;> by_cases h' : c < 4
  all_goals
    have e1 : Hid (isClassB c = (decide (0 ≤ c) && decide (c < 4))) := rfl
    go_enter Try.func37, Try.ntmps37
    go_wp2
    go_ret
    rw [e1.out]; simp [*]
theorem rclass_any (c : Int) (w : World)  :
    Calls Try.prog 33 #[.int .i64 c] w fun e w' => e = .returned (.bool (isClassB c)) ∧ w = w' := by
  by_cases h : 0 ≤ c <;> by_cases h' : c < 4
  all_goals
    have e1 : Hid (isClassB c = (decide (0 ≤ c) && decide (c < 4))) := rfl
    go_enter Try.func33, Try.ntmps33
    go_wp2
    go_ret
    rw [e1.out]; simp [*]
end Go.Proofs.Ytncmhcfhbogjnaa
