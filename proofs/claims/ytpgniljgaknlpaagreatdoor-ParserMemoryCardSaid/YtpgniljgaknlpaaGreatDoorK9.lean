import Derived.Test.YtpgniljgaknlpaaGreatDoorK8
/-
  slices.Contains of strings; the parser's 'field'.
-/
namespace Go.Proofs.YtpgniljgaknlpaaGreatDoor
open Go.RowKit Cdk Tpl

def strV (s : Bs) : Value := .string ⟨s.toArray⟩
def strC (s : Bs) : List Value := [strV s]
theorem strC_len (s : Bs) : (strC s).length = 1 := rfl

theorem strV_inj {a b : Bs} (h : (⟨a.toArray⟩ : ByteArray) = ⟨b.toArray⟩) : a = b := by
  injection h with h; injection h

theorem str_beq (a b : Bs) : ((⟨a.toArray⟩ : ByteArray) == ⟨b.toArray⟩) = decide (a = b) := by
  rw [Bool.eq_iff_iff, decide_eq_true_eq, beq_iff_eq]
  exact ⟨strV_inj, fun h => by rw [h]⟩

set_option maxRecDepth 100000 in
set_option maxHeartbeats 2000000 in
theorem Index_any (ao : Option Addr) (cap : Nat) (l : List Bs) (hl : l.length ≤ 100) (x : Bs) (w : World) (hrow : RowIs w ao (l.flatMap strC)) :
    Calls Tryz.prog 62 #[.slice ao l.length cap, strV x] w fun e w' => (∃ i : Int, e = .returned (.int .i64 i) ∧ decide (0 ≤ i) = decide (x ∈ l)) ∧ w = w' := by
  unfold strV
  obtain ⟨n, hn⟩ : ∃ n, n = l.length := ⟨_, rfl⟩
  rw [← hn] at hl ⊢
  replace hn := hid hn
  replace hrow := hid hrow
  go_enter Tryz.func62, Tryz.ntmps62
  go_wp2_with fail
  go_loopg [8] n (fun g e wr => ∃ j : Nat, j + g = n ∧ e = .int .i64 j ∧ wr = w ∧ x ∉ l.take j)
  case atStart => exact ⟨0, by omega, rfl, rfl, by simp⟩
  case round =>
    obtain ⟨j, hj, rfl, rfl, hnot⟩ := hrel
    replace hj := hid hj
    replace hnot := hid hnot
    have hjn : j ≤ n := by have := hj.out; omega
    by_cases hlt : j < n
    · have hjl : j < l.length := by have := hn.out; omega
      obtain ⟨b, off, rfl, hc⟩ := hrow.out.at (by rw [flat_length _ 1 strC_len]; omega)
      have g0 := hc _ _ ((flat_get strC 1 strC_len l j 0 l[j] (List.getElem?_eq_getElem hjl) (by omega)).trans rfl)
      simp only [Nat.mul_one, Nat.add_zero, strV] at g0
      have hlti : (j : Int) < (n : Int) := by omega
      have hd : decide ((j : Int) < (n : Int)) = true := decide_eq_true hlti
      have hb : (x == l[j]) = decide (x = l[j]) := by rw [Bool.eq_iff_iff, decide_eq_true_eq, beq_iff_eq]
      clear hc
      cases he : decide (x = l[j]) with
      | true =>
        rw [he] at hb
        go_wp2
        go_ret
        refine ⟨⟨j, rfl, ?_⟩, rfl⟩
        rw [decide_eq_true_eq] at he
        rw [decide_eq_true (by omega), eq_comm, decide_eq_true_eq, he]
        exact List.getElem_mem _
      | false =>
        rw [he] at hb
        go_wp2_with fail
        go_roundg (gk - 1)
        case measure => have := hj.out; omega
        case rel =>
          refine ⟨j + 1, by have := hj.out; omega, by simp, rfl, ?_⟩
          rw [List.take_add_one, List.getElem?_eq_getElem hjl]
          simp only [Option.toList, List.mem_append, List.mem_singleton, not_or]
          exact ⟨hnot.out, by simpa using he⟩
    · have hd : decide ((j : Int) < (n : Int)) = false := decide_eq_false (by omega)
      have hni : ¬ (j : Int) < (n : Int) := by omega
      go_wp2
      go_ret
      refine ⟨⟨-1, rfl, ?_⟩, rfl⟩
      have := hnot.out
      have hn2 := hn.out
      rw [List.take_of_length_le (by omega)] at this
      simp [this]

theorem Contains_any (ao : Option Addr) (cap : Nat) (l : List Bs) (hl : l.length ≤ 100) (x : Bs) (w : World) (hrow : RowIs w ao (l.flatMap strC)) :
    Calls Tryz.prog 36 #[.slice ao l.length cap, strV x] w fun e w' => e = .returned (.bool (decide (x ∈ l))) ∧ w = w' := by
  have hI := hid (Index_any ao cap l hl x w hrow)
  unfold strV at hI ⊢
  obtain ⟨n, hn⟩ : ∃ n, n = l.length := ⟨_, rfl⟩
  rw [← hn] at hI ⊢
  replace hn := hid hn
  replace hrow := hid hrow
  generalize decide (x ∈ l) = r at hI ⊢
  go_enter Tryz.func36, Tryz.ntmps36
  go_wp2_with fail
  refine hI.out.mono ?_; rintro e w' ⟨⟨i, rfl, hi⟩, rfl⟩
  replace hi := hid hi
  go_wp2
  go_ret
  refine ⟨?_, rfl⟩
  rw [← hi.out]
  rfl
end Go.Proofs.YtpgniljgaknlpaaGreatDoor
