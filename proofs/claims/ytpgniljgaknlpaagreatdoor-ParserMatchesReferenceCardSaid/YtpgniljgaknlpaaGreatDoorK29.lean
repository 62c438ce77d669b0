import Derived.Test.YtpgniljgaknlpaaGreatDoorK26
/-
  'Source'.
-/
namespace Go.Proofs.YtpgniljgaknlpaaGreatDoor
open Go.RowKit Cdk Tpl

/-- The pieces of a source. -/
def srcP : List Bs := [[72, 105, 32], [123, 123], [125], [123, 110, 97, 109, 101, 125], [123, 32, 110, 97, 109, 101, 32, 124, 32, 117, 112, 112, 101, 114, 124, 116, 114, 105, 109, 32, 125], [123, 102, 111, 114, 32, 108, 97, 116, 101, 115, 116, 32, 34, 99, 105, 116, 121, 34, 32, 53, 125], [123, 102, 111, 114, 32, 98, 121, 125], [123, 105, 102, 32, 116, 105, 116, 108, 101, 125], [123, 101, 108, 115, 101, 125], [123, 101, 110, 100, 125], [123, 101, 110, 100, 125], [123, 101, 110, 100, 125], [123, 105, 110, 99, 108, 117, 100, 101, 32, 102, 111, 111, 116, 125], [10], [123, 102, 111, 114, 32, 120, 32, 34, 34, 32, 48, 125], [123, 105, 102, 32, 105, 102, 125], [123, 102, 111, 114, 32, 101, 110, 100, 125, 97, 123, 101, 110, 100, 125], [123, 105, 102, 32, 97, 125, 98, 123, 101, 108, 115, 101, 125, 99, 123, 101, 110, 100, 125], [123, 105, 102, 32, 97, 125, 123, 101, 110, 100, 125], [123, 102, 111, 114, 32, 108, 97, 116, 101, 115, 116, 32, 53, 32, 34, 120, 34, 125], [123], [123, 124, 125], [123, 105, 102, 125], [123, 110, 97, 109, 101, 32, 117, 112, 112, 101, 114, 125], [123, 102, 111, 114, 32, 55, 125], [123, 101, 108, 115, 101], [123, 48, 49, 50, 125], [123, 110, 97, 109, 101, 124, 125], [123, 101, 110, 100, 32, 120, 125], [123, 105, 110, 99, 108, 117, 100, 101, 125], [1], [123, 102, 111, 114, 32, 97, 34, 98, 34, 51, 125, 123, 101, 110, 100, 125]]
def pieceS (c : Int) : Bs := srcP.getD (pickS c 32) []
/-- 'Source'. -/
def sourceS (xs : List Int) : Bs := (xs.take 30).flatMap pieceS

theorem piece_len (c : Int) : (pieceS c).length ≤ 21 := by
  unfold pieceS
  have h := pickS_lt c (n := 32) (by omega)
  generalize pickS c 32 = i at h
  revert i
  decide
theorem src_len : ∀ (xs : List Int), (xs.flatMap pieceS).length ≤ 21 * xs.length
  | [] => by simp
  | x :: xs => by
    have := piece_len x
    have := src_len xs
    simp only [List.flatMap_cons, List.length_append, List.length_cons]; omega

set_option maxRecDepth 100000 in
set_option maxHeartbeats 8000000 in
theorem Source_any (xs : List Int) (ao : Option Addr) (cap : Nat) (w : World) (hrow : RowIs w ao (xs.flatMap intC)) (hv : ∀ z ∈ xs, -9223372036854775808 ≤ z ∧ z ≤ 9223372036854775807) (hl : xs.length ≤ 9223372036854775807) :
    Calls Tryz.prog 10 #[.slice ao xs.length cap] w fun e w' => e = .returned (.string ⟨(sourceS xs).toArray⟩) ∧ Ext w w' := by
  obtain ⟨post, hpost⟩ : ∃ post : Ending → World → Prop, post = fun e w' => e = .returned (.string ⟨(sourceS xs).toArray⟩) ∧ Ext w w' := ⟨_, rfl⟩
  rw [← hpost]
  have hxT := Mod.alloc (Mod.refl (fun _ => False) w) (.cells (srcP.map strV).toArray 9)
  have hT := heap_alloc_new w (.cells (srcP.map strV).toArray 9)
  obtain ⟨n, hn⟩ : ∃ n, n = xs.length := ⟨_, rfl⟩
  rw [← hn]
  obtain ⟨c0, hc0⟩ : ∃ c0, c0 = min n 30 := ⟨_, rfl⟩
  have hrow1 := hrow.ext hxT
  replace hpost := hid hpost
  replace hn := hid hn
  replace hv := hid hv
  replace hT := hid hT
  replace hxT := hid hxT
  replace hrow := hid hrow
  replace hrow1 := hid hrow1
  go_enter Tryz.func10, Tryz.ntmps10
  go_wp2_with fail
  have hT1 := hT.out
  have hx1 := hxT.out
  have hr1 := hrow1.out
  obtain ⟨T0, hT0⟩ : ∃ T0, T0 = w.heap.size := ⟨_, rfl⟩
  rw [← hT0] at hT1 ⊢
  replace hT0 := hid hT0
  go_loopg [4, 5] c0 (fun g e kk wr => ∃ (i : Nat) (acc : Bs), i + g = c0 ∧ kk = .int .i64 i ∧ e = .string ⟨acc.toArray⟩ ∧ acc.length ≤ 21 * i ∧ Hid (acc = (xs.take i).flatMap pieceS) ∧ wr.heap[T0]? = some (.cells (srcP.map strV).toArray 9) ∧ RowIs wr ao (xs.flatMap intC) ∧ Ext w wr)
  case atStart => exact ⟨0, [], by omega, rfl, rfl, by simp, hid rfl, hT1, hr1, hx1⟩
  case round =>
    clear hT1 hx1 hr1
    obtain ⟨i, acc, hig, rfl, rfl, hal, hacc, hT1, hr1, hx1⟩ := hrel
    by_cases hpos : 0 < gk
    rotate_left
    · obtain rfl : gk = 0 := by omega
      by_cases hin : i < n
      · have hd1 : decide ((i : Int) < (n : Int)) = true := decide_eq_true (by omega)
        have hi1 : (i : Int) < (n : Int) := by omega
        have hd2 : decide ((i : Int) < 30) = false := decide_eq_false (by omega)
        have hi2 : ¬ (i : Int) < 30 := by omega
        have hi30 : Hid (i = 30) := hid (by omega)
        replace hT1 := hid hT1
        replace hr1 := hid hr1
        replace hx1 := hid hx1
        go_wp2_with fail
        rw [hpost.out]
        refine ⟨?_, hx1.out⟩
        rw [sourceS, ← hi30.out, hacc.out]
      · have hd1 : decide ((i : Int) < (n : Int)) = false := decide_eq_false (by omega)
        have hi1 : ¬ (i : Int) < (n : Int) := by omega
        have hi30 : Hid (i = n ∧ i ≤ 30) := hid (by omega)
        replace hT1 := hid hT1
        replace hr1 := hid hr1
        replace hx1 := hid hx1
        go_wp2_with fail
        rw [hpost.out]
        refine ⟨?_, hx1.out⟩
        have h1 := hi30.out
        have h2 := hn.out
        rw [sourceS, hacc.out, List.take_of_length_le (by omega), List.take_of_length_le (by omega)]
    · obtain ⟨c, rfl⟩ : ∃ c, gk = c + 1 := ⟨gk - 1, by omega⟩
      have hd1 : decide ((i : Int) < (n : Int)) = true := decide_eq_true (by omega)
      have hi1 : (i : Int) < (n : Int) := by omega
      have hd2 : decide ((i : Int) < 30) = true := decide_eq_true (by omega)
      have hi2 : (i : Int) < 30 := by omega
      have hi0 : (0 : Int) ≤ (i : Int) := by omega
      have hlx : i < xs.length := by have := hn.out; omega
      obtain ⟨z, hz⟩ : ∃ z, z = xs[i] := ⟨_, rfl⟩
      obtain ⟨v1, v2⟩ := hv.out xs[i] (List.getElem_mem hlx)
      obtain ⟨b, off, rfl, hcl⟩ := hr1.at (by rw [flat_length _ 1 intC_len]; omega)
      have g0 := hcl _ _ ((flat_get intC 1 intC_len xs i 0 xs[i] (List.getElem?_eq_getElem hlx) (by omega)).trans rfl)
      simp only [Nat.mul_one, Nat.add_zero] at g0
      rw [← hz] at g0 v1 v2
      clear hcl
      replace hz := hid hz
      have hpk := hid (pick_any z 32 wr v1 v2 (by omega) (by omega))
      obtain ⟨j, hj⟩ : ∃ j, j = pickS z 32 := ⟨_, rfl⟩
      have hj32 := pickS_lt z (n := 32) (by omega)
      rw [← hj] at hpk hj32
      have g1 := str_pick hT1 (Mod.refl _ wr) (show j < srcP.length from hj32)
      have hjp : Hid (srcP.getD j [] = pieceS z) := hid (by rw [hj]; rfl)
      have hpl : (srcP.getD j []).length ≤ 21 := by rw [hjp.out]; exact piece_len z
      generalize srcP.getD j [] = pc at g1 hjp hpl
      have hcat : ¬ 9223372036854775807 < acc.length + pc.length := by omega
      replace hj := hid hj
      have hj1 : (j : Int) < 32 := by omega
      have hj0 : (0 : Int) ≤ (j : Int) := by omega
      replace hT1 := hid hT1
      replace hr1 := hid hr1
      replace hx1 := hid hx1
      go_wp2_with fail
      refine hpk.out.mono ?_
      rintro e w' ⟨rfl, rfl⟩
      clear hpk
      go_wp2_with fail
      go_roundg c
      case measure => omega
      case rel =>
        refine ⟨i + 1, acc ++ pc, by omega, by go_num, ?_, by rw [List.length_append]; omega, hid ?_, hT1.out, hr1.out, hx1.out⟩
        · congr 1
        · rw [hacc.out, hjp.out, hz.out, ← List.take_append_getElem hlx, List.flatMap_append]
          simp
end Go.Proofs.YtpgniljgaknlpaaGreatDoor
