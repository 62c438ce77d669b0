import Derived.Test.YtpgniljgaknlpaaGreatDoorP1
import Derived.Test.YtpgniljgaknlpaaGreatDoorK22
/-
  The reference printer's 'number' and 'fields'.
-/
namespace Go.Proofs.YtpgniljgaknlpaaGreatDoor
open Go.RowKit Cdk Tpl

/-- The digits of a positive number; none of zero. -/
def dg (n : Nat) : Bs := if n = 0 then [] else dec n
theorem dg_step {m : Nat} (h : 0 < m) : dg m = dg (m / 10) ++ [dig (m % 10)] := by
  unfold dg
  rw [if_neg (by omega)]
  unfold dec
  rw [decF_eq _ _ (by omega), Lib.decDigits]
  by_cases h10 : m < 10
  · rw [dif_pos h10, if_pos (by omega), Nat.mod_eq_of_lt h10]; rfl
  · rw [dif_neg h10, if_neg (by omega), decF_eq _ _ (by omega)]; rfl

set_option maxRecDepth 100000 in
set_option maxHeartbeats 4000000 in
theorem rnumber_any (n : Nat) (hn : n ≤ 999999) (w : World) : Calls Tryz.prog 57 #[.int .i64 n] w fun e w' => e = .returned (.string ⟨(dg n).toArray⟩) ∧ Ext w w' := by
  obtain ⟨post, hpost⟩ : ∃ post : Ending → World → Prop, post = fun e w' => e = .returned (.string ⟨(dg n).toArray⟩) ∧ Ext w w' := ⟨_, rfl⟩
  rw [← hpost]
  replace hpost := hid hpost
  go_enter Tryz.func57, Tryz.ntmps57
  go_wp2_with fail
  go_loopg [0, 3] n (fun g nv sv wr => ∃ (m : Nat) (acc : Bs), acc.length + m ≤ n ∧ nv = .int .i64 m ∧ sv = .string ⟨acc.toArray⟩ ∧ g = m ∧ Hid (dg n = dg m ++ acc) ∧ Ext w wr)
  case atStart => exact ⟨n, [], by simp, rfl, rfl, rfl, hid (by simp), Mod.refl _ _⟩
  case round =>
    obtain ⟨m, acc, hml, rfl, rfl, rfl, hd, hx⟩ := hrel
    by_cases h0 : 0 < gk
    · have h1 : decide ((0 : Int) < (gk : Int)) = true := decide_eq_true (by omega)
      have h2 : (0 : Int) < (gk : Int) := by omega
      obtain ⟨r, hr⟩ : ∃ r, r = gk % 10 := ⟨_, rfl⟩
      have hr10 : r < 10 := by omega
      have hm1 : (gk : Int).tmod 10 = (r : Int) := by rw [Int.tmod_eq_emod_of_nonneg (by omega)]; omega
      have hm2 : (gk : Int) % 10 = (r : Int) := by omega
      have hm3 : IntKind.u8.wrap ((48 : Int) + (r : Int)) = (48 : Int) + (r : Int) := IntWalk.u8_in _ (by omega)
      obtain ⟨t, ht⟩ : ∃ t, t = gk / 10 := ⟨_, rfl⟩
      have hm4 : (gk : Int).tdiv 10 = (t : Int) := by rw [Int.tdiv_eq_ediv_of_nonneg (by omega)]; omega
      have hm5 : (gk : Int) / 10 = (t : Int) := by omega
      have htg : t < gk := by omega
      have hst := hid (dg_step h0)
      rw [← hr, ← ht] at hst
      replace hr := hid hr
      replace ht := hid ht
      replace hx := hid hx
      have k1 : ¬ 9223372036854775807 < 1 + acc.length := by omega
      have hcv : ∀ w' : World, (convert 64 9 (.slice (some ⟨w'.heap.size, 0, none⟩) 1 1)).run Tryz.prog (w'.alloc (.cells #[.int .u8 ((48 : Int) + (r : Int))] 5)) = .ok (.string ⟨#[dig r]⟩) (w'.alloc (.cells #[.int .u8 ((48 : Int) + (r : Int))] 5)) := by
        intro w'
        have hdr : (dig r).toNat = 48 + r := by
          have : ∀ r : Nat, r < 10 → (dig r).toNat = 48 + r := by decide
          exact this r hr10
        have ho : Cdk.Own (w'.alloc (.cells #[.int .u8 ((48 : Int) + (r : Int))] 5)) w'.heap.size 5 1 byteC (.slice (some ⟨w'.heap.size, 0, none⟩) 1 1) [dig r] :=
          ⟨rfl, .inr ⟨w'.heap.size, 1, #[.int .u8 ((48 : Int) + (r : Int))], rfl, Nat.le_refl _, heap_alloc_new w' _, Nat.le_refl _, by decide, rfl, by simp [byteC, hdr]⟩⟩
        exact run_text ho (by simp)
      go_wp2_with fail
      have hx2 := hid (hx.out.alloc (.cells #[.int .u8 ((48 : Int) + (r : Int))] 5))
      go_roundg t
      case measure => exact htg
      case rel =>
        refine ⟨t, dig r :: acc, by simp only [List.length_cons]; omega, rfl, ?_, rfl, hid ?_, hx2.out⟩
        · congr 1
        · rw [hd.out, hst.out, List.append_assoc]; rfl
    · obtain rfl : gk = 0 := by omega
      have h1 : decide ((0 : Int) < ((0 : Nat) : Int)) = false := rfl
      have h2 : ¬ (0 : Int) < ((0 : Nat) : Int) := by omega
      replace hx := hid hx
      go_wp2_with fail
      rw [hpost.out]
      refine ⟨?_, hx.out⟩
      rw [hd.out]
      rfl
end Go.Proofs.YtpgniljgaknlpaaGreatDoor
