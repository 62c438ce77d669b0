import Derived.Test.YtpgniljgaknlpaaGreatDoorK26
import Derived.Deep.CutBlock
/-
  The feed's lists of nodes.
-/
namespace Go.Proofs.YtpgniljgaknlpaaGreatDoor
open Go.RowKit Cdk Tpl

def fTexts : List Bs := [[72, 105, 32], [123], [125, 123, 123], [97, 10, 98], [34], [124], [123, 101, 110, 100, 125], [123, 120, 125]]
def fNames : List Bs := [[110, 97, 109, 101], [116, 105, 116, 108, 101], [120, 45, 49]]
def fArgs : List Bs := [[], [99, 105, 116, 121], [123, 97, 125, 32, 124]]
def fCounts : List Int := [0, 5, 999999]

/-- The filters of a field. -/
def filtF (xs : List Int) : Nat → Nat → List Bs → List Bs × Nat
  | 0, at_, acc => (acc, at_)
  | i + 1, at_, acc => filtF xs i (at_ + 1) (acc ++ [wordS xs at_])

/-- A node without what is in it. -/
def headS (xs : List Int) (at_ : Nat) : Nd × Nat :=
  if nextS xs at_ 8 = 0 ∨ nextS xs at_ 8 = 1 then (.mk 1 (fTexts.getD (nextS xs (at_ + 1) 8) []) [] [] 0 [] [] [], at_ + 2)
  else if nextS xs at_ 8 = 2 ∨ nextS xs at_ 8 = 3 ∨ nextS xs at_ 8 = 4 then
    (.mk 2 [] (fNames.getD (nextS xs (at_ + 1) 3) []) [] 0 (filtF xs (nextS xs (at_ + 2) 3) (at_ + 3) []).1 [] [], (filtF xs (nextS xs (at_ + 2) 3) (at_ + 3) []).2)
  else if nextS xs at_ 8 = 5 then (.mk 3 [] (wordS xs (at_ + 1)) (fArgs.getD (nextS xs (at_ + 2) 3) []) (fCounts.getD (nextS xs (at_ + 3) 3) 0) [] [] [], at_ + 4)
  else if nextS xs at_ 8 = 6 then (.mk 4 [] (wordS xs (at_ + 1)) [] 0 [] [] [], at_ + 2)
  else (.mk 5 [] (wordS xs (at_ + 1)) [] 0 [] [] [], at_ + 2)

/-- Is a text the last node? -/
def lastT (acc : List Nd) : Bool := match acc.getLast? with | some x => decide (x.kind = 1) | none => false
def skipS (acc : List Nd) (kd : Nat) (last : Bool) : Bool := (decide (kd = 1) && lastT acc) || (last && (decide (kd = 3) || decide (kd = 4)))
def setKids (nd : Nd) (ks es : List Nd) : Nd := .mk nd.kind nd.text nd.name nd.arg nd.count nd.filters ks es

def loopF (xs : List Int) (rec : Nat → List Nd × Nat) (last : Bool) : Nat → Nat → List Nd → List Nd × Nat
  | 0, at_, acc => (acc, at_)
  | c + 1, at_, acc =>
    if skipS acc (headS xs at_).1.kind last then loopF xs rec last c (headS xs at_).2 acc
    else if (headS xs at_).1.kind = 3 then loopF xs rec last c (rec (headS xs at_).2).2 (acc ++ [setKids (headS xs at_).1 (rec (headS xs at_).2).1 []])
    else if (headS xs at_).1.kind = 4 then loopF xs rec last c (rec (rec (headS xs at_).2).2).2 (acc ++ [setKids (headS xs at_).1 (rec (headS xs at_).2).1 (rec (rec (headS xs at_).2).2).1])
    else loopF xs rec last c (headS xs at_).2 (acc ++ [(headS xs at_).1])

/-- The feed's list where so many loops may still be opened. -/
def flistS (xs : List Int) : Nat → Nat → List Nd × Nat
  | 0, at_ => loopF xs (fun a => ([], a)) true (nextS xs at_ 5) (at_ + 1) []
  | k + 1, at_ => loopF xs (flistS xs k) false (nextS xs at_ 5) (at_ + 1) []

/-- How many numbers a list takes at the most. -/
def useF : Nat → Nat
  | 0 => 29
  | k + 1 => 29 + 8 * useF k

theorem filtF_at (xs : List Int) : ∀ (i at_ : Nat) (acc : List Bs), (filtF xs i at_ acc).2 = at_ + i
  | 0, _, _ => rfl
  | i + 1, at_, acc => by rw [filtF, filtF_at xs i]; omega
theorem filtF_len (xs : List Int) : ∀ (i at_ : Nat) (acc : List Bs), (filtF xs i at_ acc).1.length = acc.length + i
  | 0, _, _ => rfl
  | i + 1, at_, acc => by rw [filtF, filtF_len xs i]; simp; omega

theorem headS_at (xs : List Int) (at_ : Nat) : at_ ≤ (headS xs at_).2 ∧ (headS xs at_).2 ≤ at_ + 5 := by
  unfold headS
  have := nextS_lt xs (at_ + 2) (n := 3) (by omega)
  split
  · simp
  · split
    · simp only [filtF_at]; omega
    · split
      · simp
      · split <;> simp
theorem headS_sz (xs : List Int) (at_ : Nat) : szN (headS xs at_).1 ≤ 5 ∧ (headS xs at_).1.kids = [] ∧ (headS xs at_).1.els = [] := by
  unfold headS
  have := nextS_lt xs (at_ + 2) (n := 3) (by omega)
  split
  · simp [szN, szL, Nd.kids, Nd.els]
  · split
    · simp only [szN, szL, Nd.kids, Nd.els, filtF_len]; simp; omega
    · split
      · simp [szN, szL, Nd.kids, Nd.els]
      · split <;> simp [szN, szL, Nd.kids, Nd.els]

theorem szN_set (nd : Nd) (ks es : List Nd) (h1 : nd.kids = []) (h2 : nd.els = []) : szN (setKids nd ks es) = szN nd + szL ks + szL es := by
  cases nd
  simp only [Nd.kids, Nd.els] at h1 h2
  subst h1; subst h2
  simp [setKids, szN, szL, Nd.filters, Nd.kind]

theorem loopF_bd (xs : List Int) (rec : Nat → List Nd × Nat) (last : Bool) (U Z : Nat) (hU : ∀ a, a ≤ (rec a).2 ∧ (rec a).2 ≤ a + U ∧ szL (rec a).1 ≤ Z) : ∀ (c at_ : Nat) (acc : List Nd),
    at_ ≤ (loopF xs rec last c at_ acc).2 ∧ (loopF xs rec last c at_ acc).2 ≤ at_ + c * (5 + 2 * U) ∧ szL (loopF xs rec last c at_ acc).1 ≤ szL acc + c * (5 + 2 * Z)
  | 0, at_, acc => by simp [loopF]
  | c + 1, at_, acc => by
    have hh := headS_at xs at_
    obtain ⟨hz, hk, he⟩ := headS_sz xs at_
    have m1 : (c + 1) * (5 + 2 * U) = c * (5 + 2 * U) + (5 + 2 * U) := Nat.succ_mul _ _
    have m2 : (c + 1) * (5 + 2 * Z) = c * (5 + 2 * Z) + (5 + 2 * Z) := Nat.succ_mul _ _
    rw [loopF]
    split
    · have := loopF_bd xs rec last U Z hU c (headS xs at_).2 acc
      omega
    · split
      · have h1 := hU (headS xs at_).2
        have := loopF_bd xs rec last U Z hU c (rec (headS xs at_).2).2 (acc ++ [setKids (headS xs at_).1 (rec (headS xs at_).2).1 []])
        rw [szL_app, szL, szN_set _ _ _ hk he] at this
        simp only [szL] at this
        omega
      · split
        · have h1 := hU (headS xs at_).2
          have h2 := hU (rec (headS xs at_).2).2
          have := loopF_bd xs rec last U Z hU c (rec (rec (headS xs at_).2).2).2 (acc ++ [setKids (headS xs at_).1 (rec (headS xs at_).2).1 (rec (rec (headS xs at_).2).2).1])
          rw [szL_app, szL, szN_set _ _ _ hk he] at this
          simp only [szL] at this
          omega
        · have := loopF_bd xs rec last U Z hU c (headS xs at_).2 (acc ++ [(headS xs at_).1])
          rw [szL_app, szL] at this
          simp only [szL] at this
          omega

def sizeF : Nat → Nat
  | 0 => 20
  | k + 1 => 20 + 8 * sizeF k

theorem flistS_bd (xs : List Int) : ∀ (k at_ : Nat), at_ ≤ (flistS xs k at_).2 ∧ (flistS xs k at_).2 ≤ at_ + useF k ∧ szL (flistS xs k at_).1 ≤ sizeF k
  | 0, at_ => by
    have hn := nextS_lt xs at_ (n := 5) (by omega)
    have h := loopF_bd xs (fun a => ([], a)) true 0 0 (fun a => by simp [szL]) (nextS xs at_ 5) (at_ + 1) []
    rw [flistS]
    simp only [szL, useF, sizeF] at h ⊢
    omega
  | k + 1, at_ => by
    have hn := nextS_lt xs at_ (n := 5) (by omega)
    have h := loopF_bd xs (flistS xs k) false (useF k) (sizeF k) (fun a => flistS_bd xs k a) (nextS xs at_ 5) (at_ + 1) []
    rw [flistS]
    have m1 : nextS xs at_ 5 * (5 + 2 * useF k) ≤ 4 * (5 + 2 * useF k) := Nat.mul_le_mul_right _ (by omega)
    have m2 : nextS xs at_ 5 * (5 + 2 * sizeF k) ≤ 4 * (5 + 2 * sizeF k) := Nat.mul_le_mul_right _ (by omega)
    simp only [szL, useF, sizeF] at h ⊢
    omega

/-- 'Nodes'. -/
def nodesS (xs : List Int) : List Nd := (flistS xs 8 0).1
theorem nodesS_sz (xs : List Int) : szL (nodesS xs) ≤ 1000000000 := by
  have := (flistS_bd xs 8 0).2.2
  have h : sizeF 8 ≤ 1000000000 := by decide
  unfold nodesS
  omega
end Go.Proofs.YtpgniljgaknlpaaGreatDoor
