import Derived.Test.YtpaefpnkemkikaaGreatDoorF9
set_option maxRecDepth 100000
set_option maxHeartbeats 16000000
namespace Go.Proofs.YtpaefpnkemkikaaGreatDoor
open Go.Shelf Go.RowKit Cdk Scr
theorem paE_form {w w' : World} {e : Ending} {D : Except Nat (List Ac)} (h : PaE w w' e D) : ∃ (a : Option Addr) (k c : Nat) (n f : Int), e = .returned (.tuple #[.slice a k c, .int .i64 n, .int .i64 f]) := by
 unfold PaE at h
 split at h
 ·obtain ⟨a, c, h, -⟩ := h; exact ⟨_, _, _, _, _, h⟩
 ·exact ⟨_, _, _, _, _, h⟩
theorem acs_rows {w : World} {ao : Option Addr} {n cap : Nat} {l : List Ac} (h : AcsAt (fun k => k < w.heap.size) w (.slice ao n cap) l) :
  ∃ rows : List (AV × Ac), rows.map Prod.snd = l /\ rows.length = n /\ RowIs w ao (rows.flatMap acC) /\ (ao = none -> cap = 0) /\ (∀ y ∈ rows, ∀ u ∈ acC y, u.oneCell' = true) /\ ∀ p ∈ rows, AcAt (fun k => k < w.heap.size) w p.1 p.2 := by
 obtain ⟨rows, h1, ⟨ao', cap', e, h2, -, -, -, h3⟩, h4⟩ := h
 injection e with e1 e2 e3
 subst e1 e3
 refine ⟨rows, h1, e2.symm, h2, h3, fun y hy u hu => ?_, h4⟩
 obtain ⟨sv, a⟩ := y
 obtain ⟨a1, n1, c1, a2, n2, c2, a3, n3, c3, a4, n4, c4, a5, n5, c5, rfl⟩ := acAt_slices (h4 _ hy)
 exact acC_one u hu
theorem joinedL_any (S0 T0 : ByteArray) (hz0 : S0.size <= 140737488351232) (hz1 : T0.size <= 140737488351232) (w : World) (hG : Gl w) :
  Calls Tryz.prog 10 #[.string S0, .string T0] w fun e w' => e = .returned (.bool true) /\ Ext w w' := by
 have hsn := hid (sane_any w hG)
 replace hG := hid hG
 obtain ⟨s0, hs0⟩ : ∃ s0 : Bs, S0 = ⟨s0.toArray⟩ := ⟨S0.data.toList, by simp⟩
 obtain ⟨t0, ht0⟩ : ∃ t0 : Bs, T0 = ⟨t0.toArray⟩ := ⟨T0.data.toList, by simp⟩
 have z0 : S0.size = s0.length := by rw [hs0]; rfl
 have z1 : T0.size = t0.length := by rw [ht0]; rfl
 have x0 := cutN 3000 s0
 have x1 := cutN 3000 t0
 obtain ⟨s, hs⟩ : ∃ s, s = s0.take 3000 := ⟨_, rfl⟩
 obtain ⟨t, ht⟩ : ∃ t, t = t0.take 3000 := ⟨_, rfl⟩
 have hsl : s.length <= 3000 := by rw [hs, List.length_take]; omega
 have htl : t.length <= 3000 := by rw [ht, List.length_take]; omega
 rw [<- hs, <- hs0, <- z0] at x0
 rw [<- ht, <- ht0, <- z1] at x1
 obtain ⟨S, hS⟩ : ∃ S : ByteArray, S = ⟨s.toArray⟩ := ⟨_, rfl⟩
 obtain ⟨T, hT⟩ : ∃ T : ByteArray, T = ⟨t.toArray⟩ := ⟨_, rfl⟩
 rw [<- hS] at x0
 rw [<- hT] at x1
 have x0' : S0.extract 0 (min (S0.size : Int) 3000).toNat = S := x0
 have x1' : T0.extract 0 (min (T0.size : Int) 3000).toNat = T := x1
 have l0 : (0 : Int) <= min (S0.size : Int) 3000 /\ min (S0.size : Int) 3000 <= (S0.size : Int) := by omega
 have l1 : (0 : Int) <= min (T0.size : Int) 3000 /\ min (T0.size : Int) 3000 <= (T0.size : Int) := by omega
 have hSs : S.size <= 3000 := by rw [hS]; exact hsl
 have hTs : T.size <= 3000 := by rw [hT]; exact htl
 have hst : (s ++ 10 :: t).length <= 65536 := by simp; omega
 have hcat : (⟨(s ++ 10 :: t).toArray⟩ : ByteArray) = S ++ ⟨#[10]⟩ ++ T := by
  rw [hS, hT, show (⟨#[10]⟩ : ByteArray) = ⟨([10] : Bs).toArray⟩ from rfl, app_bs, app_bs]; simp
 have hp1 := fun W hGW => parse_any s (by omega) W hGW
 have hp2 := fun W hGW => parse_any t (by omega) W hGW
 have hp3 := fun W hGW => parse_any (s ++ 10 :: t) (by omega) W hGW
 rw [hcat] at hp3
 rw [<- hS] at hp1
 rw [<- hT] at hp2
 clear x0 x1
 replace hp1 := hid hp1
 replace hp2 := hid hp2
 replace hp3 := hid hp3
 replace hcat := hid hcat
 replace hs0 := hid hs0
 replace ht0 := hid ht0
 replace z0 := hid z0
 replace z1 := hid z1
 replace hs := hid hs
 replace ht := hid ht
 replace hS := hid hS
 replace hT := hid hT
 replace hst := hid hst
 go_enter Tryz.func10, Tryz.ntmps10
 go_wp2_with fail
 refine hsn.out.mono ?_; rintro e w1 ⟨rfl, hx1⟩
 have hG1 := hid (hG.out.ext hx1)
 replace hx1 := hid hx1
 clear hsn hG
 go_wp2_with fail
 clear x0' x1' l0 l1
 refine (hp1.out _ hG1.out).mono ?_; rintro e w2 ⟨hx2, hE1⟩
 have hG2 := hid (hG1.out.ext hx2)
 have hx02 := hid (hx1.out.trans hx2)
 clear hp1 hx1 hx2
 unfold PaE at hE1
 cases h1 : parse s with
 | error n =>
  rw [h1] at hE1
  simp only at hE1
  subst hE1
  have hj := joined_err (t := t) hst.out h1
  replace h1 := hid h1
  go_wp2_with fail
  refine (hp2.out _ hG2.out).mono ?_; rintro e w3 ⟨hx3, hE2⟩
  have hG3 := hid (hG2.out.ext hx3)
  have hx03 := hid (hx02.out.trans hx3)
  obtain ⟨a2, k2, c2, n2, f2, rfl⟩ := paE_form hE2
  clear hp2 hx3 hE2
  replace hj := hid hj
  go_wp2_with fail
  refine (hp3.out _ hG3.out).mono ?_; rintro e w4 ⟨hx4, hE3⟩
  unfold PaE at hE3
  rw [hj.out] at hE3
  simp only at hE3
  subst hE3
  have hx04 := hid (hx03.out.trans hx4)
  clear hp3 hx4
  go_wp2_with fail
  go_ret
  exact ⟨rfl, hx04.out⟩
 | ok l =>
  rw [h1] at hE1
  simp only at hE1
  obtain ⟨ao1, cap1, rfl, hA1⟩ := hE1
  have hl100 := (parse_ok h1).2.1
  replace hA1 := hid (hA1.mono (F' := fun k => k < w2.heap.size) (fun k hk => hk.2))
  go_wp2_with fail
  refine (hp2.out _ hG2.out).mono ?_; rintro e w3 ⟨hx3, hE2⟩
  have hG3 := hid (hG2.out.ext hx3)
  have hx03 := hid (hx02.out.trans hx3)
  have hA13 := hid ((hA1.out.ext hx3).mono (F' := fun k => k < w3.heap.size) (fun k hk => by have := hx3.size; omega))
  replace hx3 := hid hx3
  clear hp2 hA1
  unfold PaE at hE2
  cases h2 : parse t with
  | error k =>
   rw [h2] at hE2
   simp only at hE2
   subst hE2
   obtain ⟨g, hj⟩ := joined_bad hst.out h1 h2
   by_cases hl0 : l.length = 0
   ·have hl : l = [] := List.length_eq_zero_iff.1 hl0
    subst hl
    have hj2 := joined_first hst.out h1 h2
    have hkk := (parse_err (by omega) h2).2.1
    have hpt := parts_len 10 t
    have hps := parts_len 10 s
    have hln := fun W => linesL_any s (by omega) W
    rw [<- hS.out] at hln
    obtain ⟨L, hL⟩ : ∃ L, L = parts 10 s := ⟨_, rfl⟩
    rw [<- hL] at hln hj2 hps
    have hw1 : IntKind.i64.wrap ((k : Int) + (L.length : Int)) = ((k + L.length : Nat) : Int) := by rw [IntWalk.i64_in _ (by omega)]; omega
    have hll : ([] : List Ac).length = 0 := rfl
    rw [hll]
    replace h1 := hid h1
    replace h2 := hid h2
    replace hj := hid hj
    replace hj2 := hid hj2
    replace hln := hid hln
    replace hL := hid hL
    clear hl0 hll
    go_wp2_with fail
    refine (hp3.out _ hG3.out).mono ?_; rintro e w4 ⟨hx4, hE3⟩
    unfold PaE at hE3
    rw [hj2.out] at hE3
    simp only at hE3
    subst hE3
    have hx04 := hid (hx03.out.trans hx4)
    clear hp3 hx4
    go_wp2_with fail
    refine (hln.out w4).mono ?_; rintro e w5 ⟨av, cv, rfl, -, hx5⟩
    have hx05 := hid (hx04.out.trans hx5)
    clear hx5
    go_wp2_with fail
    go_ret
    exact ⟨rfl, hx05.out⟩
   ·have b0 : ((l.length : Int) == 0) = false := by rw [beq_eq_false_iff_ne]; omega
    have b0i : ¬ (l.length : Int) = 0 := by omega
    replace h1 := hid h1
    replace h2 := hid h2
    replace hj := hid hj
    replace hl0 := hid hl0
    go_wp2_with fail
    refine (hp3.out _ hG3.out).mono ?_; rintro e w4 ⟨hx4, hE3⟩
    unfold PaE at hE3
    rw [hj.out] at hE3
    simp only at hE3
    subst hE3
    have hx04 := hid (hx03.out.trans hx4)
    clear hp3 hx4
    go_wp2_with fail
    go_ret
    exact ⟨rfl, hx04.out⟩
  | ok m =>
   rw [h2] at hE2
   simp only at hE2
   obtain ⟨ao2, cap2, rfl, hA2⟩ := hE2
   have hm100 := (parse_ok h2).2.1
   have hw1 : IntKind.i64.wrap ((l.length : Int) + (m.length : Int)) = (l.length : Int) + (m.length : Int) := IntWalk.i64_in _ (by omega)
   replace hA2 := hid (hA2.mono (F' := fun k => k < w3.heap.size) (fun k hk => hk.2))
   by_cases h100 : 100 < l.length + m.length
   ·obtain ⟨g, hj⟩ := joined_many hst.out h1 h2 h100
    have hbi : (100 : Int) < (l.length : Int) + (m.length : Int) := by omega
    replace h1 := hid h1
    replace h2 := hid h2
    replace hj := hid hj
    go_wp2_with fail
    refine (hp3.out _ hG3.out).mono ?_; rintro e w4 ⟨hx4, hE3⟩
    unfold PaE at hE3
    rw [hj.out] at hE3
    simp only at hE3
    subst hE3
    have hx04 := hid (hx03.out.trans hx4)
    clear hp3 hx4
    go_wp2_with fail
    go_ret
    exact ⟨rfl, hx04.out⟩
   ·have hj := joined_ok hst.out h1 h2 (by omega)
    have hbi : ¬ (100 : Int) < (l.length : Int) + (m.length : Int) := by omega
    replace h1 := hid h1
    replace h2 := hid h2
    replace hj := hid hj
    go_wp2_with fail
    refine (hp3.out _ hG3.out).mono ?_; rintro e w4 ⟨hx4, hE3⟩
    unfold PaE at hE3
    rw [hj.out] at hE3
    simp only at hE3
    obtain ⟨ao4, cap4, rfl, hA4⟩ := hE3
    obtain ⟨N, hN⟩ : ∃ N, N = (l ++ m).length := ⟨_, rfl⟩
    rw [<- hN] at hA4 ⊢
    have hx04 := hid (hx03.out.trans hx4)
    obtain ⟨rl, hrl1, hrl2, hrl3, hrl4, hrl5, hrl6⟩ := acs_rows ((hA13.out.ext hx4).mono (F' := fun k => k < w4.heap.size) (fun k hk => by have := hx4.size; omega))
    obtain ⟨rm, hrm1, hrm2, hrm3, hrm4, hrm5, hrm6⟩ := acs_rows ((hA2.out.ext hx4).mono (F' := fun k => k < w4.heap.size) (fun k hk => by have := hx4.size; omega))
    have hlen1 : Hid (([] : List (AV × Ac)).length + rl.length <= 137438953472) := hid (by simp; omega)
    have hlen2 : Hid ((([] : List (AV × Ac)) ++ rl).length + rm.length <= 137438953472) := hid (by simp; omega)
    replace hA4 := hid (hA4.mono (F' := fun k => k < w4.heap.size) (fun k hk => hk.2))
    replace hrl1 := hid hrl1
    replace hrl2 := hid hrl2
    replace hrl3 := hid hrl3
    replace hrl4 := hid hrl4
    replace hrl5 := hid hrl5
    replace hrl6 := hid hrl6
    replace hrm1 := hid hrm1
    replace hrm2 := hid hrm2
    replace hrm3 := hid hrm3
    replace hrm4 := hid hrm4
    replace hrm5 := hid hrm5
    replace hrm6 := hid hrm6
    replace hN := hid hN
    clear hp3 hx4 hA13 hA2 hx3
    go_wp2_with (at_builtin; refine wpList_app (base := w4.heap.size) (xs := ([] : List (AV × Ac))) rfl _ _ _ rfl Tryz.underlying37 elA rfl (Own.nil _ _ _ _ _) ao1 _ _ rfl rl hrl2.out hrl3.out acC_len hrl5.out hlen1.out (Nat.le_refl _) hrl4.out (fun v6 w6 H6 => Hid.out ?_); skip)
    obtain ⟨hO6, hm6⟩ := H6.out
    have hx6 := ext_app (Mod.refl (fun _ => False) w4) (Own.nil w4 w4.heap.size 32 36 acC) (Nat.le_refl _) hm6
    have hx06 := hid (hx04.out.trans hx6)
    have hrm3' := hid (hrm3.out.mod hx6 (fun _ _ _ h => h))
    have hs46 : w4.heap.size <= w6.heap.size := hx6.size
    replace hx6 := hid hx6
    replace hO6 := hid hO6
    clear H6 hm6
    refine hid ?_
    go_wp2_with (at_builtin; refine wpList_app (base := w4.heap.size) rfl _ _ _ rfl Tryz.underlying37 elA rfl hO6.out ao2 _ _ rfl rm hrm2.out hrm3'.out acC_len hrm5.out hlen2.out hs46 hrm4.out (fun v7 w7 H7 => ?_); skip)
    obtain ⟨hO7, hm7⟩ := H7.out
    have hx7 := ext_app hx6.out hO6.out (Nat.le_refl _) hm7
    have hx07 := hid (hx04.out.trans hx7)
    have hs47 : w4.heap.size <= w7.heap.size := hx7.size
    have hW : AcsAt (fun k => k < w7.heap.size) w7 v7 (l ++ m) := by
     refine ⟨[] ++ rl ++ rm, by rw [List.nil_append, List.map_append, hrl1.out, hrm1.out], RowAt.mono (own_rowAt hO7 (by simp [hrl2.out, hrm2.out]; omega)) (fun k hk => hk.2), fun p hp => ?_⟩
     rw [List.nil_append] at hp
     rcases List.mem_append.1 hp with hp | hp
     ·exact ((hrl6.out p hp).ext hx7).mono (fun k hk => by omega)
     ·exact ((hrm6.out p hp).ext hx7).mono (fun k hk => by omega)
    have hsm := rsameList_any _ _ (l ++ m) (l ++ m) w7 ((hA4.out.ext hx7).mono (fun k hk => by omega)) hW
    rw [show decide (l ++ m = l ++ m) = true from decide_eq_true rfl] at hsm
    replace hsm := hid hsm
    clear H7 hm7 hx7 hO7 hW
    go_wp2_with fail
    refine hsm.out.mono ?_; rintro e w8 ⟨rfl, hx8⟩
    have hx08 := hid (hx07.out.trans hx8)
    clear hsm hx8
    go_wp2_with fail
    go_ret
    exact ⟨rfl, hx08.out⟩
end Go.Proofs.YtpaefpnkemkikaaGreatDoor
