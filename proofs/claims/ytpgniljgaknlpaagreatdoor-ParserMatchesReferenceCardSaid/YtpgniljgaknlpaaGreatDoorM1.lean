import Derived.Test.YtpgniljgaknlpaaGreatDoorR9
import Derived.Test.YtpgniljgaknlpaaGreatDoorK33
import Derived.Test.YtpgniljgaknlpaaGreatDoorK43
import Derived.Test.YtpgniljgaknlpaaGreatDoorK29
/-
  The law of the reference: the walk.
-/
namespace Go.Proofs.YtpgniljgaknlpaaGreatDoor
open Go.RowKit Cdk Tpl

theorem rParse_ok (s : ByteArray) (w : World) {l : List Nd} (h : parse s.data.toList = .ok l) : Calls Tryz.prog 12 #[.string s] w fun e w' => ∃ ao n cap, e = .returned (.tuple #[.slice ao n cap, .int .i64 0, .int .i64 0]) ∧ NodesAt (Since w w') w' (.slice ao n cap) l ∧ Ext w w' :=
  (rParse_any s w).mono fun e w' ⟨hx, h1⟩ => by
    rw [h] at h1
    obtain ⟨v, rfl, hn⟩ := h1
    obtain ⟨ao, n, cap, rfl⟩ := hn.slice
    exact ⟨ao, n, cap, rfl, hn, hx⟩
theorem rParse_bad (s : ByteArray) (w : World) {a : Nat} {k : Int} (h : parse s.data.toList = .error (a, k)) : Calls Tryz.prog 12 #[.string s] w fun e w' => e = .returned (.tuple #[.slice none 0 0, .int .i64 (a : Nat), .int .i64 k]) ∧ Ext w w' :=
  (rParse_any s w).mono fun e w' ⟨hx, h1⟩ => by
    rw [h] at h1
    exact ⟨h1, hx⟩
theorem sourceM_len (xs : List Int) : (sourceS xs).length ≤ 630 := by
  unfold sourceS
  have h1 := src_len (xs.take 30)
  rw [List.length_take] at h1
  omega

set_option maxRecDepth 100000 in
set_option maxHeartbeats 16000000 in
theorem Match_any (s : ByteArray) (xs : List Int) (ao : Option Addr) (cap : Nat) (w : World) (hg : Gl w) (hs : s.size ≤ 9223372036854775807) (hrow : RowIs w ao (xs.flatMap intC)) (hv : ∀ z ∈ xs, -9223372036854775808 ≤ z ∧ z ≤ 9223372036854775807) (hl : xs.length ≤ 9223372036854775807) :
    Calls Tryz.prog 3 #[.string s, .slice ao xs.length cap] w fun e w' => e = .returned (.bool true) ∧ Ext w w' := by
  obtain ⟨post, hpost⟩ : ∃ post : Ending → World → Prop, post = fun e w' => e = .returned (.bool true) ∧ Ext w w' := ⟨_, rfl⟩
  rw [← hpost]
  have hsane := hid (sane_any w hg)
  obtain ⟨n, hn⟩ : ∃ n, n = xs.length := ⟨_, rfl⟩
  rw [← hn] at hl ⊢
  replace hn := hid hn
  replace hpost := hid hpost
  replace hg := hid hg
  replace hrow := hid hrow
  replace hv := hid hv
  go_enter Tryz.func3, Tryz.ntmps3
  go_wp2_with fail
  refine hsane.out.mono ?_
  rintro e w1 ⟨rfl, hx1⟩
  clear hsane
  replace hx1 := hid hx1
  go_wp2_with fail
  have hd0 := (Mod.refl (fun _ => False) w1).drew
  have hm0 : (0 : Int) ≤ min (s.size : Int) 1100 := by omega
  have hm1 : min (s.size : Int) 1100 ≤ (s.size : Int) := by omega
  refine wp_region_sched (fun _ => True) [(0, true), (1, true), (2, true), (3, true), (4, true), (5, true), (9, true), (6, false), (7, false), (8, true)] (by as_aux_lemma => kernel_rfl) (by as_aux_lemma => kernel_rfl) (by as_aux_lemma => kernel_rfl) (by decide) trivial ?_
  simp only [schedOps, List.map_cons, List.map_nil, List.getD_cons_zero, List.getD_cons_succ]
  repeat (first | (refine wpS_q (by rfl) ?_ (fun w' hC => ?_) ?_; rotate_left; (go_simp; try with_reducible rfl); try simp only [Act.put, List.setIfInBounds_toArray, List.set_cons_zero, List.set_cons_succ]))
  generalize (s.extract 0 (min (s.size : Int) 1100).toNat) = b0
  refine wpS_c (by rfl) (fun K hK => ?_)
  go_simp
  have hsrc := Source_any xs ao cap w1.drew (hrow.out.ext (hx1.out.trans hd0)) hv.out (by rw [← hn.out]; exact hl)
  rw [← hn.out] at hsrc
  generalize (⟨(sourceS xs).toArray⟩ : ByteArray) = b1 at hsrc
  refine hsrc.mono ?_
  rintro e w2 ⟨rfl, hx2⟩
  refine hK.out _ _ trivial ?_
  clear hK K hsrc
  try simp only [Act.put, List.setIfInBounds_toArray, List.set_cons_zero, List.set_cons_succ]
  refine wpS_c (by rfl) (fun K hK => ?_)
  go_simp
  refine hK.out _ _ trivial ?_
  clear hK K
  have hxA := (hx1.out.trans (hd0.trans hx2)).alloc (.cells #[.string b0, .string b1] 9)
  have hA := heap_alloc_new w2 (.cells #[.string b0, .string b1] 9)
  generalize w2.heap.size = Z at hA ⊢
  generalize (w2.alloc (.cells #[.string b0, .string b1] 9)) = w3 at hA hxA ⊢
  clear hd0 hx2 hm0 hm1
  replace hxA := hid hxA
  replace hA := hid hA
  replace hx1 := hid hx1
  try simp only [Act.put, List.setIfInBounds_toArray, List.set_cons_zero, List.set_cons_succ]
  repeat (first | (refine wpS_q (by rfl) ?_ (fun w' hC => ?_) ?_; rotate_left; (go_simp; try with_reducible rfl); try simp only [Act.put, List.setIfInBounds_toArray, List.set_cons_zero, List.set_cons_succ]))
  refine wpS_nil ?_
  go_wp2_with fail
  go_loopg [24] 2 (fun g iv wr => ∃ j : Nat, j + g = 2 ∧ iv = .int .i64 j ∧ wr.heap[Z]? = some (.cells #[.string b0, .string b1] 9) ∧ Ext w wr)
  case atStart => exact ⟨0, by omega, rfl, hA.out, hxA.out⟩
  case round =>
    clear hA hxA
    obtain ⟨j, hj, rfl, hA, hxw⟩ := hrel
    by_cases hlt : j < 2
    rotate_left
    · obtain rfl : gk = 0 := by omega
      have hd1 : decide ((j : Int) < 2) = false := decide_eq_false (by omega)
      have hi1 : ¬ (j : Int) < 2 := by omega
      replace hA := hid hA
      replace hxw := hid hxw
      go_wp2_with fail
      rw [hpost.out]
      exact ⟨rfl, hxw.out⟩
    · obtain ⟨c, rfl⟩ : ∃ c, gk = c + 1 := ⟨gk - 1, by omega⟩
      have hd1 : decide ((j : Int) < 2) = true := decide_eq_true (by omega)
      have hi1 : (j : Int) < 2 := by omega
      have hi0 : (0 : Int) ≤ (j : Int) := by omega
      obtain ⟨b, hcell⟩ : ∃ b : ByteArray, wr.cell? ⟨Z, j, none⟩ = some (.string b) := by
        match j, hlt with
        | 0, _ => exact ⟨b0, cell_of' hA 0⟩
        | 1, _ => exact ⟨b1, cell_of' hA 1⟩
      replace hA := hid hA
      replace hxw := hid hxw
      cases hp : parse b.data.toList with
      | error ak =>
        obtain ⟨a, k⟩ := ak
        have hP := hid (Parse_bad b wr hp)
        have hQ := hid (fun w => rParse_bad b w hp)
        have hka : ((a : Int) != (a : Int)) = false := by simp
        have hkk : (k != k) = false := by simp
        replace hp := hid hp
        go_wp2_with fail
        refine hP.out.mono ?_
        rintro e w4 ⟨rfl, hx4⟩
        have hA4 := hid (hx4.at hA.out (fun h => h))
        have hx4 := hid (hxw.out.trans hx4)
        clear hP hxw hA
        go_wp2_with fail
        refine (hQ.out w4).mono ?_
        rintro e w5 ⟨rfl, hx5⟩
        have hA5 := hid (hx5.at hA4.out (fun h => h))
        have hx5 := hid (hx4.out.trans hx5)
        have hR := hid (refSame_any (F := Lo w5) _ _ [] [] w5 (NodesAt.nil _ _) (NodesAt.nil _ _) (fun _ h => h) (by decide) (by decide))
        clear hQ hx4 hA4
        go_wp2_with fail
        refine hR.out.mono ?_
        rintro e w6 ⟨rfl, hx6⟩
        have hA6 := hid (hx6.at hA5.out (fun h => h))
        have hx6 := hid (hx5.out.trans hx6)
        have he : eqL [] [] = true := rfl
        rw [he]
        clear hR hx5 hA5
        go_wp2_with fail
        go_roundg c
        case measure => omega
        case rel => exact ⟨j + 1, by omega, by go_num, hA6.out, hx6.out⟩
      | ok l =>
        have hP := hid (Parse_ok b wr hp)
        have hQ := hid (fun w => rParse_ok b w hp)
        have hsz := hid (parse_szl hp)
        replace hp := hid hp
        go_wp2_with fail
        refine hP.out.mono ?_
        rintro e w4 ⟨a4, n4, c4, rfl, hn4, hx4⟩
        have hA4 := hid (hx4.at hA.out (fun h => h))
        have hx4 := hid (hxw.out.trans hx4)
        have hn4 := hid (hn4.mono (F' := Lo w4) (fun k hk => hk.2))
        clear hP hxw hA
        go_wp2_with fail
        refine (hQ.out w4).mono ?_
        rintro e w5 ⟨a5, n5, c5, rfl, hn5, hx5⟩
        have hA5 := hid (hx5.at hA4.out (fun h => h))
        have hn4 := hn4.out.up hx5
        have hx5 := hid (hx4.out.trans hx5)
        have hn5 := hn5.mono (F' := Lo w5) (fun k hk => hk.2)
        have hR := refSame_any (F := Lo w5) _ _ l l w5 hn4 hn5 (fun _ h => h) (by have := hsz.out; omega) (by have := hsz.out; omega)
        rw [(eqL_iff l l).2 rfl] at hR
        replace hR := hid hR
        clear hQ hx4 hA4 hn4 hn5
        go_wp2_with fail
        refine hR.out.mono ?_
        rintro e w6 ⟨rfl, hx6⟩
        have hA6 := hid (hx6.at hA5.out (fun h => h))
        have hx6 := hid (hx5.out.trans hx6)
        clear hR hx5 hA5
        go_wp2_with fail
        go_roundg c
        case measure => omega
        case rel => exact ⟨j + 1, by omega, by go_num, hA6.out, hx6.out⟩
end Go.Proofs.YtpgniljgaknlpaaGreatDoor
