import Derived.Test.YtpgniljgaknlpaaDoorK29
import Derived.Test.YtpgniljgaknlpaaDoorTh6
/-
  The law of the depth: the walk.
-/
namespace Go.Proofs.YtpgniljgaknlpaaDoor
open Go.RowKit Cdk Tpl

theorem src14 : ∀ i : Nat, i < 14 → lexOk (sourceS [(i : Int), 3, 4]) = true ∧ (sourceS [(i : Int), 3, 4]).length ≤ 63 := by decide +kernel
theorem end14 : ∀ i : Nat, i < 14 → lexOk ([120] ++ ends i) = true := by decide +kernel

theorem nest_szL : ∀ L : List Bool, szL (nest L) ≤ 5 + 5 * L.length
  | [] => by simp [nest, szL, szN]
  | true :: L => by
    have := nest_szL L
    simp only [nest, szL, szN, List.length_cons, List.length_nil]; omega
  | false :: L => by
    have := nest_szL L
    simp only [nest, szL, szN, List.length_cons, List.length_nil]; omega
theorem nest_sz (L : List Bool) (h : L.length ≤ 8) : szL (nest L) ≤ 1000000000 := by have := nest_szL L; omega

set_option maxRecDepth 100000 in
set_option maxHeartbeats 16000000 in
theorem Depth_any (deep loops : Int) (ao : Option Addr) (n cap : Nat) (w : World) (hg : Gl w) (hd1 : -9223372036854775808 ≤ deep) (hd2 : deep ≤ 9223372036854775807) (hl1 : -9223372036854775808 ≤ loops) (hl2 : loops ≤ 9223372036854775807) (hn : n ≤ 9223372036854775807) :
    Calls Tryd.prog 4 #[.int .i64 deep, .int .i64 loops, .slice ao n cap] w fun e w' => e = .returned (.bool true) ∧ Ext w w' := by
  obtain ⟨post, hpost⟩ : ∃ post : Ending → World → Prop, post = fun e w' => e = .returned (.bool true) ∧ Ext w w' := ⟨_, rfl⟩
  rw [← hpost]
  have hs := hid (sane_any w hg)
  have hp := fun w => hid (pick_any deep 14 w hd1 hd2 (by omega) (by omega))
  have hD14 := pickS_lt deep (n := 14) (by omega)
  obtain ⟨D, hD⟩ : ∃ D, D = pickS deep 14 := ⟨_, rfl⟩
  rw [← hD] at hp hD14
  have hq := fun w => hid (pick_any loops 16384 w hl1 hl2 (by omega) (by omega))
  have hQ := pickS_lt loops (n := 16384) (by omega)
  obtain ⟨q, hq0⟩ : ∃ q, q = pickS loops 16384 := ⟨_, rfl⟩
  rw [← hq0] at hq hQ
  have hc := fun w => hid (pick_any (n : Int) 14 w (by omega) (by omega) (by omega) (by omega))
  have hc14 := pickS_lt (n : Int) (n := 14) (by omega)
  obtain ⟨ci, hci⟩ : ∃ ci, ci = pickS (n : Int) 14 := ⟨_, rfl⟩
  rw [← hci] at hc hc14
  clear hd1 hd2 hl1 hl2
  replace hD := hid hD
  replace hq0 := hid hq0
  replace hci := hid hci
  replace hpost := hid hpost
  replace hg := hid hg
  go_enter Tryd.func4, Tryd.ntmps4
  go_wp2_with fail
  refine hs.out.mono ?_
  rintro e w1 ⟨rfl, hx1⟩
  clear hs
  replace hx1 := hid hx1
  go_wp2_with fail
  refine (hp w1).out.mono ?_
  rintro e w' ⟨rfl, rfl⟩
  clear hp
  go_wp2_with fail
  go_loopg [8, 9, 10, 11] D (fun g sv ev nv iv wr => ∃ (i : Nat) (L : List Bool) (sb eb : Bs) (nn : Nat), i + g = D ∧ iv = .int .i64 i ∧ sv = .string ⟨sb.toArray⟩ ∧ ev = .string ⟨eb.toArray⟩ ∧ nv = .int .i64 nn ∧ sb.length ≤ 7 * i ∧ eb.length = 5 * i ∧ Hid (L.length = i ∧ sb = tags L ∧ eb = ends i ∧ (8 < i → nn = (tags (L.take 8)).length)) ∧ w1 = wr)
  case atStart => exact ⟨0, [], [], [], 0, by omega, rfl, rfl, rfl, rfl, by simp, by simp, hid ⟨rfl, rfl, rfl, fun h => by omega⟩, rfl⟩
  case round =>
    obtain ⟨i, L, sb, eb, nn, hig, rfl, rfl, rfl, rfl, hsl, hel, hL, rfl⟩ := hrel
    by_cases hpos : 0 < gk
    · obtain ⟨c, rfl⟩ : ∃ c, gk = c + 1 := ⟨gk - 1, by omega⟩
      have hi1 : decide ((i : Int) < (D : Int)) = true := decide_eq_true (by omega)
      have hi2 : (i : Int) < (D : Int) := by omega
      have hi0 : (0 : Int) ≤ (i : Int) := by omega
      have k1 : ¬ 9223372036854775807 < sb.length + 7 := by omega
      have k2 : ¬ 9223372036854775807 < sb.length + 6 := by omega
      have k3 : ¬ 9223372036854775807 < eb.length + 5 := by omega
      by_cases h8 : i = 8
      · have e8 : ((i : Int) == 8) = true := by rw [beq_iff_eq]; omega
        replace h8 := hid h8
        cases hbt : (bits .and .i64 ((q : Int) / 2 ^ i) 1 == 1)
        · go_wp2_with fail
          refine (hq w1).out.mono ?_
          rintro e w' ⟨rfl, rfl⟩
          go_wp2_with fail
          go_roundg c
          case measure => omega
          case rel =>
            obtain ⟨hL1, hL2, hL3, hL4⟩ := hL.out
            refine ⟨i + 1, L ++ [false], sb ++ tagI, eb ++ tagE, sb.length, by omega, by go_num, ?_, ?_, rfl, by rw [List.length_append]; simp [tagI]; omega, by rw [List.length_append]; simp [tagE]; omega, hid ⟨by simp [hL1], by rw [tags_snoc, hL2]; rfl, by rw [hL3]; rfl, fun h => ?_⟩, rfl⟩
            · congr 1
            · congr 1
            · have := h8.out
              rw [List.take_append_of_le_length (by omega), List.take_of_length_le (by omega), hL2]
        · go_wp2_with fail
          refine (hq w1).out.mono ?_
          rintro e w' ⟨rfl, rfl⟩
          go_wp2_with fail
          go_roundg c
          case measure => omega
          case rel =>
            obtain ⟨hL1, hL2, hL3, hL4⟩ := hL.out
            refine ⟨i + 1, L ++ [true], sb ++ tagF, eb ++ tagE, sb.length, by omega, by go_num, ?_, ?_, rfl, by rw [List.length_append]; simp [tagF]; omega, by rw [List.length_append]; simp [tagE]; omega, hid ⟨by simp [hL1], by rw [tags_snoc, hL2]; rfl, by rw [hL3]; rfl, fun h => ?_⟩, rfl⟩
            · congr 1
            · congr 1
            · have := h8.out
              rw [List.take_append_of_le_length (by omega), List.take_of_length_le (by omega), hL2]
      · have e8 : ((i : Int) == 8) = false := by rw [beq_eq_false_iff_ne]; omega
        replace h8 := hid h8
        cases hbt : (bits .and .i64 ((q : Int) / 2 ^ i) 1 == 1)
        · go_wp2_with fail
          refine (hq w1).out.mono ?_
          rintro e w' ⟨rfl, rfl⟩
          go_wp2_with fail
          go_roundg c
          case measure => omega
          case rel =>
            obtain ⟨hL1, hL2, hL3, hL4⟩ := hL.out
            refine ⟨i + 1, L ++ [false], sb ++ tagI, eb ++ tagE, nn, by omega, by go_num, ?_, ?_, rfl, by rw [List.length_append]; simp [tagI]; omega, by rw [List.length_append]; simp [tagE]; omega, hid ⟨by simp [hL1], by rw [tags_snoc, hL2]; rfl, by rw [hL3]; rfl, fun h => ?_⟩, rfl⟩
            · congr 1
            · congr 1
            · have := h8.out
              rw [List.take_append_of_le_length (by omega)]
              exact hL4 (by omega)
        · go_wp2_with fail
          refine (hq w1).out.mono ?_
          rintro e w' ⟨rfl, rfl⟩
          go_wp2_with fail
          go_roundg c
          case measure => omega
          case rel =>
            obtain ⟨hL1, hL2, hL3, hL4⟩ := hL.out
            refine ⟨i + 1, L ++ [true], sb ++ tagF, eb ++ tagE, nn, by omega, by go_num, ?_, ?_, rfl, by rw [List.length_append]; simp [tagF]; omega, by rw [List.length_append]; simp [tagE]; omega, hid ⟨by simp [hL1], by rw [tags_snoc, hL2]; rfl, by rw [hL3]; rfl, fun h => ?_⟩, rfl⟩
            · congr 1
            · congr 1
            · have := h8.out
              rw [List.take_append_of_le_length (by omega)]
              exact hL4 (by omega)
    · obtain rfl : gk = 0 := by omega
      obtain rfl : i = D := by omega
      have hi1 : decide ((i : Int) < (i : Int)) = false := decide_eq_false (by omega)
      have hi2 : ¬ (i : Int) < (i : Int) := by omega
      have k1 : ¬ 9223372036854775807 < sb.length + 1 := by omega
      have k2 : ¬ 9223372036854775807 < sb.length + 1 + eb.length := by omega
      have hgw := hid (hg.out.ext hx1.out)
      have hlen : (tags L ++ ([120] ++ ends L.length)).length ≤ 1000 := by
        obtain ⟨hL1, hL2, hL3, -⟩ := hL.out
        rw [List.length_append, List.length_append, ← hL2, hL1, ← hL3]
        simp; omega
      replace hlen := hid hlen
      by_cases hdeep : 8 < i
      · have d1 : decide ((8 : Int) < (i : Int)) = true := decide_eq_true (by omega)
        have d2 : (8 : Int) < (i : Int) := by omega
        have hb := fun w => Parse_bad ⟨(sb ++ ([120] ++ eb)).toArray⟩ w (a := nn) (k := 100) (by
          obtain ⟨hL1, hL2, hL3, hL4⟩ := hL.out
          have h14 := end14 i (by omega)
          have e := hlen.out
          have := depth_bad (l := L) (by omega) (r := [120] ++ ends L.length) (by rw [hL1]; exact h14) e
          rw [hL4 hdeep, ← this, hL2, hL3, hL1])
        have hb2 := fun w => Parse_bad ⟨(sb ++ sourceS [(ci : Int), 3, 4]).toArray⟩ w (a := nn) (k := 100) (by
          obtain ⟨hL1, hL2, hL3, hL4⟩ := hL.out
          obtain ⟨h14, hs14⟩ := src14 ci hc14
          have := depth_bad (l := L) (by omega) (r := sourceS [(ci : Int), 3, 4]) h14 (by rw [List.length_append, ← hL2]; omega)
          rw [hL4 hdeep, ← this, hL2])
        have k3 : ¬ 9223372036854775807 < sb.length + (sourceS [(ci : Int), 3, 4]).length := by have := (src14 ci hc14).2; omega
        have e1 : ((⟨sb.toArray⟩ ++ ⟨#[120]⟩ ++ ⟨eb.toArray⟩ : ByteArray)) = ⟨(sb ++ ([120] ++ eb)).toArray⟩ := ByteArray.ext (by simp)
        have e2 : ((⟨sb.toArray⟩ ++ ⟨(sourceS [(ci : Int), 3, 4]).toArray⟩ : ByteArray)) = ⟨(sb ++ sourceS [(ci : Int), 3, 4]).toArray⟩ := ByteArray.ext (by simp)
        rw [← e1] at hb
        rw [← e2] at hb2
        replace hb := hid hb
        replace hb2 := hid hb2
        clear e1 e2
        go_wp2_with fail
        refine (hb.out w1).mono ?_
        rintro e w2 ⟨rfl, hx2⟩
        replace hx2 := hid hx2
        clear hb
        go_wp2_with fail
        refine (hc w2).out.mono ?_
        rintro e w' ⟨rfl, rfl⟩
        go_wp2_with fail
        have hxA := Mod.alloc (Mod.refl (fun _ => False) w2) (.cells #[.int .i64 (ci : Int), .int .i64 3, .int .i64 4] 3)
        have hrow := RowIs.new w2 [.int .i64 (ci : Int), .int .i64 3, .int .i64 4] 3
        refine (Source_any [(ci : Int), 3, 4] (some ⟨w2.heap.size, 0, none⟩) 3 _ hrow (by simp only [List.mem_cons, List.not_mem_nil, or_false, forall_eq_or_imp, forall_eq]; omega) (by simp)).mono ?_
        rintro e w3 ⟨rfl, hx3⟩
        have hx3' := hid (hxA.trans hx3)
        clear hx3 hxA hrow
        generalize sourceS [(ci : Int), 3, 4] = ss at hb2 k3 ⊢
        go_wp2_with fail
        refine (hb2.out w3).mono ?_
        rintro e w4 ⟨rfl, hx4⟩
        replace hx4 := hid hx4
        clear hb2
        go_wp2_with fail
        rw [hpost.out]
        exact ⟨rfl, ((hx1.out.trans hx2.out).trans hx3'.out).trans hx4.out⟩
      · have d1 : decide ((8 : Int) < (i : Int)) = false := decide_eq_false (by omega)
        have d2 : ¬ (8 : Int) < (i : Int) := by omega
        obtain ⟨hk1, hk2⟩ : parse (sb ++ ([120] ++ eb)) = .ok (nest L) ∧ Tpl.print (nest L) = some (sb ++ ([120] ++ eb)) := by
          obtain ⟨hL1, hL2, hL3, hL4⟩ := hL.out
          rw [hL2, hL3, ← hL1]
          exact depth_ok (by omega)
        have hb := fun w => Parse_ok ⟨(sb ++ ([120] ++ eb)).toArray⟩ w (l := nest L) hk1
        have e1 : ((⟨sb.toArray⟩ ++ ⟨#[120]⟩ ++ ⟨eb.toArray⟩ : ByteArray)) = ⟨(sb ++ ([120] ++ eb)).toArray⟩ := ByteArray.ext (by simp)
        rw [← e1] at hb
        replace hb := hid hb
        replace hk1 := hid hk1
        replace hk2 := hid hk2
        have hsz := hid (nest_sz L (by have := hL.out.1; omega))
        replace e1 := hid e1
        go_wp2_with fail
        refine (hb.out w1).mono ?_
        rintro e w2 ⟨ao2, n2, c2, rfl, hn2, hx2⟩
        have hgw2 := hid (hgw.out.ext hx2)
        have hpr := hid (Print_ok (F := Since w1 w2) _ (nest L) w2 hk2.out hgw2.out hn2 (fun k hk => hk.2) hsz.out)
        rw [← e1.out] at hpr
        replace hx2 := hid hx2
        replace hn2 := hid hn2
        clear hb
        go_wp2_with fail
        refine hpr.out.mono ?_
        rintro e w3 ⟨rfl, hx3⟩
        replace hx3 := hid hx3
        clear hpr
        go_wp2_with fail
        rw [hpost.out]
        exact ⟨rfl, (hx1.out.trans hx2.out).trans hx3.out⟩
end Go.Proofs.YtpgniljgaknlpaaDoor
