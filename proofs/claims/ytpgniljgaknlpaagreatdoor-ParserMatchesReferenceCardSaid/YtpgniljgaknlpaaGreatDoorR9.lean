import Derived.Test.YtpgniljgaknlpaaGreatDoorR8
import Derived.Test.YtpgniljgaknlpaaGreatDoorK14
import Derived.Test.YtpgniljgaknlpaaGreatDoorThAll
/-
  The reference parser: it answers as the specification says.
-/
namespace Go.Proofs.YtpgniljgaknlpaaGreatDoor
open Go.RowKit Cdk Tpl

set_option maxRecDepth 100000 in
set_option maxHeartbeats 8000000 in
theorem rParse_any (s : ByteArray) (w : World) : Calls Tryz.prog 12 #[.string s] w (ParseP w s.data.toList) := by
  obtain ⟨post, hpost⟩ : ∃ post, post = ParseP w s.data.toList := ⟨_, rfl⟩
  rw [← hpost]
  replace hpost := hid hpost
  have hTk := hid (rTokens_any s w)
  go_enter Tryz.func12, Tryz.ntmps12
  go_wp2_with fail
  refine hTk.out.mono ?_
  rintro e w1 ⟨hx1, hpo⟩
  clear hTk
  cases ht : tokens s.data.toList with
  | error a =>
    rw [ht] at hpo
    simp only at hpo
    subst hpo
    replace ht := hid ht
    replace hx1 := hid hx1
    go_wp2_with fail
    refine bodyPost_ret (results_tmp3 rfl _ _ _) rfl ?_
    rw [hpost.out]
    refine ⟨hx1.out, ?_⟩
    unfold parse
    rw [ht.out]
    rfl
  | ok ts =>
    rw [ht] at hpo
    simp only at hpo
    obtain ⟨v, rfl, hown⟩ := hpo
    obtain ⟨hnum, htl, hsl⟩ := tokens_num ht
    have hne := (tokens_inv ht).2.2
    have hTO : Hid (TokOk ts) := hid ⟨hnum, hne⟩
    obtain ⟨ao, cap, rfl, hrow, hbl⟩ := hown.row
    have hss : s.data.toList.length = s.size := rfl
    rw [hss] at htl hsl
    have hblk : ∀ b off, ao = some ⟨b, off, none⟩ → b < w1.heap.size := fun b off e => (hown.block b (hbl b off e)).2
    replace ht := hid ht
    replace hx1 := hid hx1
    replace hss := hid hss
    clear hown hnum hne hbl
    go_upto_region 5 with fail
    have hx2 := Mod.alloc (Mod.refl (fun _ => False) w1) (.cells #[.slice ao ts.length cap, .int .i64 0, .int .i64 s.size, .int .i64 0, .int .i64 (-1)] 57)
    have hK := heap_alloc_new w1 (.cells #[.slice ao ts.length cap, .int .i64 0, .int .i64 s.size, .int .i64 0, .int .i64 (-1)] 57)
    have hww := hx1.out.size
    have hxw := hx1.out.trans hx2
    generalize (w1.alloc (.cells #[.slice ao ts.length cap, .int .i64 0, .int .i64 s.size, .int .i64 0, .int .i64 (-1)] 57)) = w2 at hx2 hK hxw ⊢
    generalize w1.heap.size = B at hK hblk hww ⊢
    have hrs : RS B ao cap ts s.size 0 0 (badI none) w2 := ⟨hK, hrow.ext hx2, fun b off e => by have := hblk b off e; omega, Nat.zero_le _, by omega, by omega⟩
    have hL := hid (rlist_any (3 * ts.length + 3) B ao cap ts s.size 0 0 none [] [] [] w2 hrs hTO.out (by omega) (.inl ⟨rfl, rfl, rfl⟩) (fun _ => by omega))
    replace hxw := hid hxw
    replace hrow := hid hrow
    clear hx2 hK hrs
    replace hblk := hid hblk
    go_wp2_with fail
    refine hL.out.mono ?_
    rintro e w3 ⟨ao1, n1, c1, l, x, k', bad', rfl, hnv, hrs3, hm3, hls⟩
    have hm3 : Ext w w3 := ((hxw.out.mono (T := fun k => w.heap.size ≤ k) (fun _ h => h.elim)).trans (hm3.mono (fun k e => by have : B = k := e; omega))).mono' (fun k hk e => by omega)
    have hnv := hid (hnv.mono (F' := Since w w3) (fun k hk => ⟨Nat.le_trans hxw.out.size hk.1, hk.2⟩))
    replace hls := hid hls
    clear hL
    rcases hls.out with ⟨-, hl, -, rfl⟩ | ⟨-, a, ha, rfl⟩ | ⟨a, h, -⟩
    · have hrs4 : RS B ao cap ts s.size k' 0 (-1) w3 := hrs3
      obtain ⟨c0, c1, c2, c3, c4⟩ := hrs4.cells
      replace hrs3 := hid hrs3
      replace hrs4 := hid hrs4
      replace hm3 := hid hm3
      replace hl := hid hl
      go_wp2_with fail
      refine bodyPost_ret (results_tmp3 rfl _ _ _) rfl ?_
      rw [hpost.out]
      refine ⟨hm3.out, ?_⟩
      unfold parse
      rw [ht.out]
      simp only [hss.out, List.drop_zero] at *
      rw [hl.out]
      exact ⟨_, rfl, hnv.out⟩
    · have hrs4 : RS B ao cap ts s.size k' 0 (a : Nat) w3 := hrs3
      obtain ⟨c0, c1, c2, c3, c4⟩ := hrs4.cells
      have i1 : decide ((0 : Int) ≤ (a : Int)) = true := decide_eq_true (by omega)
      have i2 : (0 : Int) ≤ (a : Int) := by omega
      replace hrs3 := hid hrs3
      replace hrs4 := hid hrs4
      replace hm3 := hid hm3
      replace ha := hid ha
      go_wp2_with fail
      go_quiet (fail)
      go_wp2_with fail
      refine bodyPost_ret (results_tmp3 rfl _ _ _) rfl ?_
      rw [hpost.out]
      refine ⟨hm3.out.ofDrewN _, ?_⟩
      unfold parse
      rw [ht.out]
      simp only [hss.out, List.drop_zero] at *
      rw [ha.out]
      rfl
    · cases h
end Go.Proofs.YtpgniljgaknlpaaGreatDoor
