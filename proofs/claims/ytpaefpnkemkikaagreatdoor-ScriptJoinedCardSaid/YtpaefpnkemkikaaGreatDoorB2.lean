import Derived.Test.YtpaefpnkemkikaaGreatDoorB1
import Derived.StillTailTactics
set_option maxRecDepth 100000
set_option maxHeartbeats 16000000
namespace Go.Proofs.YtpaefpnkemkikaaGreatDoor
open Go.RowKit Cdk Scr
theorem rblockSame_any {F : Nat -> Prop} (v1 v2 : Value) (b1 b2 : Bk) (w : World) (h1 : IntsAt F w v1 b1.lb.aft) (h2 : IntsAt F w v2 b2.lb.aft) :
  Calls Tryz.prog 103 #[.agg (bkC (v1, b1)).toArray, .agg (bkC (v2, b2)).toArray] w fun e w' => e = .returned (.bool (decide (b1 = b2))) /\ Ext w w' := by
 obtain ⟨i1, k1, x1, s1, r1, l1⟩ := b1
 obtain ⟨i2, k2, x2, s2, r2, l2⟩ := b2
 simp only at h1 h2
 have hr : Hid (decide ((⟨i1, k1, x1, s1, r1, l1⟩ : Bk) = ⟨i2, k2, x2, s2, r2, l2⟩) = (decide (i1 = i2) && (decide (k1 = k2) && (decide (x1 = x2) && (decide (s1 = s2) && (decide (r1 = r2) && decide (l1 = l2))))))) := hid (by
  rw [Bool.eq_iff_iff]; simp [Bk.mk.injEq])
 rw [hr.out]
 clear hr
 have e1 := int_beq i1 i2
 have e2 := int_beq k1 k2
 have e3 := bs_beq x1 x2
 have e4 := int_beq s1 s2
 have e5 := int_beq r1 r2
 generalize decide (i1 = i2) = d1 at e1 ⊢
 generalize decide (k1 = k2) = d2 at e2 ⊢
 generalize decide (x1 = x2) = d3 at e3 ⊢
 generalize decide (s1 = s2) = d4 at e4 ⊢
 generalize decide (r1 = r2) = d5 at e5 ⊢
 have hx := hid (two_boxes w (bkC (v1, ⟨i1, k1, x1, s1, r1, l1⟩)).toArray (bkC (v2, ⟨i2, k2, x2, s2, r2, l2⟩)).toArray 118 118).1
 have hL := rlabelSame_any v1 v2 l1 l2 _ (h1.ext hx.out) (h2.ext hx.out)
 obtain ⟨ao1, c1, rfl⟩ := h1.slice
 obtain ⟨ao2, c2, rfl⟩ := h2.slice
 clear h1 h2
 obtain ⟨t1, a1, p1, q1⟩ := l1
 obtain ⟨t2, a2, p2, q2⟩ := l2
 unfold bkC lbC strV at *
 simp only at *
 generalize a1.length = n1 at *
 generalize a2.length = n2 at *
 generalize decide ((⟨t1, a1, p1, q1⟩ : Lb) = ⟨t2, a2, p2, q2⟩) = d6 at hL ⊢
 replace hL := hid hL
 go_enter Tryz.func103, Tryz.ntmps103
 go_wp2_with fail
 ·refine hL.out.mono ?_
  rintro e w2 ⟨rfl, hx2⟩
  have hx2 := hid (hx.out.trans hx2)
  go_wp2_with fail
  go_ret
  exact ⟨by simp [*], hx2.out⟩
 all_goals
  go_ret
  exact ⟨by simp [*], hx.out⟩
theorem rblocks_any {F : Nat -> Prop} (v1 v2 : Value) (l1 l2 : List Bk) (w : World) (h1 : BksAt F w v1 l1) (h2 : BksAt F w v2 l2) :
  Calls Tryz.prog 64 #[v1, v2] w fun e w' => e = .returned (.bool (decide (l1 = l2))) /\ Ext w w' := by
 obtain ⟨r, hr⟩ : ∃ r, r = decide (l1 = l2) := ⟨_, rfl⟩
 rw [<- hr]
 have hn0 := h1.len
 obtain ⟨ao1, cap1, rfl⟩ := h1.slice
 obtain ⟨ao2, cap2, rfl⟩ := h2.slice
 obtain ⟨n, hn⟩ : ∃ n, n = l1.length := ⟨_, rfl⟩
 obtain ⟨m, hm⟩ : ∃ m, m = l2.length := ⟨_, rfl⟩
 rw [<- hn] at h1 hn0 ⊢
 rw [<- hm] at h2 ⊢
 have hne : ((n : Int) != (m : Int)) = !decide (n = m) := by rw [Bool.eq_iff_iff, bne_iff_ne]; simp; omega
 replace hn := hid hn
 replace hm := hid hm
 replace h1 := hid h1
 replace h2 := hid h2
 cases hnm : decide (n = m) with
 | false =>
  rw [hnm] at hne
  have hrf : Hid (r = false) := hid (by
   rw [hr, decide_eq_false_iff_not]
   intro e
   rw [decide_eq_false_iff_not] at hnm
   exact hnm (by rw [hn.out, hm.out, e]))
  replace hr := hid hr
  replace hnm := hid hnm
  go_enter Tryz.func64, Tryz.ntmps64
  go_wp2_with fail
  go_ret
  exact ⟨by rw [hrf.out]; rfl, Mod.refl _ _⟩
 | true =>
  rw [hnm] at hne
  obtain rfl : n = m := by simpa using hnm
  clear hnm
  replace hr : r = decide (l1.drop 0 = l2.drop 0) := by rw [hr]; simp
  replace hr := hid hr
  go_enter Tryz.func64, Tryz.ntmps64
  go_wp2_with fail
  go_loopg [5] n (fun g i wr => ∃ j : Nat, j + g = n /\ i = .int .i64 j /\ Ext w wr /\ r = decide (l1.drop j = l2.drop j))
  case atStart => exact ⟨0, by omega, rfl, Mod.refl _ _, hr.out⟩
  case round =>
   clear hne hr
   obtain ⟨j, hj, rfl, hx, hrj⟩ := hrel
   replace hj := hid hj
   by_cases hlt : j < n
   ·have hdi : (j : Int) < (n : Int) := by omega
    have hd : decide ((j : Int) < (n : Int)) = true := decide_eq_true hdi
    have hjl1 : j < l1.length := by have := hn.out; omega
    have hjl2 : j < l2.length := by have := hm.out; omega
    obtain ⟨b1, o1, a1, m1, c3, rfl, -, hF1, hI1, g0, g1, g2, g3, g4, g5, g6, g7, g8⟩ := (h1.out.ext hx).cells hjl1
    obtain ⟨b2, o2, a2, m2, c4, rfl, -, hF2, hI2, f0, f1, f2, f3, f4, f5, f6, f7, f8⟩ := (h2.out.ext hx).cells hjl2
    rw [drop_eq_cons hjl1 hjl2] at hrj
    have hB := fun W (hX : Ext wr W) => rblockSame_any (F := F) (.slice a1 m1 c3) (.slice a2 m2 c4) l1[j] l2[j] W (hI1.ext hX) (hI2.ext hX)
    clear hI1 hI2 hF1 hF2
    generalize hrest : decide (l1.drop (j + 1) = l2.drop (j + 1)) = rest at hrj
    replace hrest := hid hrest
    generalize l1[j] = x at *
    generalize l2[j] = y at *
    obtain ⟨i1, k1, x1, s1, r1, t1, y1, p1, q1⟩ := x
    obtain ⟨i2, k2, x2, s2, r2, t2, y2, p2, q2⟩ := y
    simp only at *
    generalize hdec : decide ((⟨i1, k1, x1, s1, r1, ⟨t1, y1, p1, q1⟩⟩ : Bk) = ⟨i2, k2, x2, s2, r2, ⟨t2, y2, p2, q2⟩⟩) = bb at hrj hB
    clear hdec
    unfold bkC strV at hB
    simp only at hB
    replace hB := hid (hB _ (Mod.refl (fun _ => False) wr).drew)
    replace hrj := hid hrj
    replace hx := hid hx
    go_wp2_with fail
    go_still_tail 8, (by kernel_rfl)
    change wpList _ _ _ _ _ wr.drew
    go_wp2_with fail
    refine hB.out.mono ?_
    rintro e w4 ⟨rfl, hx4⟩
    have hx4 := hid (hx.out.drew.trans hx4)
    clear hB
    cases bb with
    | false =>
     go_wp2_with fail
     go_ret
     exact ⟨by rw [hrj.out]; rfl, hx4.out⟩
    | true =>
     go_wp2_with fail
     go_roundg (gk - 1)
     case measure => have := hj.out; omega
     case rel => exact ⟨j + 1, by have := hj.out; omega, by go_num, hx4.out, by rw [hrj.out, hrest.out, Bool.true_and]⟩
   ·obtain rfl : j = n := by have := hj.out; omega
    have hdi : ¬ (j : Int) < (j : Int) := by omega
    have hd : decide ((j : Int) < (j : Int)) = false := decide_eq_false hdi
    rw [List.drop_eq_nil_of_le (by have := hn.out; omega), List.drop_eq_nil_of_le (by have := hm.out; omega)] at hrj
    replace hrj := hid hrj
    replace hx := hid hx
    go_wp2_with fail
    go_ret
    exact ⟨by rw [hrj.out]; rfl, hx.out⟩
end Go.Proofs.YtpaefpnkemkikaaGreatDoor
