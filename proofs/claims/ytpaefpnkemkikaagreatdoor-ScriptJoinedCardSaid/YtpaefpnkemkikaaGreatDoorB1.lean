import Derived.Test.YtpaefpnkemkikaaGreatDoorB0
set_option maxRecDepth 100000
set_option maxHeartbeats 16000000
namespace Go.Proofs.YtpaefpnkemkikaaGreatDoor
open Go.RowKit Cdk Scr
theorem drop_eq_cons {α : Type} [DecidableEq α] {l1 l2 : List α} {j : Nat} (h1 : j < l1.length) (h2 : j < l2.length) : decide (l1.drop j = l2.drop j) = (decide (l1[j] = l2[j]) && decide (l1.drop (j + 1) = l2.drop (j + 1))) := by
 rw [List.drop_eq_getElem_cons h1, List.drop_eq_getElem_cons h2, Bool.eq_iff_iff]; simp only [decide_eq_true_eq, Bool.and_eq_true, List.cons.injEq]
theorem rints_any {F : Nat -> Prop} (v1 v2 : Value) (l1 l2 : List Int) (w : World) (h1 : IntsAt F w v1 l1) (h2 : IntsAt F w v2 l2) :
  Calls Tryz.prog 41 #[v1, v2] w fun e w' => e = .returned (.bool (decide (l1 = l2))) /\ Ext w w' := by
 obtain ⟨r, hr⟩ : ∃ r, r = decide (l1 = l2) := ⟨_, rfl⟩
 rw [<- hr]
 have hn0 := h1.len
 obtain ⟨ao1, cap1, rfl⟩ := h1.slice
 obtain ⟨ao2, cap2, rfl⟩ := h2.slice
 obtain ⟨n, hn⟩ : ∃ n, n = l1.length := ⟨_, rfl⟩
 obtain ⟨m, hm⟩ : ∃ m, m = l2.length := ⟨_, rfl⟩
 rw [<- hn] at h1 hn0 ⊢
 rw [<- hm] at h2 ⊢
 have hne : ((n : Int) != (m : Int)) = !decide (n = m) := by rw [Bool.eq_iff_iff, bne_iff_ne]; simp; omega
 replace hn := hid hn
 replace hm := hid hm
 replace h1 := hid h1
 replace h2 := hid h2
 cases hnm : decide (n = m) with
 | false =>
  rw [hnm] at hne
  have hrf : Hid (r = false) := hid (by
   rw [hr, decide_eq_false_iff_not]
   intro e
   rw [decide_eq_false_iff_not] at hnm
   exact hnm (by rw [hn.out, hm.out, e]))
  replace hr := hid hr
  replace hnm := hid hnm
  go_enter Tryz.func41, Tryz.ntmps41
  go_wp2_with fail
  go_ret
  exact ⟨by rw [hrf.out]; rfl, Mod.refl _ _⟩
 | true =>
  rw [hnm] at hne
  obtain rfl : n = m := by simpa using hnm
  clear hnm
  replace hr : r = decide (l1.drop 0 = l2.drop 0) := by rw [hr]; simp
  replace hr := hid hr
  go_enter Tryz.func41, Tryz.ntmps41
  go_wp2_with fail
  go_loopg [5] n (fun g i wr => ∃ j : Nat, j + g = n /\ i = .int .i64 j /\ Ext w wr /\ r = decide (l1.drop j = l2.drop j))
  case atStart => exact ⟨0, by omega, rfl, Mod.refl _ _, hr.out⟩
  case round =>
   clear hne hr
   obtain ⟨j, hj, rfl, hx, hrj⟩ := hrel
   replace hj := hid hj
   by_cases hlt : j < n
   ·have hdi : (j : Int) < (n : Int) := by omega
    have hd : decide ((j : Int) < (n : Int)) = true := decide_eq_true hdi
    have hjl1 : j < l1.length := by have := hn.out; omega
    have hjl2 : j < l2.length := by have := hm.out; omega
    obtain ⟨b1, o1, rfl, c1⟩ := IntsCell (h1.out.ext hx) hjl1
    obtain ⟨b2, o2, rfl, c2⟩ := IntsCell (h2.out.ext hx) hjl2
    rw [drop_eq_cons hjl1 hjl2] at hrj
    generalize l1[j] = x at c1 hrj
    generalize l2[j] = y at c2 hrj
    have hxy := int_bne x y
    generalize decide (x = y) = p at hxy hrj
    generalize hrest : decide (l1.drop (j + 1) = l2.drop (j + 1)) = rest at hrj
    replace hrj := hid hrj
    replace hrest := hid hrest
    replace hx := hid hx
    cases p with
    | false =>
     go_wp2_with fail
     go_quiet (fail)
     go_wp2_with fail
     go_ret
     exact ⟨by rw [hrj.out]; rfl, hx.out.ofDrewN _⟩
    | true =>
     go_wp2_with fail
     go_quiet (fail)
     go_wp2_with fail
     go_roundg (gk - 1)
     case measure => have := hj.out; omega
     case rel => exact ⟨j + 1, by have := hj.out; omega, by go_num, hx.out.ofDrewN _, by rw [hrj.out, hrest.out, Bool.true_and]⟩
   ·obtain rfl : j = n := by have := hj.out; omega
    have hdi : ¬ (j : Int) < (j : Int) := by omega
    have hd : decide ((j : Int) < (j : Int)) = false := decide_eq_false hdi
    rw [List.drop_eq_nil_of_le (by have := hn.out; omega), List.drop_eq_nil_of_le (by have := hm.out; omega)] at hrj
    replace hrj := hid hrj
    replace hx := hid hx
    go_wp2_with fail
    go_ret
    exact ⟨by rw [hrj.out]; rfl, hx.out⟩
theorem rlabelSame_any {F : Nat -> Prop} (v1 v2 : Value) (l1 l2 : Lb) (w : World) (h1 : IntsAt F w v1 l1.aft) (h2 : IntsAt F w v2 l2.aft) :
  Calls Tryz.prog 65 #[.agg (lbC v1 l1).toArray, .agg (lbC v2 l2).toArray] w fun e w' => e = .returned (.bool (decide (l1 = l2))) /\ Ext w w' := by
 obtain ⟨t1, a1, p1, d1⟩ := l1
 obtain ⟨t2, a2, p2, d2⟩ := l2
 simp only at h1 h2
 obtain ⟨r, hr⟩ : ∃ r, r = decide ((⟨t1, a1, p1, d1⟩ : Lb) = ⟨t2, a2, p2, d2⟩) := ⟨_, rfl⟩
 rw [<- hr]
 replace hr : r = (decide (a1 = a2) && (decide (t1 = t2) && (decide (p1 = p2) && decide (d1 = d2)))) := by
  rw [hr, Bool.eq_iff_iff]; simp only [Lb.mk.injEq, decide_eq_true_eq, Bool.and_eq_true]; exact and_left_comm
 have e1 := int_beq t1 t2
 have e3 := int_beq p1 p2
 have e4 := int_beq d1 d2
 have hn0 := h1.len
 obtain ⟨ao1, cap1, rfl⟩ := h1.slice
 obtain ⟨ao2, cap2, rfl⟩ := h2.slice
 obtain ⟨n, hn⟩ : ∃ n, n = a1.length := ⟨_, rfl⟩
 obtain ⟨m, hm⟩ : ∃ m, m = a2.length := ⟨_, rfl⟩
 rw [<- hn] at h1 hn0 ⊢
 rw [<- hm] at h2 ⊢
 unfold lbC
 dsimp only
 have hne : ((n : Int) != (m : Int)) = !decide (n = m) := by rw [Bool.eq_iff_iff, bne_iff_ne]; simp; omega
 generalize decide (t1 = t2) = b1 at e1 hr
 generalize decide (p1 = p2) = b3 at e3 hr
 generalize decide (d1 = d2) = b4 at e4 hr
 replace hn := hid hn
 replace hm := hid hm
 have hz1 := heap_alloc_new w (.cells #[.int .i64 t1, .slice ao1 n cap1, .int .i64 p1, .int .i64 d1] 26)
 have hz2 := heap_alloc_new (w.alloc (.cells #[.int .i64 t1, .slice ao1 n cap1, .int .i64 p1, .int .i64 d1] 26)) (.cells #[.int .i64 t2, .slice ao2 m cap2, .int .i64 p2, .int .i64 d2] 26)
 have hx1 := Mod.alloc (Mod.refl (fun _ => False) w) (.cells #[.int .i64 t1, .slice ao1 n cap1, .int .i64 p1, .int .i64 d1] 26)
 have hx2 := Mod.alloc (Mod.refl (fun _ => False) (w.alloc (.cells #[.int .i64 t1, .slice ao1 n cap1, .int .i64 p1, .int .i64 d1] 26))) (.cells #[.int .i64 t2, .slice ao2 m cap2, .int .i64 p2, .int .i64 d2] 26)
 replace hz1 := hx2.at hz1 (fun h => h)
 have hsz : (w.alloc (.cells #[.int .i64 t1, .slice ao1 n cap1, .int .i64 p1, .int .i64 d1] 26)).heap.size = w.heap.size + 1 := World.size_alloc _ _
 rw [hsz] at hz2
 replace hx2 := hid (hx1.trans hx2)
 replace hz1 := hid hz1
 replace hz2 := hid hz2
 clear hx1 hsz
 replace h1 := hid h1
 replace h2 := hid h2
 replace hr := hid hr
 go_enter Tryz.func65, Tryz.ntmps65
 go_upto_region 1 with (fail)
 have hsz : (w.alloc (.cells #[.int .i64 t1, .slice ao1 n cap1, .int .i64 p1, .int .i64 d1] 26)).heap.size = w.heap.size + 1 := World.size_alloc _ _
 try rw [hsz]
 clear hsz
 generalize ((w.alloc (.cells #[.int .i64 t1, .slice ao1 n cap1, .int .i64 p1, .int .i64 d1] 26)).alloc (.cells #[.int .i64 t2, .slice ao2 m cap2, .int .i64 p2, .int .i64 d2] 26)) = W at hz1 hz2 hx2 ⊢
 obtain ⟨R, hR⟩ : ∃ R, R = w.heap.size := ⟨_, rfl⟩
 obtain ⟨Q, hQ⟩ : ∃ Q, Q = w.heap.size + 1 := ⟨_, rfl⟩
 rw [<- hQ] at hz2 ⊢
 rw [<- hR] at hz1 ⊢
 replace hR := hid hR
 replace hQ := hid hQ
 cases hnm : decide (n = m) with
 | false =>
  rw [hnm] at hne
  have hrf : Hid (r = false) := hid (by
   rw [hr.out, Bool.and_eq_false_iff]; left
   rw [decide_eq_false_iff_not]
   intro e
   rw [decide_eq_false_iff_not] at hnm
   exact hnm (by rw [hn.out, hm.out, e]))
  replace hnm := hid hnm
  have c1 : W.cell? ⟨R, 1, none⟩ = some (.slice ao1 n cap1) := cell_of' hz1.out 1
  have c2 : W.cell? ⟨Q, 1, none⟩ = some (.slice ao2 m cap2) := cell_of' hz2.out 1
  go_wp2_with fail
  go_ret
  exact ⟨by rw [hrf.out]; rfl, hx2.out⟩
 | true =>
  rw [hnm] at hne
  obtain rfl : n = m := by simpa using hnm
  clear hnm
  replace hr : r = (decide (a1.drop 0 = a2.drop 0) && (b1 && (b3 && b4))) := by rw [hr.out]; simp
  replace hr := hid hr
  have c1 : W.cell? ⟨R, 1, none⟩ = some (.slice ao1 n cap1) := cell_of' hz1.out 1
  have c2 : W.cell? ⟨Q, 1, none⟩ = some (.slice ao2 n cap2) := cell_of' hz2.out 1
  go_wp2_with fail
  clear c1 c2
  go_loopg [5] n (fun g i wr => ∃ j : Nat, j + g = n /\ i = .int .i64 j /\ Ext W wr /\ r = (decide (a1.drop j = a2.drop j) && (b1 && (b3 && b4))))
  case atStart => exact ⟨0, by omega, rfl, Mod.refl _ _, hr.out⟩
  case round =>
   clear hne hr
   obtain ⟨j, hj, rfl, hx, hrj⟩ := hrel
   replace hj := hid hj
   have c1 : wr.cell? ⟨R, 1, none⟩ = some (.slice ao1 n cap1) := cell_of' (hx.at hz1.out (fun h => h)) 1
   have c2 : wr.cell? ⟨Q, 1, none⟩ = some (.slice ao2 n cap2) := cell_of' (hx.at hz2.out (fun h => h)) 1
   by_cases hlt : j < n
   ·have hdi : (j : Int) < (n : Int) := by omega
    have hd : decide ((j : Int) < (n : Int)) = true := decide_eq_true hdi
    have hjl1 : j < a1.length := by have := hn.out; omega
    have hjl2 : j < a2.length := by have := hm.out; omega
    obtain ⟨b1, o1, rfl, g1⟩ := IntsCell (h1.out.ext (hx2.out.trans hx)) hjl1
    obtain ⟨b2, o2, rfl, g2⟩ := IntsCell (h2.out.ext (hx2.out.trans hx)) hjl2
    rw [drop_eq_cons hjl1 hjl2] at hrj
    generalize a1[j] = x at g1 hrj
    generalize a2[j] = y at g2 hrj
    have hxy := int_bne x y
    generalize decide (x = y) = p at hxy hrj
    generalize hrest : decide (a1.drop (j + 1) = a2.drop (j + 1)) = rest at hrj
    replace hrj := hid hrj
    replace hrest := hid hrest
    replace hx := hid hx
    clear e1 e3 e4
    cases p with
    | false =>
     go_wp2_with fail
     go_quiet (fail)
     go_wp2_with fail
     go_ret
     exact ⟨by rw [hrj.out]; rfl, hx2.out.trans (hx.out.ofDrewN _)⟩
    | true =>
     go_wp2_with fail
     go_quiet (fail)
     go_wp2_with fail
     go_roundg (gk - 1)
     case measure => have := hj.out; omega
     case rel => exact ⟨j + 1, by have := hj.out; omega, by go_num, hx.out.ofDrewN _, by rw [hrj.out, hrest.out, Bool.true_and]⟩
   ·obtain rfl : j = n := by have := hj.out; omega
    have hdi : ¬ (j : Int) < (j : Int) := by omega
    have hd : decide ((j : Int) < (j : Int)) = false := decide_eq_false hdi
    rw [List.drop_eq_nil_of_le (by have := hn.out; omega), List.drop_eq_nil_of_le (by have := hm.out; omega)] at hrj
    have s0 : wr.cell? ⟨R, 0, none⟩ = some (.int .i64 t1) := cell_of' (hx.at hz1.out (fun h => h)) 0
    have s2 : wr.cell? ⟨R, 2, none⟩ = some (.int .i64 p1) := cell_of' (hx.at hz1.out (fun h => h)) 2
    have s3 : wr.cell? ⟨R, 3, none⟩ = some (.int .i64 d1) := cell_of' (hx.at hz1.out (fun h => h)) 3
    have u0 : wr.cell? ⟨Q, 0, none⟩ = some (.int .i64 t2) := cell_of' (hx.at hz2.out (fun h => h)) 0
    have u2 : wr.cell? ⟨Q, 2, none⟩ = some (.int .i64 p2) := cell_of' (hx.at hz2.out (fun h => h)) 2
    have u3 : wr.cell? ⟨Q, 3, none⟩ = some (.int .i64 d2) := cell_of' (hx.at hz2.out (fun h => h)) 3
    replace hrj := hid hrj
    replace hx := hid hx
    go_wp2_with fail
    all_goals
     go_ret
     exact ⟨by rw [hrj.out]; simp [*], hx2.out.trans hx.out⟩
end Go.Proofs.YtpaefpnkemkikaaGreatDoor
