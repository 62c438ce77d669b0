import Derived.Test.YtpgniljgaknlpaaGreatDoorK25
/-
  The reference's 'sameStrings' and 'Same'.
-/
namespace Go.Proofs.YtpgniljgaknlpaaGreatDoor
open Go.RowKit Cdk Tpl

set_option maxRecDepth 100000 in
set_option maxHeartbeats 4000000 in
theorem sameStrings_any {F : Nat → Prop} (v1 v2 : Value) (l1 l2 : List Bs) (w : World) (h1 : StrsAt F w v1 l1) (h2 : StrsAt F w v2 l2) (hb : l1.length ≤ 1000000000) :
    Calls Tryz.prog 26 #[v1, v2] w fun e w' => e = .returned (.bool (decide (l1 = l2))) ∧ Ext w w' := by
  obtain ⟨a1, c1, rfl, r1, -⟩ := h1
  obtain ⟨a2, c2, rfl, r2, -⟩ := h2
  obtain ⟨r, hr⟩ : ∃ r, r = decide (l1 = l2) := ⟨_, rfl⟩
  rw [← hr]
  obtain ⟨n, hn⟩ : ∃ n, n = l1.length := ⟨_, rfl⟩
  obtain ⟨m, hm⟩ : ∃ m, m = l2.length := ⟨_, rfl⟩
  rw [← hn] at hb
  rw [← hn, ← hm]
  have hr0 : Hid (r = decide (l1.drop 0 = l2.drop 0)) := hid (by rw [hr]; simp)
  have hne : ((n : Int) != (m : Int)) = !decide (n = m) := by rw [Bool.eq_iff_iff, bne_iff_ne]; simp; omega
  replace hn := hid hn
  replace hm := hid hm
  replace r1 := hid r1
  replace r2 := hid r2
  cases hnm : decide (n = m) with
  | false =>
    rw [hnm] at hne
    have hrf : Hid (r = false) := hid (by
      rw [hr, decide_eq_false_iff_not]
      intro e
      rw [decide_eq_false_iff_not] at hnm
      exact hnm (by rw [hn.out, hm.out, e]))
    replace hr := hid hr
    replace hnm := hid hnm
    go_enter Tryz.func26, Tryz.ntmps26
    go_wp2
    go_ret
    exact ⟨by rw [hrf.out]; rfl, Mod.refl _ _⟩
  | true =>
    rw [hnm] at hne
    replace hr := hid hr
    replace hnm := hid hnm
    go_enter Tryz.func26, Tryz.ntmps26
    go_wp2_with fail
    go_loopg [5] n (fun g iv wr => ∃ i : Nat, i + g = n ∧ iv = .int .i64 i ∧ Ext w wr ∧ Hid (r = decide (l1.drop i = l2.drop i)))
    case atStart => exact ⟨0, by omega, rfl, Mod.refl _ _, hr0⟩
    case round =>
      clear hr0
      obtain ⟨i, hig, rfl, hx, hri⟩ := hrel
      have hmn : m = n := by have := hnm.out; rw [decide_eq_true_eq] at this; exact this.symm
      by_cases hlt : i < n
      · obtain ⟨c, rfl⟩ : ∃ c, gk = c + 1 := ⟨gk - 1, by omega⟩
        have hd1 : decide ((i : Int) < (n : Int)) = true := decide_eq_true (by omega)
        have hi1 : (i : Int) < (n : Int) := by omega
        have hi2 : (i : Int) < (m : Int) := by omega
        have hi0 : (0 : Int) ≤ (i : Int) := by omega
        have q1 : i < l1.length := by have := hn.out; omega
        have q2 : i < l2.length := by have := hm.out; omega
        obtain ⟨b1, o1, rfl, f1⟩ := (r1.out.ext hx).at (by rw [flat_length _ 1 strC_len]; omega)
        obtain ⟨b2, o2, rfl, f2⟩ := (r2.out.ext hx).at (by rw [flat_length _ 1 strC_len]; omega)
        have g1 := f1 _ _ ((flat_get strC 1 strC_len l1 i 0 l1[i] (List.getElem?_eq_getElem q1) (by omega)).trans rfl)
        have g2 := f2 _ _ ((flat_get strC 1 strC_len l2 i 0 l2[i] (List.getElem?_eq_getElem q2) (by omega)).trans rfl)
        simp only [Nat.mul_one, Nat.add_zero, strV] at g1 g2
        clear f1 f2
        rw [List.drop_eq_getElem_cons q1, List.drop_eq_getElem_cons q2] at hri
        generalize l1[i] = x at g1 hri
        generalize l2[i] = y at g2 hri
        replace hx := hid hx
        clear hne
        have d1 : (x == y) = decide (x = y) := by rw [Bool.eq_iff_iff, decide_eq_true_eq, beq_iff_eq]
        have d2 : (x != y) = !decide (x = y) := by rw [Bool.eq_iff_iff, bne_iff_ne]; simp
        cases hxy : decide (x = y) with
        | false =>
          rw [hxy] at d1 d2
          replace hxy := hid hxy
          go_wp2_with fail
          go_quiet (fail)
          go_wp2
          go_ret
          exact ⟨by rw [hri.out]; have := hxy.out; simp only [decide_eq_false_iff_not] at this; simp [this], hx.out.ofDrewN _⟩
        | true =>
          rw [hxy] at d1 d2
          replace hxy := hid hxy
          go_wp2_with fail
          go_quiet (fail)
          go_wp2_with fail
          go_roundg c
          case measure => omega
          case rel =>
            refine ⟨i + 1, by omega, by go_num, hx.out.ofDrewN _, hid ?_⟩
            rw [hri.out]
            have := hxy.out
            simp only [decide_eq_true_eq] at this
            simp [this]
      · obtain rfl : gk = 0 := by omega
        have hd1 : decide ((i : Int) < (n : Int)) = false := decide_eq_false (by omega)
        have hi1 : ¬ (i : Int) < (n : Int) := by omega
        have hrt : Hid (r = true) := hid (by
          rw [hri.out, List.drop_eq_nil_of_le (by have := hn.out; omega), List.drop_eq_nil_of_le (by have := hm.out; omega)]; simp)
        replace hx := hid hx
        clear hmn
        go_wp2_with fail
        go_ret
        exact ⟨by rw [hrt.out]; rfl, hx.out⟩
set_option maxRecDepth 100000 in
set_option maxHeartbeats 16000000 in
theorem refSame_step (K : Nat) (ih : ∀ (F : Nat → Prop) (v1 v2 : Value) (a b : List Nd) (w : World), szL a < K → NodesAt F w v1 a → NodesAt F w v2 b → (∀ k, F k → k < w.heap.size) → szL b ≤ 1000000000 → Calls Tryz.prog 13 #[v1, v2] w fun e w' => e = .returned (.bool (eqL a b)) ∧ Ext w w')
    (F : Nat → Prop) (v1 v2 : Value) (a b : List Nd) (w : World) (hK : szL a = K) (hK9 : K ≤ 1000000000) (hn1 : NodesAt F w v1 a) (hn2 : NodesAt F w v2 b) (hF : ∀ k, F k → k < w.heap.size) (hs2 : szL b ≤ 1000000000) :
    Calls Tryz.prog 13 #[v1, v2] w fun e w' => e = .returned (.bool (eqL a b)) ∧ Ext w w' := by
  obtain ⟨r, hr⟩ : ∃ r, r = eqL a b := ⟨_, rfl⟩
  rw [← hr]
  obtain ⟨ao1, n, c1, rfl⟩ := hn1.slice
  obtain ⟨ao2, m, c2, rfl⟩ := hn2.slice
  have hn := hn1.count
  have hm := hn2.count
  have hla := szL_len a
  have hnb : n ≤ 1000000000 := by omega
  have hr0 : Hid (r = eqL (a.drop 0) (b.drop 0)) := hid (by rw [hr]; simp)
  have hne : ((n : Int) != (m : Int)) = !decide (n = m) := by rw [Bool.eq_iff_iff, bne_iff_ne]; simp; omega
  clear hla
  replace hn := hid hn
  replace hm := hid hm
  replace hn1 := hid hn1
  replace hn2 := hid hn2
  replace hF := hid hF
  replace ih := hid ih
  replace hK := hid hK
  cases hnm : decide (n = m) with
  | false =>
    rw [hnm] at hne
    have hrf : Hid (r = false) := hid (by
      rw [hr]
      refine eqL_len (fun e => ?_)
      rw [decide_eq_false_iff_not] at hnm
      exact hnm (by rw [hn.out, hm.out, e]))
    replace hr := hid hr
    replace hnm := hid hnm
    go_enter Tryz.func13, Tryz.ntmps13
    go_wp2
    go_ret
    exact ⟨by rw [hrf.out]; rfl, Mod.refl _ _⟩
  | true =>
    rw [hnm] at hne
    replace hr := hid hr
    replace hnm := hid hnm
    go_enter Tryz.func13, Tryz.ntmps13
    go_wp2_with fail
    go_loopg [5] n (fun g iv wr => ∃ j : Nat, j + g = n ∧ iv = .int .i64 j ∧ Ext w wr ∧ Hid (r = eqL (a.drop j) (b.drop j)))
    case atStart => exact ⟨0, by omega, rfl, Mod.refl _ _, hr0⟩
    case round =>
      clear hr0
      obtain ⟨wi, rfl⟩ : ∃ wi : World, wi = wr := ⟨_, rfl⟩
      obtain ⟨j, hj, rfl, hx, hr⟩ := hrel
      have hmn : m = n := by have := hnm.out; rw [decide_eq_true_eq] at this; exact this.symm
      by_cases hlt : j < n
      rotate_left
      · obtain rfl : gk = 0 := by omega
        have hd1 : decide ((j : Int) < (n : Int)) = false := decide_eq_false (by omega)
        have hi1 : ¬ (j : Int) < (n : Int) := by omega
        have hrt : Hid (r = true) := hid (by
          rw [hr.out, List.drop_eq_nil_of_le (by have := hn.out; omega), List.drop_eq_nil_of_le (by have := hm.out; omega)]; simp [eqL])
        replace hx := hid hx
        clear hmn
        go_wp2_with fail
        go_ret
        exact ⟨by rw [hrt.out]; rfl, hx.out⟩
      · obtain ⟨c, rfl⟩ : ∃ c, gk = c + 1 := ⟨gk - 1, by omega⟩
        have hd1 : decide ((j : Int) < (n : Int)) = true := decide_eq_true (by omega)
        have hi1 : (j : Int) < (n : Int) := by omega
        have hi2 : (j : Int) < (m : Int) := by omega
        have hi0 : (0 : Int) ≤ (j : Int) := by omega
        have hja : j < a.length := by have := hn.out; omega
        have hjb : j < b.length := by have := hm.out; omega
        have hsz : szL (a.drop j) ≤ szL a := by
          have h9 : szL a = szL (a.take j) + szL (a.drop j) := by conv => lhs; rw [← List.take_append_drop j a, szL_app]
          omega
        have hsy : szL (b.drop j) ≤ szL b := by
          have h9 : szL b = szL (b.take j) + szL (b.drop j) := by conv => lhs; rw [← List.take_append_drop j b, szL_app]
          omega
        have hFi : ∀ k, F k → k < wi.heap.size := fun k hk => Nat.lt_of_lt_of_le (hF.out k hk) hx.size
        obtain ⟨b1, o1, kd, tx, nm, ar, ct, a1, m1, x1, a2, m2, x2, a3, m3, x3, fl, ks, es, hao1, hFb1, hx1, hF1, hK1, hE1, g0, g1, g2, g3, g4, g5, g6, g7⟩ := (hn1.out.mod hx (fun _ _ h => h)).node hja
        obtain ⟨b2, o2, kd', tx', nm', ar', ct', a1', m1', x1', a2', m2', x2', a3', m3', x3', fl', ks', es', hao2, hFb2, hy1, hF2, hK2, hE2, h0, h1, h2, h3, h4, h5, h6, h7⟩ := (hn2.out.mod hx (fun _ _ h => h)).node hjb
        have up2 : ∀ {o : Nat} {v : Value}, wi.cell? ⟨b2, o, none⟩ = some v → ∀ ob, (wi.alloc ob).cell? ⟨b2, o, none⟩ = some v := fun h ob => (Mod.alloc (Mod.refl (fun _ => False) wi) ob).cell h (fun h => h)
        replace h0 := up2 h0
        replace h1 := up2 h1
        replace h2 := up2 h2
        replace h3 := up2 h3
        replace h4 := up2 h4
        replace h5 := up2 h5
        replace h6 := up2 h6
        replace h7 := up2 h7
        clear up2
        subst hao1
        subst hao2
        rw [eqL_drop hja hjb, hx1, hy1] at hr
        rw [szL_drop hja, hx1] at hsz
        rw [szL_drop hjb, hy1] at hsy
        simp only [szN] at hsz hsy
        rw [eqN] at hr
        clear hx1 hy1 hFb1 hFb2
        have d1 : ((kd : Int) != (kd' : Int)) = !decide (kd = kd') := by rw [Bool.eq_iff_iff, bne_iff_ne, Bool.not_eq_true', decide_eq_false_iff_not]; omega
        have d2 : (tx == tx') = decide (tx = tx') := by rw [Bool.eq_iff_iff, decide_eq_true_eq, beq_iff_eq]
        have d2n : (tx != tx') = !decide (tx = tx') := by rw [Bool.eq_iff_iff, bne_iff_ne]; simp
        have d3 : (nm == nm') = decide (nm = nm') := by rw [Bool.eq_iff_iff, decide_eq_true_eq, beq_iff_eq]
        have d3n : (nm != nm') = !decide (nm = nm') := by rw [Bool.eq_iff_iff, bne_iff_ne]; simp
        have d4 : (ar == ar') = decide (ar = ar') := by rw [Bool.eq_iff_iff, decide_eq_true_eq, beq_iff_eq]
        have d4n : (ar != ar') = !decide (ar = ar') := by rw [Bool.eq_iff_iff, bne_iff_ne]; simp
        have d5 : (ct != ct') = !decide (ct = ct') := by rw [Bool.eq_iff_iff, bne_iff_ne]; simp
        generalize decide (kd = kd') = t1 at hr d1
        generalize decide (tx = tx') = t2 at hr d2 d2n
        generalize decide (nm = nm') = t3 at hr d3 d3n
        generalize decide (ar = ar') = t4 at hr d4 d4n
        generalize decide (ct = ct') = t5 at hr d5
        have hflb : fl.length ≤ 1000000000 := by have := hK.out; omega
        have hkl : szL ks < K := by have := hK.out; omega
        have hel : szL es < K := by have := hK.out; omega
        have hkl' : szL ks' ≤ 1000000000 := by omega
        have hel' : szL es' ≤ 1000000000 := by omega
        have hX := (((Mod.refl (fun _ => False) _).alloc (.cells #[.int .i64 kd', .string ⟨tx'.toArray⟩, .string ⟨nm'.toArray⟩, .string ⟨ar'.toArray⟩, .int .i64 ct', .slice a1' m1' x1', .slice a2' m2' x2', .slice a3' m3' x3'] 36)).at (heap_alloc_new wi (.cells #[.int .i64 kd, .string ⟨tx.toArray⟩, .string ⟨nm.toArray⟩, .string ⟨ar.toArray⟩, .int .i64 ct, .slice a1 m1 x1, .slice a2 m2 x2, .slice a3 m3 x3] 36)) (fun h => h))
        have hY := heap_alloc_new (wi.alloc (.cells #[.int .i64 kd, .string ⟨tx.toArray⟩, .string ⟨nm.toArray⟩, .string ⟨ar.toArray⟩, .int .i64 ct, .slice a1 m1 x1, .slice a2 m2 x2, .slice a3 m3 x3] 36)) (.cells #[.int .i64 kd', .string ⟨tx'.toArray⟩, .string ⟨nm'.toArray⟩, .string ⟨ar'.toArray⟩, .int .i64 ct', .slice a1' m1' x1', .slice a2' m2' x2', .slice a3' m3' x3'] 36)
        rw [World.size_alloc] at hY
        have hxy : Ext wi ((wi.alloc (.cells #[.int .i64 kd, .string ⟨tx.toArray⟩, .string ⟨nm.toArray⟩, .string ⟨ar.toArray⟩, .int .i64 ct, .slice a1 m1 x1, .slice a2 m2 x2, .slice a3 m3 x3] 36)).alloc (.cells #[.int .i64 kd', .string ⟨tx'.toArray⟩, .string ⟨nm'.toArray⟩, .string ⟨ar'.toArray⟩, .int .i64 ct', .slice a1' m1' x1', .slice a2' m2' x2', .slice a3' m3' x3'] 36)) := ((Mod.refl (fun _ => False) wi).alloc _).alloc _
        have e1 := hid (hF1.mod hxy (fun _ _ h => h))
        have e2 := hid (hF2.mod hxy (fun _ _ h => h))
        have e3 := hid (hK1.mod hxy (fun _ _ h => h))
        have e4 := hid (hK2.mod hxy (fun _ _ h => h))
        have e5 := hid (hE1.mod hxy (fun _ _ h => h))
        have e6 := hid (hE2.mod hxy (fun _ _ h => h))
        have hFy := hid (fun k hk => Nat.lt_of_lt_of_le (hFi k hk) hxy.size)
        have hxw := hid (hx.trans hxy)
        clear hF1 hF2 hK1 hK2 hE1 hE2 hFi hx hxy hsz hsy hmn hne
        replace hX := hid hX
        replace hY := hid hY
        go_wp2_with fail
        have hX := hX.out
        have hY := hY.out
        generalize hXe : wi.heap.size = X at hX hY ⊢
        generalize ((wi.alloc (.cells #[.int .i64 kd, .string ⟨tx.toArray⟩, .string ⟨nm.toArray⟩, .string ⟨ar.toArray⟩, .int .i64 ct, .slice a1 m1 x1, .slice a2 m2 x2, .slice a3 m3 x3] 36)).alloc (.cells #[.int .i64 kd', .string ⟨tx'.toArray⟩, .string ⟨nm'.toArray⟩, .string ⟨ar'.toArray⟩, .int .i64 ct', .slice a1' m1' x1', .slice a2' m2' x2', .slice a3' m3' x3'] 36)) = wy at hX hY e1 e2 e3 e4 e5 e6 hFy hxw ⊢
        replace hXe := hid hXe
        clear g0 g1 g2 g3 g4 g5 g6 g7 h0 h1 h2 h3 h4 h5 h6 h7
        refine (sameStrings_any _ _ fl fl' wy e1.out e2.out hflb).mono ?_
        generalize decide (fl = fl') = t6 at hr
        rintro e w3 ⟨rfl, hx3⟩
        have hX3 := hx3.at hX (fun h => h)
        have hY3 := hx3.at hY (fun h => h)
        obtain ⟨c0, c1', c2', c3, c4, c5, c6, c7⟩ := cells8 hX3
        obtain ⟨e0, e1', e2', e3', e4', e5', e6', e7⟩ := cells8 hY3
        replace hX3 := hid hX3
        replace hY3 := hid hY3
        have e3 := hid (e3.out.mod hx3 (fun _ _ h => h))
        have e4 := hid (e4.out.mod hx3 (fun _ _ h => h))
        have e5 := hid (e5.out.mod hx3 (fun _ _ h => h))
        have e6 := hid (e6.out.mod hx3 (fun _ _ h => h))
        have hFy := hid (fun k hk => Nat.lt_of_lt_of_le (hFy.out k hk) hx3.size)
        have hxw := hid (hxw.out.trans hx3)
        clear hX hY hx3 e1 e2
        go_wp2_with fail
        refine (ih.out F _ _ ks ks' w3 hkl e3.out e4.out hFy.out hkl').mono ?_
        generalize eqL ks ks' = t7 at hr
        rintro e w4 ⟨rfl, hx4⟩
        have hX4 := hx4.at hX3.out (fun h => h)
        have hY4 := hx4.at hY3.out (fun h => h)
        clear c0 c1' c2' c3 c4 c5 c6 c7 e0 e1' e2' e3' e4' e5' e6' e7
        obtain ⟨c0, c1', c2', c3, c4, c5, c6, c7⟩ := cells8 hX4
        obtain ⟨e0, e1', e2', e3', e4', e5', e6', e7⟩ := cells8 hY4
        replace hX4 := hid hX4
        replace hY4 := hid hY4
        have e5 := hid (e5.out.mod hx4 (fun _ _ h => h))
        have e6 := hid (e6.out.mod hx4 (fun _ _ h => h))
        have hFy := hid (fun k hk => Nat.lt_of_lt_of_le (hFy.out k hk) hx4.size)
        have hxw := hid (hxw.out.trans hx4)
        clear hX3 hY3 hx4 e3 e4
        go_wp2_with fail
        refine (ih.out F _ _ es es' w4 hel e5.out e6.out hFy.out hel').mono ?_
        generalize eqL es es' = t8 at hr
        rintro e w5 ⟨rfl, hx5⟩
        have hX5 := hx5.at hX4.out (fun h => h)
        have hY5 := hx5.at hY4.out (fun h => h)
        clear c0 c1' c2' c3 c4 c5 c6 c7 e0 e1' e2' e3' e4' e5' e6' e7
        obtain ⟨c0, c1', c2', c3, c4, c5, c6, c7⟩ := cells8 hX5
        obtain ⟨e0, e1', e2', e3', e4', e5', e6', e7⟩ := cells8 hY5
        replace hX5 := hid hX5
        replace hY5 := hid hY5
        have hxw := hid (hxw.out.trans hx5)
        clear hX4 hY4 hx5 e5 e6 hFy
        cases t1 with
        | false =>
          go_wp2_with fail
          go_ret
          exact ⟨by rw [hr.out]; simp, hxw.out⟩
        | true =>
          cases t2 with
          | false =>
            go_wp2_with fail
            go_ret
            exact ⟨by rw [hr.out]; simp, hxw.out⟩
          | true =>
            cases t3 with
            | false =>
              go_wp2_with fail
              go_ret
              exact ⟨by rw [hr.out]; simp, hxw.out⟩
            | true =>
              cases t4 with
              | false =>
                go_wp2_with fail
                go_ret
                exact ⟨by rw [hr.out]; simp, hxw.out⟩
              | true =>
                cases t5 with
                | false =>
                  go_wp2_with fail
                  go_ret
                  exact ⟨by rw [hr.out]; simp, hxw.out⟩
                | true =>
                  cases t6 with
                  | false =>
                    go_wp2_with fail
                    go_ret
                    exact ⟨by rw [hr.out]; simp, hxw.out⟩
                  | true =>
                    cases t7 with
                    | false =>
                      go_wp2_with fail
                      go_ret
                      exact ⟨by rw [hr.out]; simp, hxw.out⟩
                    | true =>
                      cases t8 with
                      | false =>
                        go_wp2_with fail
                        go_ret
                        exact ⟨by rw [hr.out]; simp, hxw.out⟩
                      | true =>
                        go_wp2_with fail
                        go_roundg c
                        case measure => omega
                        case rel => exact ⟨j + 1, by omega, by go_num, hxw.out, hid (by rw [hr.out]; simp)⟩

theorem refSame_all : ∀ (K : Nat), K ≤ 1000000000 → ∀ (F : Nat → Prop) (v1 v2 : Value) (a b : List Nd) (w : World), szL a ≤ K → NodesAt F w v1 a → NodesAt F w v2 b → (∀ k, F k → k < w.heap.size) → szL b ≤ 1000000000 → Calls Tryz.prog 13 #[v1, v2] w fun e w' => e = .returned (.bool (eqL a b)) ∧ Ext w w'
  | 0, _, F, v1, v2, a, b, w, h, hn1, hn2, hF, hb => refSame_step 0 (fun _ _ _ _ _ _ h => by omega) F v1 v2 a b w (by omega) (by omega) hn1 hn2 hF hb
  | K + 1, hK, F, v1, v2, a, b, w, h, hn1, hn2, hF, hb => by
    by_cases he : szL a = K + 1
    · exact refSame_step (K + 1) (fun F v1 v2 a b w h => refSame_all K (by omega) F v1 v2 a b w (by omega)) F v1 v2 a b w he hK hn1 hn2 hF hb
    · exact refSame_all K (by omega) F v1 v2 a b w (by omega) hn1 hn2 hF hb

theorem refSame_any {F : Nat → Prop} (v1 v2 : Value) (a b : List Nd) (w : World) (hn1 : NodesAt F w v1 a) (hn2 : NodesAt F w v2 b) (hF : ∀ k, F k → k < w.heap.size) (hs1 : szL a ≤ 1000000000) (hs2 : szL b ≤ 1000000000) :
    Calls Tryz.prog 13 #[v1, v2] w fun e w' => e = .returned (.bool (eqL a b)) ∧ Ext w w' :=
  refSame_all _ hs1 F v1 v2 a b w (Nat.le_refl _) hn1 hn2 hF hs2
end Go.Proofs.YtpgniljgaknlpaaGreatDoor
