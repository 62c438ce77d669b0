import Derived.Test.YtpgniljgaknlpaaDoorK33
import Derived.Test.YtpgniljgaknlpaaDoorTh5
/-
  The law's 'loops'.
-/
namespace Go.Proofs.YtpgniljgaknlpaaDoor
open Go.RowKit Cdk Tpl

theorem lpN_sz : ∀ (x : Nd), 3 * lpN x ≤ szN x
  | .mk k t n a c f ks es => by
    have h1 := lpL_sz ks
    have h2 := lpL_sz es
    simp only [lpN, szN]
    split <;> omega
where lpL_sz : ∀ (l : List Nd), 3 * lpL l ≤ szL l
  | [] => by simp [lpL, szL]
  | x :: r => by
    have h1 := lpN_sz x
    have h2 := lpL_sz r
    simp only [lpL, szL]
    omega
theorem lpL_sz (l : List Nd) : 3 * lpL l ≤ szL l := by
  have := lpN_sz (.mk 0 [] [] [] 0 [] l [])
  simp only [lpN, szN, lpL, szL, List.length_nil, if_neg (show ¬ 0 = 3 by omega)] at this
  have h := lpN_sz.lpL_sz l
  exact h

theorem lpL_app : ∀ (a b : List Nd), lpL (a ++ b) = lpL a + lpL b
  | [], b => by simp [lpL]
  | x :: a, b => by simp only [List.cons_append, lpL, lpL_app a b]; omega

set_option maxRecDepth 100000 in
set_option maxHeartbeats 16000000 in
theorem loops_step (K : Nat) (ih : ∀ (F : Nat → Prop) (v : Value) (l : List Nd) (w : World), szL l < K → NodesAt F w v l → Calls Tryd.prog 11 #[v] w fun e w' => e = .returned (.int .i64 (lpL l)) ∧ Ext w w')
    (F : Nat → Prop) (v : Value) (l : List Nd) (w : World) (hK : szL l = K) (hK9 : K ≤ 1000000000) (hn1 : NodesAt F w v l) :
    Calls Tryd.prog 11 #[v] w fun e w' => e = .returned (.int .i64 (lpL l)) ∧ Ext w w' := by
  obtain ⟨r, hr⟩ : ∃ r, r = lpL l := ⟨_, rfl⟩
  rw [← hr]
  obtain ⟨ao1, n, c1, rfl⟩ := hn1.slice
  have hn := hn1.count
  have hla := szL_len l
  have hlp := lpL_sz l
  have hnb : n ≤ 1000000000 := by omega
  have hrb : r ≤ 1000000000 := by omega
  clear hla hlp
  replace hn := hid hn
  replace hn1 := hid hn1
  replace ih := hid ih
  replace hK := hid hK
  replace hr := hid hr
  go_enter Tryd.func11, Tryd.ntmps11
  go_wp2_with fail
  go_loopg [3, 4] n (fun g nv iv wr => ∃ (j s : Nat), j + g = n ∧ iv = .int .i64 j ∧ nv = .int .i64 s ∧ s ≤ r ∧ Ext w wr ∧ Hid (r = s + lpL (l.drop j)))
  case atStart => exact ⟨0, 0, by omega, rfl, rfl, by omega, Mod.refl _ _, hid (by rw [hr.out]; simp)⟩
  case round =>
    obtain ⟨wi, rfl⟩ : ∃ wi : World, wi = wr := ⟨_, rfl⟩
    obtain ⟨j, s, hj, rfl, rfl, hs, hx, hrs⟩ := hrel
    by_cases hlt : j < n
    rotate_left
    · obtain rfl : gk = 0 := by omega
      have hd1 : decide ((j : Int) < (n : Int)) = false := decide_eq_false (by omega)
      have hi1 : ¬ (j : Int) < (n : Int) := by omega
      have hrt : Hid (s = r) := hid (by
        rw [hrs.out, List.drop_eq_nil_of_le (by have := hn.out; omega)]; simp [lpL])
      replace hx := hid hx
      go_wp2_with fail
      go_ret
      exact ⟨by rw [← hrt.out]; rfl, hx.out⟩
    · obtain ⟨c, rfl⟩ : ∃ c, gk = c + 1 := ⟨gk - 1, by omega⟩
      have hd1 : decide ((j : Int) < (n : Int)) = true := decide_eq_true (by omega)
      have hi1 : (j : Int) < (n : Int) := by omega
      have hi0 : (0 : Int) ≤ (j : Int) := by omega
      have hja : j < l.length := by have := hn.out; omega
      have hsz : szL (l.drop j) ≤ szL l := by
        have h9 : szL l = szL (l.take j) + szL (l.drop j) := by conv => lhs; rw [← List.take_append_drop j l, szL_app]
        omega
      obtain ⟨b1, o1, kd, tx, nm, ar, ct, a1, m1, x1, a2, m2, x2, a3, m3, x3, fl, ks, es, hao1, hFb1, hx1, hF1, hK1, hE1, g0, g1, g2, g3, g4, g5, g6, g7⟩ := (hn1.out.mod hx (fun _ _ h => h)).node hja
      subst hao1
      have hrs' : r = s + ((if kd = 3 then 1 else 0) + lpL ks + lpL es) + lpL (l.drop (j + 1)) := by
        rw [hrs.out, List.drop_eq_getElem_cons hja, lpL, hx1, lpN]; omega
      rw [szL_drop hja, hx1] at hsz
      simp only [szN] at hsz
      clear hx1 hFb1 hF1 g1 g2 g3 g4 g5 hrs
      have hkl : szL ks < K := by have := hK.out; omega
      have hel : szL es < K := by have := hK.out; omega
      clear hsz
      have d1 : ((kd : Int) == 3) = decide (kd = 3) := by rw [Bool.eq_iff_iff, decide_eq_true_eq, beq_iff_eq]; omega
      obtain ⟨k3, hk3⟩ : ∃ k3, k3 = lpL ks := ⟨_, rfl⟩
      obtain ⟨e3, he3⟩ : ∃ e3, e3 = lpL es := ⟨_, rfl⟩
      rw [← hk3, ← he3] at hrs'
      replace hx := hid hx
      replace hK1 := hid hK1
      replace hE1 := hid hE1
      replace hk3 := hid hk3
      replace he3 := hid he3
      cases hd : decide (kd = 3) with
      | false =>
        rw [hd] at d1
        have hrr : r = s + k3 + e3 + lpL (l.drop (j + 1)) := by
          rw [hrs', if_neg (by simpa using hd)]; omega
        clear hrs'
        obtain ⟨q, hq⟩ : ∃ q, q = lpL (l.drop (j + 1)) := ⟨_, rfl⟩
        rw [← hq] at hrr
        replace hq := hid hq
        replace hd := hid hd
        have ew1 : IntKind.i64.wrap ((s : Int) + (k3 : Int)) = (s : Int) + (k3 : Int) := IntWalk.i64_in _ (by omega)
        have ew2 : IntKind.i64.wrap ((s : Int) + (k3 : Int) + (e3 : Int)) = (s : Int) + (k3 : Int) + (e3 : Int) := IntWalk.i64_in _ (by omega)
        go_wp2_with fail
        have hd0 := (Mod.refl (fun _ => False) wi).drew
        refine wp_region_sched (fun w' => w'.cell? ⟨b1, o1 + j * 8 + 6, none⟩ = some (.slice a2 m2 x2) ∧ w'.cell? ⟨b1, o1 + j * 8 + 7, none⟩ = some (.slice a3 m3 x3)) [(0, true), (1, true), (2, true), (3, true), (4, true), (5, true), (8, true), (9, true), (10, true), (11, true), (12, true), (6, false), (7, true), (13, false), (14, true), (15, true)] (by as_aux_lemma => kernel_rfl) (by as_aux_lemma => kernel_rfl) (by as_aux_lemma => kernel_rfl) (by decide) ⟨hd0.cell g6 (fun h => h), hd0.cell g7 (fun h => h)⟩ ?_
        simp only [schedOps, List.map_cons, List.map_nil, List.getD_cons_zero, List.getD_cons_succ]
        repeat (first | (refine wpS_q (by rfl) ?_ (fun w' hC => ?_) ?_; rotate_left; (go_simp; try with_reducible rfl); try simp only [Act.put, List.setIfInBounds_toArray, List.set_cons_zero, List.set_cons_succ]))
        refine wpS_c (by rfl) (fun K hK => ?_)
        go_simp
        refine (ih.out F _ ks _ hkl (hK1.out.mod hd0 (fun _ _ h => h))).mono ?_
        rw [← hk3.out]
        rintro e w3 ⟨rfl, hx3⟩
        refine hK.out _ _ ⟨(hd0.trans hx3).cell g6 (fun h => h), (hd0.trans hx3).cell g7 (fun h => h)⟩ ?_
        clear hK K
        try simp only [Act.put, List.setIfInBounds_toArray, List.set_cons_zero, List.set_cons_succ]
        repeat (first | (refine wpS_q (by rfl) ?_ (fun w' hC => ?_) ?_; rotate_left; (go_simp; try with_reducible rfl); try simp only [Act.put, List.setIfInBounds_toArray, List.set_cons_zero, List.set_cons_succ]))
        refine wpS_c (by rfl) (fun K hK => ?_)
        go_simp
        refine (ih.out F _ es _ hel (hE1.out.mod (hd0.trans hx3) (fun _ _ h => h))).mono ?_
        rw [← he3.out]
        rintro e w4 ⟨rfl, hx4⟩
        refine hK.out _ _ ⟨((hd0.trans hx3).trans hx4).cell g6 (fun h => h), ((hd0.trans hx3).trans hx4).cell g7 (fun h => h)⟩ ?_
        clear hK K
        try simp only [Act.put, List.setIfInBounds_toArray, List.set_cons_zero, List.set_cons_succ]
        repeat (first | (refine wpS_q (by rfl) ?_ (fun w' hC => ?_) ?_; rotate_left; (go_simp; try with_reducible rfl); try simp only [Act.put, List.setIfInBounds_toArray, List.set_cons_zero, List.set_cons_succ]))
        refine wpS_nil ?_
        have hxw := hid (hx.out.trans ((hd0.trans hx3).trans hx4))
        clear hd0 hx3 hx4 g0 g6 g7
        go_wp2_with fail
        go_roundg c
        case measure => omega
        case rel =>
          refine ⟨j + 1, s + k3 + e3, by omega, by go_num, by go_num, by omega, hxw.out, hid ?_⟩
          rw [← hq.out]; omega
      | true =>
        rw [hd] at d1
        have hrr : r = s + 1 + k3 + e3 + lpL (l.drop (j + 1)) := by
          rw [hrs', if_pos (by simpa using hd)]; omega
        clear hrs'
        obtain ⟨q, hq⟩ : ∃ q, q = lpL (l.drop (j + 1)) := ⟨_, rfl⟩
        rw [← hq] at hrr
        replace hq := hid hq
        replace hd := hid hd
        have ew1 : IntKind.i64.wrap ((s : Int) + 1 + (k3 : Int)) = (s : Int) + 1 + (k3 : Int) := IntWalk.i64_in _ (by omega)
        have ew2 : IntKind.i64.wrap ((s : Int) + 1 + (k3 : Int) + (e3 : Int)) = (s : Int) + 1 + (k3 : Int) + (e3 : Int) := IntWalk.i64_in _ (by omega)
        go_wp2_with fail
        have hd0 := (Mod.refl (fun _ => False) wi).drew
        refine wp_region_sched (fun w' => w'.cell? ⟨b1, o1 + j * 8 + 6, none⟩ = some (.slice a2 m2 x2) ∧ w'.cell? ⟨b1, o1 + j * 8 + 7, none⟩ = some (.slice a3 m3 x3)) [(0, true), (1, true), (2, true), (3, true), (4, true), (5, true), (8, true), (9, true), (10, true), (11, true), (12, true), (6, false), (7, true), (13, false), (14, true), (15, true)] (by as_aux_lemma => kernel_rfl) (by as_aux_lemma => kernel_rfl) (by as_aux_lemma => kernel_rfl) (by decide) ⟨hd0.cell g6 (fun h => h), hd0.cell g7 (fun h => h)⟩ ?_
        simp only [schedOps, List.map_cons, List.map_nil, List.getD_cons_zero, List.getD_cons_succ]
        repeat (first | (refine wpS_q (by rfl) ?_ (fun w' hC => ?_) ?_; rotate_left; (go_simp; try with_reducible rfl); try simp only [Act.put, List.setIfInBounds_toArray, List.set_cons_zero, List.set_cons_succ]))
        refine wpS_c (by rfl) (fun K hK => ?_)
        go_simp
        refine (ih.out F _ ks _ hkl (hK1.out.mod hd0 (fun _ _ h => h))).mono ?_
        rw [← hk3.out]
        rintro e w3 ⟨rfl, hx3⟩
        refine hK.out _ _ ⟨(hd0.trans hx3).cell g6 (fun h => h), (hd0.trans hx3).cell g7 (fun h => h)⟩ ?_
        clear hK K
        try simp only [Act.put, List.setIfInBounds_toArray, List.set_cons_zero, List.set_cons_succ]
        repeat (first | (refine wpS_q (by rfl) ?_ (fun w' hC => ?_) ?_; rotate_left; (go_simp; try with_reducible rfl); try simp only [Act.put, List.setIfInBounds_toArray, List.set_cons_zero, List.set_cons_succ]))
        refine wpS_c (by rfl) (fun K hK => ?_)
        go_simp
        refine (ih.out F _ es _ hel (hE1.out.mod (hd0.trans hx3) (fun _ _ h => h))).mono ?_
        rw [← he3.out]
        rintro e w4 ⟨rfl, hx4⟩
        refine hK.out _ _ ⟨((hd0.trans hx3).trans hx4).cell g6 (fun h => h), ((hd0.trans hx3).trans hx4).cell g7 (fun h => h)⟩ ?_
        clear hK K
        try simp only [Act.put, List.setIfInBounds_toArray, List.set_cons_zero, List.set_cons_succ]
        repeat (first | (refine wpS_q (by rfl) ?_ (fun w' hC => ?_) ?_; rotate_left; (go_simp; try with_reducible rfl); try simp only [Act.put, List.setIfInBounds_toArray, List.set_cons_zero, List.set_cons_succ]))
        refine wpS_nil ?_
        have hxw := hid (hx.out.trans ((hd0.trans hx3).trans hx4))
        clear hd0 hx3 hx4 g0 g6 g7
        go_wp2_with fail
        go_roundg c
        case measure => omega
        case rel =>
          refine ⟨j + 1, s + 1 + k3 + e3, by omega, by go_num, by go_num, by omega, hxw.out, hid ?_⟩
          rw [← hq.out]; omega

theorem loops_all : ∀ (K : Nat), K ≤ 1000000000 → ∀ (F : Nat → Prop) (v : Value) (l : List Nd) (w : World), szL l ≤ K → NodesAt F w v l → Calls Tryd.prog 11 #[v] w fun e w' => e = .returned (.int .i64 (lpL l)) ∧ Ext w w'
  | 0, _, F, v, l, w, h, hn => loops_step 0 (fun _ _ _ _ h => by omega) F v l w (by omega) (by omega) hn
  | K + 1, hK, F, v, l, w, h, hn => by
    by_cases he : szL l = K + 1
    · exact loops_step (K + 1) (fun F v l w h => loops_all K (by omega) F v l w (by omega)) F v l w he hK hn
    · exact loops_all K (by omega) F v l w (by omega) hn

theorem loops_any {F : Nat → Prop} (v : Value) (l : List Nd) (w : World) (hn : NodesAt F w v l) (hs : szL l ≤ 1000000000) :
    Calls Tryd.prog 11 #[v] w fun e w' => e = .returned (.int .i64 (lpL l)) ∧ Ext w w' :=
  loops_all _ hs F v l w (Nat.le_refl _) hn
end Go.Proofs.YtpgniljgaknlpaaDoor
