import Derived.Test.YtpaefpnkemkikaaGreatDoorC9
set_option maxRecDepth 100000
set_option maxHeartbeats 16000000
namespace Go.Proofs.YtpaefpnkemkikaaGreatDoor
open Go.RowKit Cdk Scr
theorem fused_k0 (a1 : Option Addr) (n1 c1 : Nat) (a2 : Option Addr) (n2 c2 : Nat) (a3 : Option Addr) (n3 c3 : Nat) (n tm st rv bs til app den ed bk se pa cl un : Int) (lg ti au tx nm : Bs) (kd : Int) (w : World) (hk : ∀ i : Int, 1 <= i -> i <= 10 -> kd ≠ i) :
  Calls Tryz.prog 54 #[.agg #[.int .i64 n, .int .i64 tm, .int .i64 kd, .int .i64 st, .string ⟨lg.toArray⟩, .int .i64 rv, .int .i64 bs, .string ⟨ti.toArray⟩, .string ⟨au.toArray⟩, .slice a1 n1 c1, .slice a2 n2 c2, .int .i64 til, .slice a3 n3 c3, .int .i64 app, .int .i64 den, .int .i64 ed, .int .i64 bk, .int .i64 se, .string ⟨tx.toArray⟩, .string ⟨nm.toArray⟩, .int .i64 pa, .int .i64 cl, .int .i64 un]] w fun e w' => e = .returned (.tuple #[.agg #[.int .i64 n, .int .i64 tm, .int .i64 kd, .int .i64 st, .string ⟨#[]⟩, .int .i64 0, .int .i64 0, .string ⟨#[]⟩, .string ⟨#[]⟩, .slice none 0 0, .slice none 0 0, .int .i64 0, .slice none 0 0, .int .i64 0, .int .i64 0, .int .i64 0, .int .i64 0, .int .i64 0, .string ⟨#[]⟩, .string ⟨#[]⟩, .int .i64 0, .int .i64 0, .int .i64 0], .bool (false)]) /\ Ext w w' := by
 obtain ⟨ok, hok⟩ : ∃ ok, ok = (false) := ⟨_, rfl⟩
 rw [<- hok]
 have k1 := hid (fun W => fwithin_any st 1 64 W)
 have k2 := hid (fun W => fwithin_any pa 1 8 W)
 have k3 := hid (fun W => fwithin_any un 0 1000000000 W)
 have e_1 : (kd == 1) = false := by rw [beq_eq_false_iff_ne]; exact hk 1 (by decide) (by decide)
 have e_2 : (kd == 2) = false := by rw [beq_eq_false_iff_ne]; exact hk 2 (by decide) (by decide)
 have e_3 : (kd == 3) = false := by rw [beq_eq_false_iff_ne]; exact hk 3 (by decide) (by decide)
 have e_4 : (kd == 4) = false := by rw [beq_eq_false_iff_ne]; exact hk 4 (by decide) (by decide)
 have e_5 : (kd == 5) = false := by rw [beq_eq_false_iff_ne]; exact hk 5 (by decide) (by decide)
 have e_6 : (kd == 6) = false := by rw [beq_eq_false_iff_ne]; exact hk 6 (by decide) (by decide)
 have e_7 : (kd == 7) = false := by rw [beq_eq_false_iff_ne]; exact hk 7 (by decide) (by decide)
 have e_8 : (kd == 8) = false := by rw [beq_eq_false_iff_ne]; exact hk 8 (by decide) (by decide)
 have e_9 : (kd == 9) = false := by rw [beq_eq_false_iff_ne]; exact hk 9 (by decide) (by decide)
 have e_10 : (kd == 10) = false := by rw [beq_eq_false_iff_ne]; exact hk 10 (by decide) (by decide)
 clear hk
 generalize rng st 1 64 = b1 at k1 hok
 generalize rng pa 1 8 = b2 at k2 hok
 generalize rng un 0 1000000000 = b3 at k3 hok
 replace hok := hid hok
 have h3 := hid (three_boxes w #[.int .i64 n, .int .i64 tm, .int .i64 kd, .int .i64 st, .string ⟨lg.toArray⟩, .int .i64 rv, .int .i64 bs, .string ⟨ti.toArray⟩, .string ⟨au.toArray⟩, .slice a1 n1 c1, .slice a2 n2 c2, .int .i64 til, .slice a3 n3 c3, .int .i64 app, .int .i64 den, .int .i64 ed, .int .i64 bk, .int .i64 se, .string ⟨tx.toArray⟩, .string ⟨nm.toArray⟩, .int .i64 pa, .int .i64 cl, .int .i64 un] zF9 zF9 28 28 28)
 go_enter Tryz.func54, Tryz.ntmps54
 go_wp2_with (refine wpList_storeW rfl 28 _ _ rfl (w.heap.size + 1 + 1) _ _ 28 rfl rfl h3.out.2.2.2 rfl (by kernel_rfl) rfl (fun W H1 => ?_); have q_st : W.cell? ⟨w.heap.size, 3, none⟩ = some (.int .i64 st) := cell_of' (H1.out.2.at h3.out.2.1 (by omega)) 3)
 obtain ⟨hm0, hA0, hV0, -⟩ := h3.out
 clear h3
 have hA := hid (H1.out.2.at hA0 (by omega))
 have hV := hid (H1.out.2.at hV0 (by omega))
 have hU := hid H1.out.1
 have hm := hid ((hm0.mono (T := fun k => w.heap.size <= k) (fun _ h => h.elim)).then H1.out.2 (fun k _ e => by omega))
 clear H1 hA0 hV0 hm0
 have hfin : Hid (∀ w', Mod (fun k => w.heap.size <= k) w w' -> Ext w w') := hid (fun w' h => h.mono' (fun k hk e => by omega))
 generalize w.heap.size = R at hA hV hU hm hfin ⊢
 refine (k1.out _).mono ?_; rintro e w' ⟨rfl, rfl⟩
 have q_pa : W.cell? ⟨R, 20, none⟩ = some (.int .i64 pa) := cell_of' hA.out 20
 have q_un : W.cell? ⟨R, 22, none⟩ = some (.int .i64 un) := cell_of' hA.out 22
 have q_kd : W.cell? ⟨R, 2, none⟩ = some (.int .i64 kd) := cell_of' hA.out 2
 go_wp2_with fail
 refine (k2.out _).mono ?_; rintro e w' ⟨rfl, rfl⟩
 cases b2
 case' false => clear k1 k2 k3 q_st q_pa q_un
 case' true =>
  go_wp2_with fail
  refine (k3.out _).mono ?_; rintro e w' ⟨rfl, rfl⟩
  clear k1 k2 k3 q_st q_pa q_un
 all_goals
  go_wp2_with (first | (refine wpList_loadA rfl 28 _ rfl _ 0 [] [.int .i64 n, .int .i64 tm, .int .i64 kd, .int .i64 st, .string ⟨#[]⟩, .int .i64 0, .int .i64 0, .string ⟨#[]⟩, .string ⟨#[]⟩, .slice none 0 0, .slice none 0 0, .int .i64 0, .slice none 0 0, .int .i64 0, .int .i64 0, .int .i64 0, .int .i64 0, .int .i64 0, .string ⟨#[]⟩, .string ⟨#[]⟩, .int .i64 0, .int .i64 0, .int .i64 0] [] _ _ _ rfl rfl hU.out Tryz.underlying28 rfl (by kernel_rfl) ?_) | (refine wpList_storeA rfl 28 _ _ rfl (R + 1) 0 [] (y1) [] _ 28 rfl rfl rfl hV.out rfl (by kernel_rfl) rfl (fun WF HF => ?_)))
  refine bodyPost_ret (ret_cell_tmp rfl _ _ (R + 1) _ _ _ _ rfl HF.out.1 Tryz.underlying28 rfl (by kernel_rfl)) rfl ?_
  exact ⟨by rw [hok.out]; simp [*] , hfin.out _ (hm.out.then HF.out.2 (fun k _ e => by omega))⟩
theorem fused_k1 (a1 : Option Addr) (n1 c1 : Nat) (a2 : Option Addr) (n2 c2 : Nat) (a3 : Option Addr) (n3 c3 : Nat) (n tm st rv bs til app den ed bk se pa cl un : Int) (lg ti au tx nm : Bs) (tpl : List Bs) (bll : List Bk) (aftl : List Int) (w : World) (h1 : StrsAt (fun k => k < w.heap.size) w (.slice a1 n1 c1) tpl) (h2 : BksAt (fun k => k < w.heap.size) w (.slice a2 n2 c2) bll) (h3 : IntsAt (fun k => k < w.heap.size) w (.slice a3 n3 c3) aftl) :
  Calls Tryz.prog 54 #[.agg (y0 n tm 1 st lg rv bs ti au a1 n1 c1 a2 n2 c2 til a3 n3 c3 app den ed bk se tx nm pa cl un)] w fun e w' => e = .returned (.tuple #[.agg #[.int .i64 n, .int .i64 tm, .int .i64 1, .int .i64 st, .string ⟨lg.toArray⟩, .int .i64 rv, .int .i64 bs, .string ⟨ti.toArray⟩, .string ⟨au.toArray⟩, .slice a1 n1 c1, .slice a2 n2 c2, .int .i64 til, .slice a3 n3 c3, .int .i64 app, .int .i64 den, .int .i64 0, .int .i64 0, .int .i64 0, .string ⟨#[]⟩, .string ⟨#[]⟩, .int .i64 0, .int .i64 0, .int .i64 0], .bool (rng st 1 64 && (isNm lg && (rng rv 1 100 && (rng bs 0 (rv - 1) && (isTx ti && (isNm au && (vTp tpl && (vBks bll && vLb ⟨til, aftl, app, den⟩))))))))]) /\ Ext w w' := by
 obtain ⟨ok, hok⟩ : ∃ ok, ok = (rng st 1 64 && (isNm lg && (rng rv 1 100 && (rng bs 0 (rv - 1) && (isTx ti && (isNm au && (vTp tpl && (vBks bll && vLb ⟨til, aftl, app, den⟩)))))))) := ⟨_, rfl⟩
 rw [<- hok]
 have k1 := hid (fun W => fwithin_any st 1 64 W)
 have k2 := hid (fun W => fwithin_any pa 1 8 W)
 have k3 := hid (fun W => fwithin_any un 0 1000000000 W)
 have k4 := hid (fun W (hX : Mod (fun k => w.heap.size <= k) w W) => frevision_any a1 n1 c1 a2 n2 c2 a3 n3 c3 ⟨n, tm, 1, st, lg, rv, bs, ti, au, tpl, bll, ⟨til, aftl, app, den⟩, ed, bk, se, tx, nm, pa, cl, un⟩ W (h1.mod hX (fun k h1 h2 => by omega)) (h2.mod hX (fun k h1 h2 => by omega)) (h3.mod hX (fun k h1 h2 => by omega)))
 unfold fcA at k4
 simp only at k4
 clear h1 h2 h3
 generalize (isNm lg && (rng rv 1 100 && (rng bs 0 (rv - 1) && (isTx ti && (isNm au && (vTp tpl && (vBks bll && vLb ⟨til, aftl, app, den⟩))))))) = b4 at k4 hok
 generalize rng st 1 64 = b1 at k1 hok
 generalize rng pa 1 8 = b2 at k2 hok
 generalize rng un 0 1000000000 = b3 at k3 hok
 replace hok := hid hok
 have h3 := hid (three_boxes w (y0 n tm 1 st lg rv bs ti au a1 n1 c1 a2 n2 c2 til a3 n3 c3 app den ed bk se tx nm pa cl un) zF9 zF9 28 28 28)
 go_enter Tryz.func54, Tryz.ntmps54
 go_wp2_with (refine wpList_storeW rfl 28 _ _ rfl (w.heap.size + 1 + 1) _ _ 28 rfl rfl h3.out.2.2.2 rfl (by kernel_rfl) rfl (fun W H1 => ?_); have q_st : W.cell? ⟨w.heap.size, 3, none⟩ = some (.int .i64 st) := cell_of' (H1.out.2.at h3.out.2.1 (by omega)) 3)
 obtain ⟨hm0, hA0, hV0, -⟩ := h3.out
 clear h3
 have hA := hid (H1.out.2.at hA0 (by omega))
 have hV := hid (H1.out.2.at hV0 (by omega))
 have hU := hid H1.out.1
 have hm := hid ((hm0.mono (T := fun k => w.heap.size <= k) (fun _ h => h.elim)).then H1.out.2 (fun k _ e => by omega))
 clear H1 hA0 hV0 hm0
 have hfin : Hid (∀ w', Mod (fun k => w.heap.size <= k) w w' -> Ext w w') := hid (fun w' h => h.mono' (fun k hk e => by omega))
 generalize w.heap.size = R at hA hV hU hm hfin k4 ⊢
 refine (k1.out _).mono ?_; rintro e w' ⟨rfl, rfl⟩
 have q_pa : W.cell? ⟨R, 20, none⟩ = some (.int .i64 pa) := cell_of' hA.out 20
 have q_un : W.cell? ⟨R, 22, none⟩ = some (.int .i64 un) := cell_of' hA.out 22
 have q_kd : W.cell? ⟨R, 2, none⟩ = some (.int .i64 1) := cell_of' hA.out 2
 go_wp2_with fail
 refine (k2.out _).mono ?_; rintro e w' ⟨rfl, rfl⟩
 cases b2
 case' false => clear k1 k2 k3 q_st q_pa q_un
 case' true =>
  go_wp2_with fail
  refine (k3.out _).mono ?_; rintro e w' ⟨rfl, rfl⟩
  clear k1 k2 k3 q_st q_pa q_un
 all_goals
  go_wp2_with fail
  refine wp_region_sched (fun w' => w'.cell? ⟨R, 4, none⟩ = some (.string ⟨lg.toArray⟩) /\ w'.cell? ⟨R, 5, none⟩ = some (.int .i64 rv) /\ w'.cell? ⟨R, 6, none⟩ = some (.int .i64 bs) /\ w'.cell? ⟨R, 7, none⟩ = some (.string ⟨ti.toArray⟩) /\ w'.cell? ⟨R, 8, none⟩ = some (.string ⟨au.toArray⟩)) [(0, true), (1, true), (2, true), (3, true), (4, true), (5, true), (6, true), (7, true), (8, true), (9, true), (10, true), (11, false), (12, true), (13, false), (14, true), (15, false), (16, true), (17, false), (18, true), (19, false)] (by as_aux_lemma => kernel_rfl) (by as_aux_lemma => kernel_rfl) (by as_aux_lemma => kernel_rfl) (by decide) ⟨cell_of' hA.out 4, cell_of' hA.out 5, cell_of' hA.out 6, cell_of' hA.out 7, cell_of' hA.out 8⟩ ?_
  have hA0 := hid ((Mod.drew0 (fun _ => False) _).at hA.out (fun h => h))
  have hV0 := hid ((Mod.drew0 (fun _ => False) _).at hV.out (fun h => h))
  have hU0 := hid ((Mod.drew0 (fun _ => False) _).at hU.out (fun h => h))
  have hm0 := hid hm.out.drew
  clear hA hV hU hm
  generalize W.drew = wd0 at hA0 hV0 hU0 hm0 ⊢
  simp only [schedOps, List.map_cons, List.map_nil, List.getD_cons_zero, List.getD_cons_succ]
  repeat (first | (refine qT ?_) | (refine nT ?_))
  have c_lg : wd0.cell? ⟨R + 1 + 1, 4, none⟩ = some (.string ⟨#[]⟩) := cell_of' hU0.out 4
  have z := free_of' hU0.out
  refine wpS_c (by rfl) (fun K hK => ?_)
  go_simp
  clear z c_lg
  have hU1 := (put_at' (hU0.out) 4 (.string ⟨lg.toArray⟩))
  simp only [sA, sZ, sS] at hU1
  replace hU1 := hid hU1
  have hA1 := hid ((put_ne' _ 4 (.string ⟨lg.toArray⟩) (show R + 1 + 1 ≠ R by omega)).trans (hA0.out))
  have hV1 := hid ((put_ne' _ 4 (.string ⟨lg.toArray⟩) (show R + 1 + 1 ≠ R + 1 by omega)).trans (hV0.out))
  have hm1 := hid (hm0.out.setCell (a := ⟨R + 1 + 1, 4, none⟩) (fun _ => by show R <= R + 1 + 1; omega) (.string ⟨lg.toArray⟩))
  clear hU0 hA0 hV0 hm0
  generalize (wd0.setCell ⟨R + 1 + 1, 4, none⟩ (.string ⟨lg.toArray⟩)) = wd1 at hU1 hA1 hV1 hm1 ⊢
  refine hK.out _ _ ⟨cell_of' hA1.out 4, cell_of' hA1.out 5, cell_of' hA1.out 6, cell_of' hA1.out 7, cell_of' hA1.out 8⟩ ?_
  clear hK K
  try simp only [Act.put, sA, sZ, sS]
  repeat (first | (refine qT ?_) | (refine nT ?_))
  have c_rv : wd1.cell? ⟨R + 1 + 1, 5, none⟩ = some (.int .i64 0) := cell_of' hU1.out 5
  have z := free_of' hU1.out
  refine wpS_c (by rfl) (fun K hK => ?_)
  go_simp
  clear z c_rv
  have hU2 := (put_at' (hU1.out) 5 (.int .i64 rv))
  simp only [sA, sZ, sS] at hU2
  replace hU2 := hid hU2
  have hA2 := hid ((put_ne' _ 5 (.int .i64 rv) (show R + 1 + 1 ≠ R by omega)).trans (hA1.out))
  have hV2 := hid ((put_ne' _ 5 (.int .i64 rv) (show R + 1 + 1 ≠ R + 1 by omega)).trans (hV1.out))
  have hm2 := hid (hm1.out.setCell (a := ⟨R + 1 + 1, 5, none⟩) (fun _ => by show R <= R + 1 + 1; omega) (.int .i64 rv))
  clear hU1 hA1 hV1 hm1
  generalize (wd1.setCell ⟨R + 1 + 1, 5, none⟩ (.int .i64 rv)) = wd2 at hU2 hA2 hV2 hm2 ⊢
  refine hK.out _ _ ⟨cell_of' hA2.out 4, cell_of' hA2.out 5, cell_of' hA2.out 6, cell_of' hA2.out 7, cell_of' hA2.out 8⟩ ?_
  clear hK K
  try simp only [Act.put, sA, sZ, sS]
  repeat (first | (refine qT ?_) | (refine nT ?_))
  have c_bs : wd2.cell? ⟨R + 1 + 1, 6, none⟩ = some (.int .i64 0) := cell_of' hU2.out 6
  have z := free_of' hU2.out
  refine wpS_c (by rfl) (fun K hK => ?_)
  go_simp
  clear z c_bs
  have hU3 := (put_at' (hU2.out) 6 (.int .i64 bs))
  simp only [sA, sZ, sS] at hU3
  replace hU3 := hid hU3
  have hA3 := hid ((put_ne' _ 6 (.int .i64 bs) (show R + 1 + 1 ≠ R by omega)).trans (hA2.out))
  have hV3 := hid ((put_ne' _ 6 (.int .i64 bs) (show R + 1 + 1 ≠ R + 1 by omega)).trans (hV2.out))
  have hm3 := hid (hm2.out.setCell (a := ⟨R + 1 + 1, 6, none⟩) (fun _ => by show R <= R + 1 + 1; omega) (.int .i64 bs))
  clear hU2 hA2 hV2 hm2
  generalize (wd2.setCell ⟨R + 1 + 1, 6, none⟩ (.int .i64 bs)) = wd3 at hU3 hA3 hV3 hm3 ⊢
  refine hK.out _ _ ⟨cell_of' hA3.out 4, cell_of' hA3.out 5, cell_of' hA3.out 6, cell_of' hA3.out 7, cell_of' hA3.out 8⟩ ?_
  clear hK K
  try simp only [Act.put, sA, sZ, sS]
  repeat (first | (refine qT ?_) | (refine nT ?_))
  have c_ti : wd3.cell? ⟨R + 1 + 1, 7, none⟩ = some (.string ⟨#[]⟩) := cell_of' hU3.out 7
  have z := free_of' hU3.out
  refine wpS_c (by rfl) (fun K hK => ?_)
  go_simp
  clear z c_ti
  have hU4 := (put_at' (hU3.out) 7 (.string ⟨ti.toArray⟩))
  simp only [sA, sZ, sS] at hU4
  replace hU4 := hid hU4
  have hA4 := hid ((put_ne' _ 7 (.string ⟨ti.toArray⟩) (show R + 1 + 1 ≠ R by omega)).trans (hA3.out))
  have hV4 := hid ((put_ne' _ 7 (.string ⟨ti.toArray⟩) (show R + 1 + 1 ≠ R + 1 by omega)).trans (hV3.out))
  have hm4 := hid (hm3.out.setCell (a := ⟨R + 1 + 1, 7, none⟩) (fun _ => by show R <= R + 1 + 1; omega) (.string ⟨ti.toArray⟩))
  clear hU3 hA3 hV3 hm3
  generalize (wd3.setCell ⟨R + 1 + 1, 7, none⟩ (.string ⟨ti.toArray⟩)) = wd4 at hU4 hA4 hV4 hm4 ⊢
  refine hK.out _ _ ⟨cell_of' hA4.out 4, cell_of' hA4.out 5, cell_of' hA4.out 6, cell_of' hA4.out 7, cell_of' hA4.out 8⟩ ?_
  clear hK K
  try simp only [Act.put, sA, sZ, sS]
  repeat (first | (refine qT ?_) | (refine nT ?_))
  have c_au : wd4.cell? ⟨R + 1 + 1, 8, none⟩ = some (.string ⟨#[]⟩) := cell_of' hU4.out 8
  have z := free_of' hU4.out
  refine wpS_c (by rfl) (fun K hK => ?_)
  go_simp
  clear z c_au
  have hU5 := (put_at' (hU4.out) 8 (.string ⟨au.toArray⟩))
  simp only [sA, sZ, sS] at hU5
  replace hU5 := hid hU5
  have hA5 := hid ((put_ne' _ 8 (.string ⟨au.toArray⟩) (show R + 1 + 1 ≠ R by omega)).trans (hA4.out))
  have hV5 := hid ((put_ne' _ 8 (.string ⟨au.toArray⟩) (show R + 1 + 1 ≠ R + 1 by omega)).trans (hV4.out))
  have hm5 := hid (hm4.out.setCell (a := ⟨R + 1 + 1, 8, none⟩) (fun _ => by show R <= R + 1 + 1; omega) (.string ⟨au.toArray⟩))
  clear hU4 hA4 hV4 hm4
  generalize (wd4.setCell ⟨R + 1 + 1, 8, none⟩ (.string ⟨au.toArray⟩)) = wd5 at hU5 hA5 hV5 hm5 ⊢
  refine hK.out _ _ ⟨cell_of' hA5.out 4, cell_of' hA5.out 5, cell_of' hA5.out 6, cell_of' hA5.out 7, cell_of' hA5.out 8⟩ ?_
  clear hK K
  try simp only [Act.put, sA, sZ, sS]
  repeat (first | (refine qT ?_) | (refine nT ?_))
  refine wpS_nil ?_
  have hA := hA5
  have hV := hV5
  have hU := hU5
  have hm := hm5
  clear hA5 hV5 hU5 hm5
  go_wp2_with fail
  refine wp_region_sched (fun w' => w'.cell? ⟨R, 9, none⟩ = some (.slice a1 n1 c1) /\ w'.cell? ⟨R, 10, none⟩ = some (.slice a2 n2 c2) /\ w'.cell? ⟨R, 11, none⟩ = some (.int .i64 til) /\ w'.cell? ⟨R, 12, none⟩ = some (.slice a3 n3 c3) /\ w'.cell? ⟨R, 13, none⟩ = some (.int .i64 app) /\ w'.cell? ⟨R, 14, none⟩ = some (.int .i64 den)) [(0, true), (1, true), (2, true), (3, true), (4, true), (5, true), (6, true), (7, false), (8, true), (9, false), (10, true), (11, false)] (by as_aux_lemma => kernel_rfl) (by as_aux_lemma => kernel_rfl) (by as_aux_lemma => kernel_rfl) (by decide) ⟨cell_of' hA.out 9, cell_of' hA.out 10, cell_of' hA.out 11, cell_of' hA.out 12, cell_of' hA.out 13, cell_of' hA.out 14⟩ ?_
  have hA0 := hid ((Mod.drew0 (fun _ => False) _).at hA.out (fun h => h))
  have hV0 := hid ((Mod.drew0 (fun _ => False) _).at hV.out (fun h => h))
  have hU0 := hid ((Mod.drew0 (fun _ => False) _).at hU.out (fun h => h))
  have hm0 := hid hm.out.drew
  clear hA hV hU hm
  generalize wd5.drew = wd0 at hA0 hV0 hU0 hm0 ⊢
  simp only [schedOps, List.map_cons, List.map_nil, List.getD_cons_zero, List.getD_cons_succ]
  repeat (first | (refine qT ?_) | (refine nT ?_))
  have c_tp : wd0.cell? ⟨R + 1 + 1, 9, none⟩ = some (.slice none 0 0) := cell_of' hU0.out 9
  have z := free_of' hU0.out
  refine wpS_c (by rfl) (fun K hK => ?_)
  go_simp
  clear z c_tp
  have hU1 := (put_at' (hU0.out) 9 (.slice a1 n1 c1))
  simp only [sA, sZ, sS] at hU1
  replace hU1 := hid hU1
  have hA1 := hid ((put_ne' _ 9 (.slice a1 n1 c1) (show R + 1 + 1 ≠ R by omega)).trans (hA0.out))
  have hV1 := hid ((put_ne' _ 9 (.slice a1 n1 c1) (show R + 1 + 1 ≠ R + 1 by omega)).trans (hV0.out))
  have hm1 := hid (hm0.out.setCell (a := ⟨R + 1 + 1, 9, none⟩) (fun _ => by show R <= R + 1 + 1; omega) (.slice a1 n1 c1))
  clear hU0 hA0 hV0 hm0
  generalize (wd0.setCell ⟨R + 1 + 1, 9, none⟩ (.slice a1 n1 c1)) = wd1 at hU1 hA1 hV1 hm1 ⊢
  refine hK.out _ _ ⟨cell_of' hA1.out 9, cell_of' hA1.out 10, cell_of' hA1.out 11, cell_of' hA1.out 12, cell_of' hA1.out 13, cell_of' hA1.out 14⟩ ?_
  clear hK K
  try simp only [Act.put, sA, sZ, sS]
  repeat (first | (refine qT ?_) | (refine nT ?_))
  have c_bl : wd1.cell? ⟨R + 1 + 1, 10, none⟩ = some (.slice none 0 0) := cell_of' hU1.out 10
  have z := free_of' hU1.out
  refine wpS_c (by rfl) (fun K hK => ?_)
  go_simp
  clear z c_bl
  have hU2 := (put_at' (hU1.out) 10 (.slice a2 n2 c2))
  simp only [sA, sZ, sS] at hU2
  replace hU2 := hid hU2
  have hA2 := hid ((put_ne' _ 10 (.slice a2 n2 c2) (show R + 1 + 1 ≠ R by omega)).trans (hA1.out))
  have hV2 := hid ((put_ne' _ 10 (.slice a2 n2 c2) (show R + 1 + 1 ≠ R + 1 by omega)).trans (hV1.out))
  have hm2 := hid (hm1.out.setCell (a := ⟨R + 1 + 1, 10, none⟩) (fun _ => by show R <= R + 1 + 1; omega) (.slice a2 n2 c2))
  clear hU1 hA1 hV1 hm1
  generalize (wd1.setCell ⟨R + 1 + 1, 10, none⟩ (.slice a2 n2 c2)) = wd2 at hU2 hA2 hV2 hm2 ⊢
  refine hK.out _ _ ⟨cell_of' hA2.out 9, cell_of' hA2.out 10, cell_of' hA2.out 11, cell_of' hA2.out 12, cell_of' hA2.out 13, cell_of' hA2.out 14⟩ ?_
  clear hK K
  try simp only [Act.put, sA, sZ, sS]
  repeat (first | (refine qT ?_) | (refine nT ?_))
  have c_til : wd2.cell? ⟨R + 1 + 1, 11, none⟩ = some (.int .i64 0) := cell_of' hU2.out 11
  have c_aft : wd2.cell? ⟨R + 1 + 1, 12, none⟩ = some (.slice none 0 0) := cell_of' hU2.out 12
  have c_app : wd2.cell? ⟨R + 1 + 1, 13, none⟩ = some (.int .i64 0) := cell_of' hU2.out 13
  have c_den : wd2.cell? ⟨R + 1 + 1, 14, none⟩ = some (.int .i64 0) := cell_of' hU2.out 14
  have z := free_of' hU2.out
  refine wpS_c (by rfl) (fun K hK => ?_)
  go_simp
  clear z c_til c_aft c_app c_den
  have hU3 := (put_at' ((put_at' ((put_at' ((put_at' (hU2.out) 11 (.int .i64 til))) 12 (.slice a3 n3 c3))) 13 (.int .i64 app))) 14 (.int .i64 den))
  simp only [sA, sZ, sS] at hU3
  replace hU3 := hid hU3
  have hA3 := hid ((put_ne' _ 14 (.int .i64 den) (show R + 1 + 1 ≠ R by omega)).trans (((put_ne' _ 13 (.int .i64 app) (show R + 1 + 1 ≠ R by omega)).trans (((put_ne' _ 12 (.slice a3 n3 c3) (show R + 1 + 1 ≠ R by omega)).trans (((put_ne' _ 11 (.int .i64 til) (show R + 1 + 1 ≠ R by omega)).trans (hA2.out))))))))
  have hV3 := hid ((put_ne' _ 14 (.int .i64 den) (show R + 1 + 1 ≠ R + 1 by omega)).trans (((put_ne' _ 13 (.int .i64 app) (show R + 1 + 1 ≠ R + 1 by omega)).trans (((put_ne' _ 12 (.slice a3 n3 c3) (show R + 1 + 1 ≠ R + 1 by omega)).trans (((put_ne' _ 11 (.int .i64 til) (show R + 1 + 1 ≠ R + 1 by omega)).trans (hV2.out))))))))
  have hm3 := hid ((((hm2.out.setCell (a := ⟨R + 1 + 1, 11, none⟩) (fun _ => by show R <= R + 1 + 1; omega) (.int .i64 til)).setCell (a := ⟨R + 1 + 1, 12, none⟩) (fun _ => by show R <= R + 1 + 1; omega) (.slice a3 n3 c3)).setCell (a := ⟨R + 1 + 1, 13, none⟩) (fun _ => by show R <= R + 1 + 1; omega) (.int .i64 app)).setCell (a := ⟨R + 1 + 1, 14, none⟩) (fun _ => by show R <= R + 1 + 1; omega) (.int .i64 den))
  clear hU2 hA2 hV2 hm2
  generalize ((((wd2.setCell ⟨R + 1 + 1, 11, none⟩ (.int .i64 til)).setCell ⟨R + 1 + 1, 12, none⟩ (.slice a3 n3 c3)).setCell ⟨R + 1 + 1, 13, none⟩ (.int .i64 app)).setCell ⟨R + 1 + 1, 14, none⟩ (.int .i64 den)) = wd3 at hU3 hA3 hV3 hm3 ⊢
  refine hK.out _ _ ⟨cell_of' hA3.out 9, cell_of' hA3.out 10, cell_of' hA3.out 11, cell_of' hA3.out 12, cell_of' hA3.out 13, cell_of' hA3.out 14⟩ ?_
  clear hK K
  try simp only [Act.put, sA, sZ, sS]
  repeat (first | (refine qT ?_) | (refine nT ?_))
  refine wpS_nil ?_
  have hA := hA3
  have hV := hV3
  have hU := hU3
  have hm := hm3
  clear hA3 hV3 hU3 hm3
  go_wp2_with fail
  refine wp_region_sched (fun w' => w'.heap[R]? = some (.cells (y0 n tm 1 st lg rv bs ti au a1 n1 c1 a2 n2 c2 til a3 n3 c3 app den ed bk se tx nm pa cl un) 28 (0, 0)) /\ w'.heap[R + 1 + 1]? = some (.cells #[.int .i64 n, .int .i64 tm, .int .i64 1, .int .i64 st, .string ⟨lg.toArray⟩, .int .i64 rv, .int .i64 bs, .string ⟨ti.toArray⟩, .string ⟨au.toArray⟩, .slice a1 n1 c1, .slice a2 n2 c2, .int .i64 til, .slice a3 n3 c3, .int .i64 app, .int .i64 den, .int .i64 0, .int .i64 0, .int .i64 0, .string ⟨#[]⟩, .string ⟨#[]⟩, .int .i64 0, .int .i64 0, .int .i64 0] 28 (0, 0))) [(0, true), (1, true), (2, true), (3, true), (4, false), (5, true), (6, false), (7, true)] (by as_aux_lemma => kernel_rfl) (by as_aux_lemma => kernel_rfl) (by as_aux_lemma => kernel_rfl) (by decide) ⟨(Mod.drew0 (fun _ => False) _).at hA.out (fun h => h), (Mod.drew0 (fun _ => False) _).at hU.out (fun h => h)⟩ ?_
  replace hA := hid ((Mod.drew0 (fun _ => False) _).at hA.out (fun h => h))
  replace hV := hid ((Mod.drew0 (fun _ => False) _).at hV.out (fun h => h))
  replace hU := hid ((Mod.drew0 (fun _ => False) _).at hU.out (fun h => h))
  replace hm := hid hm.out.drew
  generalize wd3.drew = WD at hA hV hU hm ⊢
  simp only [schedOps, List.map_cons, List.map_nil, List.getD_cons_zero, List.getD_cons_succ]
  cases b1
  case' true =>
   repeat (first | ((first | (refine lW 28 R (fun w h => h.1) ?_) | (refine lW 28 (R + 1 + 1) (fun w h => h.2) ?_) | (refine lL 26 R (fun w h => h.1) ?_)); try simp only [Act.put, sA, sZ, sS]) | ((refine qS ?_); try simp only [Act.put, sA, sZ, sS]) | (refine nT ?_))
   refine wpS_c (by rfl) (fun K hK => ?_)
   go_simp
   refine (k4.out WD hm.out).mono ?_; rintro e WC ⟨rfl, hxc⟩
   replace hA := hid (hxc.at hA.out (fun h => h))
   replace hV := hid (hxc.at hV.out (fun h => h))
   replace hU := hid (hxc.at hU.out (fun h => h))
   replace hm := hid (hm.out.then hxc (fun _ _ h => h.elim))
   clear hxc
   refine hK.out _ _ ⟨hA.out, hU.out⟩ ?_
   clear hK K
   try simp only [Act.put, sA, sZ, sS]
  all_goals
   repeat (first | ((first | (refine lW 28 R (fun w h => h.1) ?_) | (refine lW 28 (R + 1 + 1) (fun w h => h.2) ?_) | (refine lL 26 R (fun w h => h.1) ?_)); try simp only [Act.put, sA, sZ, sS]) | ((refine qS ?_); try simp only [Act.put, sA, sZ, sS]) | (refine nT ?_))
   refine wpS_c (by rfl) (fun K hK => ?_)
   refine wp_storeW 28 _ _ rfl (R + 1) _ _ 28 rfl rfl hV.out rfl (by kernel_rfl) rfl (fun WF HF => ?_)
   refine hK.out _ _ ⟨HF.out.2.at hA.out (by omega), HF.out.2.at hU.out (by omega)⟩ ?_
   clear hK K
   try simp only [Act.put]
   repeat (first | ((first | (refine lW 28 R (fun w h => h.1) ?_) | (refine lW 28 (R + 1 + 1) (fun w h => h.2) ?_) | (refine lL 26 R (fun w h => h.1) ?_)); try simp only [Act.put, sA, sZ, sS]) | ((refine qS ?_); try simp only [Act.put, sA, sZ, sS]) | (refine nT ?_))
   refine wpS_nil ?_
   go_wp2_with fail
   refine bodyPost_ret (ret_cell_tmp rfl _ _ (R + 1) _ _ _ _ rfl HF.out.1 Tryz.underlying28 rfl (by kernel_rfl)) rfl ?_
   exact ⟨by rw [hok.out]; simp [*] , hfin.out _ (hm.out.then HF.out.2 (fun k _ e => by omega))⟩
theorem fused_k2 (a1 : Option Addr) (n1 c1 : Nat) (a2 : Option Addr) (n2 c2 : Nat) (a3 : Option Addr) (n3 c3 : Nat) (n tm st rv bs til app den ed bk se pa cl un : Int) (lg ti au tx nm : Bs) (w : World) :
  Calls Tryz.prog 54 #[.agg (y0 n tm 2 st lg rv bs ti au a1 n1 c1 a2 n2 c2 til a3 n3 c3 app den ed bk se tx nm pa cl un)] w fun e w' => e = .returned (.tuple #[.agg #[.int .i64 n, .int .i64 tm, .int .i64 2, .int .i64 st, .string ⟨#[]⟩, .int .i64 0, .int .i64 0, .string ⟨#[]⟩, .string ⟨#[]⟩, .slice none 0 0, .slice none 0 0, .int .i64 0, .slice none 0 0, .int .i64 0, .int .i64 0, .int .i64 ed, .int .i64 0, .int .i64 0, .string ⟨#[]⟩, .string ⟨#[]⟩, .int .i64 0, .int .i64 0, .int .i64 0], .bool (rng st 1 64 && rng ed 1 5)]) /\ Ext w w' := by
 obtain ⟨ok, hok⟩ : ∃ ok, ok = (rng st 1 64 && rng ed 1 5) := ⟨_, rfl⟩
 rw [<- hok]
 have k1 := hid (fun W => fwithin_any st 1 64 W)
 have k2 := hid (fun W => fwithin_any pa 1 8 W)
 have k3 := hid (fun W => fwithin_any un 0 1000000000 W)
 have k4 := hid (fun W => fwithin_any ed 1 5 W)
 generalize rng ed 1 5 = b4 at k4 hok
 generalize rng st 1 64 = b1 at k1 hok
 generalize rng pa 1 8 = b2 at k2 hok
 generalize rng un 0 1000000000 = b3 at k3 hok
 replace hok := hid hok
 have h3 := hid (three_boxes w (y0 n tm 2 st lg rv bs ti au a1 n1 c1 a2 n2 c2 til a3 n3 c3 app den ed bk se tx nm pa cl un) zF9 zF9 28 28 28)
 go_enter Tryz.func54, Tryz.ntmps54
 go_wp2_with (refine wpList_storeW rfl 28 _ _ rfl (w.heap.size + 1 + 1) _ _ 28 rfl rfl h3.out.2.2.2 rfl (by kernel_rfl) rfl (fun W H1 => ?_); have q_st : W.cell? ⟨w.heap.size, 3, none⟩ = some (.int .i64 st) := cell_of' (H1.out.2.at h3.out.2.1 (by omega)) 3)
 obtain ⟨hm0, hA0, hV0, -⟩ := h3.out
 clear h3
 have hA := hid (H1.out.2.at hA0 (by omega))
 have hV := hid (H1.out.2.at hV0 (by omega))
 have hU := hid H1.out.1
 have hm := hid ((hm0.mono (T := fun k => w.heap.size <= k) (fun _ h => h.elim)).then H1.out.2 (fun k _ e => by omega))
 clear H1 hA0 hV0 hm0
 have hfin : Hid (∀ w', Mod (fun k => w.heap.size <= k) w w' -> Ext w w') := hid (fun w' h => h.mono' (fun k hk e => by omega))
 generalize w.heap.size = R at hA hV hU hm hfin ⊢
 refine (k1.out _).mono ?_; rintro e w' ⟨rfl, rfl⟩
 have q_pa : W.cell? ⟨R, 20, none⟩ = some (.int .i64 pa) := cell_of' hA.out 20
 have q_un : W.cell? ⟨R, 22, none⟩ = some (.int .i64 un) := cell_of' hA.out 22
 have q_kd : W.cell? ⟨R, 2, none⟩ = some (.int .i64 2) := cell_of' hA.out 2
 go_wp2_with fail
 refine (k2.out _).mono ?_; rintro e w' ⟨rfl, rfl⟩
 cases b2
 case' false => clear k1 k2 k3 q_st q_pa q_un
 case' true =>
  go_wp2_with fail
  refine (k3.out _).mono ?_; rintro e w' ⟨rfl, rfl⟩
  clear k1 k2 k3 q_st q_pa q_un
 all_goals
  have s_ed : W.cell? ⟨R, 15, none⟩ = some (.int .i64 ed) := cell_of' hA.out 15
  have o_ed : W.cell? ⟨R + 1 + 1, 15, none⟩ = some (.int .i64 0) := cell_of' hU.out 15
  have zU := free_of' hU.out
  go_wp2_with fail
  clear s_ed o_ed zU
  replace hA := hid ((put_ne' W 15 (.int .i64 ed) (show R + 1 + 1 ≠ R by omega)).trans hA.out)
  replace hV := hid ((put_ne' W 15 (.int .i64 ed) (show R + 1 + 1 ≠ R + 1 by omega)).trans hV.out)
  replace hm := hid (hm.out.setCell (a := ⟨R + 1 + 1, 15, none⟩) (fun _ => by show R <= R + 1 + 1; omega) (.int .i64 ed))
  have hU := put_at' hU.out 15 (.int .i64 ed)
  simp only [sA, sZ, sS] at hU
  replace hU := hid hU
  generalize (W.setCell ⟨R + 1 + 1, 15, none⟩ (.int .i64 ed)) = WS at hA hV hm hU ⊢
  refine wp_region_sched (fun w' => w'.heap[R]? = some (.cells (y0 n tm 2 st lg rv bs ti au a1 n1 c1 a2 n2 c2 til a3 n3 c3 app den ed bk se tx nm pa cl un) 28 (0, 0)) /\ w'.heap[R + 1 + 1]? = some (.cells #[.int .i64 n, .int .i64 tm, .int .i64 2, .int .i64 st, .string ⟨#[]⟩, .int .i64 0, .int .i64 0, .string ⟨#[]⟩, .string ⟨#[]⟩, .slice none 0 0, .slice none 0 0, .int .i64 0, .slice none 0 0, .int .i64 0, .int .i64 0, .int .i64 ed, .int .i64 0, .int .i64 0, .string ⟨#[]⟩, .string ⟨#[]⟩, .int .i64 0, .int .i64 0, .int .i64 0] 28 (0, 0))) [(0, true), (1, true), (2, true), (3, true), (4, true), (5, false), (6, true), (7, false), (8, true)] (by as_aux_lemma => kernel_rfl) (by as_aux_lemma => kernel_rfl) (by as_aux_lemma => kernel_rfl) (by decide) ⟨(Mod.drew0 (fun _ => False) _).at hA.out (fun h => h), (Mod.drew0 (fun _ => False) _).at hU.out (fun h => h)⟩ ?_
  replace hA := hid ((Mod.drew0 (fun _ => False) _).at hA.out (fun h => h))
  replace hV := hid ((Mod.drew0 (fun _ => False) _).at hV.out (fun h => h))
  replace hU := hid ((Mod.drew0 (fun _ => False) _).at hU.out (fun h => h))
  replace hm := hid hm.out.drew
  generalize WS.drew = WD at hA hV hU hm ⊢
  simp only [schedOps, List.map_cons, List.map_nil, List.getD_cons_zero, List.getD_cons_succ]
  cases b1
  case' true =>
   repeat (first | ((first | (refine lW 28 R (fun w h => h.1) ?_) | (refine lW 28 (R + 1 + 1) (fun w h => h.2) ?_) | (refine lL 26 R (fun w h => h.1) ?_)); try simp only [Act.put, sA, sZ, sS]) | ((refine wpS_q (by rfl) ?_ (fun w' hC => ?_) ?_; rotate_left; (have g_ed := cell_of' hC.1 15; go_simp; try with_reducible rfl)); try simp only [Act.put, sA, sZ, sS]) | (refine nT ?_))
   refine wpS_c (by rfl) (fun K hK => ?_)
   go_simp
   refine (k4.out _).mono ?_; rintro e w' ⟨rfl, rfl⟩
   refine hK.out _ _ ⟨hA.out, hU.out⟩ ?_
   clear hK K
   try simp only [Act.put, sA, sZ, sS]
  all_goals
   repeat (first | ((first | (refine lW 28 R (fun w h => h.1) ?_) | (refine lW 28 (R + 1 + 1) (fun w h => h.2) ?_) | (refine lL 26 R (fun w h => h.1) ?_)); try simp only [Act.put, sA, sZ, sS]) | ((refine wpS_q (by rfl) ?_ (fun w' hC => ?_) ?_; rotate_left; (have g_ed := cell_of' hC.1 15; go_simp; try with_reducible rfl)); try simp only [Act.put, sA, sZ, sS]) | (refine nT ?_))
   refine wpS_c (by rfl) (fun K hK => ?_)
   refine wp_storeW 28 _ _ rfl (R + 1) _ _ 28 rfl rfl hV.out rfl (by kernel_rfl) rfl (fun WF HF => ?_)
   refine hK.out _ _ ⟨HF.out.2.at hA.out (by omega), HF.out.2.at hU.out (by omega)⟩ ?_
   clear hK K
   try simp only [Act.put]
   repeat (first | ((first | (refine lW 28 R (fun w h => h.1) ?_) | (refine lW 28 (R + 1 + 1) (fun w h => h.2) ?_) | (refine lL 26 R (fun w h => h.1) ?_)); try simp only [Act.put, sA, sZ, sS]) | ((refine wpS_q (by rfl) ?_ (fun w' hC => ?_) ?_; rotate_left; (have g_ed := cell_of' hC.1 15; go_simp; try with_reducible rfl)); try simp only [Act.put, sA, sZ, sS]) | (refine nT ?_))
   refine wpS_nil ?_
   go_wp2_with fail
   refine bodyPost_ret (ret_cell_tmp rfl _ _ (R + 1) _ _ _ _ rfl HF.out.1 Tryz.underlying28 rfl (by kernel_rfl)) rfl ?_
   exact ⟨by rw [hok.out]; simp [*] , hfin.out _ (hm.out.then HF.out.2 (fun k _ e => by omega))⟩
theorem fused_k3 (a1 : Option Addr) (n1 c1 : Nat) (a2 : Option Addr) (n2 c2 : Nat) (a3 : Option Addr) (n3 c3 : Nat) (n tm st rv bs til app den ed bk se pa cl un : Int) (lg ti au tx nm : Bs) (aftl : List Int) (w : World) (h3 : IntsAt (fun k => k < w.heap.size) w (.slice a3 n3 c3) aftl) :
  Calls Tryz.prog 54 #[.agg (y0 n tm 3 st lg rv bs ti au a1 n1 c1 a2 n2 c2 til a3 n3 c3 app den ed bk se tx nm pa cl un)] w fun e w' => e = .returned (.tuple #[.agg (y2 n tm 3 st til a3 n3 c3 app den), .bool (rng st 1 64 && vLb ⟨til, aftl, app, den⟩)]) /\ Ext w w' := by
 obtain ⟨ok, hok⟩ : ∃ ok, ok = (rng st 1 64 && vLb ⟨til, aftl, app, den⟩) := ⟨_, rfl⟩
 rw [<- hok]
 have k1 := hid (fun W => fwithin_any st 1 64 W)
 have k2 := hid (fun W => fwithin_any pa 1 8 W)
 have k3 := hid (fun W => fwithin_any un 0 1000000000 W)
 have k4 := hid (fun W (hX : Mod (fun k => w.heap.size <= k) w W) => labelValid_any (.slice a3 n3 c3) ⟨til, aftl, app, den⟩ W (h3.mod hX (fun k h1 h2 => by omega)))
 unfold lbC at k4
 simp only at k4
 clear h3
 generalize vLb ⟨til, aftl, app, den⟩ = b4 at k4 hok
 generalize rng st 1 64 = b1 at k1 hok
 generalize rng pa 1 8 = b2 at k2 hok
 generalize rng un 0 1000000000 = b3 at k3 hok
 replace hok := hid hok
 have h3 := hid (three_boxes w (y0 n tm 3 st lg rv bs ti au a1 n1 c1 a2 n2 c2 til a3 n3 c3 app den ed bk se tx nm pa cl un) zF9 zF9 28 28 28)
 go_enter Tryz.func54, Tryz.ntmps54
 go_wp2_with (refine wpList_storeW rfl 28 _ _ rfl (w.heap.size + 1 + 1) _ _ 28 rfl rfl h3.out.2.2.2 rfl (by kernel_rfl) rfl (fun W H1 => ?_); have q_st : W.cell? ⟨w.heap.size, 3, none⟩ = some (.int .i64 st) := cell_of' (H1.out.2.at h3.out.2.1 (by omega)) 3)
 obtain ⟨hm0, hA0, hV0, -⟩ := h3.out
 clear h3
 have hA := hid (H1.out.2.at hA0 (by omega))
 have hV := hid (H1.out.2.at hV0 (by omega))
 have hU := hid H1.out.1
 have hm := hid ((hm0.mono (T := fun k => w.heap.size <= k) (fun _ h => h.elim)).then H1.out.2 (fun k _ e => by omega))
 clear H1 hA0 hV0 hm0
 have hfin : Hid (∀ w', Mod (fun k => w.heap.size <= k) w w' -> Ext w w') := hid (fun w' h => h.mono' (fun k hk e => by omega))
 generalize w.heap.size = R at hA hV hU hm hfin k4 ⊢
 refine (k1.out _).mono ?_; rintro e w' ⟨rfl, rfl⟩
 have q_pa : W.cell? ⟨R, 20, none⟩ = some (.int .i64 pa) := cell_of' hA.out 20
 have q_un : W.cell? ⟨R, 22, none⟩ = some (.int .i64 un) := cell_of' hA.out 22
 have q_kd : W.cell? ⟨R, 2, none⟩ = some (.int .i64 3) := cell_of' hA.out 2
 go_wp2_with fail
 refine (k2.out _).mono ?_; rintro e w' ⟨rfl, rfl⟩
 cases b2
 case' false => clear k1 k2 k3 q_st q_pa q_un
 case' true =>
  go_wp2_with fail
  refine (k3.out _).mono ?_; rintro e w' ⟨rfl, rfl⟩
  clear k1 k2 k3 q_st q_pa q_un
 all_goals
  have hAl : Hid (W.heap[R]? = some (.cells (([.int .i64 n, .int .i64 tm, .int .i64 3, .int .i64 st, .string ⟨lg.toArray⟩, .int .i64 rv, .int .i64 bs, .string ⟨ti.toArray⟩, .string ⟨au.toArray⟩, .slice a1 n1 c1, .slice a2 n2 c2] : List Value) ++ (([.int .i64 til, .slice a3 n3 c3, .int .i64 app, .int .i64 den] : List Value) ++ ([.int .i64 ed, .int .i64 bk, .int .i64 se, .string ⟨tx.toArray⟩, .string ⟨nm.toArray⟩, .int .i64 pa, .int .i64 cl, .int .i64 un] : List Value))).toArray 28 (0, 0))) := hid hA.out
  have hUl : Hid (W.heap[R + 1 + 1]? = some (.cells (([.int .i64 n, .int .i64 tm, .int .i64 3, .int .i64 st, .string ⟨#[]⟩, .int .i64 0, .int .i64 0, .string ⟨#[]⟩, .string ⟨#[]⟩, .slice none 0 0, .slice none 0 0] : List Value) ++ (([.int .i64 0, .slice none 0 0, .int .i64 0, .int .i64 0] : List Value) ++ ([.int .i64 0, .int .i64 0, .int .i64 0, .string ⟨#[]⟩, .string ⟨#[]⟩, .int .i64 0, .int .i64 0, .int .i64 0] : List Value))).toArray 28 (0, 0))) := hid hU.out
  go_wp2_with (first | (refine wpList_loadA rfl 26 _ rfl _ 11 [.int .i64 n, .int .i64 tm, .int .i64 3, .int .i64 st, .string ⟨lg.toArray⟩, .int .i64 rv, .int .i64 bs, .string ⟨ti.toArray⟩, .string ⟨au.toArray⟩, .slice a1 n1 c1, .slice a2 n2 c2] [.int .i64 til, .slice a3 n3 c3, .int .i64 app, .int .i64 den] [.int .i64 ed, .int .i64 bk, .int .i64 se, .string ⟨tx.toArray⟩, .string ⟨nm.toArray⟩, .int .i64 pa, .int .i64 cl, .int .i64 un] _ _ _ rfl rfl hAl.out Tryz.underlying26 rfl (by kernel_rfl) ?_) | (refine wpList_storeA rfl 26 _ _ rfl (R + 1 + 1) 11 [.int .i64 n, .int .i64 tm, .int .i64 3, .int .i64 st, .string ⟨#[]⟩, .int .i64 0, .int .i64 0, .string ⟨#[]⟩, .string ⟨#[]⟩, .slice none 0 0, .slice none 0 0] [.int .i64 0, .slice none 0 0, .int .i64 0, .int .i64 0] [.int .i64 0, .int .i64 0, .int .i64 0, .string ⟨#[]⟩, .string ⟨#[]⟩, .int .i64 0, .int .i64 0, .int .i64 0] [.int .i64 til, .slice a3 n3 c3, .int .i64 app, .int .i64 den] 28 rfl rfl rfl hUl.out rfl (by kernel_rfl) rfl (fun WS HS => ?_)))
  replace hA := hid (HS.out.2.at hA.out (by omega))
  replace hV := hid (HS.out.2.at hV.out (by omega))
  replace hm := hid (hm.out.then HS.out.2 (fun k _ e => by omega))
  have hU : Hid (WS.heap[R + 1 + 1]? = some (.cells (y2 n tm 3 st til a3 n3 c3 app den) 28 (0, 0))) := hid HS.out.1
  clear HS hAl hUl
  refine wp_region_sched (fun w' => w'.heap[R]? = some (.cells (y0 n tm 3 st lg rv bs ti au a1 n1 c1 a2 n2 c2 til a3 n3 c3 app den ed bk se tx nm pa cl un) 28 (0, 0)) /\ w'.heap[R + 1 + 1]? = some (.cells (y2 n tm 3 st til a3 n3 c3 app den) 28 (0, 0))) [(0, true), (1, true), (2, true), (3, true), (4, true), (5, false), (6, true), (7, false), (8, true)] (by as_aux_lemma => kernel_rfl) (by as_aux_lemma => kernel_rfl) (by as_aux_lemma => kernel_rfl) (by decide) ⟨(Mod.drew0 (fun _ => False) _).at hA.out (fun h => h), (Mod.drew0 (fun _ => False) _).at hU.out (fun h => h)⟩ ?_
  replace hA := hid ((Mod.drew0 (fun _ => False) _).at hA.out (fun h => h))
  replace hV := hid ((Mod.drew0 (fun _ => False) _).at hV.out (fun h => h))
  replace hU := hid ((Mod.drew0 (fun _ => False) _).at hU.out (fun h => h))
  replace hm := hid hm.out.drew
  generalize WS.drew = WD at hA hV hU hm ⊢
  simp only [schedOps, List.map_cons, List.map_nil, List.getD_cons_zero, List.getD_cons_succ]
  cases b1
  case' true =>
   repeat (first | ((first | (refine lW 28 R (fun w h => h.1) ?_) | (refine lW 28 (R + 1 + 1) (fun w h => h.2) ?_) | (refine lL 26 R (fun w h => h.1) ?_)); try simp only [Act.put, sA, sZ, sS]) | ((refine qS ?_); try simp only [Act.put, sA, sZ, sS]) | (refine nT ?_))
   refine wpS_c (by rfl) (fun K hK => ?_)
   go_simp
   refine (k4.out WD hm.out).mono ?_; rintro e WC ⟨rfl, hxc⟩
   replace hA := hid (hxc.at hA.out (fun h => h))
   replace hV := hid (hxc.at hV.out (fun h => h))
   replace hU := hid (hxc.at hU.out (fun h => h))
   replace hm := hid (hm.out.then hxc (fun _ _ h => h.elim))
   clear hxc
   refine hK.out _ _ ⟨hA.out, hU.out⟩ ?_
   clear hK K
   try simp only [Act.put, sA, sZ, sS]
  all_goals
   repeat (first | ((first | (refine lW 28 R (fun w h => h.1) ?_) | (refine lW 28 (R + 1 + 1) (fun w h => h.2) ?_) | (refine lL 26 R (fun w h => h.1) ?_)); try simp only [Act.put, sA, sZ, sS]) | ((refine qS ?_); try simp only [Act.put, sA, sZ, sS]) | (refine nT ?_))
   refine wpS_c (by rfl) (fun K hK => ?_)
   refine wp_storeW 28 _ _ rfl (R + 1) _ _ 28 rfl rfl hV.out rfl (by kernel_rfl) rfl (fun WF HF => ?_)
   refine hK.out _ _ ⟨HF.out.2.at hA.out (by omega), HF.out.2.at hU.out (by omega)⟩ ?_
   clear hK K
   try simp only [Act.put]
   repeat (first | ((first | (refine lW 28 R (fun w h => h.1) ?_) | (refine lW 28 (R + 1 + 1) (fun w h => h.2) ?_) | (refine lL 26 R (fun w h => h.1) ?_)); try simp only [Act.put, sA, sZ, sS]) | ((refine qS ?_); try simp only [Act.put, sA, sZ, sS]) | (refine nT ?_))
   refine wpS_nil ?_
   go_wp2_with fail
   refine bodyPost_ret (ret_cell_tmp rfl _ _ (R + 1) _ _ _ _ rfl HF.out.1 Tryz.underlying28 rfl (by kernel_rfl)) rfl ?_
   exact ⟨by rw [hok.out]; simp [*] , hfin.out _ (hm.out.then HF.out.2 (fun k _ e => by omega))⟩
theorem fused_k4 (a1 : Option Addr) (n1 c1 : Nat) (a2 : Option Addr) (n2 c2 : Nat) (a3 : Option Addr) (n3 c3 : Nat) (n tm st rv bs til app den ed bk se pa cl un : Int) (lg ti au tx nm : Bs) (w : World) :
  Calls Tryz.prog 54 #[.agg (y0 n tm 4 st lg rv bs ti au a1 n1 c1 a2 n2 c2 til a3 n3 c3 app den ed bk se tx nm pa cl un)] w fun e w' => e = .returned (.tuple #[.agg #[.int .i64 n, .int .i64 tm, .int .i64 4, .int .i64 st, .string ⟨lg.toArray⟩, .int .i64 0, .int .i64 0, .string ⟨#[]⟩, .string ⟨#[]⟩, .slice none 0 0, .slice none 0 0, .int .i64 0, .slice none 0 0, .int .i64 0, .int .i64 0, .int .i64 0, .int .i64 bk, .int .i64 se, .string ⟨tx.toArray⟩, .string ⟨#[]⟩, .int .i64 0, .int .i64 0, .int .i64 0], .bool (rng st 1 64 && (isNm lg && (rng bk 1 1000 && (rng se 0 299 && isTx tx))))]) /\ Ext w w' := by
 obtain ⟨ok, hok⟩ : ∃ ok, ok = (rng st 1 64 && (isNm lg && (rng bk 1 1000 && (rng se 0 299 && isTx tx)))) := ⟨_, rfl⟩
 rw [<- hok]
 have k1 := hid (fun W => fwithin_any st 1 64 W)
 have k2 := hid (fun W => fwithin_any pa 1 8 W)
 have k3 := hid (fun W => fwithin_any un 0 1000000000 W)
 have k4 := hid (fun W => fcorrection_any a1 n1 c1 a2 n2 c2 a3 n3 c3 ⟨n, tm, 4, st, lg, rv, bs, ti, au, [], [], ⟨til, [], app, den⟩, ed, bk, se, tx, nm, pa, cl, un⟩ W)
 unfold fcA at k4
 simp only at k4
 generalize (isNm lg && (rng bk 1 1000 && (rng se 0 299 && isTx tx))) = b4 at k4 hok
 generalize rng st 1 64 = b1 at k1 hok
 generalize rng pa 1 8 = b2 at k2 hok
 generalize rng un 0 1000000000 = b3 at k3 hok
 replace hok := hid hok
 have h3 := hid (three_boxes w (y0 n tm 4 st lg rv bs ti au a1 n1 c1 a2 n2 c2 til a3 n3 c3 app den ed bk se tx nm pa cl un) zF9 zF9 28 28 28)
 go_enter Tryz.func54, Tryz.ntmps54
 go_wp2_with (refine wpList_storeW rfl 28 _ _ rfl (w.heap.size + 1 + 1) _ _ 28 rfl rfl h3.out.2.2.2 rfl (by kernel_rfl) rfl (fun W H1 => ?_); have q_st : W.cell? ⟨w.heap.size, 3, none⟩ = some (.int .i64 st) := cell_of' (H1.out.2.at h3.out.2.1 (by omega)) 3)
 obtain ⟨hm0, hA0, hV0, -⟩ := h3.out
 clear h3
 have hA := hid (H1.out.2.at hA0 (by omega))
 have hV := hid (H1.out.2.at hV0 (by omega))
 have hU := hid H1.out.1
 have hm := hid ((hm0.mono (T := fun k => w.heap.size <= k) (fun _ h => h.elim)).then H1.out.2 (fun k _ e => by omega))
 clear H1 hA0 hV0 hm0
 have hfin : Hid (∀ w', Mod (fun k => w.heap.size <= k) w w' -> Ext w w') := hid (fun w' h => h.mono' (fun k hk e => by omega))
 generalize w.heap.size = R at hA hV hU hm hfin ⊢
 refine (k1.out _).mono ?_; rintro e w' ⟨rfl, rfl⟩
 have q_pa : W.cell? ⟨R, 20, none⟩ = some (.int .i64 pa) := cell_of' hA.out 20
 have q_un : W.cell? ⟨R, 22, none⟩ = some (.int .i64 un) := cell_of' hA.out 22
 have q_kd : W.cell? ⟨R, 2, none⟩ = some (.int .i64 4) := cell_of' hA.out 2
 go_wp2_with fail
 refine (k2.out _).mono ?_; rintro e w' ⟨rfl, rfl⟩
 cases b2
 case' false => clear k1 k2 k3 q_st q_pa q_un
 case' true =>
  go_wp2_with fail
  refine (k3.out _).mono ?_; rintro e w' ⟨rfl, rfl⟩
  clear k1 k2 k3 q_st q_pa q_un
 all_goals
  go_wp2_with fail
  refine wp_region_sched (fun w' => w'.cell? ⟨R, 4, none⟩ = some (.string ⟨lg.toArray⟩) /\ w'.cell? ⟨R, 16, none⟩ = some (.int .i64 bk) /\ w'.cell? ⟨R, 17, none⟩ = some (.int .i64 se) /\ w'.cell? ⟨R, 18, none⟩ = some (.string ⟨tx.toArray⟩)) [(0, true), (1, true), (2, true), (3, true), (4, true), (5, true), (6, true), (7, true), (8, true), (9, false), (10, true), (11, false), (12, true), (13, false), (14, true), (15, false)] (by as_aux_lemma => kernel_rfl) (by as_aux_lemma => kernel_rfl) (by as_aux_lemma => kernel_rfl) (by decide) ⟨cell_of' hA.out 4, cell_of' hA.out 16, cell_of' hA.out 17, cell_of' hA.out 18⟩ ?_
  have hA0 := hid ((Mod.drew0 (fun _ => False) _).at hA.out (fun h => h))
  have hV0 := hid ((Mod.drew0 (fun _ => False) _).at hV.out (fun h => h))
  have hU0 := hid ((Mod.drew0 (fun _ => False) _).at hU.out (fun h => h))
  have hm0 := hid hm.out.drew
  clear hA hV hU hm
  generalize W.drew = wd0 at hA0 hV0 hU0 hm0 ⊢
  simp only [schedOps, List.map_cons, List.map_nil, List.getD_cons_zero, List.getD_cons_succ]
  repeat (first | (refine qT ?_) | (refine nT ?_))
  have c_lg : wd0.cell? ⟨R + 1 + 1, 4, none⟩ = some (.string ⟨#[]⟩) := cell_of' hU0.out 4
  have z := free_of' hU0.out
  refine wpS_c (by rfl) (fun K hK => ?_)
  go_simp
  clear z c_lg
  have hU1 := (put_at' (hU0.out) 4 (.string ⟨lg.toArray⟩))
  simp only [sA, sZ, sS] at hU1
  replace hU1 := hid hU1
  have hA1 := hid ((put_ne' _ 4 (.string ⟨lg.toArray⟩) (show R + 1 + 1 ≠ R by omega)).trans (hA0.out))
  have hV1 := hid ((put_ne' _ 4 (.string ⟨lg.toArray⟩) (show R + 1 + 1 ≠ R + 1 by omega)).trans (hV0.out))
  have hm1 := hid (hm0.out.setCell (a := ⟨R + 1 + 1, 4, none⟩) (fun _ => by show R <= R + 1 + 1; omega) (.string ⟨lg.toArray⟩))
  clear hU0 hA0 hV0 hm0
  generalize (wd0.setCell ⟨R + 1 + 1, 4, none⟩ (.string ⟨lg.toArray⟩)) = wd1 at hU1 hA1 hV1 hm1 ⊢
  refine hK.out _ _ ⟨cell_of' hA1.out 4, cell_of' hA1.out 16, cell_of' hA1.out 17, cell_of' hA1.out 18⟩ ?_
  clear hK K
  try simp only [Act.put, sA, sZ, sS]
  repeat (first | (refine qT ?_) | (refine nT ?_))
  have c_bk : wd1.cell? ⟨R + 1 + 1, 16, none⟩ = some (.int .i64 0) := cell_of' hU1.out 16
  have z := free_of' hU1.out
  refine wpS_c (by rfl) (fun K hK => ?_)
  go_simp
  clear z c_bk
  have hU2 := (put_at' (hU1.out) 16 (.int .i64 bk))
  simp only [sA, sZ, sS] at hU2
  replace hU2 := hid hU2
  have hA2 := hid ((put_ne' _ 16 (.int .i64 bk) (show R + 1 + 1 ≠ R by omega)).trans (hA1.out))
  have hV2 := hid ((put_ne' _ 16 (.int .i64 bk) (show R + 1 + 1 ≠ R + 1 by omega)).trans (hV1.out))
  have hm2 := hid (hm1.out.setCell (a := ⟨R + 1 + 1, 16, none⟩) (fun _ => by show R <= R + 1 + 1; omega) (.int .i64 bk))
  clear hU1 hA1 hV1 hm1
  generalize (wd1.setCell ⟨R + 1 + 1, 16, none⟩ (.int .i64 bk)) = wd2 at hU2 hA2 hV2 hm2 ⊢
  refine hK.out _ _ ⟨cell_of' hA2.out 4, cell_of' hA2.out 16, cell_of' hA2.out 17, cell_of' hA2.out 18⟩ ?_
  clear hK K
  try simp only [Act.put, sA, sZ, sS]
  repeat (first | (refine qT ?_) | (refine nT ?_))
  have c_se : wd2.cell? ⟨R + 1 + 1, 17, none⟩ = some (.int .i64 0) := cell_of' hU2.out 17
  have z := free_of' hU2.out
  refine wpS_c (by rfl) (fun K hK => ?_)
  go_simp
  clear z c_se
  have hU3 := (put_at' (hU2.out) 17 (.int .i64 se))
  simp only [sA, sZ, sS] at hU3
  replace hU3 := hid hU3
  have hA3 := hid ((put_ne' _ 17 (.int .i64 se) (show R + 1 + 1 ≠ R by omega)).trans (hA2.out))
  have hV3 := hid ((put_ne' _ 17 (.int .i64 se) (show R + 1 + 1 ≠ R + 1 by omega)).trans (hV2.out))
  have hm3 := hid (hm2.out.setCell (a := ⟨R + 1 + 1, 17, none⟩) (fun _ => by show R <= R + 1 + 1; omega) (.int .i64 se))
  clear hU2 hA2 hV2 hm2
  generalize (wd2.setCell ⟨R + 1 + 1, 17, none⟩ (.int .i64 se)) = wd3 at hU3 hA3 hV3 hm3 ⊢
  refine hK.out _ _ ⟨cell_of' hA3.out 4, cell_of' hA3.out 16, cell_of' hA3.out 17, cell_of' hA3.out 18⟩ ?_
  clear hK K
  try simp only [Act.put, sA, sZ, sS]
  repeat (first | (refine qT ?_) | (refine nT ?_))
  have c_tx : wd3.cell? ⟨R + 1 + 1, 18, none⟩ = some (.string ⟨#[]⟩) := cell_of' hU3.out 18
  have z := free_of' hU3.out
  refine wpS_c (by rfl) (fun K hK => ?_)
  go_simp
  clear z c_tx
  have hU4 := (put_at' (hU3.out) 18 (.string ⟨tx.toArray⟩))
  simp only [sA, sZ, sS] at hU4
  replace hU4 := hid hU4
  have hA4 := hid ((put_ne' _ 18 (.string ⟨tx.toArray⟩) (show R + 1 + 1 ≠ R by omega)).trans (hA3.out))
  have hV4 := hid ((put_ne' _ 18 (.string ⟨tx.toArray⟩) (show R + 1 + 1 ≠ R + 1 by omega)).trans (hV3.out))
  have hm4 := hid (hm3.out.setCell (a := ⟨R + 1 + 1, 18, none⟩) (fun _ => by show R <= R + 1 + 1; omega) (.string ⟨tx.toArray⟩))
  clear hU3 hA3 hV3 hm3
  generalize (wd3.setCell ⟨R + 1 + 1, 18, none⟩ (.string ⟨tx.toArray⟩)) = wd4 at hU4 hA4 hV4 hm4 ⊢
  refine hK.out _ _ ⟨cell_of' hA4.out 4, cell_of' hA4.out 16, cell_of' hA4.out 17, cell_of' hA4.out 18⟩ ?_
  clear hK K
  try simp only [Act.put, sA, sZ, sS]
  repeat (first | (refine qT ?_) | (refine nT ?_))
  refine wpS_nil ?_
  have hA := hA4
  have hV := hV4
  have hU := hU4
  have hm := hm4
  clear hA4 hV4 hU4 hm4
  go_wp2_with fail
  refine wp_region_sched (fun w' => w'.heap[R]? = some (.cells (y0 n tm 4 st lg rv bs ti au a1 n1 c1 a2 n2 c2 til a3 n3 c3 app den ed bk se tx nm pa cl un) 28 (0, 0)) /\ w'.heap[R + 1 + 1]? = some (.cells #[.int .i64 n, .int .i64 tm, .int .i64 4, .int .i64 st, .string ⟨lg.toArray⟩, .int .i64 0, .int .i64 0, .string ⟨#[]⟩, .string ⟨#[]⟩, .slice none 0 0, .slice none 0 0, .int .i64 0, .slice none 0 0, .int .i64 0, .int .i64 0, .int .i64 0, .int .i64 bk, .int .i64 se, .string ⟨tx.toArray⟩, .string ⟨#[]⟩, .int .i64 0, .int .i64 0, .int .i64 0] 28 (0, 0))) [(0, true), (1, true), (2, true), (3, true), (4, false), (5, true), (6, false), (7, true)] (by as_aux_lemma => kernel_rfl) (by as_aux_lemma => kernel_rfl) (by as_aux_lemma => kernel_rfl) (by decide) ⟨(Mod.drew0 (fun _ => False) _).at hA.out (fun h => h), (Mod.drew0 (fun _ => False) _).at hU.out (fun h => h)⟩ ?_
  replace hA := hid ((Mod.drew0 (fun _ => False) _).at hA.out (fun h => h))
  replace hV := hid ((Mod.drew0 (fun _ => False) _).at hV.out (fun h => h))
  replace hU := hid ((Mod.drew0 (fun _ => False) _).at hU.out (fun h => h))
  replace hm := hid hm.out.drew
  generalize wd4.drew = WD at hA hV hU hm ⊢
  simp only [schedOps, List.map_cons, List.map_nil, List.getD_cons_zero, List.getD_cons_succ]
  cases b1
  case' true =>
   repeat (first | ((first | (refine lW 28 R (fun w h => h.1) ?_) | (refine lW 28 (R + 1 + 1) (fun w h => h.2) ?_) | (refine lL 26 R (fun w h => h.1) ?_)); try simp only [Act.put, sA, sZ, sS]) | ((refine qS ?_); try simp only [Act.put, sA, sZ, sS]) | (refine nT ?_))
   refine wpS_c (by rfl) (fun K hK => ?_)
   go_simp
   refine (k4.out WD).mono ?_; rintro e WC ⟨rfl, hxc⟩
   replace hA := hid (hxc.at hA.out (fun h => h))
   replace hV := hid (hxc.at hV.out (fun h => h))
   replace hU := hid (hxc.at hU.out (fun h => h))
   replace hm := hid (hm.out.then hxc (fun _ _ h => h.elim))
   clear hxc
   refine hK.out _ _ ⟨hA.out, hU.out⟩ ?_
   clear hK K
   try simp only [Act.put, sA, sZ, sS]
  all_goals
   repeat (first | ((first | (refine lW 28 R (fun w h => h.1) ?_) | (refine lW 28 (R + 1 + 1) (fun w h => h.2) ?_) | (refine lL 26 R (fun w h => h.1) ?_)); try simp only [Act.put, sA, sZ, sS]) | ((refine qS ?_); try simp only [Act.put, sA, sZ, sS]) | (refine nT ?_))
   refine wpS_c (by rfl) (fun K hK => ?_)
   refine wp_storeW 28 _ _ rfl (R + 1) _ _ 28 rfl rfl hV.out rfl (by kernel_rfl) rfl (fun WF HF => ?_)
   refine hK.out _ _ ⟨HF.out.2.at hA.out (by omega), HF.out.2.at hU.out (by omega)⟩ ?_
   clear hK K
   try simp only [Act.put]
   repeat (first | ((first | (refine lW 28 R (fun w h => h.1) ?_) | (refine lW 28 (R + 1 + 1) (fun w h => h.2) ?_) | (refine lL 26 R (fun w h => h.1) ?_)); try simp only [Act.put, sA, sZ, sS]) | ((refine qS ?_); try simp only [Act.put, sA, sZ, sS]) | (refine nT ?_))
   refine wpS_nil ?_
   go_wp2_with fail
   refine bodyPost_ret (ret_cell_tmp rfl _ _ (R + 1) _ _ _ _ rfl HF.out.1 Tryz.underlying28 rfl (by kernel_rfl)) rfl ?_
   exact ⟨by rw [hok.out]; simp [*] , hfin.out _ (hm.out.then HF.out.2 (fun k _ e => by omega))⟩
end Go.Proofs.YtpaefpnkemkikaaGreatDoor
