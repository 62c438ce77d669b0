import Derived.Test.YtpaefpnkemkikaaGreatDoorC9
import Derived.Test.YtpaefpnkemkikaaGreatDoorU4
set_option maxRecDepth 100000
set_option maxHeartbeats 16000000
namespace Go.Proofs.YtpaefpnkemkikaaGreatDoor
open Go.RowKit Cdk Scr
theorem fused_k5 (a1 : Option Addr) (n1 c1 : Nat) (a2 : Option Addr) (n2 c2 : Nat) (a3 : Option Addr) (n3 c3 : Nat) (n tm st rv bs til app den ed bk se pa cl un : Int) (lg ti au tx nm : Bs) (w : World) :
  Calls Tryz.prog 54 #[.agg (y0 n tm 5 st lg rv bs ti au a1 n1 c1 a2 n2 c2 til a3 n3 c3 app den ed bk se tx nm pa cl un)] w fun e w' => e = .returned (.tuple #[.agg #[.int .i64 n, .int .i64 tm, .int .i64 5, .int .i64 st, .string ⟨#[]⟩, .int .i64 0, .int .i64 0, .string ⟨#[]⟩, .string ⟨#[]⟩, .slice none 0 0, .slice none 0 0, .int .i64 0, .slice none 0 0, .int .i64 0, .int .i64 0, .int .i64 0, .int .i64 0, .int .i64 0, .string ⟨tx.toArray⟩, .string ⟨#[]⟩, .int .i64 0, .int .i64 0, .int .i64 0], .bool (rng st 1 64 && isTx tx)]) /\ Ext w w' := by
 obtain ⟨ok, hok⟩ : ∃ ok, ok = (rng st 1 64 && isTx tx) := ⟨_, rfl⟩
 rw [<- hok]
 have k1 := hid (fun W => fwithin_any st 1 64 W)
 have k2 := hid (fun W => fwithin_any pa 1 8 W)
 have k3 := hid (fun W => fwithin_any un 0 1000000000 W)
 have k4 := hid (fun W => ftext_any ⟨tx.toArray⟩ W)
 simp only [] at k4
 generalize isTx tx = b4 at k4 hok
 generalize rng st 1 64 = b1 at k1 hok
 generalize rng pa 1 8 = b2 at k2 hok
 generalize rng un 0 1000000000 = b3 at k3 hok
 replace hok := hid hok
 have h3 := hid (three_boxes w (y0 n tm 5 st lg rv bs ti au a1 n1 c1 a2 n2 c2 til a3 n3 c3 app den ed bk se tx nm pa cl un) zF9 zF9 28 28 28)
 go_enter Tryz.func54, Tryz.ntmps54
 go_wp2_with (refine wpList_storeW rfl 28 _ _ rfl (w.heap.size + 1 + 1) _ _ 28 rfl rfl h3.out.2.2.2 rfl (by kernel_rfl) rfl (fun W H1 => ?_); have q_st : W.cell? ⟨w.heap.size, 3, none⟩ = some (.int .i64 st) := cell_of' (H1.out.2.at h3.out.2.1 (by omega)) 3)
 obtain ⟨hm0, hA0, hV0, -⟩ := h3.out
 clear h3
 have hA := hid (H1.out.2.at hA0 (by omega))
 have hV := hid (H1.out.2.at hV0 (by omega))
 have hU := hid H1.out.1
 have hm := hid ((hm0.mono (T := fun k => w.heap.size <= k) (fun _ h => h.elim)).then H1.out.2 (fun k _ e => by omega))
 clear H1 hA0 hV0 hm0
 have hfin : Hid (∀ w', Mod (fun k => w.heap.size <= k) w w' -> Ext w w') := hid (fun w' h => h.mono' (fun k hk e => by omega))
 generalize w.heap.size = R at hA hV hU hm hfin ⊢
 refine (k1.out _).mono ?_; rintro e w' ⟨rfl, rfl⟩
 have q_pa : W.cell? ⟨R, 20, none⟩ = some (.int .i64 pa) := cell_of' hA.out 20
 have q_un : W.cell? ⟨R, 22, none⟩ = some (.int .i64 un) := cell_of' hA.out 22
 have q_kd : W.cell? ⟨R, 2, none⟩ = some (.int .i64 5) := cell_of' hA.out 2
 go_wp2_with fail
 refine (k2.out _).mono ?_; rintro e w' ⟨rfl, rfl⟩
 cases b2
 case' false => clear k1 k2 k3 q_st q_pa q_un
 case' true =>
  go_wp2_with fail
  refine (k3.out _).mono ?_; rintro e w' ⟨rfl, rfl⟩
  clear k1 k2 k3 q_st q_pa q_un
 all_goals
  have s_tx : W.cell? ⟨R, 18, none⟩ = some (.string ⟨tx.toArray⟩) := cell_of' hA.out 18
  have o_tx : W.cell? ⟨R + 1 + 1, 18, none⟩ = some (.string ⟨#[]⟩) := cell_of' hU.out 18
  have zU := free_of' hU.out
  go_wp2_with fail
  clear s_tx o_tx zU
  replace hA := hid ((put_ne' W 18 (.string ⟨tx.toArray⟩) (show R + 1 + 1 ≠ R by omega)).trans hA.out)
  replace hV := hid ((put_ne' W 18 (.string ⟨tx.toArray⟩) (show R + 1 + 1 ≠ R + 1 by omega)).trans hV.out)
  replace hm := hid (hm.out.setCell (a := ⟨R + 1 + 1, 18, none⟩) (fun _ => by show R <= R + 1 + 1; omega) (.string ⟨tx.toArray⟩))
  have hU := put_at' hU.out 18 (.string ⟨tx.toArray⟩)
  simp only [sA, sZ, sS] at hU
  replace hU := hid hU
  generalize (W.setCell ⟨R + 1 + 1, 18, none⟩ (.string ⟨tx.toArray⟩)) = WS at hA hV hm hU ⊢
  refine wp_region_sched (fun w' => w'.heap[R]? = some (.cells (y0 n tm 5 st lg rv bs ti au a1 n1 c1 a2 n2 c2 til a3 n3 c3 app den ed bk se tx nm pa cl un) 28 (0, 0)) /\ w'.heap[R + 1 + 1]? = some (.cells #[.int .i64 n, .int .i64 tm, .int .i64 5, .int .i64 st, .string ⟨#[]⟩, .int .i64 0, .int .i64 0, .string ⟨#[]⟩, .string ⟨#[]⟩, .slice none 0 0, .slice none 0 0, .int .i64 0, .slice none 0 0, .int .i64 0, .int .i64 0, .int .i64 0, .int .i64 0, .int .i64 0, .string ⟨tx.toArray⟩, .string ⟨#[]⟩, .int .i64 0, .int .i64 0, .int .i64 0] 28 (0, 0))) [(0, true), (1, true), (2, true), (3, true), (4, true), (5, false), (6, true), (7, false), (8, true)] (by as_aux_lemma => kernel_rfl) (by as_aux_lemma => kernel_rfl) (by as_aux_lemma => kernel_rfl) (by decide) ⟨(Mod.drew0 (fun _ => False) _).at hA.out (fun h => h), (Mod.drew0 (fun _ => False) _).at hU.out (fun h => h)⟩ ?_
  replace hA := hid ((Mod.drew0 (fun _ => False) _).at hA.out (fun h => h))
  replace hV := hid ((Mod.drew0 (fun _ => False) _).at hV.out (fun h => h))
  replace hU := hid ((Mod.drew0 (fun _ => False) _).at hU.out (fun h => h))
  replace hm := hid hm.out.drew
  generalize WS.drew = WD at hA hV hU hm ⊢
  simp only [schedOps, List.map_cons, List.map_nil, List.getD_cons_zero, List.getD_cons_succ]
  cases b1
  case' true =>
   repeat (first | ((first | (refine lW 28 R (fun w h => h.1) ?_) | (refine lW 28 (R + 1 + 1) (fun w h => h.2) ?_) | (refine lL 26 R (fun w h => h.1) ?_)); try simp only [Act.put, sA, sZ, sS]) | ((refine wpS_q (by rfl) ?_ (fun w' hC => ?_) ?_; rotate_left; (have g_tx := cell_of' hC.1 18; go_simp; try with_reducible rfl)); try simp only [Act.put, sA, sZ, sS]) | (refine nT ?_))
   refine wpS_c (by rfl) (fun K hK => ?_)
   go_simp
   refine (k4.out _).mono ?_; rintro e w' ⟨rfl, rfl⟩
   refine hK.out _ _ ⟨hA.out, hU.out⟩ ?_
   clear hK K
   try simp only [Act.put, sA, sZ, sS]
  all_goals
   repeat (first | ((first | (refine lW 28 R (fun w h => h.1) ?_) | (refine lW 28 (R + 1 + 1) (fun w h => h.2) ?_) | (refine lL 26 R (fun w h => h.1) ?_)); try simp only [Act.put, sA, sZ, sS]) | ((refine wpS_q (by rfl) ?_ (fun w' hC => ?_) ?_; rotate_left; (have g_tx := cell_of' hC.1 18; go_simp; try with_reducible rfl)); try simp only [Act.put, sA, sZ, sS]) | (refine nT ?_))
   refine wpS_c (by rfl) (fun K hK => ?_)
   refine wp_storeW 28 _ _ rfl (R + 1) _ _ 28 rfl rfl hV.out rfl (by kernel_rfl) rfl (fun WF HF => ?_)
   refine hK.out _ _ ⟨HF.out.2.at hA.out (by omega), HF.out.2.at hU.out (by omega)⟩ ?_
   clear hK K
   try simp only [Act.put]
   repeat (first | ((first | (refine lW 28 R (fun w h => h.1) ?_) | (refine lW 28 (R + 1 + 1) (fun w h => h.2) ?_) | (refine lL 26 R (fun w h => h.1) ?_)); try simp only [Act.put, sA, sZ, sS]) | ((refine wpS_q (by rfl) ?_ (fun w' hC => ?_) ?_; rotate_left; (have g_tx := cell_of' hC.1 18; go_simp; try with_reducible rfl)); try simp only [Act.put, sA, sZ, sS]) | (refine nT ?_))
   refine wpS_nil ?_
   go_wp2_with fail
   refine bodyPost_ret (ret_cell_tmp rfl _ _ (R + 1) _ _ _ _ rfl HF.out.1 Tryz.underlying28 rfl (by kernel_rfl)) rfl ?_
   exact ⟨by rw [hok.out]; simp [*] , hfin.out _ (hm.out.then HF.out.2 (fun k _ e => by omega))⟩
theorem fused_k7 (a1 : Option Addr) (n1 c1 : Nat) (a2 : Option Addr) (n2 c2 : Nat) (a3 : Option Addr) (n3 c3 : Nat) (n tm st rv bs til app den ed bk se pa cl un : Int) (lg ti au tx nm : Bs) (w : World) :
  Calls Tryz.prog 54 #[.agg (y0 n tm 7 st lg rv bs ti au a1 n1 c1 a2 n2 c2 til a3 n3 c3 app den ed bk se tx nm pa cl un)] w fun e w' => e = .returned (.tuple #[.agg #[.int .i64 n, .int .i64 tm, .int .i64 7, .int .i64 0, .string ⟨#[]⟩, .int .i64 0, .int .i64 0, .string ⟨#[]⟩, .string ⟨#[]⟩, .slice none 0 0, .slice none 0 0, .int .i64 0, .slice none 0 0, .int .i64 0, .int .i64 0, .int .i64 0, .int .i64 0, .int .i64 0, .string ⟨tx.toArray⟩, .string ⟨nm.toArray⟩, .int .i64 0, .int .i64 0, .int .i64 0], .bool (isNm nm && isSo tx)]) /\ Ext w w' := by
 obtain ⟨ok, hok⟩ : ∃ ok, ok = (isNm nm && isSo tx) := ⟨_, rfl⟩
 rw [<- hok]
 have k1 := hid (fun W => fwithin_any st 1 64 W)
 have k2 := hid (fun W => fwithin_any pa 1 8 W)
 have k3 := hid (fun W => fwithin_any un 0 1000000000 W)
 have k4 := hid (fun W => fname_any ⟨nm.toArray⟩ W)
 have k5 := hid (fun W => fsource_any ⟨tx.toArray⟩ W)
 simp only [] at k4 k5
 generalize isNm nm = b4 at k4 hok
 generalize isSo tx = b5 at k5 hok
 generalize rng st 1 64 = b1 at k1 hok
 generalize rng pa 1 8 = b2 at k2 hok
 generalize rng un 0 1000000000 = b3 at k3 hok
 replace hok := hid hok
 have h3 := hid (three_boxes w (y0 n tm 7 st lg rv bs ti au a1 n1 c1 a2 n2 c2 til a3 n3 c3 app den ed bk se tx nm pa cl un) zF9 zF9 28 28 28)
 go_enter Tryz.func54, Tryz.ntmps54
 go_wp2_with (refine wpList_storeW rfl 28 _ _ rfl (w.heap.size + 1 + 1) _ _ 28 rfl rfl h3.out.2.2.2 rfl (by kernel_rfl) rfl (fun W H1 => ?_); have q_st : W.cell? ⟨w.heap.size, 3, none⟩ = some (.int .i64 st) := cell_of' (H1.out.2.at h3.out.2.1 (by omega)) 3)
 obtain ⟨hm0, hA0, hV0, -⟩ := h3.out
 clear h3
 have hA := hid (H1.out.2.at hA0 (by omega))
 have hV := hid (H1.out.2.at hV0 (by omega))
 have hU := hid H1.out.1
 have hm := hid ((hm0.mono (T := fun k => w.heap.size <= k) (fun _ h => h.elim)).then H1.out.2 (fun k _ e => by omega))
 clear H1 hA0 hV0 hm0
 have hfin : Hid (∀ w', Mod (fun k => w.heap.size <= k) w w' -> Ext w w') := hid (fun w' h => h.mono' (fun k hk e => by omega))
 generalize w.heap.size = R at hA hV hU hm hfin ⊢
 refine (k1.out _).mono ?_; rintro e w' ⟨rfl, rfl⟩
 have q_pa : W.cell? ⟨R, 20, none⟩ = some (.int .i64 pa) := cell_of' hA.out 20
 have q_un : W.cell? ⟨R, 22, none⟩ = some (.int .i64 un) := cell_of' hA.out 22
 have q_kd : W.cell? ⟨R, 2, none⟩ = some (.int .i64 7) := cell_of' hA.out 2
 go_wp2_with fail
 refine (k2.out _).mono ?_; rintro e w' ⟨rfl, rfl⟩
 cases b2
 case' false => clear k1 k2 k3 q_st q_pa q_un
 case' true =>
  go_wp2_with fail
  refine (k3.out _).mono ?_; rintro e w' ⟨rfl, rfl⟩
  clear k1 k2 k3 q_st q_pa q_un
 all_goals
  go_wp2_with fail
  refine wp_region_sched (fun w' => w'.cell? ⟨R, 19, none⟩ = some (.string ⟨nm.toArray⟩) /\ w'.cell? ⟨R, 18, none⟩ = some (.string ⟨tx.toArray⟩)) [(0, true), (1, true), (2, true), (3, true), (4, true), (5, false), (6, true), (7, false), (8, true), (9, false)] (by as_aux_lemma => kernel_rfl) (by as_aux_lemma => kernel_rfl) (by as_aux_lemma => kernel_rfl) (by decide) ⟨cell_of' hA.out 19, cell_of' hA.out 18⟩ ?_
  have hA0 := hid ((Mod.drew0 (fun _ => False) _).at hA.out (fun h => h))
  have hV0 := hid ((Mod.drew0 (fun _ => False) _).at hV.out (fun h => h))
  have hU0 := hid ((Mod.drew0 (fun _ => False) _).at hU.out (fun h => h))
  have hm0 := hid hm.out.drew
  clear hA hV hU hm
  generalize W.drew = wd0 at hA0 hV0 hU0 hm0 ⊢
  simp only [schedOps, List.map_cons, List.map_nil, List.getD_cons_zero, List.getD_cons_succ]
  repeat (first | (refine qT ?_) | (refine nT ?_))
  have c_st : wd0.cell? ⟨R + 1 + 1, 3, none⟩ = some (.int .i64 st) := cell_of' hU0.out 3
  have z := free_of' hU0.out
  refine wpS_c (by rfl) (fun K hK => ?_)
  go_simp
  clear z c_st
  have hU1 := (put_at' (hU0.out) 3 (.int .i64 0))
  simp only [sA, sZ, sS] at hU1
  replace hU1 := hid hU1
  have hA1 := hid ((put_ne' _ 3 (.int .i64 0) (show R + 1 + 1 ≠ R by omega)).trans (hA0.out))
  have hV1 := hid ((put_ne' _ 3 (.int .i64 0) (show R + 1 + 1 ≠ R + 1 by omega)).trans (hV0.out))
  have hm1 := hid (hm0.out.setCell (a := ⟨R + 1 + 1, 3, none⟩) (fun _ => by show R <= R + 1 + 1; omega) (.int .i64 0))
  clear hU0 hA0 hV0 hm0
  generalize (wd0.setCell ⟨R + 1 + 1, 3, none⟩ (.int .i64 0)) = wd1 at hU1 hA1 hV1 hm1 ⊢
  refine hK.out _ _ ⟨cell_of' hA1.out 19, cell_of' hA1.out 18⟩ ?_
  clear hK K
  try simp only [Act.put, sA, sZ, sS]
  repeat (first | (refine qT ?_) | (refine nT ?_))
  have c_nm : wd1.cell? ⟨R + 1 + 1, 19, none⟩ = some (.string ⟨#[]⟩) := cell_of' hU1.out 19
  have z := free_of' hU1.out
  refine wpS_c (by rfl) (fun K hK => ?_)
  go_simp
  clear z c_nm
  have hU2 := (put_at' (hU1.out) 19 (.string ⟨nm.toArray⟩))
  simp only [sA, sZ, sS] at hU2
  replace hU2 := hid hU2
  have hA2 := hid ((put_ne' _ 19 (.string ⟨nm.toArray⟩) (show R + 1 + 1 ≠ R by omega)).trans (hA1.out))
  have hV2 := hid ((put_ne' _ 19 (.string ⟨nm.toArray⟩) (show R + 1 + 1 ≠ R + 1 by omega)).trans (hV1.out))
  have hm2 := hid (hm1.out.setCell (a := ⟨R + 1 + 1, 19, none⟩) (fun _ => by show R <= R + 1 + 1; omega) (.string ⟨nm.toArray⟩))
  clear hU1 hA1 hV1 hm1
  generalize (wd1.setCell ⟨R + 1 + 1, 19, none⟩ (.string ⟨nm.toArray⟩)) = wd2 at hU2 hA2 hV2 hm2 ⊢
  refine hK.out _ _ ⟨cell_of' hA2.out 19, cell_of' hA2.out 18⟩ ?_
  clear hK K
  try simp only [Act.put, sA, sZ, sS]
  repeat (first | (refine qT ?_) | (refine nT ?_))
  have c_tx : wd2.cell? ⟨R + 1 + 1, 18, none⟩ = some (.string ⟨#[]⟩) := cell_of' hU2.out 18
  have z := free_of' hU2.out
  refine wpS_c (by rfl) (fun K hK => ?_)
  go_simp
  clear z c_tx
  have hU3 := (put_at' (hU2.out) 18 (.string ⟨tx.toArray⟩))
  simp only [sA, sZ, sS] at hU3
  replace hU3 := hid hU3
  have hA3 := hid ((put_ne' _ 18 (.string ⟨tx.toArray⟩) (show R + 1 + 1 ≠ R by omega)).trans (hA2.out))
  have hV3 := hid ((put_ne' _ 18 (.string ⟨tx.toArray⟩) (show R + 1 + 1 ≠ R + 1 by omega)).trans (hV2.out))
  have hm3 := hid (hm2.out.setCell (a := ⟨R + 1 + 1, 18, none⟩) (fun _ => by show R <= R + 1 + 1; omega) (.string ⟨tx.toArray⟩))
  clear hU2 hA2 hV2 hm2
  generalize (wd2.setCell ⟨R + 1 + 1, 18, none⟩ (.string ⟨tx.toArray⟩)) = wd3 at hU3 hA3 hV3 hm3 ⊢
  refine hK.out _ _ ⟨cell_of' hA3.out 19, cell_of' hA3.out 18⟩ ?_
  clear hK K
  try simp only [Act.put, sA, sZ, sS]
  repeat (first | (refine qT ?_) | (refine nT ?_))
  refine wpS_nil ?_
  have hA := hA3
  have hV := hV3
  have hU := hU3
  have hm := hm3
  clear hA3 hV3 hU3 hm3
  go_wp2_with fail
  refine wp_region_sched (fun w' => w'.heap[R]? = some (.cells (y0 n tm 7 st lg rv bs ti au a1 n1 c1 a2 n2 c2 til a3 n3 c3 app den ed bk se tx nm pa cl un) 28 (0, 0)) /\ w'.heap[R + 1 + 1]? = some (.cells #[.int .i64 n, .int .i64 tm, .int .i64 7, .int .i64 0, .string ⟨#[]⟩, .int .i64 0, .int .i64 0, .string ⟨#[]⟩, .string ⟨#[]⟩, .slice none 0 0, .slice none 0 0, .int .i64 0, .slice none 0 0, .int .i64 0, .int .i64 0, .int .i64 0, .int .i64 0, .int .i64 0, .string ⟨tx.toArray⟩, .string ⟨nm.toArray⟩, .int .i64 0, .int .i64 0, .int .i64 0] 28 (0, 0))) [(0, true), (1, true), (2, true), (3, false), (4, true), (5, true), (6, true), (7, false), (8, true), (9, false), (10, true)] (by as_aux_lemma => kernel_rfl) (by as_aux_lemma => kernel_rfl) (by as_aux_lemma => kernel_rfl) (by decide) ⟨(Mod.drew0 (fun _ => False) _).at hA.out (fun h => h), (Mod.drew0 (fun _ => False) _).at hU.out (fun h => h)⟩ ?_
  replace hA := hid ((Mod.drew0 (fun _ => False) _).at hA.out (fun h => h))
  replace hV := hid ((Mod.drew0 (fun _ => False) _).at hV.out (fun h => h))
  replace hU := hid ((Mod.drew0 (fun _ => False) _).at hU.out (fun h => h))
  replace hm := hid hm.out.drew
  generalize wd3.drew = WD at hA hV hU hm ⊢
  simp only [schedOps, List.map_cons, List.map_nil, List.getD_cons_zero, List.getD_cons_succ]
  repeat (first | ((first | (refine lW 28 R (fun w h => h.1) ?_) | (refine lW 28 (R + 1 + 1) (fun w h => h.2) ?_) | (refine lL 26 R (fun w h => h.1) ?_)); try simp only [Act.put, sA, sZ, sS]) | ((refine wpS_q (by rfl) ?_ (fun w' hC => ?_) ?_; rotate_left; (have g_nm := cell_of' hC.1 19; have g_tx := cell_of' hC.1 18; go_simp; try with_reducible rfl)); try simp only [Act.put, sA, sZ, sS]) | (refine nT ?_))
  refine wpS_c (by rfl) (fun K hK => ?_)
  go_simp
  refine (k4.out _).mono ?_; rintro e w' ⟨rfl, rfl⟩
  refine hK.out _ _ ⟨hA.out, hU.out⟩ ?_
  clear hK K
  try simp only [Act.put, sA, sZ, sS]
  cases b4
  case' true =>
   repeat (first | ((first | (refine lW 28 R (fun w h => h.1) ?_) | (refine lW 28 (R + 1 + 1) (fun w h => h.2) ?_) | (refine lL 26 R (fun w h => h.1) ?_)); try simp only [Act.put, sA, sZ, sS]) | ((refine wpS_q (by rfl) ?_ (fun w' hC => ?_) ?_; rotate_left; (have g_nm := cell_of' hC.1 19; have g_tx := cell_of' hC.1 18; go_simp; try with_reducible rfl)); try simp only [Act.put, sA, sZ, sS]) | (refine nT ?_))
   refine wpS_c (by rfl) (fun K hK => ?_)
   go_simp
   refine (k5.out _).mono ?_; rintro e w' ⟨rfl, rfl⟩
   refine hK.out _ _ ⟨hA.out, hU.out⟩ ?_
   clear hK K
   try simp only [Act.put, sA, sZ, sS]
  all_goals
   repeat (first | ((first | (refine lW 28 R (fun w h => h.1) ?_) | (refine lW 28 (R + 1 + 1) (fun w h => h.2) ?_) | (refine lL 26 R (fun w h => h.1) ?_)); try simp only [Act.put, sA, sZ, sS]) | ((refine wpS_q (by rfl) ?_ (fun w' hC => ?_) ?_; rotate_left; (have g_nm := cell_of' hC.1 19; have g_tx := cell_of' hC.1 18; go_simp; try with_reducible rfl)); try simp only [Act.put, sA, sZ, sS]) | (refine nT ?_))
   refine wpS_c (by rfl) (fun K hK => ?_)
   refine wp_storeW 28 _ _ rfl (R + 1) _ _ 28 rfl rfl hV.out rfl (by kernel_rfl) rfl (fun WF HF => ?_)
   refine hK.out _ _ ⟨HF.out.2.at hA.out (by omega), HF.out.2.at hU.out (by omega)⟩ ?_
   clear hK K
   try simp only [Act.put]
   repeat (first | ((first | (refine lW 28 R (fun w h => h.1) ?_) | (refine lW 28 (R + 1 + 1) (fun w h => h.2) ?_) | (refine lL 26 R (fun w h => h.1) ?_)); try simp only [Act.put, sA, sZ, sS]) | ((refine wpS_q (by rfl) ?_ (fun w' hC => ?_) ?_; rotate_left; (have g_nm := cell_of' hC.1 19; have g_tx := cell_of' hC.1 18; go_simp; try with_reducible rfl)); try simp only [Act.put, sA, sZ, sS]) | (refine nT ?_))
   refine wpS_nil ?_
   go_wp2_with fail
   refine bodyPost_ret (ret_cell_tmp rfl _ _ (R + 1) _ _ _ _ rfl HF.out.1 Tryz.underlying28 rfl (by kernel_rfl)) rfl ?_
   exact ⟨by rw [hok.out]; simp [*] , hfin.out _ (hm.out.then HF.out.2 (fun k _ e => by omega))⟩
theorem fused_k8 (a1 : Option Addr) (n1 c1 : Nat) (a2 : Option Addr) (n2 c2 : Nat) (a3 : Option Addr) (n3 c3 : Nat) (n tm st rv bs til app den ed bk se pa cl un : Int) (lg ti au tx nm : Bs) (w : World) :
  Calls Tryz.prog 54 #[.agg (y0 n tm 8 st lg rv bs ti au a1 n1 c1 a2 n2 c2 til a3 n3 c3 app den ed bk se tx nm pa cl un)] w fun e w' => e = .returned (.tuple #[.agg (y3 n tm 8 pa cl un), .bool ((rng pa 1 8 && rng un 0 1000000000) && rng cl 0 3)]) /\ Ext w w' := by
 obtain ⟨ok, hok⟩ : ∃ ok, ok = ((rng pa 1 8 && rng un 0 1000000000) && rng cl 0 3) := ⟨_, rfl⟩
 rw [<- hok]
 have k1 := hid (fun W => fwithin_any st 1 64 W)
 have k2 := hid (fun W => fwithin_any pa 1 8 W)
 have k3 := hid (fun W => fwithin_any un 0 1000000000 W)
 have k4 := hid (fun W => fwithin_any cl 0 3 W)
 generalize rng cl 0 3 = b4 at k4 hok
 generalize rng st 1 64 = b1 at k1 hok
 generalize rng pa 1 8 = b2 at k2 hok
 generalize rng un 0 1000000000 = b3 at k3 hok
 replace hok := hid hok
 have h3 := hid (three_boxes w (y0 n tm 8 st lg rv bs ti au a1 n1 c1 a2 n2 c2 til a3 n3 c3 app den ed bk se tx nm pa cl un) zF9 zF9 28 28 28)
 go_enter Tryz.func54, Tryz.ntmps54
 go_wp2_with (refine wpList_storeW rfl 28 _ _ rfl (w.heap.size + 1 + 1) _ _ 28 rfl rfl h3.out.2.2.2 rfl (by kernel_rfl) rfl (fun W H1 => ?_); have q_st : W.cell? ⟨w.heap.size, 3, none⟩ = some (.int .i64 st) := cell_of' (H1.out.2.at h3.out.2.1 (by omega)) 3)
 obtain ⟨hm0, hA0, hV0, -⟩ := h3.out
 clear h3
 have hA := hid (H1.out.2.at hA0 (by omega))
 have hV := hid (H1.out.2.at hV0 (by omega))
 have hU := hid H1.out.1
 have hm := hid ((hm0.mono (T := fun k => w.heap.size <= k) (fun _ h => h.elim)).then H1.out.2 (fun k _ e => by omega))
 clear H1 hA0 hV0 hm0
 have hfin : Hid (∀ w', Mod (fun k => w.heap.size <= k) w w' -> Ext w w') := hid (fun w' h => h.mono' (fun k hk e => by omega))
 generalize w.heap.size = R at hA hV hU hm hfin ⊢
 refine (k1.out _).mono ?_; rintro e w' ⟨rfl, rfl⟩
 have q_pa : W.cell? ⟨R, 20, none⟩ = some (.int .i64 pa) := cell_of' hA.out 20
 have q_un : W.cell? ⟨R, 22, none⟩ = some (.int .i64 un) := cell_of' hA.out 22
 have q_kd : W.cell? ⟨R, 2, none⟩ = some (.int .i64 8) := cell_of' hA.out 2
 go_wp2_with fail
 refine (k2.out _).mono ?_; rintro e w' ⟨rfl, rfl⟩
 cases b2
 ·clear k1 k2 k3 q_st q_pa q_un
  go_wp2_with fail
  refine wp_region_sched (fun w' => w'.cell? ⟨R, 20, none⟩ = some (.int .i64 pa) /\ w'.cell? ⟨R, 21, none⟩ = some (.int .i64 cl) /\ w'.cell? ⟨R, 22, none⟩ = some (.int .i64 un)) [(0, true), (1, true), (2, true), (3, true), (4, true), (5, true), (6, true), (7, false), (8, true), (9, false), (10, true), (11, false), (12, true), (13, false)] (by as_aux_lemma => kernel_rfl) (by as_aux_lemma => kernel_rfl) (by as_aux_lemma => kernel_rfl) (by decide) ⟨cell_of' hA.out 20, cell_of' hA.out 21, cell_of' hA.out 22⟩ ?_
  have hA0 := hid ((Mod.drew0 (fun _ => False) _).at hA.out (fun h => h))
  have hV0 := hid ((Mod.drew0 (fun _ => False) _).at hV.out (fun h => h))
  have hU0 := hid ((Mod.drew0 (fun _ => False) _).at hU.out (fun h => h))
  have hm0 := hid hm.out.drew
  clear hA hV hU hm
  generalize W.drew = wd0 at hA0 hV0 hU0 hm0 ⊢
  simp only [schedOps, List.map_cons, List.map_nil, List.getD_cons_zero, List.getD_cons_succ]
  repeat (first | (refine qT ?_) | (refine nT ?_))
  have c_st : wd0.cell? ⟨R + 1 + 1, 3, none⟩ = some (.int .i64 st) := cell_of' hU0.out 3
  have z := free_of' hU0.out
  refine wpS_c (by rfl) (fun K hK => ?_)
  go_simp
  clear z c_st
  have hU1 := (put_at' (hU0.out) 3 (.int .i64 0))
  simp only [sA, sZ, sS] at hU1
  replace hU1 := hid hU1
  have hA1 := hid ((put_ne' _ 3 (.int .i64 0) (show R + 1 + 1 ≠ R by omega)).trans (hA0.out))
  have hV1 := hid ((put_ne' _ 3 (.int .i64 0) (show R + 1 + 1 ≠ R + 1 by omega)).trans (hV0.out))
  have hm1 := hid (hm0.out.setCell (a := ⟨R + 1 + 1, 3, none⟩) (fun _ => by show R <= R + 1 + 1; omega) (.int .i64 0))
  clear hU0 hA0 hV0 hm0
  generalize (wd0.setCell ⟨R + 1 + 1, 3, none⟩ (.int .i64 0)) = wd1 at hU1 hA1 hV1 hm1 ⊢
  refine hK.out _ _ ⟨cell_of' hA1.out 20, cell_of' hA1.out 21, cell_of' hA1.out 22⟩ ?_
  clear hK K
  try simp only [Act.put, sA, sZ, sS]
  repeat (first | (refine qT ?_) | (refine nT ?_))
  have c_pa : wd1.cell? ⟨R + 1 + 1, 20, none⟩ = some (.int .i64 0) := cell_of' hU1.out 20
  have z := free_of' hU1.out
  refine wpS_c (by rfl) (fun K hK => ?_)
  go_simp
  clear z c_pa
  have hU2 := (put_at' (hU1.out) 20 (.int .i64 pa))
  simp only [sA, sZ, sS] at hU2
  replace hU2 := hid hU2
  have hA2 := hid ((put_ne' _ 20 (.int .i64 pa) (show R + 1 + 1 ≠ R by omega)).trans (hA1.out))
  have hV2 := hid ((put_ne' _ 20 (.int .i64 pa) (show R + 1 + 1 ≠ R + 1 by omega)).trans (hV1.out))
  have hm2 := hid (hm1.out.setCell (a := ⟨R + 1 + 1, 20, none⟩) (fun _ => by show R <= R + 1 + 1; omega) (.int .i64 pa))
  clear hU1 hA1 hV1 hm1
  generalize (wd1.setCell ⟨R + 1 + 1, 20, none⟩ (.int .i64 pa)) = wd2 at hU2 hA2 hV2 hm2 ⊢
  refine hK.out _ _ ⟨cell_of' hA2.out 20, cell_of' hA2.out 21, cell_of' hA2.out 22⟩ ?_
  clear hK K
  try simp only [Act.put, sA, sZ, sS]
  repeat (first | (refine qT ?_) | (refine nT ?_))
  have c_cl : wd2.cell? ⟨R + 1 + 1, 21, none⟩ = some (.int .i64 0) := cell_of' hU2.out 21
  have z := free_of' hU2.out
  refine wpS_c (by rfl) (fun K hK => ?_)
  go_simp
  clear z c_cl
  have hU3 := (put_at' (hU2.out) 21 (.int .i64 cl))
  simp only [sA, sZ, sS] at hU3
  replace hU3 := hid hU3
  have hA3 := hid ((put_ne' _ 21 (.int .i64 cl) (show R + 1 + 1 ≠ R by omega)).trans (hA2.out))
  have hV3 := hid ((put_ne' _ 21 (.int .i64 cl) (show R + 1 + 1 ≠ R + 1 by omega)).trans (hV2.out))
  have hm3 := hid (hm2.out.setCell (a := ⟨R + 1 + 1, 21, none⟩) (fun _ => by show R <= R + 1 + 1; omega) (.int .i64 cl))
  clear hU2 hA2 hV2 hm2
  generalize (wd2.setCell ⟨R + 1 + 1, 21, none⟩ (.int .i64 cl)) = wd3 at hU3 hA3 hV3 hm3 ⊢
  refine hK.out _ _ ⟨cell_of' hA3.out 20, cell_of' hA3.out 21, cell_of' hA3.out 22⟩ ?_
  clear hK K
  try simp only [Act.put, sA, sZ, sS]
  repeat (first | (refine qT ?_) | (refine nT ?_))
  have c_un : wd3.cell? ⟨R + 1 + 1, 22, none⟩ = some (.int .i64 0) := cell_of' hU3.out 22
  have z := free_of' hU3.out
  refine wpS_c (by rfl) (fun K hK => ?_)
  go_simp
  clear z c_un
  have hU4 := (put_at' (hU3.out) 22 (.int .i64 un))
  simp only [sA, sZ, sS] at hU4
  replace hU4 := hid hU4
  have hA4 := hid ((put_ne' _ 22 (.int .i64 un) (show R + 1 + 1 ≠ R by omega)).trans (hA3.out))
  have hV4 := hid ((put_ne' _ 22 (.int .i64 un) (show R + 1 + 1 ≠ R + 1 by omega)).trans (hV3.out))
  have hm4 := hid (hm3.out.setCell (a := ⟨R + 1 + 1, 22, none⟩) (fun _ => by show R <= R + 1 + 1; omega) (.int .i64 un))
  clear hU3 hA3 hV3 hm3
  generalize (wd3.setCell ⟨R + 1 + 1, 22, none⟩ (.int .i64 un)) = wd4 at hU4 hA4 hV4 hm4 ⊢
  refine hK.out _ _ ⟨cell_of' hA4.out 20, cell_of' hA4.out 21, cell_of' hA4.out 22⟩ ?_
  clear hK K
  try simp only [Act.put, sA, sZ, sS]
  repeat (first | (refine qT ?_) | (refine nT ?_))
  refine wpS_nil ?_
  have hA := hA4
  have hV := hV4
  have hU := hU4
  have hm := hm4
  clear hA4 hV4 hU4 hm4
  go_wp2_with fail
  refine wp_region_sched (fun w' => w'.heap[R]? = some (.cells (y0 n tm 8 st lg rv bs ti au a1 n1 c1 a2 n2 c2 til a3 n3 c3 app den ed bk se tx nm pa cl un) 28 (0, 0)) /\ w'.heap[R + 1 + 1]? = some (.cells (y3 n tm 8 pa cl un) 28 (0, 0))) [(0, true), (1, true), (2, true), (3, true), (4, true), (5, false), (6, true), (7, false), (8, true)] (by as_aux_lemma => kernel_rfl) (by as_aux_lemma => kernel_rfl) (by as_aux_lemma => kernel_rfl) (by decide) ⟨(Mod.drew0 (fun _ => False) _).at hA.out (fun h => h), (Mod.drew0 (fun _ => False) _).at hU.out (fun h => h)⟩ ?_
  replace hA := hid ((Mod.drew0 (fun _ => False) _).at hA.out (fun h => h))
  replace hV := hid ((Mod.drew0 (fun _ => False) _).at hV.out (fun h => h))
  replace hU := hid ((Mod.drew0 (fun _ => False) _).at hU.out (fun h => h))
  replace hm := hid hm.out.drew
  generalize wd4.drew = WD at hA hV hU hm ⊢
  simp only [schedOps, List.map_cons, List.map_nil, List.getD_cons_zero, List.getD_cons_succ]
  repeat (first | ((first | (refine lW 28 R (fun w h => h.1) ?_) | (refine lW 28 (R + 1 + 1) (fun w h => h.2) ?_) | (refine lL 26 R (fun w h => h.1) ?_)); try simp only [Act.put, sA, sZ, sS]) | ((refine wpS_q (by rfl) ?_ (fun w' hC => ?_) ?_; rotate_left; (have g_cl := cell_of' hC.1 21; go_simp; try with_reducible rfl)); try simp only [Act.put, sA, sZ, sS]) | (refine nT ?_))
  refine wpS_c (by rfl) (fun K hK => ?_)
  refine wp_storeW 28 _ _ rfl (R + 1) _ _ 28 rfl rfl hV.out rfl (by kernel_rfl) rfl (fun WF HF => ?_)
  refine hK.out _ _ ⟨HF.out.2.at hA.out (by omega), HF.out.2.at hU.out (by omega)⟩ ?_
  clear hK K
  try simp only [Act.put]
  repeat (first | ((first | (refine lW 28 R (fun w h => h.1) ?_) | (refine lW 28 (R + 1 + 1) (fun w h => h.2) ?_) | (refine lL 26 R (fun w h => h.1) ?_)); try simp only [Act.put, sA, sZ, sS]) | ((refine wpS_q (by rfl) ?_ (fun w' hC => ?_) ?_; rotate_left; (have g_cl := cell_of' hC.1 21; go_simp; try with_reducible rfl)); try simp only [Act.put, sA, sZ, sS]) | (refine nT ?_))
  refine wpS_nil ?_
  go_wp2_with fail
  refine bodyPost_ret (ret_cell_tmp rfl _ _ (R + 1) _ _ _ _ rfl HF.out.1 Tryz.underlying28 rfl (by kernel_rfl)) rfl ?_
  exact ⟨by rw [hok.out]; simp [*] , hfin.out _ (hm.out.then HF.out.2 (fun k _ e => by omega))⟩
 ·go_wp2_with fail
  refine (k3.out _).mono ?_; rintro e w' ⟨rfl, rfl⟩
  clear k1 k2 k3 q_st q_pa q_un
  go_wp2_with fail
  refine wp_region_sched (fun w' => w'.cell? ⟨R, 20, none⟩ = some (.int .i64 pa) /\ w'.cell? ⟨R, 21, none⟩ = some (.int .i64 cl) /\ w'.cell? ⟨R, 22, none⟩ = some (.int .i64 un)) [(0, true), (1, true), (2, true), (3, true), (4, true), (5, true), (6, true), (7, false), (8, true), (9, false), (10, true), (11, false), (12, true), (13, false)] (by as_aux_lemma => kernel_rfl) (by as_aux_lemma => kernel_rfl) (by as_aux_lemma => kernel_rfl) (by decide) ⟨cell_of' hA.out 20, cell_of' hA.out 21, cell_of' hA.out 22⟩ ?_
  have hA0 := hid ((Mod.drew0 (fun _ => False) _).at hA.out (fun h => h))
  have hV0 := hid ((Mod.drew0 (fun _ => False) _).at hV.out (fun h => h))
  have hU0 := hid ((Mod.drew0 (fun _ => False) _).at hU.out (fun h => h))
  have hm0 := hid hm.out.drew
  clear hA hV hU hm
  generalize W.drew = wd0 at hA0 hV0 hU0 hm0 ⊢
  simp only [schedOps, List.map_cons, List.map_nil, List.getD_cons_zero, List.getD_cons_succ]
  repeat (first | (refine qT ?_) | (refine nT ?_))
  have c_st : wd0.cell? ⟨R + 1 + 1, 3, none⟩ = some (.int .i64 st) := cell_of' hU0.out 3
  have z := free_of' hU0.out
  refine wpS_c (by rfl) (fun K hK => ?_)
  go_simp
  clear z c_st
  have hU1 := (put_at' (hU0.out) 3 (.int .i64 0))
  simp only [sA, sZ, sS] at hU1
  replace hU1 := hid hU1
  have hA1 := hid ((put_ne' _ 3 (.int .i64 0) (show R + 1 + 1 ≠ R by omega)).trans (hA0.out))
  have hV1 := hid ((put_ne' _ 3 (.int .i64 0) (show R + 1 + 1 ≠ R + 1 by omega)).trans (hV0.out))
  have hm1 := hid (hm0.out.setCell (a := ⟨R + 1 + 1, 3, none⟩) (fun _ => by show R <= R + 1 + 1; omega) (.int .i64 0))
  clear hU0 hA0 hV0 hm0
  generalize (wd0.setCell ⟨R + 1 + 1, 3, none⟩ (.int .i64 0)) = wd1 at hU1 hA1 hV1 hm1 ⊢
  refine hK.out _ _ ⟨cell_of' hA1.out 20, cell_of' hA1.out 21, cell_of' hA1.out 22⟩ ?_
  clear hK K
  try simp only [Act.put, sA, sZ, sS]
  repeat (first | (refine qT ?_) | (refine nT ?_))
  have c_pa : wd1.cell? ⟨R + 1 + 1, 20, none⟩ = some (.int .i64 0) := cell_of' hU1.out 20
  have z := free_of' hU1.out
  refine wpS_c (by rfl) (fun K hK => ?_)
  go_simp
  clear z c_pa
  have hU2 := (put_at' (hU1.out) 20 (.int .i64 pa))
  simp only [sA, sZ, sS] at hU2
  replace hU2 := hid hU2
  have hA2 := hid ((put_ne' _ 20 (.int .i64 pa) (show R + 1 + 1 ≠ R by omega)).trans (hA1.out))
  have hV2 := hid ((put_ne' _ 20 (.int .i64 pa) (show R + 1 + 1 ≠ R + 1 by omega)).trans (hV1.out))
  have hm2 := hid (hm1.out.setCell (a := ⟨R + 1 + 1, 20, none⟩) (fun _ => by show R <= R + 1 + 1; omega) (.int .i64 pa))
  clear hU1 hA1 hV1 hm1
  generalize (wd1.setCell ⟨R + 1 + 1, 20, none⟩ (.int .i64 pa)) = wd2 at hU2 hA2 hV2 hm2 ⊢
  refine hK.out _ _ ⟨cell_of' hA2.out 20, cell_of' hA2.out 21, cell_of' hA2.out 22⟩ ?_
  clear hK K
  try simp only [Act.put, sA, sZ, sS]
  repeat (first | (refine qT ?_) | (refine nT ?_))
  have c_cl : wd2.cell? ⟨R + 1 + 1, 21, none⟩ = some (.int .i64 0) := cell_of' hU2.out 21
  have z := free_of' hU2.out
  refine wpS_c (by rfl) (fun K hK => ?_)
  go_simp
  clear z c_cl
  have hU3 := (put_at' (hU2.out) 21 (.int .i64 cl))
  simp only [sA, sZ, sS] at hU3
  replace hU3 := hid hU3
  have hA3 := hid ((put_ne' _ 21 (.int .i64 cl) (show R + 1 + 1 ≠ R by omega)).trans (hA2.out))
  have hV3 := hid ((put_ne' _ 21 (.int .i64 cl) (show R + 1 + 1 ≠ R + 1 by omega)).trans (hV2.out))
  have hm3 := hid (hm2.out.setCell (a := ⟨R + 1 + 1, 21, none⟩) (fun _ => by show R <= R + 1 + 1; omega) (.int .i64 cl))
  clear hU2 hA2 hV2 hm2
  generalize (wd2.setCell ⟨R + 1 + 1, 21, none⟩ (.int .i64 cl)) = wd3 at hU3 hA3 hV3 hm3 ⊢
  refine hK.out _ _ ⟨cell_of' hA3.out 20, cell_of' hA3.out 21, cell_of' hA3.out 22⟩ ?_
  clear hK K
  try simp only [Act.put, sA, sZ, sS]
  repeat (first | (refine qT ?_) | (refine nT ?_))
  have c_un : wd3.cell? ⟨R + 1 + 1, 22, none⟩ = some (.int .i64 0) := cell_of' hU3.out 22
  have z := free_of' hU3.out
  refine wpS_c (by rfl) (fun K hK => ?_)
  go_simp
  clear z c_un
  have hU4 := (put_at' (hU3.out) 22 (.int .i64 un))
  simp only [sA, sZ, sS] at hU4
  replace hU4 := hid hU4
  have hA4 := hid ((put_ne' _ 22 (.int .i64 un) (show R + 1 + 1 ≠ R by omega)).trans (hA3.out))
  have hV4 := hid ((put_ne' _ 22 (.int .i64 un) (show R + 1 + 1 ≠ R + 1 by omega)).trans (hV3.out))
  have hm4 := hid (hm3.out.setCell (a := ⟨R + 1 + 1, 22, none⟩) (fun _ => by show R <= R + 1 + 1; omega) (.int .i64 un))
  clear hU3 hA3 hV3 hm3
  generalize (wd3.setCell ⟨R + 1 + 1, 22, none⟩ (.int .i64 un)) = wd4 at hU4 hA4 hV4 hm4 ⊢
  refine hK.out _ _ ⟨cell_of' hA4.out 20, cell_of' hA4.out 21, cell_of' hA4.out 22⟩ ?_
  clear hK K
  try simp only [Act.put, sA, sZ, sS]
  repeat (first | (refine qT ?_) | (refine nT ?_))
  refine wpS_nil ?_
  have hA := hA4
  have hV := hV4
  have hU := hU4
  have hm := hm4
  clear hA4 hV4 hU4 hm4
  go_wp2_with fail
  refine wp_region_sched (fun w' => w'.heap[R]? = some (.cells (y0 n tm 8 st lg rv bs ti au a1 n1 c1 a2 n2 c2 til a3 n3 c3 app den ed bk se tx nm pa cl un) 28 (0, 0)) /\ w'.heap[R + 1 + 1]? = some (.cells (y3 n tm 8 pa cl un) 28 (0, 0))) [(0, true), (1, true), (2, true), (3, true), (4, true), (5, false), (6, true), (7, false), (8, true)] (by as_aux_lemma => kernel_rfl) (by as_aux_lemma => kernel_rfl) (by as_aux_lemma => kernel_rfl) (by decide) ⟨(Mod.drew0 (fun _ => False) _).at hA.out (fun h => h), (Mod.drew0 (fun _ => False) _).at hU.out (fun h => h)⟩ ?_
  replace hA := hid ((Mod.drew0 (fun _ => False) _).at hA.out (fun h => h))
  replace hV := hid ((Mod.drew0 (fun _ => False) _).at hV.out (fun h => h))
  replace hU := hid ((Mod.drew0 (fun _ => False) _).at hU.out (fun h => h))
  replace hm := hid hm.out.drew
  generalize wd4.drew = WD at hA hV hU hm ⊢
  simp only [schedOps, List.map_cons, List.map_nil, List.getD_cons_zero, List.getD_cons_succ]
  cases b3
  ·repeat (first | ((first | (refine lW 28 R (fun w h => h.1) ?_) | (refine lW 28 (R + 1 + 1) (fun w h => h.2) ?_) | (refine lL 26 R (fun w h => h.1) ?_)); try simp only [Act.put, sA, sZ, sS]) | ((refine wpS_q (by rfl) ?_ (fun w' hC => ?_) ?_; rotate_left; (have g_cl := cell_of' hC.1 21; go_simp; try with_reducible rfl)); try simp only [Act.put, sA, sZ, sS]) | (refine nT ?_))
   refine wpS_c (by rfl) (fun K hK => ?_)
   refine wp_storeW 28 _ _ rfl (R + 1) _ _ 28 rfl rfl hV.out rfl (by kernel_rfl) rfl (fun WF HF => ?_)
   refine hK.out _ _ ⟨HF.out.2.at hA.out (by omega), HF.out.2.at hU.out (by omega)⟩ ?_
   clear hK K
   try simp only [Act.put]
   repeat (first | ((first | (refine lW 28 R (fun w h => h.1) ?_) | (refine lW 28 (R + 1 + 1) (fun w h => h.2) ?_) | (refine lL 26 R (fun w h => h.1) ?_)); try simp only [Act.put, sA, sZ, sS]) | ((refine wpS_q (by rfl) ?_ (fun w' hC => ?_) ?_; rotate_left; (have g_cl := cell_of' hC.1 21; go_simp; try with_reducible rfl)); try simp only [Act.put, sA, sZ, sS]) | (refine nT ?_))
   refine wpS_nil ?_
   go_wp2_with fail
   refine bodyPost_ret (ret_cell_tmp rfl _ _ (R + 1) _ _ _ _ rfl HF.out.1 Tryz.underlying28 rfl (by kernel_rfl)) rfl ?_
   exact ⟨by rw [hok.out]; simp [*] , hfin.out _ (hm.out.then HF.out.2 (fun k _ e => by omega))⟩
  repeat (first | ((first | (refine lW 28 R (fun w h => h.1) ?_) | (refine lW 28 (R + 1 + 1) (fun w h => h.2) ?_) | (refine lL 26 R (fun w h => h.1) ?_)); try simp only [Act.put, sA, sZ, sS]) | ((refine wpS_q (by rfl) ?_ (fun w' hC => ?_) ?_; rotate_left; (have g_cl := cell_of' hC.1 21; go_simp; try with_reducible rfl)); try simp only [Act.put, sA, sZ, sS]) | (refine nT ?_))
  refine wpS_c (by rfl) (fun K hK => ?_)
  go_simp
  refine (k4.out _).mono ?_; rintro e w' ⟨rfl, rfl⟩
  refine hK.out _ _ ⟨hA.out, hU.out⟩ ?_
  clear hK K
  try simp only [Act.put, sA, sZ, sS]
  repeat (first | ((first | (refine lW 28 R (fun w h => h.1) ?_) | (refine lW 28 (R + 1 + 1) (fun w h => h.2) ?_) | (refine lL 26 R (fun w h => h.1) ?_)); try simp only [Act.put, sA, sZ, sS]) | ((refine wpS_q (by rfl) ?_ (fun w' hC => ?_) ?_; rotate_left; (have g_cl := cell_of' hC.1 21; go_simp; try with_reducible rfl)); try simp only [Act.put, sA, sZ, sS]) | (refine nT ?_))
  refine wpS_c (by rfl) (fun K hK => ?_)
  refine wp_storeW 28 _ _ rfl (R + 1) _ _ 28 rfl rfl hV.out rfl (by kernel_rfl) rfl (fun WF HF => ?_)
  refine hK.out _ _ ⟨HF.out.2.at hA.out (by omega), HF.out.2.at hU.out (by omega)⟩ ?_
  clear hK K
  try simp only [Act.put]
  repeat (first | ((first | (refine lW 28 R (fun w h => h.1) ?_) | (refine lW 28 (R + 1 + 1) (fun w h => h.2) ?_) | (refine lL 26 R (fun w h => h.1) ?_)); try simp only [Act.put, sA, sZ, sS]) | ((refine wpS_q (by rfl) ?_ (fun w' hC => ?_) ?_; rotate_left; (have g_cl := cell_of' hC.1 21; go_simp; try with_reducible rfl)); try simp only [Act.put, sA, sZ, sS]) | (refine nT ?_))
  refine wpS_nil ?_
  go_wp2_with fail
  refine bodyPost_ret (ret_cell_tmp rfl _ _ (R + 1) _ _ _ _ rfl HF.out.1 Tryz.underlying28 rfl (by kernel_rfl)) rfl ?_
  exact ⟨by rw [hok.out]; simp [*] , hfin.out _ (hm.out.then HF.out.2 (fun k _ e => by omega))⟩
theorem fused_k9 (a1 : Option Addr) (n1 c1 : Nat) (a2 : Option Addr) (n2 c2 : Nat) (a3 : Option Addr) (n3 c3 : Nat) (n tm st rv bs til app den ed bk se pa cl un : Int) (lg ti au tx nm : Bs) (w : World) :
  Calls Tryz.prog 54 #[.agg (y0 n tm 9 st lg rv bs ti au a1 n1 c1 a2 n2 c2 til a3 n3 c3 app den ed bk se tx nm pa cl un)] w fun e w' => e = .returned (.tuple #[.agg #[.int .i64 n, .int .i64 tm, .int .i64 9, .int .i64 0, .string ⟨#[]⟩, .int .i64 0, .int .i64 0, .string ⟨#[]⟩, .string ⟨#[]⟩, .slice none 0 0, .slice none 0 0, .int .i64 0, .slice none 0 0, .int .i64 0, .int .i64 0, .int .i64 0, .int .i64 0, .int .i64 0, .string ⟨#[]⟩, .string ⟨#[]⟩, .int .i64 pa, .int .i64 0, .int .i64 un], .bool (rng pa 1 8 && rng un 0 1000000000)]) /\ Ext w w' := by
 obtain ⟨ok, hok⟩ : ∃ ok, ok = (rng pa 1 8 && rng un 0 1000000000) := ⟨_, rfl⟩
 rw [<- hok]
 have k1 := hid (fun W => fwithin_any st 1 64 W)
 have k2 := hid (fun W => fwithin_any pa 1 8 W)
 have k3 := hid (fun W => fwithin_any un 0 1000000000 W)
 generalize rng st 1 64 = b1 at k1 hok
 generalize rng pa 1 8 = b2 at k2 hok
 generalize rng un 0 1000000000 = b3 at k3 hok
 replace hok := hid hok
 have h3 := hid (three_boxes w (y0 n tm 9 st lg rv bs ti au a1 n1 c1 a2 n2 c2 til a3 n3 c3 app den ed bk se tx nm pa cl un) zF9 zF9 28 28 28)
 go_enter Tryz.func54, Tryz.ntmps54
 go_wp2_with (refine wpList_storeW rfl 28 _ _ rfl (w.heap.size + 1 + 1) _ _ 28 rfl rfl h3.out.2.2.2 rfl (by kernel_rfl) rfl (fun W H1 => ?_); have q_st : W.cell? ⟨w.heap.size, 3, none⟩ = some (.int .i64 st) := cell_of' (H1.out.2.at h3.out.2.1 (by omega)) 3)
 obtain ⟨hm0, hA0, hV0, -⟩ := h3.out
 clear h3
 have hA := hid (H1.out.2.at hA0 (by omega))
 have hV := hid (H1.out.2.at hV0 (by omega))
 have hU := hid H1.out.1
 have hm := hid ((hm0.mono (T := fun k => w.heap.size <= k) (fun _ h => h.elim)).then H1.out.2 (fun k _ e => by omega))
 clear H1 hA0 hV0 hm0
 have hfin : Hid (∀ w', Mod (fun k => w.heap.size <= k) w w' -> Ext w w') := hid (fun w' h => h.mono' (fun k hk e => by omega))
 generalize w.heap.size = R at hA hV hU hm hfin ⊢
 refine (k1.out _).mono ?_; rintro e w' ⟨rfl, rfl⟩
 have q_pa : W.cell? ⟨R, 20, none⟩ = some (.int .i64 pa) := cell_of' hA.out 20
 have q_un : W.cell? ⟨R, 22, none⟩ = some (.int .i64 un) := cell_of' hA.out 22
 have q_kd : W.cell? ⟨R, 2, none⟩ = some (.int .i64 9) := cell_of' hA.out 2
 go_wp2_with fail
 refine (k2.out _).mono ?_; rintro e w' ⟨rfl, rfl⟩
 cases b2
 case' false => clear k1 k2 k3 q_st q_pa q_un
 case' true =>
  go_wp2_with fail
  refine (k3.out _).mono ?_; rintro e w' ⟨rfl, rfl⟩
  clear k1 k2 k3 q_st q_pa q_un
 all_goals
  go_wp2_with fail
  refine wp_region_sched (fun w' => w'.cell? ⟨R, 20, none⟩ = some (.int .i64 pa) /\ w'.cell? ⟨R, 22, none⟩ = some (.int .i64 un)) [(0, true), (1, true), (2, true), (3, true), (4, true), (5, false), (6, true), (7, false), (8, true), (9, false)] (by as_aux_lemma => kernel_rfl) (by as_aux_lemma => kernel_rfl) (by as_aux_lemma => kernel_rfl) (by decide) ⟨cell_of' hA.out 20, cell_of' hA.out 22⟩ ?_
  have hA0 := hid ((Mod.drew0 (fun _ => False) _).at hA.out (fun h => h))
  have hV0 := hid ((Mod.drew0 (fun _ => False) _).at hV.out (fun h => h))
  have hU0 := hid ((Mod.drew0 (fun _ => False) _).at hU.out (fun h => h))
  have hm0 := hid hm.out.drew
  clear hA hV hU hm
  generalize W.drew = wd0 at hA0 hV0 hU0 hm0 ⊢
  simp only [schedOps, List.map_cons, List.map_nil, List.getD_cons_zero, List.getD_cons_succ]
  repeat (first | (refine qT ?_) | (refine nT ?_))
  have c_st : wd0.cell? ⟨R + 1 + 1, 3, none⟩ = some (.int .i64 st) := cell_of' hU0.out 3
  have z := free_of' hU0.out
  refine wpS_c (by rfl) (fun K hK => ?_)
  go_simp
  clear z c_st
  have hU1 := (put_at' (hU0.out) 3 (.int .i64 0))
  simp only [sA, sZ, sS] at hU1
  replace hU1 := hid hU1
  have hA1 := hid ((put_ne' _ 3 (.int .i64 0) (show R + 1 + 1 ≠ R by omega)).trans (hA0.out))
  have hV1 := hid ((put_ne' _ 3 (.int .i64 0) (show R + 1 + 1 ≠ R + 1 by omega)).trans (hV0.out))
  have hm1 := hid (hm0.out.setCell (a := ⟨R + 1 + 1, 3, none⟩) (fun _ => by show R <= R + 1 + 1; omega) (.int .i64 0))
  clear hU0 hA0 hV0 hm0
  generalize (wd0.setCell ⟨R + 1 + 1, 3, none⟩ (.int .i64 0)) = wd1 at hU1 hA1 hV1 hm1 ⊢
  refine hK.out _ _ ⟨cell_of' hA1.out 20, cell_of' hA1.out 22⟩ ?_
  clear hK K
  try simp only [Act.put, sA, sZ, sS]
  repeat (first | (refine qT ?_) | (refine nT ?_))
  have c_pa : wd1.cell? ⟨R + 1 + 1, 20, none⟩ = some (.int .i64 0) := cell_of' hU1.out 20
  have z := free_of' hU1.out
  refine wpS_c (by rfl) (fun K hK => ?_)
  go_simp
  clear z c_pa
  have hU2 := (put_at' (hU1.out) 20 (.int .i64 pa))
  simp only [sA, sZ, sS] at hU2
  replace hU2 := hid hU2
  have hA2 := hid ((put_ne' _ 20 (.int .i64 pa) (show R + 1 + 1 ≠ R by omega)).trans (hA1.out))
  have hV2 := hid ((put_ne' _ 20 (.int .i64 pa) (show R + 1 + 1 ≠ R + 1 by omega)).trans (hV1.out))
  have hm2 := hid (hm1.out.setCell (a := ⟨R + 1 + 1, 20, none⟩) (fun _ => by show R <= R + 1 + 1; omega) (.int .i64 pa))
  clear hU1 hA1 hV1 hm1
  generalize (wd1.setCell ⟨R + 1 + 1, 20, none⟩ (.int .i64 pa)) = wd2 at hU2 hA2 hV2 hm2 ⊢
  refine hK.out _ _ ⟨cell_of' hA2.out 20, cell_of' hA2.out 22⟩ ?_
  clear hK K
  try simp only [Act.put, sA, sZ, sS]
  repeat (first | (refine qT ?_) | (refine nT ?_))
  have c_un : wd2.cell? ⟨R + 1 + 1, 22, none⟩ = some (.int .i64 0) := cell_of' hU2.out 22
  have z := free_of' hU2.out
  refine wpS_c (by rfl) (fun K hK => ?_)
  go_simp
  clear z c_un
  have hU3 := (put_at' (hU2.out) 22 (.int .i64 un))
  simp only [sA, sZ, sS] at hU3
  replace hU3 := hid hU3
  have hA3 := hid ((put_ne' _ 22 (.int .i64 un) (show R + 1 + 1 ≠ R by omega)).trans (hA2.out))
  have hV3 := hid ((put_ne' _ 22 (.int .i64 un) (show R + 1 + 1 ≠ R + 1 by omega)).trans (hV2.out))
  have hm3 := hid (hm2.out.setCell (a := ⟨R + 1 + 1, 22, none⟩) (fun _ => by show R <= R + 1 + 1; omega) (.int .i64 un))
  clear hU2 hA2 hV2 hm2
  generalize (wd2.setCell ⟨R + 1 + 1, 22, none⟩ (.int .i64 un)) = wd3 at hU3 hA3 hV3 hm3 ⊢
  refine hK.out _ _ ⟨cell_of' hA3.out 20, cell_of' hA3.out 22⟩ ?_
  clear hK K
  try simp only [Act.put, sA, sZ, sS]
  repeat (first | (refine qT ?_) | (refine nT ?_))
  refine wpS_nil ?_
  have hA := hA3
  have hV := hV3
  have hU := hU3
  have hm := hm3
  clear hA3 hV3 hU3 hm3
  go_wp2_with (first | (refine wpList_loadA rfl 28 _ rfl _ 0 [] [.int .i64 n, .int .i64 tm, .int .i64 9, .int .i64 0, .string ⟨#[]⟩, .int .i64 0, .int .i64 0, .string ⟨#[]⟩, .string ⟨#[]⟩, .slice none 0 0, .slice none 0 0, .int .i64 0, .slice none 0 0, .int .i64 0, .int .i64 0, .int .i64 0, .int .i64 0, .int .i64 0, .string ⟨#[]⟩, .string ⟨#[]⟩, .int .i64 pa, .int .i64 0, .int .i64 un] [] _ _ _ rfl rfl hU.out Tryz.underlying28 rfl (by kernel_rfl) ?_) | (refine wpList_storeA rfl 28 _ _ rfl (R + 1) 0 [] (y1) [] _ 28 rfl rfl rfl hV.out rfl (by kernel_rfl) rfl (fun WF HF => ?_)))
  refine bodyPost_ret (ret_cell_tmp rfl _ _ (R + 1) _ _ _ _ rfl HF.out.1 Tryz.underlying28 rfl (by kernel_rfl)) rfl ?_
  exact ⟨by rw [hok.out]; simp [*] , hfin.out _ (hm.out.then HF.out.2 (fun k _ e => by omega))⟩
def UsedP (w : World) (f : Fc) (e : Ending) (w' : World) : Prop := ∃ b1 m1 d1 b2 m2 d2 b3 m3 d3, e = .returned (.tuple #[.agg (fcA b1 m1 d1 b2 m2 d2 b3 m3 d3 (usedF f).1), .bool (usedF f).2]) /\ FcAt (fun k => k < w.heap.size) w' ⟨.slice b1 m1 d1, .slice b2 m2 d2, .slice b3 m3 d3⟩ (usedF f).1 /\ Ext w w'
theorem fcAt_nil (F : Nat -> Prop) (w : World) (f : Fc) (h1 : f.tp = []) (h2 : f.bl = []) (h3 : f.lb.aft = []) : FcAt F w ⟨.slice none 0 0, .slice none 0 0, .slice none 0 0⟩ f :=
 ⟨by rw [h1]; exact RowAt.nil _ _ _, by rw [h2]; exact BksAt.nil _ _, by rw [h3]; exact RowAt.nil _ _ _⟩
theorem fused_any (a1 : Option Addr) (n1 c1 : Nat) (a2 : Option Addr) (n2 c2 : Nat) (a3 : Option Addr) (n3 c3 : Nat) (f : Fc) (w : World) (h : FcAt (fun k => k < w.heap.size) w ⟨.slice a1 n1 c1, .slice a2 n2 c2, .slice a3 n3 c3⟩ f) :
  Calls Tryz.prog 54 #[.agg (fcA a1 n1 c1 a2 n2 c2 a3 n3 c3 f)] w (UsedP w f) := by
 obtain ⟨h1, h2, h3⟩ := h
 obtain ⟨fn, tm, fkd, st, lg, rv, bs, ti, au, tp, bl, lb, ed, bk, se, tx, nm, pa, cl, un⟩ := f
 obtain ⟨til, aft, app, den⟩ := lb
 simp only at h1 h2 h3
 by_cases g1 : fkd = 1
 ·subst g1
  refine (fused_k1 a1 n1 c1 a2 n2 c2 a3 n3 c3 fn tm st rv bs til app den ed bk se pa cl un lg ti au tx nm tp bl aft w h1 h2 h3).mono ?_
  rintro e w' ⟨rfl, hx⟩
  exact ⟨a1, n1, c1, a2, n2, c2, a3, n3, c3, rfl, ⟨h1.ext hx, h2.ext hx, h3.ext hx⟩, hx⟩
 by_cases g2 : fkd = 2
 ·subst g2
  refine (fused_k2 a1 n1 c1 a2 n2 c2 a3 n3 c3 fn tm st rv bs til app den ed bk se pa cl un lg ti au tx nm w).mono ?_
  rintro e w' ⟨rfl, hx⟩
  exact ⟨none, 0, 0, none, 0, 0, none, 0, 0, rfl, fcAt_nil _ _ _ rfl rfl rfl, hx⟩
 by_cases g3 : fkd = 3
 ·subst g3
  refine (fused_k3 a1 n1 c1 a2 n2 c2 a3 n3 c3 fn tm st rv bs til app den ed bk se pa cl un lg ti au tx nm aft w h3).mono ?_
  rintro e w' ⟨rfl, hx⟩
  exact ⟨none, 0, 0, none, 0, 0, a3, n3, c3, rfl, ⟨RowAt.nil _ _ _, BksAt.nil _ _, h3.ext hx⟩, hx⟩
 by_cases g4 : fkd = 4
 ·subst g4
  refine (fused_k4 a1 n1 c1 a2 n2 c2 a3 n3 c3 fn tm st rv bs til app den ed bk se pa cl un lg ti au tx nm w).mono ?_
  rintro e w' ⟨rfl, hx⟩
  exact ⟨none, 0, 0, none, 0, 0, none, 0, 0, rfl, fcAt_nil _ _ _ rfl rfl rfl, hx⟩
 by_cases g5 : fkd = 5
 ·subst g5
  refine (fused_k5 a1 n1 c1 a2 n2 c2 a3 n3 c3 fn tm st rv bs til app den ed bk se pa cl un lg ti au tx nm w).mono ?_
  rintro e w' ⟨rfl, hx⟩
  exact ⟨none, 0, 0, none, 0, 0, none, 0, 0, rfl, fcAt_nil _ _ _ rfl rfl rfl, hx⟩
 by_cases g6 : fkd = 6
 ·subst g6
  refine (fused_k6 a1 n1 c1 a2 n2 c2 a3 n3 c3 fn tm st rv bs til app den ed bk se pa cl un lg ti au tx nm w).mono ?_
  rintro e w' ⟨rfl, hx⟩
  exact ⟨none, 0, 0, none, 0, 0, none, 0, 0, rfl, fcAt_nil _ _ _ rfl rfl rfl, hx⟩
 by_cases g7 : fkd = 7
 ·subst g7
  refine (fused_k7 a1 n1 c1 a2 n2 c2 a3 n3 c3 fn tm st rv bs til app den ed bk se pa cl un lg ti au tx nm w).mono ?_
  rintro e w' ⟨rfl, hx⟩
  exact ⟨none, 0, 0, none, 0, 0, none, 0, 0, rfl, fcAt_nil _ _ _ rfl rfl rfl, hx⟩
 by_cases g8 : fkd = 8
 ·subst g8
  refine (fused_k8 a1 n1 c1 a2 n2 c2 a3 n3 c3 fn tm st rv bs til app den ed bk se pa cl un lg ti au tx nm w).mono ?_
  rintro e w' ⟨rfl, hx⟩
  exact ⟨none, 0, 0, none, 0, 0, none, 0, 0, rfl, fcAt_nil _ _ _ rfl rfl rfl, hx⟩
 by_cases g9 : fkd = 9
 ·subst g9
  refine (fused_k9 a1 n1 c1 a2 n2 c2 a3 n3 c3 fn tm st rv bs til app den ed bk se pa cl un lg ti au tx nm w).mono ?_
  rintro e w' ⟨rfl, hx⟩
  exact ⟨none, 0, 0, none, 0, 0, none, 0, 0, rfl, fcAt_nil _ _ _ rfl rfl rfl, hx⟩
 by_cases g10 : fkd = 10
 ·subst g10
  refine (fused_k10 a1 n1 c1 a2 n2 c2 a3 n3 c3 fn tm st rv bs til app den ed bk se pa cl un lg ti au tx nm w).mono ?_
  rintro e w' ⟨rfl, hx⟩
  exact ⟨none, 0, 0, none, 0, 0, none, 0, 0, rfl, fcAt_nil _ _ _ rfl rfl rfl, hx⟩
 have hu : usedF ⟨fn, tm, fkd, st, lg, rv, bs, ti, au, tp, bl, ⟨til, aft, app, den⟩, ed, bk, se, tx, nm, pa, cl, un⟩ = ({ Fc.zero with n := fn, tm := tm, kd := fkd, st := st }, false) := by
  unfold usedF
  simp only [g1, g2, g3, g4, g5, g6, g7, g8, g9, g10, if_false, or_self]
 refine (fused_k0 a1 n1 c1 a2 n2 c2 a3 n3 c3 fn tm st rv bs til app den ed bk se pa cl un lg ti au tx nm fkd w (fun i h1 h2 e => by omega)).mono ?_
 rintro e w' ⟨rfl, hx⟩
 unfold UsedP
 rw [hu]
 exact ⟨none, 0, 0, none, 0, 0, none, 0, 0, rfl, fcAt_nil _ _ _ rfl rfl rfl, hx⟩
theorem fvalid_any (a1 : Option Addr) (n1 c1 : Nat) (a2 : Option Addr) (n2 c2 : Nat) (a3 : Option Addr) (n3 c3 : Nat) (f : Fc) (w : World) (h : FcAt (fun k => k < w.heap.size) w ⟨.slice a1 n1 c1, .slice a2 n2 c2, .slice a3 n3 c3⟩ f) :
  Calls Tryz.prog 27 #[.agg (fcA a1 n1 c1 a2 n2 c2 a3 n3 c3 f)] w fun e w' => e = .returned (.bool (vFc f)) /\ Ext w w' := by
 obtain ⟨r, hr⟩ : ∃ r, r = vFc f := ⟨_, rfl⟩
 rw [<- hr]
 unfold vFc at hr
 have k1 := hid (fun W => fwithin_any f.n 0 500 W)
 have k2 := hid (fun W => fwithin_any f.tm 0 1000000000 W)
 have k3 := hid (fun W (hX : Ext w W) => fused_any a1 n1 c1 a2 n2 c2 a3 n3 c3 f W ((h.ext hX).mono (fun k hk => Nat.lt_of_lt_of_le hk hX.size)))
 have k4 := hid (fun W (hX : Ext w W) => (h.ext hX).mono (F' := fun k => k < W.heap.size) (fun k hk => Nat.lt_of_lt_of_le hk hX.size))
 obtain ⟨u, hu⟩ : ∃ u, u = usedF f := ⟨_, rfl⟩
 unfold UsedP at k3
 rw [<- hu] at hr k3
 clear h hu
 generalize rng f.n 0 500 = b1 at k1 hr
 generalize rng f.tm 0 1000000000 = b2 at k2 hr
 obtain ⟨u, ub⟩ := u
 simp only at k3 hr
 generalize hd : decide (f = u) = bs at hr
 replace hd := hid hd
 replace hr := hid hr
 unfold fcA
 go_enter Tryz.func27, Tryz.ntmps27
 go_upto_region 1 with (fail)
 have hA := heap_alloc_new w (.cells (y4 f a1 n1 c1 a2 n2 c2 a3 n3 c3) 28)
 have hx := Mod.alloc (Mod.refl (fun _ => False) w) (.cells (y4 f a1 n1 c1 a2 n2 c2 a3 n3 c3) 28)
 have hsz : (w.alloc (.cells (y4 f a1 n1 c1 a2 n2 c2 a3 n3 c3) 28)).heap.size = w.heap.size + 1 := World.size_alloc _ _
 generalize (w.alloc (.cells (y4 f a1 n1 c1 a2 n2 c2 a3 n3 c3) 28)) = W at hA hx hsz ⊢
 generalize w.heap.size = R at hA hsz ⊢
 have p0 : W.cell? ⟨R, 0, none⟩ = some (.int .i64 f.n) := cell_of' hA 0
 have p1 : W.cell? ⟨R, 1, none⟩ = some (.int .i64 f.tm) := cell_of' hA 1
 replace hA := hid hA
 replace hx := hid hx
 replace hsz := hid hsz
 go_wp2_with fail
 refine (k1.out _).mono ?_; rintro e w' ⟨rfl, rfl⟩
 cases b1 with
 | false =>
  go_wp2_with fail
  go_ret
  exact ⟨by rw [hr.out]; rfl, hx.out⟩
 | true =>
 go_wp2_with fail
 refine (k2.out _).mono ?_; rintro e w' ⟨rfl, rfl⟩
 cases b2 with
 | false =>
  go_wp2_with fail
  go_ret
  exact ⟨by rw [hr.out]; rfl, hx.out⟩
 | true =>
 clear p0 p1
 unfold fcA at k3
 go_upto_region 3 with (fail)
 refine wp_region_strip ?_
 simp only [List.map_cons, List.map_nil, strip_mk]
 go_wp2_with (first | (refine wpList_loadG (by rfl) 28 _ rfl R 0 [] (y5 f a1 n1 c1 a2 n2 c2 a3 n3 c3) [] _ _ _ rfl rfl hA.out Tryz.underlying28 rfl (by kernel_rfl) ?_) | fail)
 refine (k3.out _ hx.out).mono ?_
 rintro e W2 ⟨d1, m1, l1, d2, m2, l2, d3, m3, l3, rfl, hFu, hx2⟩
 replace hA := hid (hx2.at hA.out (fun h => h))
 have hFf := hid (k4.out W2 (hx.out.trans hx2))
 have hFu := hid (hFu.mono (F' := fun k => k < W2.heap.size) (fun k hk => Nat.lt_of_lt_of_le hk hx2.size))
 replace hx := hid (hx.out.trans hx2)
 clear k3 k4 hsz hx2 k1 k2
 unfold fcA at *
 cases ub with
 | false =>
  go_wp2_with (first | (refine wpList_storeW rfl 28 _ _ rfl W2.heap.size _ _ 28 rfl rfl (heap_alloc_new W2 _) rfl (by kernel_rfl) rfl (fun W3 H3 => ?_); have hA3 := hid (H3.out.2.at ((Mod.alloc (Mod.refl (fun _ => False) W2) (.cells zF9 28)).at hA.out (fun h => h)) (by have := lt_of_at hA.out; omega)); have hU3 := hid H3.out.1; have hx3 := hid (((Mod.alloc (Mod.refl (fun _ => False) W2) (.cells zF9 28)).mono (T := fun k => W2.heap.size <= k) (fun _ h => h.elim)).then H3.out.2 (fun k _ e => by omega)) ) | (refine wpList_loadG (by rfl) 28 _ rfl R 0 [] (y5 f a1 n1 c1 a2 n2 c2 a3 n3 c3) [] _ _ _ rfl rfl hA3.out Tryz.underlying28 rfl (by kernel_rfl) ?_) | (refine wpList_loadG (by rfl) 28 _ rfl W2.heap.size 0 [] [.int .i64 u.n, .int .i64 u.tm, .int .i64 u.kd, .int .i64 u.st, .string ⟨u.lg.toArray⟩, .int .i64 u.rv, .int .i64 u.bs, .string ⟨u.ti.toArray⟩, .string ⟨u.au.toArray⟩, .slice d1 m1 l1, .slice d2 m2 l2, .int .i64 u.lb.til, .slice d3 m3 l3, .int .i64 u.lb.app, .int .i64 u.lb.den, .int .i64 u.ed, .int .i64 u.bk, .int .i64 u.se, .string ⟨u.tx.toArray⟩, .string ⟨u.nm.toArray⟩, .int .i64 u.pa, .int .i64 u.cl, .int .i64 u.un] [] _ _ _ rfl rfl hU3.out Tryz.underlying28 rfl (by kernel_rfl) ?_))
  go_ret
  exact ⟨by rw [hr.out]; rfl, hx.out.then hx3.out (fun k h1 h2 => by have := hx.out.size; omega)⟩
 | true =>
  go_wp2_with (first | (refine wpList_storeW rfl 28 _ _ rfl W2.heap.size _ _ 28 rfl rfl (heap_alloc_new W2 _) rfl (by kernel_rfl) rfl (fun W3 H3 => ?_); have hA3 := hid (H3.out.2.at ((Mod.alloc (Mod.refl (fun _ => False) W2) (.cells zF9 28)).at hA.out (fun h => h)) (by have := lt_of_at hA.out; omega)); have hU3 := hid H3.out.1; have hx3 := hid (((Mod.alloc (Mod.refl (fun _ => False) W2) (.cells zF9 28)).mono (T := fun k => W2.heap.size <= k) (fun _ h => h.elim)).then H3.out.2 (fun k _ e => by omega)) ) | (refine wpList_loadG (by rfl) 28 _ rfl R 0 [] (y5 f a1 n1 c1 a2 n2 c2 a3 n3 c3) [] _ _ _ rfl rfl hA3.out Tryz.underlying28 rfl (by kernel_rfl) ?_) | (refine wpList_loadG (by rfl) 28 _ rfl W2.heap.size 0 [] [.int .i64 u.n, .int .i64 u.tm, .int .i64 u.kd, .int .i64 u.st, .string ⟨u.lg.toArray⟩, .int .i64 u.rv, .int .i64 u.bs, .string ⟨u.ti.toArray⟩, .string ⟨u.au.toArray⟩, .slice d1 m1 l1, .slice d2 m2 l2, .int .i64 u.lb.til, .slice d3 m3 l3, .int .i64 u.lb.app, .int .i64 u.lb.den, .int .i64 u.ed, .int .i64 u.bk, .int .i64 u.se, .string ⟨u.tx.toArray⟩, .string ⟨u.nm.toArray⟩, .int .i64 u.pa, .int .i64 u.cl, .int .i64 u.un] [] _ _ _ rfl rfl hU3.out Tryz.underlying28 rfl (by kernel_rfl) ?_))
  have hX3 : Ext W2 W3 := hx3.out.mono' (fun k h1 h2 => by omega)
  have k5 := hid (factSame_any (F := fun k => k < W2.heap.size) a1 n1 c1 a2 n2 c2 a3 n3 c3 f d1 m1 l1 d2 m2 l2 d3 m3 l3 u W3 (hFf.out.ext hX3) (hFu.out.ext hX3))
  replace hx := hid (hx.out.trans hX3)
  unfold fcA at k5
  rw [hd.out] at k5
  refine k5.out.mono ?_; rintro e W4 ⟨rfl, hx4⟩
  clear k5 hX3 hx3 hU3 hA3
  replace hx := hid (hx.out.trans hx4)
  cases bs with
  | false =>
   go_wp2_with fail
   go_ret
   exact ⟨by rw [hr.out]; rfl, hx.out⟩
  | true =>
   go_wp2_with fail
   go_ret
   exact ⟨by rw [hr.out]; rfl, hx.out⟩
end Go.Proofs.YtpaefpnkemkikaaGreatDoor
