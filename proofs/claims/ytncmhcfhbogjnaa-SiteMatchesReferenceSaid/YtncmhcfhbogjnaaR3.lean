import Derived.Test.YtncmhcfhbogjnaaR2
import Derived.Test.YtncmhcfhbogjnaaLast
/-
  The reference's site is made.
-/
namespace Go.Proofs.Ytncmhcfhbogjnaa
open Go.RowKit Cdk

theorem RefAt.other {w w' : World} {B r : Nat} {R : RefSt} (h : RefAt w B r R) {b : Nat} {c : Array Value} {t : TypeId} (hb : w.heap[b]? = some (.cells c t (0, 0))) (hm : Mod (Eq b) w w') :
    (t ≠ 45 → w'.heap[r]? = some (.cells #[R.cv, R.ov, .int .i64 R.last, .int .i64 R.made] 45 (0, 0))) ∧ (t ≠ 67 → Own w' B 67 2 shotC R.cv R.cur) ∧ (t ≠ 71 → Own w' B 71 4 sessC R.ov R.opn) ∧
      (t ≠ 55 → ∀ x ps, PgRow w x ps → PgRow w' x ps) := by
  have key : ∀ e : TypeId, t ≠ e → ∀ k c' t' g, w.heap[k]? = some (.cells c' t' g) → t' = e → ¬ b = k := by
    intro e he k c' t' g hk ht hbk
    rw [← hbk, hb] at hk
    injection hk with hk; injection hk with _ hk _
    exact he (hk.trans ht)
  exact ⟨fun he => hm.at h.top (key 45 he _ _ _ _ h.top rfl), fun he => h.cur.mod hm (h.cur.kind (key 67 he)), fun he => h.opn.mod hm (h.opn.kind (key 71 he)), fun he x ps hx => Own.mod hx hm (Own.kind hx (key 55 he))⟩

theorem el67 : El Try.prog 67 (.agg #[.int .i64 0, .slice none 0 0]) 2 32 := ⟨by kernel_rfl, rfl, by decide, by decide⟩
theorem el71 : El Try.prog 71 (.agg #[.int .i64 0, .int .i64 0, .int .i64 0, .slice none 0 0]) 4 48 := ⟨by kernel_rfl, rfl, by decide, by decide⟩
def curL (k : Nat) : List Shot := (List.range k).map (fun (j : Nat) => ((j : Int) + 1, Value.slice none 0 0, []))
theorem curL_len (k : Nat) : (curL k).length = k := by simp [curL]
theorem curL_succ (k : Nat) : curL (k + 1) = curL k ++ [((k : Int) + 1, Value.slice none 0 0, [])] := by simp [curL, List.range_succ]

set_option maxRecDepth 100000 in
set_option maxHeartbeats 4000000 in
theorem RNew_any (w : World) :
    Calls Try.prog 11 #[] w fun e w' => ∃ cv, e = .returned (.pointer (some ⟨w.heap.size, 0, none⟩)) ∧ Ext w w' ∧ RefAt w' w.heap.size w.heap.size ⟨cv, .slice none 0 0, curL 4, [], 0, 4⟩ := by
  go_enter Try.func11, Try.ntmps11
  go_wp2_with fail
  go_loopg [2] 4 (fun g i wr => ∃ (k : Nat) (cv : Value), k + g = 4 ∧ i = .int .i64 k ∧ wr.heap[w.heap.size]? = some (.cells #[cv, .slice none 0 0, .int .i64 0, .int .i64 k] 45 (0, 0)) ∧ Own wr w.heap.size 67 2 shotC cv (curL k) ∧ Ext w wr)
  case atStart => exact ⟨0, .slice none 0 0, by omega, rfl, heap_alloc_new w _, Own.nil _ _ _ _ _, (Mod.refl _ _).alloc _⟩
  case round =>
    obtain ⟨k, cv, hk, rfl, htop, hown, hx⟩ := hrel
    have hk4 : k ≤ 4 := by omega
    replace hk := hid hk
    by_cases hlt : k < 4
    · have c3 : wr.cell? ⟨w.heap.size, 3, none⟩ = some (.int .i64 k) := by rw [cell_of htop]; rfl
      have fz := free_of htop
      have hsz := lt_of_at htop
      have hs3 := setCell_heap (j := 3) htop (.int .i64 ((k : Int) + 1))
      have hx3 : Mod (Eq w.heap.size) wr (wr.setCell ⟨w.heap.size, 3, none⟩ (.int .i64 ((k : Int) + 1))) := (Mod.refl (Eq w.heap.size) wr).setCell (fun _ => rfl) _
      have hown3 := hown.mod hx3 (fun k' hk' e => by
        obtain ⟨c, hc⟩ := hown.cells hk'
        rw [← e, htop] at hc; injection hc with hc; injection hc with _ hc; cases hc)
      have hxw : Ext w (wr.setCell ⟨w.heap.size, 3, none⟩ (.int .i64 ((k : Int) + 1))) := hx.then hx3 (fun k' h e => by omega)
      replace htop := hid htop
      replace hown := hid hown
      have hs3 : (wr.setCell ⟨w.heap.size, 3, none⟩ (.int .i64 ((k : Int) + 1))).heap[w.heap.size]? = some (.cells #[cv, .slice none 0 0, .int .i64 0, .int .i64 ((k : Int) + 1)] 45 (0, 0)) := hs3
      go_upto_region 6 with fail
      generalize (wr.setCell ⟨w.heap.size, 3, none⟩ (.int .i64 ((k : Int) + 1))) = w3 at hs3 hown3 hxw ⊢
      clear hx3 c3 fz hx
      have c0 : w3.cell? ⟨w.heap.size, 0, none⟩ = some cv := by rw [cell_of hs3]; rfl
      have c3 : w3.cell? ⟨w.heap.size, 3, none⟩ = some (.int .i64 ((k : Int) + 1)) := by rw [cell_of hs3]; rfl
      have hx4 := Mod.alloc (Mod.refl (fun _ => False) w3) (.cells #[.int .i64 ((k : Int) + 1), .slice none 0 0] 67)
      have hs4 := hx4.at hs3 (fun h => h)
      have d0 := hx4.cell c0 (fun h => h)
      have d3 := hx4.cell c3 (fun h => h)
      have hown4 := hid (hown3.ext hx4)
      have hnb : ∀ k', cv.ownBlock = some k' → k' ≠ w.heap.size := fun k' hk' e => by
        obtain ⟨c, hc⟩ := hown3.cells hk'
        rw [e, hs3] at hc; injection hc with hc; injection hc with _ hc; cases hc
      have hsz4 : w.heap.size ≤ (w3.alloc (.cells #[.int .i64 ((k : Int) + 1), .slice none 0 0] 67)).heap.size := by have := lt_of_at hs4; omega
      replace hx4 := hid hx4
      replace hnb := hid hnb
      replace hs4 := hid hs4
      replace hs3 := hid hs3
      replace hown3 := hid hown3
      replace hxw := hid hxw
      refine wp_region_schedE (fun w' => w'.cell? ⟨w.heap.size, 0, none⟩ = some cv ∧ w'.cell? ⟨w.heap.size, 3, none⟩ = some (.int .i64 ((k : Int) + 1))) [(0, true), (1, true), (2, true), (3, true), (4, true), (5, true), (6, true), (7, true), (8, true), (9, true), (10, false), (11, false), (12, true), (13, true), (14, false)] (by as_aux_lemma => kernel_rfl) (by as_aux_lemma => kernel_rfl) (by as_aux_lemma => kernel_rfl) (by decide) ⟨c0, c3⟩ ?_
      simp only [schedOps, List.map_cons, List.map_nil, List.getD_cons_zero, List.getD_cons_succ]
      repeat (first | (refine wpT_p (by rfl) (by rfl) ?_ (fun w' hC => ?_) ?_; rotate_left; (go_simp; try with_reducible rfl); try simp only [Act.put, List.setIfInBounds_toArray, List.set_cons_zero, List.set_cons_succ]) | (refine wpT_q (by rfl) (by rfl) ?_ (fun w' hC => ?_) ?_; rotate_left; (go_simp; try with_reducible rfl); try simp only [Act.put, List.setIfInBounds_toArray, List.set_cons_zero, List.set_cons_succ]))
      refine wpT_c (by rfl) (fun K hK => ?_)
      go_simp
      refine hK.out _ _ ⟨d0, d3⟩ ?_
      clear hK K
      try simp only [Act.put, List.setIfInBounds_toArray, List.set_cons_zero, List.set_cons_succ]
      repeat (first | (refine wpT_p (by rfl) (by rfl) ?_ (fun w' hC => ?_) ?_; rotate_left; (go_simp; try with_reducible rfl); try simp only [Act.put, List.setIfInBounds_toArray, List.set_cons_zero, List.set_cons_succ]) | (refine wpT_q (by rfl) (by rfl) ?_ (fun w' hC => ?_) ?_; rotate_left; (go_simp; try with_reducible rfl); try simp only [Act.put, List.setIfInBounds_toArray, List.set_cons_zero, List.set_cons_succ]))
      refine wpT_c (by rfl) (fun K hK => ?_)
      refine wp_app _ _ _ rfl Try.underlying42 el67 rfl (hown4.out.mod (Mod.drew0 (fun _ => False) _) (fun _ _ h => h)) _ 1 1 rfl [((k : Int) + 1, Value.slice none 0 0, [])] rfl (by exact RowIs.new _ _ _) shotC_len (fun y hy u hu => ?_) (by rw [curL_len]; simp; omega) (by exact hsz4) (by simp) (fun v6 w6 H6 => ?_)
      · simp only [List.mem_singleton] at hy; subst hy
        simp [shotC] at hu
        rcases hu with rfl | rfl <;> rfl
      try simp only [Act.put, List.setIfInBounds_toArray, List.set_cons_zero, List.set_cons_succ]
      have H6a := H6.out.1
      rw [← curL_succ] at H6a
      have H6b := H6.out.2
      clear H6
      obtain ⟨vn, hvn⟩ : ∃ vn, vn = v6 := ⟨_, rfl⟩
      rw [← hvn] at H6a
      obtain ⟨ao6, cap6, rfl, -, -⟩ := (show Own w6 w.heap.size 67 2 shotC v6 (curL (k + 1)) by rw [← hvn]; exact H6a).row
      replace hvn := hid hvn
      have hnb' : ¬ cv.ownBlock = some w.heap.size := fun e => hnb.out _ e rfl
      have e0 := H6b.cell d0 hnb'
      have e3 := H6b.cell d3 hnb'
      have hs6 := H6b.at (hs4.out) hnb'
      have fz6 := free_of hs6
      refine hK.out _ _ ⟨e0, e3⟩ ?_
      clear hK K
      repeat (first | (refine wpT_p (by rfl) (by rfl) ?_ (fun w' hC => ?_) ?_; rotate_left; (go_simp; try with_reducible rfl); try simp only [Act.put, List.setIfInBounds_toArray, List.set_cons_zero, List.set_cons_succ]) | (refine wpT_q (by rfl) (by rfl) ?_ (fun w' hC => ?_) ?_; rotate_left; (go_simp; try with_reducible rfl); try simp only [Act.put, List.setIfInBounds_toArray, List.set_cons_zero, List.set_cons_succ]))
      refine wpT_e (by rfl) (fun K hK => ?_)
      go_simp
      refine hK.out _ _ ?_
      clear hK K
      go_wp2_with fail
      go_roundg (gk - 1)
      case measure => have := hk.out; omega
      case rel =>
        have hs7 := setCell_heap (j := 0) hs6 vn
        have hx7 : Mod (Eq w.heap.size) w6 (w6.setCell ⟨w.heap.size, 0, none⟩ vn) := (Mod.refl (Eq w.heap.size) w6).setCell (fun _ => rfl) _
        rw [← hvn.out]
        refine ⟨k + 1, vn, by have := hk.out; omega, by go_num, ?_, H6a.mod hx7 (fun k' hk' e => by
          obtain ⟨c, hc⟩ := H6a.cells hk'
          rw [← e, hs6] at hc; injection hc with hc; injection hc with _ hc; cases hc), ?_⟩
        · rw [hs7]; rfl
        · refine (Mod.then (hxw.out.drew.alloc _) H6b (fun k' h e => ?_)).then hx7 (fun k' h e => by omega)
          have := (hown3.out.block k' e).1; omega
    · obtain rfl : k = 4 := by omega
      replace hown := hid hown
      replace htop := hid htop
      replace hx := hid hx
      go_wp2_with fail
      go_ret
      exact ⟨cv, rfl, hx.out, htop.out, Nat.le_refl _, hown.out, Own.nil _ _ _ _ _, by
        intro e he
        simp only [curL, List.mem_map, List.mem_range] at he
        obtain ⟨j, _, rfl⟩ := he
        exact Own.nil _ _ _ _ _, by simp, by simp [curL], by simp⟩
end Go.Proofs.Ytncmhcfhbogjnaa
