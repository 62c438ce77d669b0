import Derived.Test.YtncmhcfhbogjnaaR1
import Derived.Test.YtncmhcfhbogjnaaSched
/-
  The reference counts its snapshots.
-/
namespace Go.Proofs.Ytncmhcfhbogjnaa
open Go.RowKit Cdk

def addI (k : List Int) (p : Int) : List Int := if p ∈ k then k else k ++ [p]
def RSnaps (R : RefSt) : List Int := (R.opn.map (·.2.2.1)).foldl addI (R.cur.map (·.1))

theorem addI_len (k : List Int) (p : Int) : (addI k p).length ≤ k.length + 1 := by
  unfold addI; split
  · omega
  · simp

theorem foldl_addI_len (l k : List Int) : (l.foldl addI k).length ≤ k.length + l.length := by
  induction l generalizing k with
  | nil => simp
  | cons a l ih =>
    have := ih (addI k a)
    have := addI_len k a
    simp only [List.foldl_cons, List.length_cons]; omega

set_option maxRecDepth 100000 in
set_option maxHeartbeats 4000000 in
theorem RSnapshots_any {w : World} {B r : Nat} {R : RefSt} (h : RefAt w B r R) :
    Calls Try.prog 23 #[.pointer (some ⟨r, 0, none⟩)] w fun e w' => e = .returned (.int .i64 (RSnaps R).length) ∧ Ext w w' := by
  obtain ⟨h0, h1, -, -, -⟩ := h.cells
  obtain ⟨ao0, cap0, hv0, hrow0, -⟩ := h.cur.row
  obtain ⟨ao1, cap1, hv1, hrow1, -⟩ := h.opn.row
  have h4 := h.four
  have hfw := h.few
  have hres := hid (show RSnaps R = (R.opn.map (·.2.2.1)).foldl addI (R.cur.map (·.1)) from rfl)
  generalize RSnaps R = res at hres ⊢
  rw [hv0, h4] at h0
  rw [hv1] at h1
  generalize R.cur = lc at *
  generalize R.opn = lo at *
  clear h hv0 hv1
  obtain ⟨N, hN⟩ : ∃ N, N = lo.length := ⟨_, rfl⟩
  rw [← hN] at h1 hfw
  replace hrow0 := hid hrow0
  replace hrow1 := hid hrow1
  replace hN := hid hN
  replace h4 := hid h4
  go_enter Try.func23, Try.ntmps23
  go_wp2_with fail
  go_loopg [3, 4] 4 (fun g v i wr => ∃ k : Nat, k + g = 4 ∧ i = .int .i64 k ∧ Own wr w.heap.size 3 1 intC v ((lc.map (·.1)).take k) ∧ Ext w wr)
  case atStart => exact ⟨0, by omega, rfl, Own.nil _ _ _ _ _, Mod.refl _ _⟩
  case round =>
    obtain ⟨k, hk, rfl, hown, hx⟩ := hrel
    have hk4 : k ≤ 4 := by omega
    replace hk := hid hk
    have c0 := hx.cell h0 (fun h => h)
    have hwr : w.heap.size ≤ wr.heap.size := hx.size
    by_cases hlt : k < 4
    · obtain ⟨b, off, rfl, g0, -⟩ := shot_at hrow0.out (show k < lc.length by rw [h4.out]; exact hlt)
      have g0 := hx.cell g0 (fun h => h)
      replace hown := hid hown
      replace hx := hid hx
      go_wp2_with (at_builtin; refine wpList_app rfl _ _ _ rfl Try.underlying51 el3 rfl (hown.out.ext ((Mod.refl _ _).alloc _)) _ 1 1 rfl [(lc[k]'(by rw [h4.out]; exact hlt)).1] rfl (by exact RowIs.new _ _ _) intC_len (fun y _ => intC_one y) (by simp; omega) (by rw [World.size_alloc]; omega) (by simp) (fun v6 w6 H6 => ?_); go_frame)
      go_roundg (gk - 1)
      case measure => have := hk.out; omega
      case rel =>
        have hkl : k < lc.length := by rw [h4.out]; exact hlt
        refine ⟨k + 1, by have := hk.out; omega, by go_num, ?_, ?_⟩
        · rw [take_succ' (by simpa using hkl), List.getElem_map]; exact H6.out.1
        · exact (hx.out.alloc _).then H6.out.2 (fun k' hk' e => by have := (hown.out.block k' e).1; omega)
    · obtain rfl : k = 4 := by omega
      rw [List.take_of_length_le (by simp [h4.out])] at hown
      generalize hL0 : lc.map (·.1) = L0 at hres hown
      have hL0 : L0.length = 4 := by rw [← hL0]; simp [h4.out]
      replace hL0 := hid hL0
      replace hown := hid hown
      replace hx := hid hx
      clear hwr
      obtain ⟨wo, rfl⟩ : ∃ wo : World, wo = wr := ⟨_, rfl⟩
      obtain ⟨G, rfl⟩ : ∃ G, G = gk := ⟨_, rfl⟩
      go_wp2_with fail
      go_loopg [3, 5] N (fun g v i wr => ∃ k : Nat, k + g = N ∧ i = .int .i64 k ∧ Own wr w.heap.size 3 1 intC v (((lo.map (·.2.2.1)).take k).foldl addI L0) ∧ Ext w wr)
      case atStart => exact ⟨0, by omega, rfl, hown.out, hx.out⟩
      case round =>
        clear hown hx c0
        obtain ⟨k, hk, rfl, hown, hx⟩ := hrel
        have hkN : k ≤ N := by omega
        replace hk := hid hk
        have c1 := hx.cell h1 (fun h => h)
        have hwr : w.heap.size ≤ wr.heap.size := hx.size
        have hLl := foldl_addI_len ((lo.map (·.2.2.1)).take k) L0
        rw [hL0.out, List.length_take] at hLl
        by_cases hlt : k < N
        · have hko : k < lo.length := by rw [← hN.out]; exact hlt
          obtain ⟨b, off, rfl, -, -, g0, -⟩ := sess_at hrow1.out hko
          have g0 := hx.cell g0 (fun h => h)
          have hnx : ((lo.map (·.2.2.1)).take (k + 1)).foldl addI L0 = addI (((lo.map (·.2.2.1)).take k).foldl addI L0) lo[k].2.2.1 := by
            rw [take_succ' (by simpa using hko), List.foldl_append, List.getElem_map]; rfl
          generalize hL1 : ((lo.map (·.2.2.1)).take (k + 1)).foldl addI L0 = L' at hnx
          replace hL1 := hid hL1
          generalize ((lo.map (·.2.2.1)).take k).foldl addI L0 = L at hnx hown hLl
          generalize lo[k].2.2.1 = m at g0 hnx
          have hL24 : L.length ≤ 24 := by omega
          clear hLl
          obtain ⟨aoL, capL, rfl, hrowL, -⟩ := hown.row
          obtain ⟨NL, hNL⟩ : ∃ n, n = L.length := ⟨_, rfl⟩
          rw [← hNL] at hL24 ⊢
          obtain ⟨vo, hvo⟩ : ∃ v : Value, v = .slice aoL L.length capL := ⟨_, rfl⟩
          rw [← hvo] at hown
          rw [← hNL] at hvo
          replace hvo := hid hvo
          replace hNL := hid hNL
          replace hnx := hid hnx
          replace hown := hid hown
          replace hx := hid hx
          replace hrowL := hid hrowL
          obtain ⟨w2, rfl⟩ : ∃ w2 : World, w2 = wr := ⟨_, rfl⟩
          obtain ⟨G2, rfl⟩ : ∃ G, G = gk := ⟨_, rfl⟩
          go_wp2_with fail
          go_loopg [6, 7] NL (fun g kn j wq => ∃ (q : Nat) (kb : Bool), q + g = NL ∧ j = .int .i64 q ∧ kn = .bool kb ∧ (kb = decide (m ∈ L.take q)) ∧ Ext w2 wq)
          case atStart => exact ⟨0, false, by omega, rfl, rfl, by simp, Mod.refl _ _⟩
          case round =>
            obtain ⟨q, kb, hq, rfl, rfl, hkb, hxq⟩ := hrel
            have hqN : q ≤ NL := by omega
            replace hq := hid hq
            replace hkb := hid hkb
            have d1 := hxq.cell c1 (fun h => h)
            have d0 := hxq.cell g0 (fun h => h)
            by_cases hlq : q < NL
            · have hqL : q < L.length := by rw [← hNL.out]; exact hlq
              obtain ⟨bL, oL, rfl, d2⟩ := int_at hrowL.out hqL
              have d2 := hxq.cell d2 (fun h => h)
              have hnk : decide (m ∈ L.take (q + 1)) = (kb || (L[q] == m)) := by
                rw [hkb.out, take_succ' hqL, Bool.eq_iff_iff]
                simp only [List.mem_append, List.mem_singleton, decide_eq_true_eq, Bool.or_eq_true, beq_iff_eq]
                constructor
                · rintro (h | h)
                  · exact .inl h
                  · exact .inr h.symm
                · rintro (h | h)
                  · exact .inl h
                  · exact .inr h.symm
              generalize hnk' : decide (m ∈ L.take (q + 1)) = kb' at hnk
              replace hnk' := hid hnk'
              generalize L[q] = y at d2 hnk
              replace hxq := hid hxq
              replace hkb := hid hkb
              cases kb with
              | true =>
                obtain rfl : kb' = true := by simpa using hnk
                clear hnk
                go_wp2_with fail
                refine wp_region_sched (fun w' => w'.cell? ⟨r, 1, none⟩ = some (.slice (some ⟨b, off, none⟩) N cap1) ∧ w'.cell? ⟨b, off + k * 4 + 2, none⟩ = some (.int .i64 m) ∧ w'.cell? ⟨bL, oL + q, none⟩ = some (.int .i64 y)) [(0, true), (1, true), (2, true), (3, true), (4, true), (5, true), (6, true), (7, true), (8, true), (9, true), (10, true), (11, true), (12, true), (13, true), (14, true), (15, true), (16, true), (17, true)] (by as_aux_lemma => kernel_rfl) (by as_aux_lemma => kernel_rfl) (by as_aux_lemma => kernel_rfl) (by decide) ⟨d1, d0, d2⟩ ?_
                simp only [schedOps, List.map_cons, List.map_nil, List.getD_cons_zero, List.getD_cons_succ]
                repeat (first | (refine wpS_q (by rfl) ?_ (fun w' hC => ?_) ?_; rotate_left; (go_simp; try with_reducible rfl); try simp only [Act.put, List.setIfInBounds_toArray, List.set_cons_zero, List.set_cons_succ]) | (refine wpS_no (by rfl) ?_; try simp only [Act.put, List.setIfInBounds_toArray, List.set_cons_zero, List.set_cons_succ]))
                refine wpS_nil ?_
                go_wp2_with fail
                go_roundg (gk - 1)
                case measure => have := hq.out; omega
                case rel => exact ⟨q + 1, _, by have := hq.out; omega, by go_num, rfl, by rw [hnk'.out], hxq.out.drew⟩
              | false =>
                go_wp2_with fail
                cases hym : (y == m) with
                | true =>
                  obtain rfl : kb' = true := by simpa [hym] using hnk
                  clear hnk
                  refine wp_region_sched (fun w' => w'.cell? ⟨r, 1, none⟩ = some (.slice (some ⟨b, off, none⟩) N cap1) ∧ w'.cell? ⟨b, off + k * 4 + 2, none⟩ = some (.int .i64 m) ∧ w'.cell? ⟨bL, oL + q, none⟩ = some (.int .i64 y)) [(0, true), (1, true), (2, true), (3, true), (4, true), (5, true), (6, true), (7, true), (8, true), (9, true), (10, true), (11, true), (12, true), (13, true), (14, true), (15, true), (16, true), (17, true)] (by as_aux_lemma => kernel_rfl) (by as_aux_lemma => kernel_rfl) (by as_aux_lemma => kernel_rfl) (by decide) ⟨d1, d0, d2⟩ ?_
                  simp only [schedOps, List.map_cons, List.map_nil, List.getD_cons_zero, List.getD_cons_succ]
                  repeat (first | (refine wpS_q (by rfl) ?_ (fun w' hC => ?_) ?_; rotate_left; (go_simp; try with_reducible rfl); try simp only [Act.put, List.setIfInBounds_toArray, List.set_cons_zero, List.set_cons_succ]) | (refine wpS_no (by rfl) ?_; try simp only [Act.put, List.setIfInBounds_toArray, List.set_cons_zero, List.set_cons_succ]))
                  refine wpS_nil ?_
                  go_wp2_with fail
                  go_roundg (gk - 1)
                  case measure => have := hq.out; omega
                  case rel => exact ⟨q + 1, _, by have := hq.out; omega, by go_num, rfl, by rw [hnk'.out], hxq.out.drew⟩
                | false =>
                  obtain rfl : kb' = false := by simpa [hym] using hnk
                  clear hnk
                  refine wp_region_sched (fun w' => w'.cell? ⟨r, 1, none⟩ = some (.slice (some ⟨b, off, none⟩) N cap1) ∧ w'.cell? ⟨b, off + k * 4 + 2, none⟩ = some (.int .i64 m) ∧ w'.cell? ⟨bL, oL + q, none⟩ = some (.int .i64 y)) [(0, true), (1, true), (2, true), (3, true), (4, true), (5, true), (6, true), (7, true), (8, true), (9, true), (10, true), (11, true), (12, true), (13, true), (14, true), (15, true), (16, true), (17, true)] (by as_aux_lemma => kernel_rfl) (by as_aux_lemma => kernel_rfl) (by as_aux_lemma => kernel_rfl) (by decide) ⟨d1, d0, d2⟩ ?_
                  simp only [schedOps, List.map_cons, List.map_nil, List.getD_cons_zero, List.getD_cons_succ]
                  repeat (first | (refine wpS_q (by rfl) ?_ (fun w' hC => ?_) ?_; rotate_left; (go_simp; try with_reducible rfl); try simp only [Act.put, List.setIfInBounds_toArray, List.set_cons_zero, List.set_cons_succ]) | (refine wpS_no (by rfl) ?_; try simp only [Act.put, List.setIfInBounds_toArray, List.set_cons_zero, List.set_cons_succ]))
                  refine wpS_nil ?_
                  go_wp2_with fail
                  go_roundg (gk - 1)
                  case measure => have := hq.out; omega
                  case rel => exact ⟨q + 1, _, by have := hq.out; omega, by go_num, rfl, by rw [hnk'.out], hxq.out.drew⟩
            · obtain rfl : q = NL := by omega
              rw [List.take_of_length_le (by rw [hNL.out]; exact Nat.le_refl _)] at hkb
              replace hq := hid hq
              have hx2 := hid (hx.out.trans hxq)
              have hown2 := hown.out.ext hxq
              rw [hvo.out] at hown2
              replace hown2 := hid hown2
              have hwq : w.heap.size ≤ wr.heap.size := hx2.out.size
              cases kb with
              | true =>
                go_wp2_with fail
                go_roundg (G2 - 1)
                case measure => have := hk.out; omega
                case rel =>
                  have hL' : L' = L := by rw [hnx.out]; unfold addI; rw [if_pos (by have := hkb.out; simpa using this.symm)]
                  refine ⟨k + 1, by have := hk.out; omega, by go_num, ?_, hx2.out⟩
                  rw [hL1.out, hL']; exact hown2.out
              | false =>
                go_wp2_with (at_builtin; refine wpList_app rfl _ _ _ rfl Try.underlying51 el3 rfl (hown2.out.ext ((Mod.refl _ _).alloc _)) _ 1 1 rfl [m] rfl (by exact RowIs.new _ _ _) intC_len (fun y _ => intC_one y) (by have := hNL.out; rw [← this]; simp only [List.length_cons, List.length_nil]; omega) (by rw [World.size_alloc]; omega) (by simp) (fun v6 w6 H6 => ?_); go_frame)
                go_roundg (G2 - 1)
                case measure => have := hk.out; omega
                case rel =>
                  have hL' : L' = L ++ [m] := by rw [hnx.out]; unfold addI; rw [if_neg (by have := hkb.out; simpa using this)]
                  refine ⟨k + 1, by have := hk.out; omega, by go_num, ?_, (hx2.out.alloc _).then H6.out.2 (fun k' hk' e => by have := (hown2.out.block k' e).1; omega)⟩
                  rw [hL1.out, hL']; exact H6.out.1
        · obtain rfl : k = N := by omega
          rw [List.take_of_length_le (by simp [hN.out]), ← hres.out] at hown
          obtain ⟨aoL, capL, rfl, -, -⟩ := hown.row
          have hx := hid hx
          clear hown hLl hwr
          go_wp2_with fail
          go_ret
          exact ⟨rfl, hx.out⟩
end Go.Proofs.Ytncmhcfhbogjnaa
