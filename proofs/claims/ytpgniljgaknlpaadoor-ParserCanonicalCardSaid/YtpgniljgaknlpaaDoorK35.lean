import Derived.Test.YtpgniljgaknlpaaDoorK34
import Derived.Test.YtpgniljgaknlpaaDoorK29
import Derived.Test.YtpgniljgaknlpaaDoorTh7
/-
  The law of the canonical form: the walk.
-/
namespace Go.Proofs.YtpgniljgaknlpaaDoor
open Go.RowKit Cdk Tpl

theorem src_take (xs : List Int) : (sourceS xs).length ≤ 630 := by
  unfold sourceS
  have := src_len (xs.take 30)
  have : (xs.take 30).length ≤ 30 := by rw [List.length_take]; omega
  omega

theorem PNs_sz {d : Nat} {k : List KT} {l : List Nd} (h : PNs d k l) : szL l ≤ 3 * k.length := by
  induction h with
  | nil => simp [szL]
  | text _ ih => simp only [szL, szN, List.length_cons, List.length_nil]; omega
  | field _ _ _ hf _ ih =>
    have := hf.len
    simp only [szL, szN, List.length_cons, List.length_append]; omega
  | incl _ ih => simp only [szL, szN, List.length_cons, List.length_nil]; omega
  | loop _ _ _ _ _ ih1 ih => simp only [szL, szN, List.length_cons, List.length_append, List.length_nil]; omega
  | cond _ _ _ ih1 ih => simp only [szL, szN, List.length_cons, List.length_append, List.length_nil]; omega
  | conde _ _ _ _ ih1 ih2 ih => simp only [szL, szN, List.length_cons, List.length_append, List.length_nil]; omega

theorem ktLen_pos {x : KT} (h : ktOk x = true) : 1 ≤ ktLen x := by
  obtain ⟨k, t⟩ := x
  unfold ktOk tkOk at h
  unfold ktLen tkLen
  simp only at h ⊢
  split
  · rename_i h1
    rw [if_pos h1] at h
    simp only [txOk, Bool.and_eq_true, Bool.not_eq_true', List.isEmpty_eq_false_iff] at h
    have := Tpl.esc_len t
    have := List.length_pos_iff.2 h.1
    omega
  · rename_i h1
    rw [if_neg h1] at h
    split
    · rename_i h2
      rcases h2 with rfl | rfl
      · simp only [if_true] at h
        obtain ⟨c, r, rfl, -⟩ := nameOk_head h
        simp
      · rw [if_neg (by omega), if_pos rfl] at h
        exact (numOk_num h).2.2.2
    · split <;> omega

theorem wt_len : ∀ (k : List KT) (p : Nat), (∀ x ∈ k, ktOk x = true) → k.length ≤ wt p k
  | [], _, _ => by simp [wt]
  | x :: k, p, h => by
    simp only [List.forall_mem_cons] at h
    have := wt_len k x.1 h.2
    have := ktLen_pos h.1
    simp only [List.length_cons, wt]
    omega

theorem parse_sz {s : Bs} {l : List Nd} (h : parse s = .ok l) : szL l ≤ 1000000000 := by
  obtain ⟨h1, h2⟩ := parse_inv h
  have := PNs_sz h2
  have h3 := lexS_good (s := s) (fun t ht => h2.ne (kt t) (List.mem_map_of_mem ht))
  have := wt_len _ 0 h3.1
  omega

set_option maxRecDepth 100000 in
set_option maxHeartbeats 16000000 in
theorem Canonical_any (s : ByteArray) (xs : List Int) (ao : Option Addr) (cap : Nat) (w : World) (hg : Gl w) (hs : s.size ≤ 9223372036854775807) (hrow : RowIs w ao (xs.flatMap intC)) (hv : ∀ z ∈ xs, -9223372036854775808 ≤ z ∧ z ≤ 9223372036854775807) (hl : xs.length ≤ 9223372036854775807) :
    Calls Tryd.prog 3 #[.string s, .slice ao xs.length cap] w fun e w' => e = .returned (.bool true) ∧ Ext w w' := by
  obtain ⟨post, hpost⟩ : ∃ post : Ending → World → Prop, post = fun e w' => e = .returned (.bool true) ∧ Ext w w' := ⟨_, rfl⟩
  rw [← hpost]
  have hsane := hid (sane_any w hg)
  obtain ⟨n, hn⟩ : ∃ n, n = xs.length := ⟨_, rfl⟩
  rw [← hn] at hl ⊢
  replace hn := hid hn
  replace hpost := hid hpost
  replace hg := hid hg
  replace hrow := hid hrow
  replace hv := hid hv
  go_enter Tryd.func3, Tryd.ntmps3
  go_wp2_with fail
  refine hsane.out.mono ?_
  rintro e w1 ⟨rfl, hx1⟩
  clear hsane
  replace hx1 := hid hx1
  go_wp2_with fail
  have hd0 := (Mod.refl (fun _ => False) w1).drew
  have hm0 : (0 : Int) ≤ min (s.size : Int) 800 := by omega
  have hm1 : min (s.size : Int) 800 ≤ (s.size : Int) := by omega
  have hb0 : (s.extract 0 (min (s.size : Int) 800).toNat).size ≤ 800 := by rw [ByteArray.size_extract]; omega
  refine wp_region_sched (fun _ => True) [(0, true), (1, true), (2, true), (3, true), (4, true), (5, true), (9, true), (6, false), (7, false), (8, true)] (by as_aux_lemma => kernel_rfl) (by as_aux_lemma => kernel_rfl) (by as_aux_lemma => kernel_rfl) (by decide) trivial ?_
  simp only [schedOps, List.map_cons, List.map_nil, List.getD_cons_zero, List.getD_cons_succ]
  repeat (first | (refine wpS_q (by rfl) ?_ (fun w' hC => ?_) ?_; rotate_left; (go_simp; try with_reducible rfl); try simp only [Act.put, List.setIfInBounds_toArray, List.set_cons_zero, List.set_cons_succ]))
  generalize (s.extract 0 (min (s.size : Int) 800).toNat) = b0 at hb0 ⊢
  refine wpS_c (by rfl) (fun K hK => ?_)
  go_simp
  have hsrc := Source_any xs ao cap w1.drew (hrow.out.ext (hx1.out.trans hd0)) hv.out (by rw [← hn.out]; exact hl)
  rw [← hn.out] at hsrc
  have hb1 : (⟨(sourceS xs).toArray⟩ : ByteArray).size ≤ 800 := by have := src_take xs; show (sourceS xs).toArray.size ≤ 800; simp; omega
  generalize (⟨(sourceS xs).toArray⟩ : ByteArray) = b1 at hsrc hb1
  refine hsrc.mono ?_
  rintro e w2 ⟨rfl, hx2⟩
  refine hK.out _ _ trivial ?_
  clear hK K hsrc
  try simp only [Act.put, List.setIfInBounds_toArray, List.set_cons_zero, List.set_cons_succ]
  refine wpS_c (by rfl) (fun K hK => ?_)
  go_simp
  refine hK.out _ _ trivial ?_
  clear hK K
  have hxA := (hx1.out.trans (hd0.trans hx2)).alloc (.cells #[.string b0, .string b1] 9)
  have hA := heap_alloc_new w2 (.cells #[.string b0, .string b1] 9)
  generalize w2.heap.size = Z at hA ⊢
  generalize (w2.alloc (.cells #[.string b0, .string b1] 9)) = w3 at hA hxA ⊢
  clear hd0 hx2 hm0 hm1
  replace hxA := hid hxA
  replace hA := hid hA
  replace hx1 := hid hx1
  try simp only [Act.put, List.setIfInBounds_toArray, List.set_cons_zero, List.set_cons_succ]
  repeat (first | (refine wpS_q (by rfl) ?_ (fun w' hC => ?_) ?_; rotate_left; (go_simp; try with_reducible rfl); try simp only [Act.put, List.setIfInBounds_toArray, List.set_cons_zero, List.set_cons_succ]))
  refine wpS_nil ?_
  go_wp2_with fail
  go_loopg [5, 28] 2 (fun g okv iv wr => ∃ j : Nat, j + g = 2 ∧ iv = .int .i64 j ∧ okv = .bool true ∧ wr.heap[Z]? = some (.cells #[.string b0, .string b1] 9) ∧ Ext w wr)
  case atStart => exact ⟨0, by omega, rfl, rfl, hA.out, hxA.out⟩
  case round =>
    clear hA hxA
    obtain ⟨j, hj, rfl, rfl, hA, hxw⟩ := hrel
    by_cases hlt : j < 2
    rotate_left
    · obtain rfl : gk = 0 := by omega
      have hd1 : decide ((j : Int) < 2) = false := decide_eq_false (by omega)
      have hi1 : ¬ (j : Int) < 2 := by omega
      replace hA := hid hA
      replace hxw := hid hxw
      go_wp2_with fail
      rw [hpost.out]
      exact ⟨rfl, hxw.out⟩
    · obtain ⟨c, rfl⟩ : ∃ c, gk = c + 1 := ⟨gk - 1, by omega⟩
      have hd1 : decide ((j : Int) < 2) = true := decide_eq_true (by omega)
      have hi1 : (j : Int) < 2 := by omega
      have hi0 : (0 : Int) ≤ (j : Int) := by omega
      obtain ⟨b, hcell, hb⟩ : ∃ b : ByteArray, wr.cell? ⟨Z, j, none⟩ = some (.string b) ∧ b.size ≤ 800 := by
        match j, hlt with
        | 0, _ => exact ⟨b0, cell_of' hA 0, hb0⟩
        | 1, _ => exact ⟨b1, cell_of' hA 1, hb1⟩
      have hgr := hid (hg.out.ext hxw)
      have hbl : b.data.toList.length ≤ 800 := hb
      replace hA := hid hA
      replace hxw := hid hxw
      cases hp : parse b.data.toList with
      | error ak =>
        obtain ⟨a, k⟩ := ak
        have hP := hid (Parse_bad b wr hp)
        obtain ⟨hk, ha⟩ := parse_bad hp (by omega)
        have ha' : a ≤ b.size := ha
        clear hp ha hbl
        have ha0 : decide ((0 : Int) ≤ (a : Int)) = true := decide_eq_true (by omega)
        have ha1 : decide ((a : Int) ≤ (b.size : Int)) = true := decide_eq_true (by omega)
        have ha2 : (a : Int) ≤ (b.size : Int) := by omega
        rcases hk with rfl | rfl
        · go_wp2_with fail
          refine hP.out.mono ?_
          rintro e w4 ⟨rfl, hx4⟩
          have hA4 := hid (hx4.at hA.out (fun h => h))
          have hx4 := hid (hxw.out.trans hx4)
          go_wp2_with fail
          go_roundg c
          case measure => omega
          case rel => exact ⟨j + 1, by omega, by go_num, rfl, hA4.out, hx4.out⟩
        · go_wp2_with fail
          refine hP.out.mono ?_
          rintro e w4 ⟨rfl, hx4⟩
          have hA4 := hid (hx4.at hA.out (fun h => h))
          have hx4 := hid (hxw.out.trans hx4)
          go_wp2_with fail
          go_roundg c
          case measure => omega
          case rel => exact ⟨j + 1, by omega, by go_num, rfl, hA4.out, hx4.out⟩
      | ok l =>
        have hP := hid (Parse_ok b wr hp)
        obtain ⟨q1, q2, q3, q4, q5⟩ := canon hp hbl
        have q3' : (formL l).length ≤ b.size + 2 * lpL l := q3
        have hdl : decide (((formL l).length : Int) ≤ (b.size : Int) + 2 * (lpL l : Int)) = true := decide_eq_true (by omega)
        have hdi : ((formL l).length : Int) ≤ (b.size : Int) + 2 * (lpL l : Int) := by omega
        have hsz := hid (parse_sz hp)
        replace q1 := hid q1
        replace q2 := hid q2
        clear hp q3 hbl
        go_wp2_with fail
        refine hP.out.mono ?_
        rintro e w4 ⟨ao4, n4, c4, rfl, hn4, hx4⟩
        have hA4 := hid (hx4.at hA.out (fun h => h))
        have hx4w := hid (hxw.out.trans hx4)
        have hg4 := hid (hgr.out.ext hx4)
        have hn4 := hid (hn4.mono (F' := Lo w4) (fun k hk => hk.2))
        clear hP hx4 hA hxw hgr
        have hPr := hid (Print_ok (F := Lo w4) _ l w4 q1.out hg4.out hn4.out (fun _ h => h) hsz.out)
        have hQ := hid (fun w => Parse_ok ⟨(formL l).toArray⟩ w (l := l) q2.out)
        obtain ⟨fm, hfm⟩ : ∃ fm, fm = formL l := ⟨_, rfl⟩
        obtain ⟨lp, hlp⟩ : ∃ lp, lp = lpL l := ⟨_, rfl⟩
        rw [← hfm] at hPr hQ q3' q4 hdl hdi q1
        rw [← hlp] at q3' q5 hdl hdi
        replace hfm := hid hfm
        replace hlp := hid hlp
        have hself : ((⟨fm.toArray⟩ : ByteArray) == ⟨fm.toArray⟩) = true := by simp
        go_wp2_with fail
        refine hPr.out.mono ?_
        rintro e w5 ⟨rfl, hx5⟩
        have hA5 := hid (hx5.at hA4.out (fun h => h))
        have hx5w := hid (hx4w.out.trans hx5)
        have hg5 := hid (hg4.out.ext hx5)
        have hn5 := hid (hn4.out.up hx5)
        clear hPr hx5 hA4 hx4w hg4 hn4
        go_wp2_with fail
        refine (hQ.out w5).mono ?_
        rintro e w6 ⟨ao6, n6, c6, rfl, hn6, hx6⟩
        have hA6 := hid (hx6.at hA5.out (fun h => h))
        have hx6w := hid (hx5w.out.trans hx6)
        have hg6 := hid (hg5.out.ext hx6)
        have hm6 := hid (hn5.out.up hx6)
        have hn6 := hid (hn6.mono (F' := Lo w6) (fun k hk => hk.2))
        clear hQ hx6 hA5 hx5w hg5 hn5
        have hPr := hid (Print_ok (F := Lo w6) _ l w6 (by rw [q1.out]) hg6.out hn6.out (fun _ h => h) hsz.out)
        go_wp2_with fail
        refine hPr.out.mono ?_
        rintro e w7 ⟨rfl, hx7⟩
        have hA7 := hid (hx7.at hA6.out (fun h => h))
        have hx7w := hid (hx6w.out.trans hx7)
        have hn7 := hid (hn6.out.up hx7)
        have hm7 := hid (hm6.out.up hx7)
        clear hPr hx7 hA6 hx6w hg6 hn6 hm6
        go_wp2_with fail
        have hL := loops_any (F := Lo w7) _ l w7 hm7.out hsz.out
        rw [← hlp.out] at hL
        refine hL.mono ?_
        rintro e w8 ⟨rfl, hx8⟩
        have hA8 := hid (hx8.at hA7.out (fun h => h))
        have hx8w := hid (hx7w.out.trans hx8)
        have hn8 := hid (hn7.out.up hx8)
        have hm8 := hid (hm7.out.up hx8)
        clear hL hx8 hA7 hx7w hn7 hm7
        go_wp2_with fail
        have hR := refSame_any (F := Lo w8) _ _ l l w8 hm8.out hn8.out (fun _ h => h) hsz.out hsz.out
        rw [(eqL_iff l l).2 rfl] at hR
        refine hR.mono ?_
        rintro e w9 ⟨rfl, hx9⟩
        have hA9 := hid (hx9.at hA8.out (fun h => h))
        have hx9w := hid (hx8w.out.trans hx9)
        clear hR hx9 hA8 hx8w hn8 hm8
        go_wp2_with fail
        go_roundg c
        case measure => omega
        case rel => exact ⟨j + 1, by omega, by go_num, rfl, hA9.out, hx9w.out⟩
end Go.Proofs.YtpgniljgaknlpaaDoor
