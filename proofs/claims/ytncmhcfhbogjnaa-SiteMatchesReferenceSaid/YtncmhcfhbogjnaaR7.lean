import Derived.Test.YtncmhcfhbogjnaaR6
/-
  The reference publishes: the walk.
-/
namespace Go.Proofs.Ytncmhcfhbogjnaa
open Go.RowKit Cdk

def RPubPost (w : World) (B r : Nat) (R : RefSt) (j : Nat) (l : List Pg) (pg : Bool) (e : Ending) (w' : World) : Prop :=
  ∃ R', e = .returned (.int .i64 0) ∧ Mod (R.foot r) w w' ∧ RefAt w' B r R' ∧ R'.cur.map stripC = (R.cur.map stripC).set j (R.made + 1, l) ∧
    R'.opn.map strip = (if pg then (R.opn.map strip).map (purgeS j l) else R.opn.map strip) ∧ R'.last = R.last ∧ R'.made = R.made + 1

set_option maxRecDepth 100000 in
set_option maxHeartbeats 8000000 in
theorem RPublish_ok {w : World} {B r : Nat} {R : RefSt} (h : RefAt w B r R) (h0 : 0 ≤ R.made) (h9 : R.made < 1000) (j : Nat) (hj : j < 4) (x : Value) (l : List Pg) (hx : PgRow w x l)
    (hok : ∀ p ∈ l, p.2.2.oneCell' = true) (hl : l.length ≤ 1000) (hnd : (l.map (·.1)).Nodup) (hold : ∀ e ∈ R.opn, e.2.2.2.2.length ≤ 1000) (pg : Bool) (hB : B ≤ w.heap.size) :
    Calls Try.prog 15 #[.pointer (some ⟨r, 0, none⟩), .int .i64 j, x, .bool pg] w (RPubPost w B r R j l pg) := by
  have hrc := hid (rclass_any (j : Int) w)
  rw [show isClassB (j : Int) = true from isClassB_iff.2 ⟨by omega, by omega⟩] at hrc
  have hKP : ∀ (R' : RefSt) (e : Ending) (w' : World), e = .returned (.int .i64 0) → Mod (R.foot r) w w' → RefAt w' B r R' → R'.cur.map stripC = (R.cur.map stripC).set j (R.made + 1, l) →
      R'.opn.map strip = (if pg then (R.opn.map strip).map (purgeS j l) else R.opn.map strip) → R'.last = R.last → R'.made = R.made + 1 → RPubPost w B r R j l pg e w' :=
    fun R' e w' a b c d f g i => ⟨R', a, b, c, d, f, g, i⟩
  generalize RPubPost w B r R j l pg = Post at hKP ⊢
  replace hKP := hid hKP
  obtain ⟨ao, cap, rfl, hrow, -⟩ := Own.row hx
  have hc0 := hid (fun e : ao = none => Own.none_cap hx (by rw [e]))
  have hfi := hid (fun (k : Nat) (hk : k < l.length) => find_any l l[k].1 ao cap w hrow (by omega))
  have hjI : (j : Int) < 4 := by omega
  obtain ⟨-, -, -, c3, fz⟩ := h.cells
  obtain ⟨n, hn⟩ : ∃ n, n = R.made := ⟨_, rfl⟩
  rw [← hn] at c3 h0 h9
  have hR1 := hid (h.setMade (n + 1))
  replace hrow := hid hrow
  replace hnd := hid hnd
  replace hok := hid hok
  replace hold := hid hold
  replace hx := hid hx
  replace h := hid h
  obtain ⟨N, hN⟩ : ∃ N, N = l.length := ⟨_, rfl⟩
  rw [← hN] at hl ⊢
  replace hN := hid hN
  replace hn := hid hn
  go_enter Try.func15, Try.ntmps15
  go_wp2_with fail
  refine hrc.out.mono ?_; rintro e w' ⟨rfl, rfl⟩
  go_wp2_with fail
  go_loopg [9] N (fun g i wr => ∃ k : Nat, k + g = N ∧ i = .int .i64 k ∧ wr = w)
  case atStart => exact ⟨0, by omega, rfl, rfl⟩
  case round =>
    obtain ⟨k, hk, rfl, rfl⟩ := hrel
    have hkN : k ≤ N := by omega
    replace hk := hid hk
    by_cases hlt : k < N
    · have hkl : k < l.length := by rw [← hN.out]; exact hlt
      obtain ⟨b, off, rfl, g0, -, -⟩ := pg_at hrow.out hkl
      have hf := hfi.out k hkl
      rw [findI_nodup hnd.out hkl] at hf
      generalize l[k].1 = a at g0 hf
      rw [← hN.out] at hf
      replace hf := hid hf
      go_wp2_with fail
      refine hf.out.mono ?_; rintro e w' ⟨rfl, rfl⟩
      go_wp2_with fail
      go_roundg (gk - 1)
      case measure => have := hk.out; omega
      case rel => exact ⟨k + 1, by have := hk.out; omega, by go_num, rfl⟩
    · obtain rfl : N = k := by omega
      clear hfi
      go_upto_region 9 with fail
      have htop1 := hR1.out.top
      have hc1 := hR1.out.cur
      have hg : Hid (Mod (Eq r) wr (wr.setCell ⟨r, 3, none⟩ (.int .i64 (n + 1)))) := hid ((Mod.refl (Eq r) wr).setCell (fun _ => rfl) _)
      have hx1 : Hid (PgRow (wr.setCell ⟨r, 3, none⟩ (.int .i64 (n + 1))) (.slice ao N cap) l) := hid (by
        obtain ⟨-, -, -, q4⟩ := h.out.other h.out.top hg.out
        have := q4 (by decide) _ _ hx.out
        rw [← hN.out] at this; exact this)
      have hsz1 : wr.heap.size = (wr.setCell ⟨r, 3, none⟩ (.int .i64 (n + 1))).heap.size := by simp [World.setCell]
      generalize (wr.setCell ⟨r, 3, none⟩ (.int .i64 (n + 1))) = w1 at *
      obtain ⟨bc, cap0, hv0, hob0, -, -, fzc, -⟩ := hc1.head (by have := hR1.out.four; omega)
      have d0 : w1.cell? ⟨r, 0, none⟩ = some (.slice (some ⟨bc, 0, none⟩) 4 cap0) := by rw [cell_of htop1]; show some R.cv = _; rw [hv0, h.out.four]
      have d3 : w1.cell? ⟨r, 3, none⟩ = some (.int .i64 (n + 1)) := by rw [cell_of htop1]; rfl
      have hx4 := Mod.alloc (Mod.refl (fun _ => False) w1) (.cells #[] 55)
      have d0' := hx4.cell d0 (fun h => h)
      have d3' := hx4.cell d3 (fun h => h)
      have hown4 := hid ((Own.empty (e := 55) (size := 3) pgCells (Nat.le_refl w1.heap.size)).ext (Mod.drew0 (fun _ => False) (w1.alloc (.cells #[] 55))))
      have hr4 := hid ((Own.row (Own.ext (Own.ext hx1.out hx4) (Mod.drew0 (fun _ => False) (w1.alloc (.cells #[] 55))))))
      replace hsz1 := hid hsz1
      replace htop1 := hid htop1
      replace hc1 := hid hc1
      replace hv0 := hid hv0
      replace hob0 := hid hob0
      replace hx4 := hid hx4
      clear c3 fz
      refine wp_region_schedE (fun w' => w'.cell? ⟨r, 0, none⟩ = some (.slice (some ⟨bc, 0, none⟩) 4 cap0) ∧ w'.cell? ⟨r, 3, none⟩ = some (.int .i64 (n + 1))) [(0, true), (1, true), (2, true), (3, true), (4, true), (5, true), (6, true), (7, true), (8, true), (10, true), (9, false), (11, false), (12, true), (13, true), (14, false)] (by as_aux_lemma => kernel_rfl) (by as_aux_lemma => kernel_rfl) (by as_aux_lemma => kernel_rfl) (by decide) ⟨d0, d3⟩ ?_
      simp only [schedOps, List.map_cons, List.map_nil, List.getD_cons_zero, List.getD_cons_succ]
      repeat (first | (refine wpT_p (by rfl) (by rfl) ?_ (fun w' hC => ?_) ?_; rotate_left; (go_simp; try with_reducible rfl); try simp only [Act.put, List.setIfInBounds_toArray, List.set_cons_zero, List.set_cons_succ]) | (refine wpT_q (by rfl) (by rfl) ?_ (fun w' hC => ?_) ?_; rotate_left; (go_simp; try with_reducible rfl); try simp only [Act.put, List.setIfInBounds_toArray, List.set_cons_zero, List.set_cons_succ]))
      refine wpT_c (by rfl) (fun K hK => ?_)
      go_simp
      refine hK.out _ _ ⟨d0', d3'⟩ ?_
      clear hK K
      try simp only [Act.put, List.setIfInBounds_toArray, List.set_cons_zero, List.set_cons_succ]
      repeat (first | (refine wpT_p (by rfl) (by rfl) ?_ (fun w' hC => ?_) ?_; rotate_left; (go_simp; try with_reducible rfl); try simp only [Act.put, List.setIfInBounds_toArray, List.set_cons_zero, List.set_cons_succ]) | (refine wpT_q (by rfl) (by rfl) ?_ (fun w' hC => ?_) ?_; rotate_left; (go_simp; try with_reducible rfl); try simp only [Act.put, List.setIfInBounds_toArray, List.set_cons_zero, List.set_cons_succ]))
      refine wpT_c (by rfl) (fun K hK => ?_)
      refine wp_appS _ _ _ rfl Try.underlying37 el55 rfl hown4.out ao N cap rfl l hN.out.symm ?_ pgCells_len (fun z hz u hu => ?_) (by have := hN.out; simp only [List.length_nil]; omega) (by show w1.heap.size ≤ (w1.alloc _).heap.size; rw [World.size_alloc]; omega) hc0.out N (by simp) (fun ao6 cap6 w6 H6 => ?_)
      · obtain ⟨ao', cap', e, hr, -⟩ := hr4.out
        injection e with e1 e2 e3
        rw [e1]; exact hr
      · have := hok.out z hz
        simp [pgCells] at hu
        rcases hu with rfl | rfl | rfl
        · rfl
        · rfl
        · exact this
      try simp only [Act.put, List.setIfInBounds_toArray, List.set_cons_zero, List.set_cons_succ]
      have H6a : Hid (Own w6 w1.heap.size 55 3 pgCells (.slice ao6 N cap6) l) := hid H6.out.1
      have hx6 : Ext w1 w6 := (((Mod.refl _ w1).alloc (.cells #[] 55)).drew).then H6.out.2 (fun k' hk' e => by
        have e : w1.heap.size = k' := Option.some.inj e
        omega)
      have e0 := hx6.cell d0 (fun h => h)
      have e3 := hx6.cell d3 (fun h => h)
      have hR6 := hid (hR1.out.ext hx6)
      obtain ⟨bc', cap0', hv0', hob0', -, hcell, fzc6, -⟩ := hR6.out.cur.head (by have := hR1.out.four; omega)
      obtain rfl : bc = bc' := by
        have := hob0.out
        rw [hob0'] at this
        exact (Option.some.inj this).symm
      have hjl : j < R.cur.length := by have := h.out.four; omega
      have f0 : w6.cell? ⟨bc, j * 2, none⟩ = some (.int .i64 R.cur[j].1) := hcell (j * 2) _ (by
        have := flat_get shotC 2 shotC_len R.cur j 0 R.cur[j] (List.getElem?_eq_getElem hjl) (by omega)
        simpa [shotC] using this)
      have f1 : w6.cell? ⟨bc, j * 2 + 1, none⟩ = some R.cur[j].2.1 := hcell (j * 2 + 1) _ (by
        have := flat_get shotC 2 shotC_len R.cur j 1 R.cur[j] (List.getElem?_eq_getElem hjl) (by omega)
        simpa [shotC] using this)
      clear hcell hv0' hob0' H6
      refine hK.out _ _ ⟨e0, e3⟩ ?_
      clear hK K
      repeat (first | (refine wpT_p (by rfl) (by rfl) ?_ (fun w' hC => ?_) ?_; rotate_left; (go_simp; try with_reducible rfl); try simp only [Act.put, List.setIfInBounds_toArray, List.set_cons_zero, List.set_cons_succ]) | (refine wpT_q (by rfl) (by rfl) ?_ (fun w' hC => ?_) ?_; rotate_left; (go_simp; try with_reducible rfl); try simp only [Act.put, List.setIfInBounds_toArray, List.set_cons_zero, List.set_cons_succ]))
      refine wpT_e (by rfl) (fun K hK => ?_)
      go_simp
      refine hK.out _ _ ?_
      clear hK K
      have hR7 := hid (hR6.out.setCur hob0.out hj (n + 1) (x := .slice ao6 N cap6) (ps := l) (H6a.out.weaken (Nat.zero_le _)))
      have hm7 : Hid (Mod (R.foot r) wr ((w6.setCell ⟨bc, j * 2, none⟩ (.int .i64 (n + 1))).setCell ⟨bc, j * 2 + 1, none⟩ (.slice ao6 N cap6))) := hid
        ((((hg.out.mono (fun k e => .inl e.symm)).then hx6 (fun _ _ h => h.elim)).setCell (fun _ => .inr (.inl hob0.out)) _).setCell (fun _ => .inr (.inl hob0.out)) _)
      have hx7 : Hid (PgRow ((w6.setCell ⟨bc, j * 2, none⟩ (.int .i64 (n + 1))).setCell ⟨bc, j * 2 + 1, none⟩ (.slice ao6 N cap6)) (.slice ao N cap) l) := hid (by
        obtain ⟨c, hc⟩ := hR6.out.cur.cells hob0.out
        have hxx : Mod (Eq bc) w6 ((w6.setCell ⟨bc, j * 2, none⟩ (.int .i64 (n + 1))).setCell ⟨bc, j * 2 + 1, none⟩ (.slice ao6 N cap6)) := ((Mod.refl (Eq bc) w6).setCell (fun _ => rfl) _).setCell (fun _ => rfl) _
        obtain ⟨-, -, -, q4⟩ := hR6.out.other hc hxx
        exact q4 (by decide) _ _ (Own.ext hx1.out hx6))
      have hcur : Hid ((R.cur.set j (n + 1, Value.slice ao6 N cap6, l)).map stripC = (R.cur.map stripC).set j (R.made + 1, l)) := hid (by rw [List.map_set, ← hn.out]; rfl)
      generalize ((w6.setCell ⟨bc, j * 2, none⟩ (.int .i64 (n + 1))).setCell ⟨bc, j * 2 + 1, none⟩ (.slice ao6 N cap6)) = w7 at *
      generalize R.cur.set j (n + 1, Value.slice ao6 N cap6, l) = C7 at *
      clear f0 f1 fzc6 fzc e0 e3 hx6 d0 d3 d0' d3' hR6 H6a hown4 hr4 hx4 hc1 htop1 hg hx1 hR1
      obtain ⟨M, hM⟩ : ∃ M, M = R.opn.length := ⟨_, rfl⟩
      have hM16 : M ≤ 16 := by have := h.out.few; omega
      have hoL := hid (fun (wq : World) (op : List Sess) (hq : RefAt wq B r ⟨R.cv, R.ov, C7, op, R.last, n + 1⟩) => hq.opn.row)
      have c1 : ∀ (wq : World) (op : List Sess) (hq : RefAt wq B r ⟨R.cv, R.ov, C7, op, R.last, n + 1⟩), wq.cell? ⟨r, 1, none⟩ = some R.ov := fun wq op hq => hq.cells.2.1
      replace c1 := hid c1
      replace hM := hid hM
      cases pg with
      | false =>
        have hv := c1.out _ _ hR7.out
        obtain ⟨aoo, capo, hov, -, -⟩ := hR7.out.opn.row
        replace hov : R.ov = .slice aoo M capo := by rw [hM.out]; exact hov
        rw [hov] at hv
        replace hov := hid hov
        go_wp2_with fail
        go_loopg [10] 1 (fun g i wq => g = 1 ∧ i = .int .i64 0 ∧ wq = w7)
        case atStart => exact ⟨rfl, rfl, rfl⟩
        case round =>
          obtain ⟨rfl, rfl, rfl⟩ := hrel
          go_wp2_with fail
          all_goals exact hKP.out _ _ _ rfl hm7.out hR7.out hcur.out rfl rfl (by rw [← hn.out])
      | true =>
        obtain ⟨wo, rfl⟩ : ∃ wo : World, wo = wr := ⟨_, rfl⟩
        obtain ⟨G1, rfl⟩ : ∃ G, G = gk := ⟨_, rfl⟩
        go_wp2_with fail
        go_loopg [10] M (fun g i wq => ∃ (k : Nat) (op : List Sess), k + g = M ∧ i = .int .i64 k ∧ RefAt wq B r ⟨R.cv, R.ov, C7, op, R.last, n + 1⟩ ∧ op.map strip = ((R.opn.map strip).take k).map (purgeS j l) ++ (R.opn.map strip).drop k ∧
          (∀ e ∈ op, e.2.2.2.2.length ≤ 1000) ∧ Mod (R.foot r) wo wq ∧ PgRow wq (.slice ao N cap) l)
        case atStart => exact ⟨0, R.opn, by omega, rfl, hR7.out, by simp, hold.out, hm7.out, hx7.out⟩
        case round =>
          clear hR7 hm7 hx7 hx
          obtain ⟨k, op, hk, rfl, hR, hop, hsm, hm, hx⟩ := hrel
          have hkM : k ≤ M := by omega
          have hcv := c1.out _ _ hR
          have hol : op.length = M := by
            have := congrArg List.length hop
            rw [List.length_map, List.length_append, List.length_map, List.length_take, List.length_drop, List.length_map, ← hM.out] at this
            omega
          replace hk := hid hk
          by_cases hlt : k < M
          · obtain ⟨ob, capo, hov, hob, -, hcell, fzo, -⟩ := hR.opn.head (by show 0 < op.length; omega)
            replace hov : R.ov = .slice (some ⟨ob, 0, none⟩) M capo := by rw [← hol]; exact hov
            rw [hov] at hcv
            have hkl : k < op.length := by omega
            obtain ⟨e, he⟩ : ∃ e, e = op[k] := ⟨_, rfl⟩
            have fg := fun i (hi : i < 4) => flat_get sessC 4 sessC_len op k i op[k] (List.getElem?_eq_getElem hkl) hi
            have g1 : wr.cell? ⟨ob, k * 4 + 1, none⟩ = some (.int .i64 e.2.1) := hcell (k * 4 + 1) _ (by rw [he]; simpa [sessC] using fg 1 (by omega))
            have g3 : wr.cell? ⟨ob, k * 4 + 2 + 1, none⟩ = some e.2.2.2.1 := hcell (k * 4 + 3) _ (by rw [he]; simpa [sessC] using fg 3 (by omega))
            have hTk : k < (R.opn.map strip).length := by rw [List.length_map, ← hM.out]; exact hlt
            obtain ⟨s1, s2, -⟩ := step_list (purgeS j l) hop hTk
            have hse : strip e = (R.opn.map strip)[k] := by
              rw [List.getElem?_map, List.getElem?_eq_getElem hkl, ← he] at s2
              exact Option.some.inj s2
            rw [← hse] at s1
            have hmem : e ∈ op := by rw [he]; exact List.getElem_mem _
            have hpr := hR.rowo e hmem
            have hps := hsm e hmem
            have hnext := hid (fun (h1 : e.2.1 ≠ (j : Int)) => (show op.map strip = ((R.opn.map strip).take (k + 1)).map (purgeS j l) ++ (R.opn.map strip).drop (k + 1) by rw [← s1, show purgeS j l (strip e) = strip e by unfold purgeS; rw [if_neg (by exact h1)], he, ← List.map_set, List.set_getElem_self]))
            replace hop := hid hop
            replace hsm := hid hsm
            replace hm := hid hm
            replace hx := hid hx
            replace s1 := hid s1
            replace hR := hid hR
            replace he := hid he
            replace hob := hid hob
            replace hpr := hid hpr
            replace hmem := hid hmem
            replace hol := hid hol
            clear hcell s2 hse hTk fg
            cases hcb : (e.2.1 == (j : Int)) with
            | false =>
              go_wp2_with fail
              go_roundg (gk - 1)
              case measure => have := hk.out; omega
              case rel => exact ⟨k + 1, op, by have := hk.out; omega, by go_num, hR.out, hnext.out (by simpa using hcb), hsm.out, hm.out, hx.out⟩
            | true =>
              have hcj : Hid (e.2.1 = (j : Int)) := hid (by simpa using hcb)
              obtain ⟨aoq, capq, hxq, hrq, -⟩ := Own.row hpr.out
              obtain ⟨ps, hps0⟩ : ∃ ps, ps = e.2.2.2.2 := ⟨_, rfl⟩
              rw [← hps0] at hxq hrq hps
              rw [hxq] at g3
              obtain ⟨M2, hM2⟩ : ∃ M, M = ps.length := ⟨_, rfl⟩
              rw [← hM2] at g3 hps
              replace hM2 := hid hM2
              replace hrq := hid hrq
              replace hxq := hid hxq
              replace hps0 := hid hps0
              obtain ⟨wq, rfl⟩ : ∃ wq : World, wq = wr := ⟨_, rfl⟩
              obtain ⟨G2, rfl⟩ : ∃ G, G = gk := ⟨_, rfl⟩
              go_wp2_with fail
              go_loopg [11, 13] M2 (fun g v i wz => ∃ q : Nat, q + g = M2 ∧ i = .int .i64 q ∧ Own wz wq.heap.size 55 3 pgCells v (leftL l (ps.take q)) ∧ Ext wq wz)
              case atStart => exact ⟨0, by omega, rfl, Own.nil _ _ _ _ _, Mod.refl _ _⟩
              case round =>
                obtain ⟨q, hq, rfl, hown, hxz⟩ := hrel
                have hqM : q ≤ M2 := by omega
                replace hq := hid hq
                by_cases hlq : q < M2
                · have hql : q < ps.length := by rw [← hM2.out]; exact hlq
                  obtain ⟨bq, oq, rfl, p0, -, -⟩ := pg_at hrq.out hql
                  have p0 := hxz.cell p0 (fun h => h)
                  have hsucc := leftL_succ l ps hql
                  have hxw := Own.ext hx.out hxz
                  obtain ⟨ao', cap', ee, hlr, -⟩ := Own.row hxw
                  injection ee with e1 e2 e3
                  subst e1 e3
                  clear e2
                  have hfa := find_any l ps[q].1 ao cap wr hlr (by have := hN.out; omega)
                  rw [← hN.out] at hfa
                  have hll := leftL_len l (ps.take q)
                  rw [List.length_take] at hll
                  replace hown := hid hown
                  replace hxz := hid hxz
                  have hwz : wq.heap.size ≤ wr.heap.size := hxz.out.size
                  rcases findI_find l ps[q].1 with ⟨h1, h2⟩ | ⟨k', hk', h1, h2⟩
                  · rw [h2] at hsucc
                    rw [h1] at hfa
                    generalize ps[q].1 = a at p0 hfa
                    replace hsucc := hid hsucc
                    replace hfa := hid hfa
                    clear h1 h2 hxw hlr hll
                    go_wp2_with fail
                    refine hfa.out.mono ?_; rintro e' w' ⟨rfl, rfl⟩
                    go_wp2_with fail
                    go_roundg (gk - 1)
                    case measure => have := hq.out; omega
                    case rel => exact ⟨q + 1, by have := hq.out; omega, by go_num, by rw [hsucc.out]; simpa using hown.out, hxz.out⟩
                  · rw [h2] at hsucc
                    rw [h1] at hfa
                    obtain ⟨bl, ol, rfl, c0, c1', c2⟩ := pg_at hlr hk'
                    generalize ps[q].1 = a at p0 hfa
                    have hkN : k' < N := by rw [hN.out]; exact hk'
                    have hok' := hid (hok.out _ (List.getElem_mem hk'))
                    replace hsucc := hid hsucc
                    replace hfa := hid hfa
                    replace hll : Hid _ := hid hll
                    clear h1 h2 hxw hlr
                    go_wp2_with fail
                    refine hfa.out.mono ?_; rintro e' w' ⟨rfl, rfl⟩
                    go_wp2_with (at_builtin; refine wpList_app rfl _ _ _ rfl Try.underlying37 el55 rfl (hown.out.ext ((Mod.refl _ _).alloc _)) _ 1 1 rfl [l[k']] rfl (by exact RowIs.new _ _ _) pgCells_len (fun z hz u hu => by
                        simp only [List.mem_singleton] at hz; subst hz
                        simp [pgCells] at hu
                        rcases hu with rfl | rfl | rfl
                        · rfl
                        · rfl
                        · exact hok'.out) (by have := hll.out; simp only [List.length_singleton]; omega) (by rw [World.size_alloc]; omega) (by simp) (fun v6 w6 H6 => ?_); go_frame)
                    go_roundg (gk - 1)
                    case measure => have := hq.out; omega
                    case rel => exact ⟨q + 1, by have := hq.out; omega, by go_num, by rw [hsucc.out]; exact H6.out.1, (hxz.out.alloc _).then H6.out.2 (fun k' hk' e => by have := (hown.out.block k' e).1; omega)⟩
                · obtain rfl : M2 = q := by omega
                  rw [List.take_of_length_le (by rw [hM2.out]; exact Nat.le_refl _)] at hown
                  have hpv : Hid (∃ v, v = u11) := hid ⟨_, rfl⟩
                  obtain ⟨v, hv⟩ := hpv.out
                  have hown2 : Hid (PgRow wr v (leftL l ps)) := hid (by rw [hv]; exact hown.weaken (Nat.zero_le _))
                  obtain ⟨aov, capv, rfl, -, -⟩ := hown.row
                  have hRz := hid (hR.out.ext hxz)
                  have z1 := hxz.cell hcv (fun h => h)
                  have z3 := hxz.cell g3 (fun h => h)
                  obtain ⟨co, hco⟩ := hRz.out.opn.cells hob.out
                  have fzz := free_of hco
                  have hll := leftL_len l ps
                  generalize (leftL l ps).length = nl at *
                  replace hv := hid hv
                  replace hco := hid hco
                  replace hxz := hid hxz
                  clear hown hpv
                  go_wp2_with fail
                  go_roundg (G2 - 1)
                  case measure => have := hk.out; omega
                  case rel =>
                    have hv' : Value.slice aov nl capv = v := hv.out.symm
                    rw [hv']
                    have hkl : k < op.length := by have := hol.out; omega
                    have hz := hRz.out.setPages (k := k) hob.out hkl hown2.out
                    have hxx : Mod (Eq ob) wr (wr.setCell ⟨ob, k * 4 + 3, none⟩ v) := (Mod.refl (Eq ob) wr).setCell (fun _ => rfl) _
                    obtain ⟨-, -, -, q4⟩ := hRz.out.other hco.out hxx
                    have heo : op[k] = e := he.out.symm
                    refine ⟨k + 1, op.set k (op[k].1, op[k].2.1, op[k].2.2.1, v, leftL l ps), by have := hk.out; omega, by go_num, hz, ?_, ?_, ?_, ?_⟩
                    · rw [List.map_set, ← s1.out, heo]
                      congr 1
                      unfold strip purgeS
                      rw [if_pos (by exact hcj.out), hps0.out]
                    · intro z hz
                      rcases List.mem_or_eq_of_mem_set hz with hz | rfl
                      · exact hsm.out z hz
                      · show (leftL l ps).length ≤ 1000
                        have := leftL_len l ps
                        have := hM2.out; omega
                    · exact (hm.out.then hxz.out (fun _ _ h => h.elim)).setCell (fun _ => .inr (.inr hob.out)) _
                    · exact q4 (by decide) _ _ (Own.ext hx.out hxz.out)
          · obtain rfl : M = k := by omega
            obtain ⟨aoo, capo, hov, -, -⟩ := hR.opn.row
            replace hov : R.ov = .slice aoo M capo := by rw [← hol]; exact hov
            rw [hov] at hcv
            have hfin : op.map strip = (R.opn.map strip).map (purgeS j l) := by
              rw [hop, List.take_of_length_le (by rw [List.length_map, ← hM.out]; exact Nat.le_refl _), List.drop_eq_nil_of_le (by rw [List.length_map, ← hM.out]; exact Nat.le_refl _), List.append_nil]
            replace hfin := hid hfin
            replace hop := hid hop
            replace hR := hid hR
            replace hm := hid hm
            replace hov := hid hov
            replace hol := hid hol
            replace hx := hid hx
            clear hsm
            go_wp2_with fail
            all_goals exact hKP.out _ _ _ rfl hm.out hR.out hcur.out (hfin.out.trans (if_pos trivial).symm) rfl (by rw [← hn.out])
end Go.Proofs.Ytncmhcfhbogjnaa
