import Derived.Test.YtpgniljgaknlpaaGreatDoorS0
import Derived.Test.YtpgniljgaknlpaaGreatDoorThAll
/-
  What 'glued' answers: two slices of nodes, one after the other.
-/
namespace Go.Proofs.YtpgniljgaknlpaaGreatDoor
open Go.RowKit Cdk Tpl

theorem NodeAt.addText {F : Nat → Prop} {w : World} {kd : Nat} {tx nm ar : Bs} {ct : Int} {vf vk ve : Value} {nd : Nd} (h : NodeAt F w ⟨kd, tx, nm, ar, ct, vf, vk, ve⟩ nd) (t : Bs) : nd.kind = kd ∧ nd.text = tx ∧ NodeAt F w ⟨kd, tx ++ t, nm, ar, ct, vf, vk, ve⟩ (Tpl.addText nd t) := by
  cases h with
  | mk _ fl ks es g1 g2 g3 => exact ⟨rfl, rfl, .mk ⟨kd, tx ++ t, nm, ar, ct, vf, vk, ve⟩ fl ks es g1 g2 g3⟩

theorem glued_eq {la lb : List Nd} (h : 0 < la.length) (h' : 0 < lb.length) : glued la lb = if (la[la.length - 1]).kind = 1 ∧ (lb[0]).kind = 1 then la.set (la.length - 1) (Tpl.addText la[la.length - 1] (lb[0]).text) ++ lb.tail else la ++ lb := by
  obtain ⟨d, x, rfl⟩ : ∃ d x, la = d ++ [x] := ⟨la.dropLast, la.getLast (List.ne_nil_of_length_pos h), (List.dropLast_concat_getLast _).symm⟩
  cases lb with
  | nil => simp at h'
  | cons y b' =>
    unfold glued
    rw [List.getLast?_concat]
    simp
theorem glued_nil {la lb : List Nd} (h : la.length = 0 ∨ lb.length = 0) : glued la lb = la ++ lb := by
  rcases h with h | h
  · rw [List.eq_nil_of_length_eq_zero h]; rfl
  · rw [List.eq_nil_of_length_eq_zero h]
    unfold glued
    split
    · rename_i e; simp at e
    · rfl

theorem RowsAt.tail {F : Nat → Prop} {w : World} {rows : List NC} {l : List Nd} (h : RowsAt F w rows l) : RowsAt F w rows.tail l.tail := by
  cases h with
  | nil => exact .nil
  | cons c n r l h1 h2 => exact h2
theorem RowIs.tail8 {w : World} {b o : Nat} {rows : List NC} (h : RowIs w (some ⟨b, o, none⟩) (rows.flatMap ncC)) : RowIs w (some ⟨b, o + 8, none⟩) (rows.tail.flatMap ncC) := by
  cases rows with
  | nil => intro j u hu; simp at hu
  | cons c r =>
    intro j u hu
    obtain ⟨b', o', e, hc⟩ := h (8 + j) u (by
      rw [List.flatMap_cons, List.getElem?_append_right (by rw [ncC_len]; omega), ncC_len]
      simpa using hu)
    injection e with e; injection e with e1 e2
    subst e1; subst e2
    exact ⟨b, o + 8, rfl, by rw [Nat.add_assoc]; exact hc⟩

theorem RowIs.tail8c {w : World} {b o cb : Nat} {rows : List NC} (h : RowIs w (some ⟨b, o, none⟩) (rows.flatMap ncC)) (hc : rows.length ≤ cb) : RowIs w (if cb = 1 then some ⟨b, o, none⟩ else some ⟨b, o + 8, none⟩) (rows.tail.flatMap ncC) := by
  by_cases h1 : cb = 1
  · rw [List.eq_nil_of_length_eq_zero (l := rows.tail) (by rw [List.length_tail]; omega)]
    intro j u hu; simp at hu
  · rw [if_neg h1]; exact RowIs.tail8 h

set_option maxRecDepth 100000 in
set_option maxHeartbeats 4000000 in
theorem glued_anyF {F : Nat → Prop} (w : World) (aa ab : Option Addr) (na nb ca cb : Nat) (la lb : List Nd) (ha : NodesAt F w (.slice aa na ca) la) (hb : NodesAt F w (.slice ab nb cb) lb) (hna : na ≤ 1000000) (hnb : nb ≤ 1000000)
    (hta : ∀ x ∈ la, x.text.length ≤ 1000000) (htb : ∀ x ∈ lb, x.text.length ≤ 1000000) :
    Calls Tryz.prog 16 #[.slice aa na ca, .slice ab nb cb] w fun e w' => ∃ v, e = .returned v ∧ NodesAt (fun k => F k ∨ Since w w' k) w' v (glued la lb) ∧ Ext w w' := by
  obtain ⟨post, hpost⟩ : ∃ post : Ending → World → Prop, post = fun e w' => ∃ v, e = .returned v ∧ NodesAt (fun k => F k ∨ Since w w' k) w' v (glued la lb) ∧ Ext w w' := ⟨_, rfl⟩
  rw [← hpost]
  replace hpost := hid hpost
  obtain ⟨ra, rfl, hra, hRa, hca, -⟩ := ha.rows
  obtain ⟨rb, rfl, hrb, hRb, hcb, hlb⟩ := hb.rows
  have hla := RowsAt.len hRa
  have hlnb := RowsAt.len hRb
  replace ha := hid ha
  replace hb := hid hb
  replace hra := hid hra
  replace hrb := hid hrb
  replace hRa := hid hRa
  replace hRb := hid hRb
  replace hla := hid hla
  replace hlnb := hid hlnb
  replace hta := hid hta
  replace htb := hid htb
  replace hca := hid hca
  replace hcb := hid hcb
  have hs1 : IntKind.i64.wrap ((ra.length : Int) + (rb.length : Int)) = (ra.length : Int) + (rb.length : Int) := IntWalk.i64_in _ (by omega)
  go_enter Tryz.func16, Tryz.ntmps16
  go_upto_region 2 with (first | (at_make; refine wpList_mk ncC rfl _ _ _ rfl Tryz.underlying26 el42 (ra.length + rb.length) rfl _ rfl (by omega) (by omega) (base := w.heap.size) (Nat.le_refl _) (fun v1 w1 H1 => ?_)) | (at_builtin; refine wpList_app rfl _ _ _ rfl Tryz.underlying26 el42 rfl H1.out.1 _ _ _ rfl ra rfl (hra.out.ext H1.out.2) ncC_len (RowsAt.one hRa.out) (by simp only [List.length_nil]; omega) (by have := H1.out.2.size; omega) hca.out (fun v2 w2 H2 => ?_)))
  obtain ⟨Hn2, Hm2⟩ := H2.out
  have hx2 := Ext.grow H1.out.2 H1.out.1 Hm2
  rw [List.nil_append] at Hn2
  clear H1 H2 Hm2
  replace Hn2 := hid Hn2
  replace hx2 := hid hx2
  by_cases h1 : 0 < ra.length
  rotate_left
  · have d1 : decide ((0 : Int) < (ra.length : Int)) = false := decide_eq_false (by omega)
    have d2 : ¬ (0 : Int) < (ra.length : Int) := by omega
    go_wp2_with (at_builtin; refine wpList_app rfl _ _ _ rfl Tryz.underlying26 el42 rfl Hn2.out _ _ _ rfl rb rfl (hrb.out.ext hx2.out) ncC_len (RowsAt.one hRb.out) (by omega) (by have := hx2.out.size; omega) hcb.out (fun v3 w3 H3 => ?_))
    rw [hpost.out, glued_nil (.inl (by have := hla.out; omega))]
    have hx3 := Ext.grow hx2.out Hn2.out H3.out.2
    exact ⟨_, rfl, Own.nodesF H3.out.1 (((hRa.out.mod hx3 (fun _ _ h => h)).app (hRb.out.mod hx3 (fun _ _ h => h))).mono (fun k hk => .inl hk)) (fun k h1 h2 => .inr ⟨h1, h2⟩), hx3⟩
  · have d1 : decide ((0 : Int) < (ra.length : Int)) = true := decide_eq_true (by omega)
    have d2 : (0 : Int) < (ra.length : Int) := by omega
    by_cases h2 : 0 < rb.length
    rotate_left
    · have d3 : decide ((0 : Int) < (rb.length : Int)) = false := decide_eq_false (by omega)
      have d4 : ¬ (0 : Int) < (rb.length : Int) := by omega
      go_wp2_with (at_builtin; refine wpList_app rfl _ _ _ rfl Tryz.underlying26 el42 rfl Hn2.out _ _ _ rfl rb rfl (hrb.out.ext hx2.out) ncC_len (RowsAt.one hRb.out) (by omega) (by have := hx2.out.size; omega) hcb.out (fun v3 w3 H3 => ?_))
      rw [hpost.out, glued_nil (.inr (by have := hlnb.out; omega))]
      have hx3 := Ext.grow hx2.out Hn2.out H3.out.2
      exact ⟨_, rfl, Own.nodesF H3.out.1 (((hRa.out.mod hx3 (fun _ _ h => h)).app (hRb.out.mod hx3 (fun _ _ h => h))).mono (fun k hk => .inl hk)) (fun k h1 h2 => .inr ⟨h1, h2⟩), hx3⟩
    · have d3 : decide ((0 : Int) < (rb.length : Int)) = true := decide_eq_true (by omega)
      have d4 : (0 : Int) < (rb.length : Int) := by omega
      have d5 : (0 : Int) ≤ (ra.length : Int) - 1 := by omega
      have d6 : (ra.length : Int) - 1 < (ra.length : Int) := by omega
      obtain ⟨hja, hNa⟩ := RowsAt.get (j := la.length - 1) (by have := hla.out; omega) hRa.out
      obtain ⟨hjb, hNb⟩ := RowsAt.get (j := 0) (by have := hlnb.out; omega) hRb.out
      obtain ⟨ba, oa, rfl, hcA⟩ := hra.out.at (by rw [flat_length _ 8 ncC_len]; omega)
      obtain ⟨bb, ob, rfl, hcB⟩ := hrb.out.at (by rw [flat_length _ 8 ncC_len]; omega)
      have gA := hcA _ _ ((flat_get ncC 8 ncC_len ra (la.length - 1) 0 _ (List.getElem?_eq_getElem hja) (by omega)).trans rfl)
      have gA1 := hcA _ _ ((flat_get ncC 8 ncC_len ra (la.length - 1) 1 _ (List.getElem?_eq_getElem hja) (by omega)).trans rfl)
      have gB := hcB _ _ ((flat_get ncC 8 ncC_len rb 0 0 _ (List.getElem?_eq_getElem hjb) (by omega)).trans rfl)
      have gB1 := hcB _ _ ((flat_get ncC 8 ncC_len rb 0 1 _ (List.getElem?_eq_getElem hjb) (by omega)).trans rfl)
      have hge := glued_eq (la := la) (lb := lb) (by have := hla.out; omega) (by have := hlnb.out; omega)
      have hxA : ra[la.length - 1]? = some ra[la.length - 1] := List.getElem?_eq_getElem hja
      have hyl : la[la.length - 1]? = some (la[la.length - 1]'(by have := hla.out; omega)) := List.getElem?_eq_getElem _
      have hyb : lb[0]? = some (lb[0]'(by have := hlnb.out; omega)) := List.getElem?_eq_getElem _
      have htA := hta.out _ (List.mem_of_getElem? hyl)
      have htB := htb.out _ (List.mem_of_getElem? hyb)
      generalize la[la.length - 1]'_ = xl at hNa hge htA
      generalize lb[0]'_ = yb at hNb hge htB
      generalize ra[la.length - 1] = cA at gA gA1 hNa hxA
      generalize rb[0] = cB at gB gB1 hNb
      obtain ⟨kA, tA, nmA, arA, ctA, fA, ksA, esA⟩ := cA
      obtain ⟨kB, tB, nmB, arB, ctB, fB, ksB, esB⟩ := cB
      simp only [strV, Nat.add_zero, Nat.zero_mul, Nat.zero_add] at gA gA1 gB gB1
      have hAt := NodeAt.addText hNa tB
      have hBt := NodeAt.addText hNb []
      rw [← hla.out] at gA gA1 hxA
      have hba : ba < w.heap.size := World.block_lt_of_cell? w _ gA
      have hbb : bb < w.heap.size := World.block_lt_of_cell? w _ gB
      have gA := hx2.out.cell gA (fun h => h)
      have gA1 := hx2.out.cell gA1 (fun h => h)
      have gB := hx2.out.cell gB (fun h => h)
      have gB1 := hx2.out.cell gB1 (fun h => h)
      have qA : ((kA : Int) == 1) = decide (kA = 1) := by rw [Bool.eq_iff_iff, beq_iff_eq, decide_eq_true_eq]; omega
      have qB : ((kB : Int) == 1) = decide (kB = 1) := by rw [Bool.eq_iff_iff, beq_iff_eq, decide_eq_true_eq]; omega
      obtain ⟨eA1, eA2, hA3⟩ := hAt
      obtain ⟨eB1, eB2, -⟩ := hBt
      rw [eA1, eB1, eB2] at hge
      rw [eA2] at htA
      rw [eB2] at htB
      replace hge := hid hge
      replace hA3 := hid hA3
      replace hxA := hid hxA
      clear hNa hNb eA1 eA2 eB1 eB2 hcA hcB hja hjb hyl hyb
      cases hkA : decide (kA = 1) with
      | false =>
        rw [hkA] at qA
        rw [decide_eq_false_iff_not] at hkA
        replace hkA := hid hkA
        go_wp2_with (at_builtin; refine wpList_app rfl _ _ _ rfl Tryz.underlying26 el42 rfl Hn2.out _ _ _ rfl rb rfl (hrb.out.ext hx2.out) ncC_len (RowsAt.one hRb.out) (by omega) (by have := hx2.out.size; omega) hcb.out (fun v3 w3 H3 => ?_))
        rw [hpost.out, hge.out, if_neg (by have := hkA.out; omega)]
        have hx3 := Ext.grow hx2.out Hn2.out H3.out.2
        exact ⟨_, rfl, Own.nodesF H3.out.1 (((hRa.out.mod hx3 (fun _ _ h => h)).app (hRb.out.mod hx3 (fun _ _ h => h))).mono (fun k hk => .inl hk)) (fun k h1 h2 => .inr ⟨h1, h2⟩), hx3⟩
      | true =>
        rw [hkA] at qA
        rw [decide_eq_true_eq] at hkA
        replace hkA := hid hkA
        cases hkB : decide (kB = 1) with
        | false =>
          rw [hkB] at qB
          rw [decide_eq_false_iff_not] at hkB
          replace hkB := hid hkB
          go_wp2_with (at_builtin; refine wpList_app rfl _ _ _ rfl Tryz.underlying26 el42 rfl Hn2.out _ _ _ rfl rb rfl (hrb.out.ext hx2.out) ncC_len (RowsAt.one hRb.out) (by omega) (by have := hx2.out.size; omega) hcb.out (fun v3 w3 H3 => ?_))
          rw [hpost.out, hge.out, if_neg (by have := hkB.out; omega)]
          have hx3 := Ext.grow hx2.out Hn2.out H3.out.2
          exact ⟨_, rfl, Own.nodesF H3.out.1 (((hRa.out.mod hx3 (fun _ _ h => h)).app (hRb.out.mod hx3 (fun _ _ h => h))).mono (fun k hk => .inl hk)) (fun k h1 h2 => .inr ⟨h1, h2⟩), hx3⟩
        | true =>
          rw [hkB] at qB
          rw [decide_eq_true_eq] at hkB
          replace hkB := hid hkB
          obtain ⟨g, cap, cur, rfl, hgb, hgh⟩ := Own.slice Hn2.out h1
          have k1 : ¬ 9223372036854775807 < tA.length + tB.length := by omega
          obtain ⟨u7, c7⟩ : ∃ u, w2.cell? ⟨g, (ra.length - 1) * 8 + 1, none⟩ = some u := ⟨_, (Own.cell Hn2.out (j := 1) hxA.out ncC_len (by omega)).trans rfl⟩
          have z7 := free_of' hgh ((ra.length - 1) * 8 + 1)
          go_upto_region 3 with fail
          have gA1' := gA1
          have gB1' := gB1
          rw [← Nat.add_assoc] at gA1'
          have hxd := hx2.out.drew
          have Hnd := Hn2.out.ext (Mod.drew0 _ w2)
          have hdr : ∀ {a : Addr} {v : Value}, w2.cell? a = some v → w2.drew.cell? a = some v := fun h => h
          replace gA1' := hdr gA1'
          replace gA1 := hdr gA1
          replace gB1 := hdr gB1
          replace c7 := hdr c7
          replace z7 : w2.drew.frozen? ⟨g, (ra.length - 1) * 8 + 1, none⟩ = false := z7
          have hwl : IntKind.i64.wrap ((ra.length : Int) - 1) = (ra.length : Int) - 1 := IntWalk.i64_in _ (by omega)
          have d7 : (1 : Int) ≤ (ra.length : Int) := by omega
          have htn : ((ra.length : Int) - 1).toNat = ra.length - 1 := by omega
          refine wp_region_sched (fun w' => w'.cell? ⟨ba, oa + (ra.length - 1) * 8 + 1, none⟩ = some (.string ⟨tA.toArray⟩) ∧ w'.cell? ⟨bb, ob + 1, none⟩ = some (.string ⟨tB.toArray⟩)) [(0, true), (1, true), (2, true), (3, true), (4, true), (5, true), (6, true), (7, true), (8, true), (9, true), (10, true), (11, true), (12, true), (13, true), (14, true), (15, true), (16, true), (17, true), (18, false)] (by as_aux_lemma => kernel_rfl) (by as_aux_lemma => kernel_rfl) (by as_aux_lemma => kernel_rfl) (by decide) ⟨gA1', gB1⟩ ?_
          simp only [schedOps, List.map_cons, List.map_nil, List.getD_cons_zero, List.getD_cons_succ]
          repeat (refine wpS_q (by rfl) ?_ (fun w' hC => ?_) ?_; rotate_left; (obtain ⟨q0, q1⟩ := hC; go_simp; try with_reducible rfl); try simp only [Act.put, List.setIfInBounds_toArray, List.set_cons_zero, List.set_cons_succ])
          generalize w2.drew = w3 at hxd Hnd gA1' gA1 gB1 c7 z7 ⊢
          refine wpS_c (by rfl) (fun K hK => ?_)
          go_simp
          refine hK.out _ _ ?_ ?_
          · have hmq := (Mod.refl (Eq g) w3).setCell (a := ⟨g, (ra.length - 1) * 8 + 1, none⟩) (fun _ => rfl) (.string (⟨tA.toArray⟩ ++ ⟨tB.toArray⟩))
            exact ⟨hmq.cell gA1' (fun e => by have : g = ba := e; omega), hmq.cell gB1 (fun e => by have : g = bb := e; omega)⟩
          clear hK K
          refine wpS_nil ?_
          have es : (⟨tA.toArray⟩ ++ ⟨tB.toArray⟩ : ByteArray) = ⟨(tA ++ tB).toArray⟩ := ByteArray.ext (by simp)
          rw [es]
          have Hp := Own.put (i := ra.length - 1) (j := 1) (u := .string ⟨(tA ++ tB).toArray⟩) (y := ⟨kA, tA ++ tB, nmA, arA, ctA, fA, ksA, esA⟩) Hnd ncC_len (g := g) rfl hxA.out (by omega) rfl
          have hmp : Mod (Eq g) w3 (w3.setCell ⟨g, (ra.length - 1) * 8 + 1, none⟩ (.string ⟨(tA ++ tB).toArray⟩)) := (Mod.refl (Eq g) w3).setCell (fun _ => rfl) _
          generalize (w3.setCell ⟨g, (ra.length - 1) * 8 + 1, none⟩ (.string ⟨(tA ++ tB).toArray⟩)) = w4 at Hp hmp ⊢
          have hx4 : Ext w w4 := (((hxd.mono (T := fun k => w.heap.size ≤ k) (fun _ h => h.elim)).then hmp (fun k _ e => by have : g = k := e; omega))).mono' (fun k hk e => by omega)
          have d8 : (1 : Int) ≤ (rb.length : Int) := by omega
          have d9 : (rb.length : Int) ≤ (cb : Int) := by omega
          have d10 : (1 : Int) ≤ (cb : Int) := by omega
          replace Hp := hid Hp
          replace hx4 := hid hx4
          clear gA1' gA1 gB1 c7 z7 hmp Hnd hxd
          have hrt := hid (RowIs.tail8c hrb.out hlb)
          go_wp2_with (at_builtin; refine wpList_app rfl _ _ _ rfl Tryz.underlying26 el42 rfl Hp.out _ _ _ rfl rb.tail (by rw [List.length_tail]) (hrt.out.ext hx4.out) ncC_len (fun y hy => RowsAt.one hRb.out y (List.mem_of_mem_tail hy)) (by rw [List.length_set, List.length_tail]; omega) (by have := hx4.out.size; omega) (fun e => by split at e <;> cases e) (fun v3 w6 H3 => ?_))
          all_goals
            rw [hpost.out, hge.out, if_pos ⟨hkA.out, hkB.out⟩]
            have hx5 := Ext.grow hx4.out Hp.out H3.out.2
            refine ⟨_, rfl, Own.nodesF H3.out.1 ((RowsAt.app ?_ ?_).mono (fun k hk => .inl hk)) (fun k h1 h2 => .inr ⟨h1, h2⟩), hx5⟩
            · rw [hla.out]
              exact ((hRa.out.mod hx5 (fun _ _ h => h)).set (hA3.out.mod hx5 (fun _ _ h => h)))
            · exact (hRb.out.mod hx5 (fun _ _ h => h)).tail


theorem glued_any (w : World) (aa ab : Option Addr) (na nb ca cb : Nat) (la lb : List Nd) (ha : NodesAt (Lo w) w (.slice aa na ca) la) (hb : NodesAt (Lo w) w (.slice ab nb cb) lb) (hna : na ≤ 1000000) (hnb : nb ≤ 1000000)
    (hta : ∀ x ∈ la, x.text.length ≤ 1000000) (htb : ∀ x ∈ lb, x.text.length ≤ 1000000) :
    Calls Tryz.prog 16 #[.slice aa na ca, .slice ab nb cb] w fun e w' => ∃ v, e = .returned v ∧ NodesAt (Lo w') w' v (glued la lb) ∧ Ext w w' :=
  (glued_anyF w aa ab na nb ca cb la lb ha hb hna hnb hta htb).mono fun e w' ⟨v, he, hn, hx⟩ =>
    ⟨v, he, hn.mono (fun k hk => hk.elim (fun h => Nat.lt_of_lt_of_le h hx.size) (fun h => h.2)), hx⟩
end Go.Proofs.YtpgniljgaknlpaaGreatDoor
