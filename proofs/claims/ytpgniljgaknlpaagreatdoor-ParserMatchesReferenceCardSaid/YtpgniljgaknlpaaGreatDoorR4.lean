import Derived.Test.YtpgniljgaknlpaaGreatDoorR3
import Derived.Test.YtpgniljgaknlpaaGreatDoorK10
/-
  The reference parser's 'next', 'misfit', 'take'.
-/
namespace Go.Proofs.YtpgniljgaknlpaaGreatDoor
open Go.RowKit Cdk Tpl

/-- The state at block B stands before token k of T; the source has sz bytes; d loops and conditions are open; bad is the offset that was recorded, or -1. -/
structure RS (B : Nat) (ao : Option Addr) (cap : Nat) (T : List Tk) (sz k d : Nat) (bad : Int) (w : World) : Prop where
  cell : w.heap[B]? = some (.cells #[.slice ao T.length cap, .int .i64 k, .int .i64 sz, .int .i64 d, .int .i64 bad] 57 (0, 0))
  row : RowIs w ao (T.flatMap tokC)
  apart : ∀ b off, ao = some ⟨b, off, none⟩ → b ≠ B
  le : k ≤ T.length
  small : T.length ≤ 1001
  sz : sz ≤ 1000

section
variable {B : Nat} {ao : Option Addr} {cap : Nat} {T : List Tk} {sz k d : Nat} {bad : Int} {w w' : World}

theorem RS.mod {S : Nat → Prop} (h : RS B ao cap T sz k d bad w) (hm : Mod S w w') (hB : ¬ S B) (hS : ∀ b off, ao = some ⟨b, off, none⟩ → ¬ S b) : RS B ao cap T sz k d bad w' :=
  ⟨hm.at h.cell hB, h.row.mod hm hS, h.apart, h.le, h.small, h.sz⟩

theorem RS.ext (h : RS B ao cap T sz k d bad w) (hm : Ext w w') : RS B ao cap T sz k d bad w' := h.mod hm (fun h => h) (fun _ _ _ h => h)

theorem RS.cells (h : RS B ao cap T sz k d bad w) : w.cell? ⟨B, 0, none⟩ = some (.slice ao T.length cap) ∧ w.cell? ⟨B, 1, none⟩ = some (.int .i64 k) ∧ w.cell? ⟨B, 2, none⟩ = some (.int .i64 sz) ∧ w.cell? ⟨B, 3, none⟩ = some (.int .i64 d) ∧ w.cell? ⟨B, 4, none⟩ = some (.int .i64 bad) :=
  ⟨cell_of' h.cell 0, cell_of' h.cell 1, cell_of' h.cell 2, cell_of' h.cell 3, cell_of' h.cell 4⟩

/-- A cell of the state is written. -/
theorem RS.put {k' d' : Nat} {bad' : Int} (h : RS B ao cap T sz k d bad w) (j : Nat) (v : Value) (hk : k' ≤ T.length)
    (he : (#[.slice ao T.length cap, .int .i64 k, .int .i64 sz, .int .i64 d, .int .i64 bad] : Array Value).setIfInBounds j v = #[.slice ao T.length cap, .int .i64 k', .int .i64 sz, .int .i64 d', .int .i64 bad']) : RS B ao cap T sz k' d' bad' (w.setCell ⟨B, j, none⟩ v) := by
  have hm : Mod (Eq B) w (w.setCell ⟨B, j, none⟩ v) := (Mod.refl (Eq B) w).setCell (fun _ => rfl) v
  refine ⟨?_, h.row.mod hm (fun b off e e' => h.apart b off e e'.symm), h.apart, hk, h.small, h.sz⟩
  rw [put_at h.cell j v, he]

/-- The next token's cells. -/
theorem RS.tok (h : RS B ao cap T sz k d bad w) (hk : k < T.length) : ∃ b off, ao = some ⟨b, off, none⟩ ∧ w.cell? ⟨b, off + k * 3, none⟩ = some (.int .i64 T[k].kind) ∧ w.cell? ⟨b, off + k * 3 + 1, none⟩ = some (.string ⟨T[k].text.toArray⟩) ∧ w.cell? ⟨b, off + k * 3 + 2, none⟩ = some (.int .i64 T[k].off) := by
  obtain ⟨b, off, he, hc⟩ := h.row.at (by rw [flat_length _ 3 tokC_len]; omega)
  have f := fun j (hj : j < 3) => flat_get tokC 3 tokC_len T k j T[k] (List.getElem?_eq_getElem hk) hj
  have f0 := hc _ _ ((f 0 (by omega)).trans rfl)
  have f1 := hc _ _ ((f 1 (by omega)).trans rfl)
  have f2 := hc _ _ ((f 2 (by omega)).trans rfl)
  simp only [← Nat.add_assoc, Nat.add_zero] at f0 f1 f2
  exact ⟨b, off, he, f0, f1, f2⟩
end

/-- The next token, or the end. -/
def hdT (sz : Nat) : List Tk → Tk
  | [] => ⟨0, [], sz⟩
  | t :: _ => t

set_option maxRecDepth 100000 in
set_option maxHeartbeats 4000000 in
theorem rnext_any {B : Nat} {ao : Option Addr} {cap : Nat} {T : List Tk} {sz k d : Nat} {bad : Int} (w : World) (h : RS B ao cap T sz k d bad w) :
    Calls Tryz.prog 42 #[.pointer (some ⟨B, 0, none⟩)] w fun e w' => e = .returned (tokV (hdT sz (T.drop k))) ∧ Ext w w' := by
  have hsm := h.small
  have hle := h.le
  obtain ⟨t, ht⟩ : ∃ t, t = hdT sz (T.drop k) := ⟨_, rfl⟩
  rw [← ht]
  unfold tokV
  have hBw := lt_of_at h.cell
  replace h := hid h
  go_enter Tryz.func42, Tryz.ntmps42
  go_wp2_with fail
  have hxR := Mod.alloc (Mod.refl (fun _ => False) w) (.cells #[.int .i64 0, .string ⟨#[]⟩, .int .i64 0] 77)
  have hR0 := heap_alloc_new w (.cells #[.int .i64 0, .string ⟨#[]⟩, .int .i64 0] 77)
  generalize hR : w.heap.size = R at hR0 hBw ⊢
  generalize (w.alloc (.cells #[.int .i64 0, .string ⟨#[]⟩, .int .i64 0] 77)) = w0 at hxR hR0 ⊢
  replace hR := hid hR
  have h0 := h.out.ext hxR
  obtain ⟨c0, c1, c2, c3, c4⟩ := h0.cells
  have hN : ¬ B = R := by omega
  by_cases hk : k < T.length
  · obtain ⟨b, off, rfl, g0, g1, g2⟩ := h0.tok hk
    rw [drop_tok hk] at ht
    have ht' : t = T[k] := ht
    clear ht
    rw [← ht'] at g0 g1 g2
    have hd : decide ((k : Int) < (T.length : Int)) = true := decide_eq_true (by omega)
    have hki : (k : Int) < (T.length : Int) := by omega
    have hbR : ¬ b = R := by
      have := World.block_lt_of_cell? _ _ g0
      obtain ⟨b', off', e, x0, _, _⟩ := h.out.tok hk
      have := World.block_lt_of_cell? _ _ x0
      injection e with e; injection e with e _ _
      subst e
      have := hR.out
      simp only at *
      omega
    have hk0 := hid hk
    replace ht' := hid ht'
    clear hle
    obtain ⟨n, hn⟩ : ∃ n, n = T.length := ⟨_, rfl⟩
    rw [← hn] at hsm c0 hd hki
    replace hn := hid hn
    replace h0 := hid h0
    go_quiet (fail)
    go_wp2_with fail
    have hd1 : Ext w0 (w0.drewN nq) := (Mod.refl _ w0).ofDrewN nq
    generalize hw1 : w0.drewN nq = w1 at hd1 ⊢
    clear hw1 c0 c1 c2 c3 c4 g0 g1 g2
    have h1 := h0.out.ext hd1
    have hR1 := hd1.at hR0 (fun h => h)
    obtain ⟨c0, c1, -, -, -⟩ := (h1.ext (Mod.drew0 _ _)).cells
    obtain ⟨b', off', hao, g0, g1, g2⟩ := (h1.ext (Mod.drew0 _ _)).tok hk0.out
    obtain ⟨rfl, rfl⟩ : b = b' ∧ off = off' := by simpa using hao
    rw [← ht'.out] at g0 g1 g2
    have hR2 := (Mod.drew0 (fun _ => False) _).at hR1 (fun h => h)
    have r0 : w1.drew.cell? ⟨R, 0, none⟩ = some (.int .i64 0) := cell_of' hR2 0
    have r1 : w1.drew.cell? ⟨R, 1, none⟩ = some (.string ⟨#[]⟩) := cell_of' hR2 1
    have r2 : w1.drew.cell? ⟨R, 2, none⟩ = some (.int .i64 0) := cell_of' hR2 2
    have zR := free_of' hR2
    replace hR1 := hid hR1
    replace hR2 := hid hR2
    replace h1 := hid h1
    refine wp_region_schedE (fun w' => w'.cell? ⟨B, 0, none⟩ = some (.slice (some ⟨b, off, none⟩) n cap) ∧ w'.cell? ⟨B, 1, none⟩ = some (.int .i64 k) ∧ w'.cell? ⟨b, off + k * 3, none⟩ = some (.int .i64 t.kind) ∧ w'.cell? ⟨b, off + k * 3 + 1, none⟩ = some (.string ⟨t.text.toArray⟩) ∧ w'.cell? ⟨b, off + k * 3 + 2, none⟩ = some (.int .i64 t.off)) [(0, true), (1, true), (2, true), (3, true), (4, true), (5, true), (6, true), (7, true), (8, true), (9, true), (10, false)] (by as_aux_lemma => kernel_rfl) (by as_aux_lemma => kernel_rfl) (by as_aux_lemma => kernel_rfl) (by decide) ⟨by rw [hn.out]; exact c0, c1, g0, g1, g2⟩ ?_
    simp only [schedOps, List.map_cons, List.map_nil, List.getD_cons_zero, List.getD_cons_succ]
    repeat (first | (refine wpT_p (by rfl) (by rfl) ?_ (fun w' hC => ?_) ?_; rotate_left; (go_simp; try with_reducible rfl); try simp only [Act.put, List.setIfInBounds_toArray, List.set_cons_zero, List.set_cons_succ]) | (refine wpT_q (by rfl) (by rfl) ?_ (fun w' hC => ?_) ?_; rotate_left; (obtain ⟨q0, q1, q2, q3, q4⟩ := hC; go_simp; try with_reducible rfl); try simp only [Act.put, List.setIfInBounds_toArray, List.set_cons_zero, List.set_cons_succ]))
    have hx2 := (hxR.trans hd1).drew
    generalize w1.drew = w2 at hx2 r0 r1 r2 zR hR2 c0 c1 g0 g1 g2 ⊢
    refine wpT_e (by rfl) (fun K hK => ?_)
    go_simp
    refine hK.out _ _ ?_
    clear hK K
    clear c0 c1 g0 g1 g2
    go_wp2_with fail
    have hR5 := setCell3 (x := .int .i64 t.kind) (y := .string ⟨t.text.toArray⟩) (z := .int .i64 t.off) hR2.out
    have hm5 := ((((Mod.refl (Eq R) w2).setCell (a := ⟨R, 0, none⟩) (fun _ => rfl) (.int .i64 t.kind)).setCell (a := ⟨R, 1, none⟩) (fun _ => rfl) (.string ⟨t.text.toArray⟩)).setCell (a := ⟨R, 2, none⟩) (fun _ => rfl) (.int .i64 t.off))
    generalize (((w2.setCell ⟨R, 0, none⟩ (.int .i64 t.kind)).setCell ⟨R, 1, none⟩ (.string ⟨t.text.toArray⟩)).setCell ⟨R, 2, none⟩ (.int .i64 t.off)) = w5 at hR5 hm5 ⊢
    refine bodyPost_ret (results_cell_row rfl _ _ R _ _ _ _ rfl hR5 Tryz.underlying77 rfl tok_size) rfl ⟨rfl, ?_⟩
    have hRR := hR.out
    exact ((hx2.mono (T := fun k => w.heap.size ≤ k) (fun _ h => h.elim)).trans (hm5.mono (fun k e => by have : R = k := e; omega))).mono' (fun k hk e => by omega)
  · rw [List.drop_eq_nil_of_le (by omega)] at ht
    have ht' : t = ⟨0, [], sz⟩ := ht
    subst ht'
    have hd : decide ((k : Int) < (T.length : Int)) = false := decide_eq_false (by omega)
    have hki : ¬ (k : Int) < (T.length : Int) := by omega
    replace h0 := hid h0
    have r0 : w0.cell? ⟨R, 0, none⟩ = some (.int .i64 0) := cell_of' hR0 0
    have r1 : w0.cell? ⟨R, 1, none⟩ = some (.string ⟨#[]⟩) := cell_of' hR0 1
    have r2 : w0.cell? ⟨R, 2, none⟩ = some (.int .i64 0) := cell_of' hR0 2
    have zR := free_of' hR0
    go_quiet (fail)
    go_wp2_with fail
    have hd1 : Ext w0 (w0.drewN nq) := (Mod.refl _ w0).ofDrewN nq
    generalize w0.drewN nq = w1 at hd1 ⊢
    have hR5 := setCell3 (x := .int .i64 0) (y := .string ⟨#[]⟩) (z := .int .i64 sz) (hd1.at hR0 (fun h => h))
    have hm5 := ((((Mod.refl (Eq R) w1).setCell (a := ⟨R, 0, none⟩) (fun _ => rfl) (.int .i64 0)).setCell (a := ⟨R, 1, none⟩) (fun _ => rfl) (.string ⟨#[]⟩)).setCell (a := ⟨R, 2, none⟩) (fun _ => rfl) (.int .i64 sz))
    generalize (((w1.setCell ⟨R, 0, none⟩ (.int .i64 0)).setCell ⟨R, 1, none⟩ (.string ⟨#[]⟩)).setCell ⟨R, 2, none⟩ (.int .i64 sz)) = w5 at hR5 hm5 ⊢
    refine bodyPost_ret (results_cell_row rfl _ _ R _ _ _ _ rfl hR5 Tryz.underlying77 rfl tok_size) rfl ⟨rfl, ?_⟩
    have hRR := hR.out
    exact (((hxR.trans hd1).mono (T := fun k => w.heap.size ≤ k) (fun _ h => h.elim)).trans (hm5.mono (fun k e => by have : R = k := e; omega))).mono' (fun k hk e => by omega)

set_option maxRecDepth 100000 in
set_option maxHeartbeats 4000000 in
theorem rmisfit_any {B : Nat} {ao : Option Addr} {cap : Nat} {T : List Tk} {sz k d : Nat} (a : Nat) (w : World) (h : RS B ao cap T sz k d (-1) w) :
    Calls Tryz.prog 43 #[.pointer (some ⟨B, 0, none⟩), .int .i64 a] w fun e w' => e = .returned (.tuple #[]) ∧ RS B ao cap T sz k d a w' ∧ Mod (Eq B) w w' := by
  obtain ⟨c0, c1, c2, c3, c4⟩ := h.cells
  have z := free_of' h.cell
  have hP := h.put (k' := k) (d' := d) (bad' := a) 4 (.int .i64 a) h.le rfl
  have hm : Mod (Eq B) w (w.setCell ⟨B, 4, none⟩ (.int .i64 a)) := (Mod.refl (Eq B) w).setCell (fun _ => rfl) _
  replace h := hid h
  replace hP := hid hP
  replace hm := hid hm
  go_enter Tryz.func43, Tryz.ntmps43
  go_wp2_with fail
  go_end0
  exact ⟨rfl, hP.out, hm.out⟩

set_option maxRecDepth 100000 in
set_option maxHeartbeats 4000000 in
theorem rtake_bad {B : Nat} {ao : Option Addr} {cap : Nat} {T : List Tk} {sz k d : Nat} (kd bad : Nat) (w : World) (h : RS B ao cap T sz k d bad w) :
    Calls Tryz.prog 44 #[.pointer (some ⟨B, 0, none⟩), .int .i64 kd] w fun e w' => e = .returned (.string ⟨#[]⟩) ∧ Ext w w' := by
  have hN := rnext_any w h
  obtain ⟨t, ht⟩ : ∃ t, t = hdT sz (T.drop k) := ⟨_, rfl⟩
  rw [← ht] at hN
  unfold tokV at hN
  replace hN := hid hN
  replace h := hid h
  replace ht := hid ht
  have d1 : decide ((0 : Int) ≤ (bad : Int)) = true := decide_eq_true (by omega)
  have d2 : (0 : Int) ≤ (bad : Int) := by omega
  go_enter Tryz.func44, Tryz.ntmps44
  go_wp2_with fail
  refine hN.out.mono ?_
  rintro e w1 ⟨rfl, hx1⟩
  have hx2 := hid (hx1.alloc (.cells #[.int .i64 t.kind, .string ⟨t.text.toArray⟩, .int .i64 t.off] 77))
  have h2 := h.out.ext hx2.out
  obtain ⟨c0, c1, c2, c3, c4⟩ := h2.cells
  replace h2 := hid h2
  clear hN hx1
  go_wp2_with fail
  go_ret
  exact ⟨rfl, hx2.out⟩

theorem hdT_need {sz kd k : Nat} {T : List Tk} (hk0 : kd ≠ 0) (h : (hdT sz (T.drop k)).kind ≠ kd) : Tpl.need sz kd (T.drop k) = .error (hdT sz (T.drop k)).off := by
  cases hd : T.drop k with
  | nil => rfl
  | cons t r =>
    rw [hd] at h
    simp only [Tpl.need]
    exact if_neg h
theorem hdT_lt {sz kd k : Nat} {T : List Tk} (hk0 : kd ≠ 0) (h : (hdT sz (T.drop k)).kind = kd) : k < T.length := by
  rcases Nat.lt_or_ge k T.length with h1 | h1
  · exact h1
  · rw [List.drop_eq_nil_of_le h1] at h
    exact absurd h.symm hk0
theorem hdT_at {sz k : Nat} {T : List Tk} (h : k < T.length) : hdT sz (T.drop k) = T[k] := by rw [drop_tok h]; rfl

set_option maxRecDepth 100000 in
set_option maxHeartbeats 4000000 in
theorem rtake_any {B : Nat} {ao : Option Addr} {cap : Nat} {T : List Tk} {sz k d : Nat} (kd : Nat) (hk0 : kd ≠ 0) (w : World) (h : RS B ao cap T sz k d (-1) w) :
    Calls Tryz.prog 44 #[.pointer (some ⟨B, 0, none⟩), .int .i64 kd] w fun e w' => Mod (Eq B) w w' ∧
      ((∃ hk : k < T.length, T[k].kind = kd ∧ e = .returned (.string ⟨T[k].text.toArray⟩) ∧ RS B ao cap T sz (k + 1) d (-1) w') ∨ (∃ a : Nat, Tpl.need sz kd (T.drop k) = .error a ∧ e = .returned (.string ⟨#[]⟩) ∧ RS B ao cap T sz k d a w')) := by
  obtain ⟨post, hpost⟩ : ∃ post : Ending → World → Prop, post = fun e w' => Mod (Eq B) w w' ∧
      ((∃ hk : k < T.length, T[k].kind = kd ∧ e = .returned (.string ⟨T[k].text.toArray⟩) ∧ RS B ao cap T sz (k + 1) d (-1) w') ∨ (∃ a : Nat, Tpl.need sz kd (T.drop k) = .error a ∧ e = .returned (.string ⟨#[]⟩) ∧ RS B ao cap T sz k d a w')) := ⟨_, rfl⟩
  rw [← hpost]
  replace hpost := hid hpost
  have hN := rnext_any w h
  have hle := h.le
  have hsm := h.small
  obtain ⟨t, ht⟩ : ∃ t, t = hdT sz (T.drop k) := ⟨_, rfl⟩
  rw [← ht] at hN
  unfold tokV at hN
  have hBw := lt_of_at h.cell
  replace hN := hid hN
  replace h := hid h
  replace ht := hid ht
  replace hk0 := hid hk0
  go_enter Tryz.func44, Tryz.ntmps44
  go_wp2_with fail
  refine hN.out.mono ?_
  rintro e w1 ⟨rfl, hx1⟩
  go_upto_region 2 with fail
  have hx2 := hx1.alloc (.cells #[.int .i64 t.kind, .string ⟨t.text.toArray⟩, .int .i64 t.off] 77)
  have hR2 := heap_alloc_new w1 (.cells #[.int .i64 t.kind, .string ⟨t.text.toArray⟩, .int .i64 t.off] 77)
  have hBw1 := Nat.lt_of_lt_of_le hBw hx1.size
  generalize (w1.alloc (.cells #[.int .i64 t.kind, .string ⟨t.text.toArray⟩, .int .i64 t.off] 77)) = w2 at hx2 hR2 ⊢
  generalize w1.heap.size = R at hR2 hBw1 ⊢
  have h2 := h.out.ext hx2
  obtain ⟨c0, c1, c2, c3, c4⟩ := h2.cells
  have r0 : w2.cell? ⟨R, 0, none⟩ = some (.int .i64 t.kind) := cell_of' hR2 0
  have r1 : w2.cell? ⟨R, 1, none⟩ = some (.string ⟨t.text.toArray⟩) := cell_of' hR2 1
  have r2 : w2.cell? ⟨R, 2, none⟩ = some (.int .i64 t.off) := cell_of' hR2 2
  have z := free_of' h2.cell
  have hBR : ¬ B = R := by omega
  have hRB : ¬ R = B := by omega
  clear hN hx1
  by_cases hkd : t.kind = kd
  · have hne : ((t.kind : Int) != (kd : Int)) = false := by rw [hkd]; simp
    replace hkd := hid hkd
    replace h2 := hid h2
    replace hx2 := hid hx2
    replace hR2 := hid hR2
    go_wp2_with fail
    rw [hpost.out]
    have hk : k < T.length := hdT_lt hk0.out (by rw [← ht.out]; exact hkd.out)
    have hkt : t = T[k] := ht.out.trans (hdT_at hk)
    subst hkt
    exact ⟨(hx2.out.mono (T := Eq B) (fun _ h => h.elim)).setCell (a := ⟨B, 1, none⟩) (fun _ => rfl) _, .inl ⟨hk, hkd.out, rfl, h2.out.put 1 _ (by omega) rfl⟩⟩
  · have hne : ((t.kind : Int) != (kd : Int)) = true := by rw [bne_iff_ne]; omega
    have hM := hid (rmisfit_any t.off w2 h2)
    replace hkd := hid hkd
    replace h2 := hid h2
    replace hx2 := hid hx2
    replace hR2 := hid hR2
    go_wp2_with fail
    refine hM.out.mono ?_
    rintro e w3 ⟨rfl, h3, hm3⟩
    replace h3 := hid h3
    replace hm3 := hid hm3
    go_wp2_with fail
    rw [hpost.out]
    refine ⟨(hx2.out.mono (fun _ h => h.elim)).trans hm3.out, .inr ⟨t.off, ?_, rfl, h3.out⟩⟩
    rw [hdT_need hk0.out (by rw [← ht.out]; exact hkd.out), ht.out]
end Go.Proofs.YtpgniljgaknlpaaGreatDoor
