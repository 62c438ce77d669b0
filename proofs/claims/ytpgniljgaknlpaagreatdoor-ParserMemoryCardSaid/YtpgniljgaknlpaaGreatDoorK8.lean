import Derived.Test.YtpgniljgaknlpaaGreatDoorK7
/-
  The parser's reader: 'more', 'need'.
-/
namespace Go.Proofs.YtpgniljgaknlpaaGreatDoor
open Go.RowKit Cdk Tpl

/-- The reader at block B stands before token k of T; the source has sz bytes. -/
structure Rd (B : Nat) (ao : Option Addr) (cap : Nat) (T : List Tk) (sz : Nat) (k : Nat) (w : World) : Prop where
  cell : w.heap[B]? = some (.cells #[.slice ao T.length cap, .int .i64 k, .int .i64 sz] 52 (0, 0))
  row : RowIs w ao (T.flatMap tokC)
  apart : ∀ b off, ao = some ⟨b, off, none⟩ → b ≠ B
  le : k ≤ T.length
  small : T.length ≤ 1001
  sz : sz ≤ 1000

section
variable {B : Nat} {ao : Option Addr} {cap : Nat} {T : List Tk} {sz k : Nat} {w w' : World}

theorem Rd.mod {S : Nat → Prop} (h : Rd B ao cap T sz k w) (hm : Mod S w w') (hB : ¬ S B) (hS : ∀ b off, ao = some ⟨b, off, none⟩ → ¬ S b) : Rd B ao cap T sz k w' :=
  ⟨hm.at h.cell hB, h.row.mod hm hS, h.apart, h.le, h.small, h.sz⟩

theorem Rd.ext (h : Rd B ao cap T sz k w) (hm : Ext w w') : Rd B ao cap T sz k w' := h.mod hm (fun h => h) (fun _ _ _ h => h)

/-- The next token's cells. -/
theorem Rd.tok (h : Rd B ao cap T sz k w) (hk : k < T.length) : ∃ b off, ao = some ⟨b, off, none⟩ ∧ w.cell? ⟨b, off + k * 3, none⟩ = some (.int .i64 T[k].kind) ∧ w.cell? ⟨b, off + k * 3 + 1, none⟩ = some (.string ⟨T[k].text.toArray⟩) ∧ w.cell? ⟨b, off + k * 3 + 2, none⟩ = some (.int .i64 T[k].off) := by
  obtain ⟨b, off, he, hc⟩ := h.row.at (by rw [flat_length _ 3 tokC_len]; omega)
  have f := fun j (hj : j < 3) => flat_get tokC 3 tokC_len T k j T[k] (List.getElem?_eq_getElem hk) hj
  have f0 := hc _ _ ((f 0 (by omega)).trans rfl)
  have f1 := hc _ _ ((f 1 (by omega)).trans rfl)
  have f2 := hc _ _ ((f 2 (by omega)).trans rfl)
  simp only [← Nat.add_assoc, Nat.add_zero] at f0 f1 f2
  exact ⟨b, off, he, f0, f1, f2⟩
end

/-- Is the next token of the kind? -/
def moreB (kd : Nat) : List Tk → Bool
  | [] => false
  | t :: _ => decide (t.kind = kd)

theorem drop_tok {T : List Tk} {k : Nat} (hk : k < T.length) : T.drop k = T[k] :: T.drop (k + 1) := List.drop_eq_getElem_cons hk

set_option maxRecDepth 100000 in
set_option maxHeartbeats 2000000 in
theorem more_any {B : Nat} {ao : Option Addr} {cap : Nat} {T : List Tk} {sz k : Nat} (kd : Nat) (w : World) (h : Rd B ao cap T sz k w) :
    Calls Tryz.prog 34 #[.pointer (some ⟨B, 0, none⟩), .int .i64 kd] w fun e w' => e = .returned (.bool (moreB kd (T.drop k))) ∧ Ext w w' := by
  have hsm := h.small
  have hle := h.le
  have c0 : w.cell? ⟨B, 0, none⟩ = some (.slice ao T.length cap) := cell_of' h.cell 0
  have c1 : w.cell? ⟨B, 1, none⟩ = some (.int .i64 k) := cell_of' h.cell 1
  have hx := fun n => (Mod.refl (fun _ => False) w).ofDrewN n
  by_cases hk : k < T.length
  · obtain ⟨b, off, rfl, g0, g1, g2⟩ := h.tok hk
    have hres : Hid (moreB kd (T.drop k) = ((T[k].kind : Int) == (kd : Int))) := hid (by
      rw [drop_tok hk]; simp only [moreB]; rw [Bool.eq_iff_iff]; simp; omega)
    generalize moreB kd (T.drop k) = r at hres ⊢
    generalize T[k].kind = tk at hres g0
    have hd : decide ((k : Int) < (T.length : Int)) = true := decide_eq_true (by omega)
    clear g1 g2
    clear hle
    generalize hn : T.length = n at hsm hk c0 hd
    replace hn := hid hn
    replace h := hid h
    have hki : (k : Int) < (n : Int) := by omega
    go_enter Tryz.func34, Tryz.ntmps34
    go_wp2_with fail
    go_quiet (fail)
    go_wp2
    go_ret
    refine ⟨?_, hx _⟩
    rw [hres.out]
    rfl
  · have hres : moreB kd (T.drop k) = false := by rw [List.drop_eq_nil_of_le (by omega)]; rfl
    have hd : decide ((k : Int) < (T.length : Int)) = false := decide_eq_false (by omega)
    rw [hres]
    generalize hn : T.length = n at *
    replace hn := hid hn
    replace h := hid h
    replace hres := hid hres
    go_enter Tryz.func34, Tryz.ntmps34
    go_wp2_with fail
    go_quiet (fail)
    go_wp2
    go_ret
    exact ⟨rfl, hx _⟩

/-- The offset at which a token is missed. -/
def missOff (sz : Nat) : List Tk → Nat
  | [] => sz
  | t :: _ => t.off

theorem need_eq (sz kd : Nat) (l : List Tk) : Tpl.need sz kd l = match l with | [] => .error sz | t :: r => if moreB kd (t :: r) then .ok (t, r) else .error t.off := by
  cases l with
  | nil => rfl
  | cons t r => simp only [Tpl.need, moreB, decide_eq_true_eq]

/-- The panic of a token that does not fit. -/
def misE (a : Nat) : PanicEntry := { v := .iface 49 (.int .i64 a), recovered := false }

theorem put_at {w : World} {b : Nat} {cs : Array Value} {t : TypeId} {fr : Nat × Nat} (h : w.heap[b]? = some (.cells cs t fr)) (j : Nat) (v : Value) : (w.setCell ⟨b, j, none⟩ v).heap[b]? = some (.cells (cs.setIfInBounds j v) t fr) := by
  simp only [World.setCell, Array.getElem?_modify, if_true]
  rw [h]
  simp

theorem load_tok {w : World} {b o : Nat} {t : Tk} (_h0 : w.cell? ⟨b, o, none⟩ = some (.int .i64 t.kind)) (_h1 : w.cell? ⟨b, o + 1, none⟩ = some (.string ⟨t.text.toArray⟩)) (_h2 : w.cell? ⟨b, o + 2, none⟩ = some (.int .i64 t.off)) : True := trivial

set_option maxRecDepth 100000 in
set_option maxHeartbeats 4000000 in
theorem need_ok {B : Nat} {ao : Option Addr} {cap : Nat} {T : List Tk} {sz k : Nat} (kd : Nat) (w : World) (h : Rd B ao cap T sz k w) (hk : k < T.length) (hkd : T[k].kind = kd) :
    Calls Tryz.prog 35 #[.pointer (some ⟨B, 0, none⟩), .int .i64 kd] w fun e w' => e = .returned (tokV T[k]) ∧ Rd B ao cap T sz (k + 1) w' ∧ Mod (Eq B) w w' := by
  have hsm := h.small
  obtain ⟨t, ht⟩ : ∃ t, t = T[k] := ⟨_, rfl⟩
  rw [← ht] at hkd ⊢
  unfold tokV
  obtain ⟨n, hn⟩ : ∃ n, n = T.length := ⟨_, rfl⟩
  have hd : decide ((n : Int) ≤ (k : Int)) = false := decide_eq_false (by omega)
  have hki : (k : Int) < (n : Int) := by omega
  have hne : ((t.kind : Int) != (kd : Int)) = false := by rw [hkd]; simp
  rw [← hn] at hsm
  replace hn := hid hn
  replace h := hid h
  replace ht := hid ht
  replace hkd := hid hkd
  go_enter Tryz.func35, Tryz.ntmps35
  go_wp2_with fail
  have hxR := Mod.alloc (Mod.refl (fun _ => False) w) (.cells #[.int .i64 0, .string ⟨#[]⟩, .int .i64 0] 77)
  have hR0 := heap_alloc_new w (.cells #[.int .i64 0, .string ⟨#[]⟩, .int .i64 0] 77)
  have hBw := lt_of_at h.out.cell
  generalize hR : w.heap.size = R at hR0 hBw ⊢
  generalize (w.alloc (.cells #[.int .i64 0, .string ⟨#[]⟩, .int .i64 0] 77)) = w0 at hxR hR0 ⊢
  have h0 := h.out.ext hxR
  have c0 : w0.cell? ⟨B, 0, none⟩ = some (.slice ao T.length cap) := cell_of' h0.cell 0
  have c1 : w0.cell? ⟨B, 1, none⟩ = some (.int .i64 k) := cell_of' h0.cell 1
  have z := free_of' h0.cell
  have zR := free_of' hR0
  rw [← hn.out] at c0
  obtain ⟨b, off, hao, g0, g1, g2⟩ := h0.tok hk
  subst hao
  rw [← ht.out] at g0 g1 g2
  replace h0 := hid h0
  replace hR := hid hR
  replace hR0 := hid hR0
  go_quiet (fail)
  go_wp2_with fail
  try simp only [World.drewN_zero]
  have hd1 : Ext w0 (w0.drewN nq) := (Mod.refl _ w0).ofDrewN nq
  generalize hw1 : w0.drewN nq = w1 at hd1 ⊢
  clear hw1 c0 c1 z zR g0 g1 g2
  have h1 := h0.out.ext hd1
  have hR1 := hd1.at hR0.out (fun h => h)
  have hx1 := (hxR.trans hd1).drew
  have c0 : w1.drew.cell? ⟨B, 0, none⟩ = some (.slice (some ⟨b, off, none⟩) T.length cap) := cell_of' h1.cell 0
  have c1 : w1.drew.cell? ⟨B, 1, none⟩ = some (.int .i64 k) := cell_of' h1.cell 1
  rw [← hn.out] at c0
  obtain ⟨b', off', hao, g0, g1, g2⟩ := h1.tok hk
  obtain ⟨rfl, rfl⟩ : b = b' ∧ off = off' := by simpa using hao
  rw [← ht.out] at g0 g1 g2
  replace h1 := hid (h1.ext (Mod.drew0 _ _))
  replace hR1 := hid ((Mod.drew0 (fun _ => False) _).at hR1 (fun h => h))
  refine wp_region_schedE (fun w' => w'.cell? ⟨B, 0, none⟩ = some (.slice (some ⟨b, off, none⟩) n cap) ∧ w'.cell? ⟨B, 1, none⟩ = some (.int .i64 k) ∧ w'.cell? ⟨b, off + k * 3, none⟩ = some (.int .i64 t.kind) ∧ w'.cell? ⟨b, off + k * 3 + 1, none⟩ = some (.string ⟨t.text.toArray⟩) ∧ w'.cell? ⟨b, off + k * 3 + 2, none⟩ = some (.int .i64 t.off)) [(0, true), (1, true), (2, true), (3, true), (4, true), (5, true), (6, true), (7, true), (8, true), (9, true), (10, false), (11, false)] (by as_aux_lemma => kernel_rfl) (by as_aux_lemma => kernel_rfl) (by as_aux_lemma => kernel_rfl) (by decide) ⟨c0, c1, g0, g1, g2⟩ ?_
  simp only [schedOps, List.map_cons, List.map_nil, List.getD_cons_zero, List.getD_cons_succ]
  repeat (first | (refine wpT_p (by rfl) (by rfl) ?_ (fun w' hC => ?_) ?_; rotate_left; (go_simp; try with_reducible rfl); try simp only [Act.put, List.setIfInBounds_toArray, List.set_cons_zero, List.set_cons_succ]) | (refine wpT_q (by rfl) (by rfl) ?_ (fun w' hC => ?_) ?_; rotate_left; (go_simp; try with_reducible rfl); try simp only [Act.put, List.setIfInBounds_toArray, List.set_cons_zero, List.set_cons_succ]))
  refine wpT_c (by rfl) (fun K hK => ?_)
  go_simp
  have hxS := Mod.alloc (Mod.refl (fun _ => False) w1.drew) (.cells #[.int .i64 0, .string ⟨#[]⟩, .int .i64 0] 77)
  refine hK.out _ _ ⟨hxS.cell c0 (fun h => h), hxS.cell c1 (fun h => h), hxS.cell g0 (fun h => h), hxS.cell g1 (fun h => h), hxS.cell g2 (fun h => h)⟩ ?_
  clear hK K
  try simp only [Act.put, List.setIfInBounds_toArray, List.set_cons_zero, List.set_cons_succ]
  refine wpT_e (by rfl) (fun K hK => ?_)
  go_simp
  refine hK.out _ _ ?_
  clear hK K
  clear c0 c1 g0 g1 g2
  have hx3 := (Mod.alloc (Mod.refl (fun _ => False) w1) (.cells #[.int .i64 t.kind, .string ⟨t.text.toArray⟩, .int .i64 t.off] 77)).drew
  have hS0 := (Mod.drew0 (fun _ => False) _).at (heap_alloc_new w1 (.cells #[.int .i64 t.kind, .string ⟨t.text.toArray⟩, .int .i64 t.off] 77)) (fun h => h)
  have hBS : B < w1.heap.size := lt_of_at h1.out.cell
  have hRS : R < w1.heap.size := lt_of_at hR1.out
  have hws : w.heap.size ≤ w1.heap.size := (hxR.trans hd1).size
  generalize hS : w1.heap.size = SS at hS0 hBS hRS hws ⊢
  generalize ((w1.alloc (.cells #[.int .i64 t.kind, .string ⟨t.text.toArray⟩, .int .i64 t.off] 77)).drew) = w3 at hx3 hS0 ⊢
  have q0 : w3.cell? ⟨SS, 0, none⟩ = some (.int .i64 t.kind) := cell_of' hS0 0
  have q1 : w3.cell? ⟨SS, 1, none⟩ = some (.string ⟨t.text.toArray⟩) := cell_of' hS0 1
  have q2 : w3.cell? ⟨SS, 2, none⟩ = some (.int .i64 t.off) := cell_of' hS0 2
  have h3 := (h0.out.ext hd1).ext hx3
  have hR3 := hx3.at (hd1.at hR0.out (fun h => h)) (fun h => h)
  have c0 : w3.cell? ⟨B, 0, none⟩ = some (.slice (some ⟨b, off, none⟩) T.length cap) := cell_of' h3.cell 0
  have c1 : w3.cell? ⟨B, 1, none⟩ = some (.int .i64 k) := cell_of' h3.cell 1
  have zB := free_of' h3.cell
  have zR3 := free_of' hR3
  have r0 : w3.cell? ⟨R, 0, none⟩ = some (.int .i64 0) := cell_of' hR3 0
  have r1 : w3.cell? ⟨R, 1, none⟩ = some (.string ⟨#[]⟩) := cell_of' hR3 1
  have r2 : w3.cell? ⟨R, 2, none⟩ = some (.int .i64 0) := cell_of' hR3 2
  have hBR : ¬ B = R := by omega
  have hRB : ¬ R = B := by omega
  have hBS' : ¬ B = SS := by omega
  have hSB : ¬ SS = B := by omega
  have hRS' : ¬ R = SS := by omega
  have hSR : ¬ SS = R := by omega
  rw [← hn.out] at c0
  replace hS := hid hS
  replace hS0 := hid hS0
  replace h3 := hid h3
  replace hR3 := hid hR3
  go_wp2_with fail
  have hm4 := (((((hxR.trans hd1).trans hx3).mono (fun _ h => h.elim) : Mod (Eq B) w w3).setCell (a := ⟨B, 1, none⟩) (fun _ => rfl) (.int .i64 ((k : Int) + 1))))
  have hB4 : (w3.setCell ⟨B, 1, none⟩ (.int .i64 ((k : Int) + 1))).heap[B]? = some (.cells #[.slice (some ⟨b, off, none⟩) n cap, .int .i64 ((k : Int) + 1), .int .i64 sz] 52 (0, 0)) := by
    have := h3.out.cell
    rw [← hn.out] at this
    exact put_at this 1 _
  have hR4 := (put_ne w3 (b := B) (k := R) 1 (.int .i64 ((k : Int) + 1)) (by omega)).trans hR3.out
  have hr4 := h3.out.row.mod ((Mod.refl (Eq B) w3).setCell (a := ⟨B, 1, none⟩) (fun _ => rfl) (.int .i64 ((k : Int) + 1))) (fun b' o' e e' => h3.out.apart b' o' e e'.symm)
  generalize (w3.setCell ⟨B, 1, none⟩ (.int .i64 ((k : Int) + 1))) = w4 at hm4 hB4 hR4 hr4 ⊢
  have hR5 := setCell3 (x := .int .i64 t.kind) (y := .string ⟨t.text.toArray⟩) (z := .int .i64 t.off) hR4
  have hm5 := ((((Mod.refl (Eq R) w4).setCell (a := ⟨R, 0, none⟩) (fun _ => rfl) (.int .i64 t.kind)).setCell (a := ⟨R, 1, none⟩) (fun _ => rfl) (.string ⟨t.text.toArray⟩)).setCell (a := ⟨R, 2, none⟩) (fun _ => rfl) (.int .i64 t.off))
  generalize (((w4.setCell ⟨R, 0, none⟩ (.int .i64 t.kind)).setCell ⟨R, 1, none⟩ (.string ⟨t.text.toArray⟩)).setCell ⟨R, 2, none⟩ (.int .i64 t.off)) = w5 at hR5 hm5 ⊢
  refine bodyPost_ret (results_cell_row rfl _ _ R _ _ _ _ rfl hR5 Tryz.underlying77 rfl tok_size) rfl ⟨rfl, ?_, ?_⟩
  · refine ⟨?_, ?_, h3.out.apart, by omega, h3.out.small, h3.out.sz⟩
    · rw [hm5.block B (lt_of_at hB4) (fun e => by omega), hB4, hn.out]; rfl
    · exact hr4.mod hm5 (fun b' o' e e' => by
        have h8 : R ≤ b' := Nat.le_of_eq e'
        obtain ⟨b9, o9, h9, h10⟩ := h.out.row 0 _ (List.getElem?_eq_getElem (by rw [flat_length _ 3 tokC_len]; omega))
        have := World.block_lt_of_cell? w _ h10
        rw [e] at h9; injection h9 with h9; injection h9 with h9 _ _
        have h11 := hR.out
        simp only at this
        omega)
  · exact hm4.then hm5 (fun k' hk' e => by have := hR.out; omega)

set_option maxRecDepth 100000 in
set_option maxHeartbeats 4000000 in
theorem need_bad {B : Nat} {ao : Option Addr} {cap : Nat} {T : List Tk} {sz k : Nat} (kd : Nat) (w : World) (h : Rd B ao cap T sz k w) (hk : k < T.length) (hkd : T[k].kind ≠ kd) :
    Calls Tryz.prog 35 #[.pointer (some ⟨B, 0, none⟩), .int .i64 kd] w fun e w' => e = .panicked [misE T[k].off] ∧ Ext w w' := by
  have hsm := h.small
  obtain ⟨t, ht⟩ : ∃ t, t = T[k] := ⟨_, rfl⟩
  rw [← ht] at hkd ⊢
  unfold misE
  obtain ⟨n, hn⟩ : ∃ n, n = T.length := ⟨_, rfl⟩
  have hd : decide ((n : Int) ≤ (k : Int)) = false := decide_eq_false (by omega)
  have hki : (k : Int) < (n : Int) := by omega
  have hne : ((t.kind : Int) != (kd : Int)) = true := by rw [bne_iff_ne]; omega
  rw [← hn] at hsm
  replace hn := hid hn
  replace h := hid h
  replace ht := hid ht
  replace hkd := hid hkd
  go_enter Tryz.func35, Tryz.ntmps35
  go_wp2_with fail
  have hxR := Mod.alloc (Mod.refl (fun _ => False) w) (.cells #[.int .i64 0, .string ⟨#[]⟩, .int .i64 0] 77)
  have hR0 := heap_alloc_new w (.cells #[.int .i64 0, .string ⟨#[]⟩, .int .i64 0] 77)
  have hBw := lt_of_at h.out.cell
  generalize hR : w.heap.size = R at hR0 hBw ⊢
  generalize (w.alloc (.cells #[.int .i64 0, .string ⟨#[]⟩, .int .i64 0] 77)) = w0 at hxR hR0 ⊢
  have h0 := h.out.ext hxR
  have c0 : w0.cell? ⟨B, 0, none⟩ = some (.slice ao T.length cap) := cell_of' h0.cell 0
  have c1 : w0.cell? ⟨B, 1, none⟩ = some (.int .i64 k) := cell_of' h0.cell 1
  have z := free_of' h0.cell
  have zR := free_of' hR0
  rw [← hn.out] at c0
  obtain ⟨b, off, hao, g0, g1, g2⟩ := h0.tok hk
  subst hao
  rw [← ht.out] at g0 g1 g2
  replace h0 := hid h0
  replace hR := hid hR
  replace hR0 := hid hR0
  go_quiet (fail)
  go_wp2_with fail
  try simp only [World.drewN_zero]
  have hd1 : Ext w0 (w0.drewN nq) := (Mod.refl _ w0).ofDrewN nq
  generalize hw1 : w0.drewN nq = w1 at hd1 ⊢
  clear hw1 c0 c1 z zR g0 g1 g2
  have h1 := h0.out.ext hd1
  have hR1 := hd1.at hR0.out (fun h => h)
  have hx1 := (hxR.trans hd1).drew
  have c0 : w1.drew.cell? ⟨B, 0, none⟩ = some (.slice (some ⟨b, off, none⟩) T.length cap) := cell_of' h1.cell 0
  have c1 : w1.drew.cell? ⟨B, 1, none⟩ = some (.int .i64 k) := cell_of' h1.cell 1
  rw [← hn.out] at c0
  obtain ⟨b', off', hao, g0, g1, g2⟩ := h1.tok hk
  obtain ⟨rfl, rfl⟩ : b = b' ∧ off = off' := by simpa using hao
  rw [← ht.out] at g0 g1 g2
  replace h1 := hid (h1.ext (Mod.drew0 _ _))
  replace hR1 := hid ((Mod.drew0 (fun _ => False) _).at hR1 (fun h => h))
  refine wp_region_schedE (fun w' => w'.cell? ⟨B, 0, none⟩ = some (.slice (some ⟨b, off, none⟩) n cap) ∧ w'.cell? ⟨B, 1, none⟩ = some (.int .i64 k) ∧ w'.cell? ⟨b, off + k * 3, none⟩ = some (.int .i64 t.kind) ∧ w'.cell? ⟨b, off + k * 3 + 1, none⟩ = some (.string ⟨t.text.toArray⟩) ∧ w'.cell? ⟨b, off + k * 3 + 2, none⟩ = some (.int .i64 t.off)) [(0, true), (1, true), (2, true), (3, true), (4, true), (5, true), (6, true), (7, true), (8, true), (9, true), (10, false), (11, false)] (by as_aux_lemma => kernel_rfl) (by as_aux_lemma => kernel_rfl) (by as_aux_lemma => kernel_rfl) (by decide) ⟨c0, c1, g0, g1, g2⟩ ?_
  simp only [schedOps, List.map_cons, List.map_nil, List.getD_cons_zero, List.getD_cons_succ]
  repeat (first | (refine wpT_p (by rfl) (by rfl) ?_ (fun w' hC => ?_) ?_; rotate_left; (go_simp; try with_reducible rfl); try simp only [Act.put, List.setIfInBounds_toArray, List.set_cons_zero, List.set_cons_succ]) | (refine wpT_q (by rfl) (by rfl) ?_ (fun w' hC => ?_) ?_; rotate_left; (go_simp; try with_reducible rfl); try simp only [Act.put, List.setIfInBounds_toArray, List.set_cons_zero, List.set_cons_succ]))
  refine wpT_c (by rfl) (fun K hK => ?_)
  go_simp
  have hxS := Mod.alloc (Mod.refl (fun _ => False) w1.drew) (.cells #[.int .i64 0, .string ⟨#[]⟩, .int .i64 0] 77)
  refine hK.out _ _ ⟨hxS.cell c0 (fun h => h), hxS.cell c1 (fun h => h), hxS.cell g0 (fun h => h), hxS.cell g1 (fun h => h), hxS.cell g2 (fun h => h)⟩ ?_
  clear hK K
  try simp only [Act.put, List.setIfInBounds_toArray, List.set_cons_zero, List.set_cons_succ]
  refine wpT_e (by rfl) (fun K hK => ?_)
  go_simp
  refine hK.out _ _ ?_
  clear hK K
  clear c0 c1 g0 g1 g2
  have hx3 := (Mod.alloc (Mod.refl (fun _ => False) w1) (.cells #[.int .i64 t.kind, .string ⟨t.text.toArray⟩, .int .i64 t.off] 77)).drew
  have hS0 := (Mod.drew0 (fun _ => False) _).at (heap_alloc_new w1 (.cells #[.int .i64 t.kind, .string ⟨t.text.toArray⟩, .int .i64 t.off] 77)) (fun h => h)
  have hBS : B < w1.heap.size := lt_of_at h1.out.cell
  have hRS : R < w1.heap.size := lt_of_at hR1.out
  have hws : w.heap.size ≤ w1.heap.size := (hxR.trans hd1).size
  generalize hS : w1.heap.size = SS at hS0 hBS hRS hws ⊢
  generalize ((w1.alloc (.cells #[.int .i64 t.kind, .string ⟨t.text.toArray⟩, .int .i64 t.off] 77)).drew) = w3 at hx3 hS0 ⊢
  have q0 : w3.cell? ⟨SS, 0, none⟩ = some (.int .i64 t.kind) := cell_of' hS0 0
  have q1 : w3.cell? ⟨SS, 1, none⟩ = some (.string ⟨t.text.toArray⟩) := cell_of' hS0 1
  have q2 : w3.cell? ⟨SS, 2, none⟩ = some (.int .i64 t.off) := cell_of' hS0 2
  have h3 := (h0.out.ext hd1).ext hx3
  have hR3 := hx3.at (hd1.at hR0.out (fun h => h)) (fun h => h)
  have c0 : w3.cell? ⟨B, 0, none⟩ = some (.slice (some ⟨b, off, none⟩) T.length cap) := cell_of' h3.cell 0
  have c1 : w3.cell? ⟨B, 1, none⟩ = some (.int .i64 k) := cell_of' h3.cell 1
  have zB := free_of' h3.cell
  have zR3 := free_of' hR3
  have r0 : w3.cell? ⟨R, 0, none⟩ = some (.int .i64 0) := cell_of' hR3 0
  have r1 : w3.cell? ⟨R, 1, none⟩ = some (.string ⟨#[]⟩) := cell_of' hR3 1
  have r2 : w3.cell? ⟨R, 2, none⟩ = some (.int .i64 0) := cell_of' hR3 2
  have hBR : ¬ B = R := by omega
  have hRB : ¬ R = B := by omega
  have hBS' : ¬ B = SS := by omega
  have hSB : ¬ SS = B := by omega
  have hRS' : ¬ R = SS := by omega
  have hSR : ¬ SS = R := by omega
  rw [← hn.out] at c0
  replace hS := hid hS
  replace hS0 := hid hS0
  replace h3 := hid h3
  replace hR3 := hid hR3
  go_wp2_with fail
  exact ⟨rfl, rfl, (hxR.trans hd1).trans hx3⟩

set_option maxRecDepth 100000 in
set_option maxHeartbeats 4000000 in
theorem need_end {B : Nat} {ao : Option Addr} {cap : Nat} {T : List Tk} {sz k : Nat} (kd : Nat) (w : World) (h : Rd B ao cap T sz k w) (hk : ¬ k < T.length) :
    Calls Tryz.prog 35 #[.pointer (some ⟨B, 0, none⟩), .int .i64 kd] w fun e w' => e = .panicked [misE sz] ∧ Ext w w' := by
  have hsm := h.small
  unfold misE
  obtain ⟨n, hn⟩ : ∃ n, n = T.length := ⟨_, rfl⟩
  have hd : decide ((n : Int) ≤ (k : Int)) = true := decide_eq_true (by omega)
  have hd' : decide (n ≤ k) = true := decide_eq_true (by omega)
  have hnk : n ≤ k := by omega
  rw [← hn] at hsm
  replace hn := hid hn
  replace h := hid h
  replace hk := hid hk
  go_enter Tryz.func35, Tryz.ntmps35
  go_wp2_with fail
  have hxR := Mod.alloc (Mod.refl (fun _ => False) w) (.cells #[.int .i64 0, .string ⟨#[]⟩, .int .i64 0] 77)
  generalize hR : w.heap.size = R
  generalize (w.alloc (.cells #[.int .i64 0, .string ⟨#[]⟩, .int .i64 0] 77)) = w0 at hxR ⊢
  have h0 := h.out.ext hxR
  have c0 : w0.cell? ⟨B, 0, none⟩ = some (.slice ao T.length cap) := cell_of' h0.cell 0
  have c1 : w0.cell? ⟨B, 1, none⟩ = some (.int .i64 k) := cell_of' h0.cell 1
  have c2 : w0.cell? ⟨B, 2, none⟩ = some (.int .i64 sz) := cell_of' h0.cell 2
  rw [← hn.out] at c0
  replace h0 := hid h0
  replace hR := hid hR
  go_quiet (fail)
  go_wp2_with fail
  exact ⟨rfl, rfl, hxR.trans ((Mod.refl _ w0).ofDrewN _)⟩

theorem need_any {B : Nat} {ao : Option Addr} {cap : Nat} {T : List Tk} {sz k : Nat} (kd : Nat) (w : World) (h : Rd B ao cap T sz k w) :
    Calls Tryz.prog 35 #[.pointer (some ⟨B, 0, none⟩), .int .i64 kd] w fun e w' =>
      (∃ hk : k < T.length, T[k].kind = kd ∧ e = .returned (tokV T[k]) ∧ Rd B ao cap T sz (k + 1) w' ∧ Mod (Eq B) w w') ∨ (∃ a, Tpl.need sz kd (T.drop k) = .error a ∧ e = .panicked [misE a] ∧ Ext w w') := by
  by_cases hk : k < T.length
  · by_cases hkd : T[k].kind = kd
    · exact (need_ok kd w h hk hkd).mono fun e w' ⟨h1, h2, h3⟩ => .inl ⟨hk, hkd, h1, h2, h3⟩
    · exact (need_bad kd w h hk hkd).mono fun e w' ⟨h1, h2⟩ => .inr ⟨_, by rw [drop_tok hk]; simp only [Tpl.need, if_neg hkd], h1, h2⟩
  · exact (need_end kd w h hk).mono fun e w' ⟨h1, h2⟩ => .inr ⟨_, by rw [List.drop_eq_nil_of_le (by omega)]; rfl, h1, h2⟩

theorem need_hit {sz kd : Nat} {T : List Tk} {k : Nat} (hk : k < T.length) (hkd : T[k].kind = kd) : Tpl.need sz kd (T.drop k) = .ok (T[k], T.drop (k + 1)) := by
  rw [drop_tok hk]; simp only [Tpl.need, if_pos hkd]

theorem more_hit {kd : Nat} {T : List Tk} {k : Nat} (h : moreB kd (T.drop k) = true) : ∃ hk : k < T.length, T[k].kind = kd := by
  by_cases hk : k < T.length
  · rw [drop_tok hk] at h; simp only [moreB, decide_eq_true_eq] at h; exact ⟨hk, h⟩
  · rw [List.drop_eq_nil_of_le (by omega)] at h; cases h

end Go.Proofs.YtpgniljgaknlpaaGreatDoor
