import Derived.Test.YtncmhcfhbogjnaaR3
/-
  The reference opens a session.
-/
namespace Go.Proofs.Ytncmhcfhbogjnaa
open Go.RowKit Cdk

theorem PgRow.one {w : World} {x : Value} {ps : List Pg} (h : PgRow w x ps) : x.oneCell' = true := by
  obtain ⟨ao, cap, rfl, -, -⟩ := Own.row h; rfl

theorem RStart_bad {w : World} {B r : Nat} {R : RefSt} (h : RefAt w B r R) (c : Int) (hbad : isClassB c = false ∨ 16 ≤ R.opn.length) :
    Calls Try.prog 18 #[.pointer (some ⟨r, 0, none⟩), .int .i64 c] w fun e w' => e = .returned (.tuple #[.int .i64 0, .int .i64 250]) ∧ w = w' := by
  obtain ⟨-, h1, -, -, -⟩ := h.cells
  obtain ⟨ao, cap, hv, -, -⟩ := h.opn.row
  rw [hv] at h1
  have hrc := hid (rclass_any c w)
  have hf := h.few
  generalize R.opn = l at *
  clear h hv
  cases hb : isClassB c with
  | false =>
    rw [hb] at hrc
    clear hb hbad
    go_enter Try.func18, Try.ntmps18
    go_wp2_with fail
    refine hrc.out.mono ?_; rintro e w' ⟨rfl, rfl⟩
    go_wp2_with fail
    go_ret2
    exact ⟨rfl, rfl⟩
  | true =>
    rw [hb] at hrc hbad
    have hl : l.length = 16 := by rcases hbad with h | h; cases h; omega
    rw [hl] at h1
    clear hb hbad hl hf
    go_enter Try.func18, Try.ntmps18
    go_wp2_with fail
    refine hrc.out.mono ?_; rintro e w' ⟨rfl, rfl⟩
    go_wp2_with fail
    go_ret2
    exact ⟨rfl, rfl⟩

def RStartPost (w : World) (B r : Nat) (R : RefSt) (c : Int) (x : Shot) (e : Ending) (w' : World) : Prop :=
  ∃ ov, e = .returned (.tuple #[.int .i64 (R.last + 1), .int .i64 0]) ∧ Mod (R.foot r) w w' ∧ RefAt w' B r { R with ov := ov, opn := R.opn ++ [(R.last + 1, c, x)], last := R.last + 1 }

set_option maxRecDepth 100000 in
set_option maxHeartbeats 4000000 in
theorem RStart_ok {w : World} {B r : Nat} {R : RefSt} (h : RefAt w B r R) (c : Int) (hc : isClassB c = true) (hl : R.opn.length < 16) (h0 : 0 ≤ R.last) (h9 : R.last < 1000) (hB : B ≤ w.heap.size) :
    ∃ x, R.cur[c.toNat]? = some x ∧ Calls Try.prog 18 #[.pointer (some ⟨r, 0, none⟩), .int .i64 c] w (RStartPost w B r R c x) := by
  have hrc := hid (rclass_any c w)
  rw [hc] at hrc
  have hcb := isClassB_iff.1 hc
  obtain ⟨j, rfl⟩ := Int.eq_ofNat_of_zero_le hcb.1
  have hj4 : j < 4 := by omega
  have hj4i : (j : Int) < 4 := by omega
  have hj : j < R.cur.length := by have := h.four; omega
  obtain ⟨x, hx⟩ : ∃ x, x = R.cur[j] := ⟨_, rfl⟩
  refine ⟨x, by rw [Int.toNat_natCast, List.getElem?_eq_getElem hj, hx], ?_⟩
  have hmem : x ∈ R.cur := by rw [hx]; exact List.getElem_mem _
  have hrow := h.rowc x hmem
  obtain ⟨px, pl⟩ : ∃ n, n = x.2.2.length := ⟨_, rfl⟩
  obtain ⟨aox, capx, hxv, -, -⟩ := hrow.row
  have hKP : ∀ (ov : Value) (e : Ending) (w' : World), e = .returned (.tuple #[.int .i64 (R.last + 1), .int .i64 0]) → Mod (R.foot r) w w' →
      RefAt w' B r { R with ov := ov, opn := R.opn ++ [(R.last + 1, (j : Int), x)], last := R.last + 1 } → RStartPost w B r R j x e w' := fun ov e w' a b d => ⟨ov, a, b, d⟩
  generalize RStartPost w B r R j x = Post at hKP ⊢
  replace hKP := hid hKP
  obtain ⟨ao0, cap0, hv0, hrow0, -⟩ := h.cur.row
  obtain ⟨b, off, rfl, g0, g1⟩ := shot_at hrow0 hj
  rw [← hx] at g0 g1
  have hbb : R.cv.ownBlock = some b := by rw [hv0]; rfl
  have htop := h.top
  obtain ⟨ao1, cap1, hv1, -, -⟩ := h.opn.row
  have fz := free_of htop
  have hs1 : (w.setCell ⟨r, 2, none⟩ (.int .i64 (R.last + 1))).heap[r]? = some (.cells #[R.cv, R.ov, .int .i64 (R.last + 1), .int .i64 R.made] 45 (0, 0)) := setCell_heap (j := 2) htop _
  have hx1 : Mod (Eq r) w (w.setCell ⟨r, 2, none⟩ (.int .i64 (R.last + 1))) := (Mod.refl (Eq r) w).setCell (fun _ => rfl) _
  have hbr : ¬ r = b := fun e => by
    obtain ⟨c, hc⟩ := h.cur.cells hbb
    rw [← e, htop] at hc; injection hc with hc; injection hc with _ hc; cases hc
  have g0 := hx1.cell g0 hbr
  have g1 := hx1.cell g1 hbr
  have hopn1 := h.opn.mod hx1 (fun k hk e => by
    obtain ⟨c, hc⟩ := h.opn.cells hk
    rw [← e, htop] at hc; injection hc with hc; injection hc with _ hc; cases hc)
  have c2 : w.cell? ⟨r, 2, none⟩ = some (.int .i64 R.last) := by rw [cell_of htop]; rfl
  have c1 : w.cell? ⟨r, 1, none⟩ = some R.ov := by rw [cell_of htop]; rfl
  rw [hv1] at c1
  obtain ⟨n, hn⟩ : ∃ n, n = R.last := ⟨_, rfl⟩
  obtain ⟨m, hm⟩ : ∃ m, m = R.opn.length := ⟨_, rfl⟩
  rw [← hn] at c2 h0 h9 hs1 hx1 g0 g1 hopn1 hKP
  rw [← hm] at c1 hl
  have hsz1 : w.heap.size = (w.setCell ⟨r, 2, none⟩ (.int .i64 (n + 1))).heap.size := by simp [World.setCell]
  have hr := lt_of_at htop
  replace hsz1 := hid hsz1
  replace h := hid h
  replace hmem := hid hmem
  replace hx := hid hx
  replace hm := hid hm
  replace hn := hid hn
  replace hx1 := hid hx1
  replace hopn1 := hid hopn1
  replace hs1 := hid hs1
  clear hrow hrow0 hc hcb
  go_enter Try.func18, Try.ntmps18
  go_wp2_with fail
  refine hrc.out.mono ?_; rintro e w' ⟨rfl, rfl⟩
  go_upto_region 4 with fail
  have d0 : (w.setCell ⟨r, 2, none⟩ (.int .i64 (n + 1))).cell? ⟨r, 0, none⟩ = some (.slice (some ⟨b, off, none⟩) 4 cap0) := by rw [cell_of hs1.out]; show some R.cv = _; rw [hv0, h.out.four]
  have d1 : (w.setCell ⟨r, 2, none⟩ (.int .i64 (n + 1))).cell? ⟨r, 1, none⟩ = some R.ov := by rw [cell_of hs1.out]; rfl
  have d2 : (w.setCell ⟨r, 2, none⟩ (.int .i64 (n + 1))).cell? ⟨r, 2, none⟩ = some (.int .i64 (n + 1)) := by rw [cell_of hs1.out]; rfl
  have hrw : r < w.heap.size := hr
  rw [hsz1.out] at hB hr
  generalize (w.setCell ⟨r, 2, none⟩ (.int .i64 (n + 1))) = w1 at *
  obtain ⟨y, hy⟩ : ∃ y, y = x.2.1 := ⟨_, rfl⟩
  obtain ⟨mm, hmm⟩ : ∃ mm, mm = x.1 := ⟨_, rfl⟩
  rw [← hy] at g1 hxv
  rw [← hmm] at g0
  have hx4 := Mod.alloc (Mod.refl (fun _ => False) w1) (.cells #[.int .i64 (n + 1), .int .i64 j, .int .i64 mm, y] 71)
  have hs4 := hx4.at hs1.out (fun h => h)
  have d0' := hx4.cell d0 (fun h => h)
  have d1' := hx4.cell d1 (fun h => h)
  have d2' := hx4.cell d2 (fun h => h)
  have g0' := hx4.cell g0 (fun h => h)
  have g1' := hx4.cell g1 (fun h => h)
  have hown4 := hid (hopn1.out.ext hx4)
  have hnr : ∀ k', R.ov.ownBlock = some k' → k' ≠ r := fun k' hk' e => by
    obtain ⟨c, hc⟩ := hopn1.out.cells hk'
    rw [e, hs1.out] at hc; injection hc with hc; injection hc with _ hc; cases hc
  have hnb : ∀ k', R.ov.ownBlock = some k' → k' ≠ b := fun k' hk' e => by
    obtain ⟨c, hc⟩ := h.out.opn.cells hk'
    obtain ⟨c', hc'⟩ := h.out.cur.cells hbb
    rw [e, hc'] at hc; injection hc with hc; injection hc with _ hc; cases hc
  have hsz4 : B ≤ (w1.alloc (.cells #[.int .i64 (n + 1), .int .i64 j, .int .i64 mm, y] 71)).heap.size := by rw [World.size_alloc]; omega
  replace hx4 := hid hx4
  replace hnr := hid hnr
  replace hnb := hid hnb
  replace hs4 := hid hs4
  replace hbb := hid hbb
  replace hy := hid hy
  replace hmm := hid hmm
  replace hv0 := hid hv0
  replace hv1 := hid hv1
  replace hxv := hid hxv
  clear htop fz c1 c2
  refine wp_region_schedE (fun w' => w'.cell? ⟨r, 0, none⟩ = some (.slice (some ⟨b, off, none⟩) 4 cap0) ∧ w'.cell? ⟨r, 1, none⟩ = some R.ov ∧ w'.cell? ⟨r, 2, none⟩ = some (.int .i64 (n + 1)) ∧ w'.cell? ⟨b, off + j * 2, none⟩ = some (.int .i64 mm) ∧ w'.cell? ⟨b, off + j * 2 + 1, none⟩ = some y) [(0, true), (1, true), (2, true), (3, true), (4, true), (5, true), (6, true), (7, true), (8, true), (9, true), (10, true), (11, true), (12, true), (13, true), (14, true), (15, true), (16, true), (17, true), (18, false), (19, false), (20, true), (21, true), (22, false)] (by as_aux_lemma => kernel_rfl) (by as_aux_lemma => kernel_rfl) (by as_aux_lemma => kernel_rfl) (by decide) ⟨d0, d1, d2, g0, g1⟩ ?_
  simp only [schedOps, List.map_cons, List.map_nil, List.getD_cons_zero, List.getD_cons_succ]
  repeat (first | (refine wpT_p (by rfl) (by rfl) ?_ (fun w' hC => ?_) ?_; rotate_left; (go_simp; try with_reducible rfl); try simp only [Act.put, List.setIfInBounds_toArray, List.set_cons_zero, List.set_cons_succ]) | (refine wpT_q (by rfl) (by rfl) ?_ (fun w' hC => ?_) ?_; rotate_left; (go_simp; try with_reducible rfl); try simp only [Act.put, List.setIfInBounds_toArray, List.set_cons_zero, List.set_cons_succ]))
  refine wpT_c (by rfl) (fun K hK => ?_)
  go_simp
  refine hK.out _ _ ⟨d0', d1', d2', g0', g1'⟩ ?_
  clear hK K
  try simp only [Act.put, List.setIfInBounds_toArray, List.set_cons_zero, List.set_cons_succ]
  repeat (first | (refine wpT_p (by rfl) (by rfl) ?_ (fun w' hC => ?_) ?_; rotate_left; (go_simp; try with_reducible rfl); try simp only [Act.put, List.setIfInBounds_toArray, List.set_cons_zero, List.set_cons_succ]) | (refine wpT_q (by rfl) (by rfl) ?_ (fun w' hC => ?_) ?_; rotate_left; (go_simp; try with_reducible rfl); try simp only [Act.put, List.setIfInBounds_toArray, List.set_cons_zero, List.set_cons_succ]))
  refine wpT_c (by rfl) (fun K hK => ?_)
  refine wp_app _ _ _ rfl Try.underlying43 el71 rfl (hown4.out.mod (Mod.drew0 (fun _ => False) _) (fun _ _ h => h)) _ 1 1 rfl [(n + 1, (j : Int), x)] rfl (by rw [hmm.out, hy.out]; exact RowIs.new _ _ _) sessC_len (fun z hz u hu => ?_) (by have := hm.out; rw [← this]; simp; omega) (by exact hsz4) (by simp) (fun v6 w6 H6 => ?_)
  · simp only [List.mem_singleton] at hz; subst hz
    simp [sessC] at hu
    rcases hu with rfl | rfl | rfl | rfl
    · rfl
    · rfl
    · rfl
    · rw [← hy.out, hxv.out]; rfl
  try simp only [Act.put, List.setIfInBounds_toArray, List.set_cons_zero, List.set_cons_succ]
  have H6a := H6.out.1
  have H6b : Mod (fun k => R.ov.ownBlock = some k) (w1.alloc (.cells #[.int .i64 (n + 1), .int .i64 j, .int .i64 mm, y] 71)).drew w6 := H6.out.2
  clear H6
  obtain ⟨vn, hvn⟩ : ∃ vn, vn = v6 := ⟨_, rfl⟩
  rw [← hvn] at H6a
  obtain ⟨ao6, cap6, rfl, -, -⟩ := (show Own w6 B 71 4 sessC v6 (R.opn ++ [(n + 1, (j : Int), x)]) by rw [← hvn]; exact H6a).row
  replace hvn := hid hvn
  have hqr : ¬ R.ov.ownBlock = some r := fun e => hnr.out _ e rfl
  have hqb : ¬ R.ov.ownBlock = some b := fun e => hnb.out _ e rfl
  have e0 := H6b.cell d0' hqr
  have e1 := H6b.cell d1' hqr
  have e2 := H6b.cell d2' hqr
  have f0 := H6b.cell g0' hqb
  have f1 := H6b.cell g1' hqb
  have hs6 := H6b.at hs4.out hqr
  have fz6 := free_of hs6
  replace hqr := hid hqr
  replace hqb := hid hqb
  refine hK.out _ _ ⟨e0, e1, e2, f0, f1⟩ ?_
  clear hK K
  repeat (first | (refine wpT_p (by rfl) (by rfl) ?_ (fun w' hC => ?_) ?_; rotate_left; (go_simp; try with_reducible rfl); try simp only [Act.put, List.setIfInBounds_toArray, List.set_cons_zero, List.set_cons_succ]) | (refine wpT_q (by rfl) (by rfl) ?_ (fun w' hC => ?_) ?_; rotate_left; (go_simp; try with_reducible rfl); try simp only [Act.put, List.setIfInBounds_toArray, List.set_cons_zero, List.set_cons_succ]))
  refine wpT_e (by rfl) (fun K hK => ?_)
  go_simp
  refine hK.out _ _ ?_
  clear hK K
  have hs7 := setCell_heap (j := 1) hs6 vn
  have hx7 : Mod (Eq r) w6 (w6.setCell ⟨r, 1, none⟩ vn) := (Mod.refl (Eq r) w6).setCell (fun _ => rfl) _
  have hvn2 : vn = .slice ao6 (R.opn.length + 1) cap6 := by rw [hvn.out]; simp
  rw [← hvn2]
  replace hvn2 := hid hvn2
  have hs7 : (w6.setCell ⟨r, 1, none⟩ vn).heap[r]? = some (.cells #[R.cv, vn, .int .i64 (n + 1), .int .i64 R.made] 45 (0, 0)) := hs7
  have hfin : RefAt (w6.setCell ⟨r, 1, none⟩ vn) B r { R with ov := vn, opn := R.opn ++ [(n + 1, (j : Int), x)], last := n + 1 } := by
    have hH : RefAt w B r R := h.out
    have hb0 := hH.base
    have hR1 : RefAt w1 B r { R with last := n + 1 } := by
      obtain ⟨-, q2, q3, q4⟩ := hH.other hH.top hx1.out
      exact ⟨hs1.out, hb0, q2 (by decide), q3 (by decide), fun e he => q4 (by decide) _ _ (hH.rowc e he), fun e he => q4 (by decide) _ _ (hH.rowo e he), hH.four, hH.few⟩
    have hR4 := (hR1.ext hx4.out).ext (Mod.drew0 _ _)
    -- behind the append
    have hk6 : ∀ k c t f, ((w1.alloc (.cells #[.int .i64 (n + 1), .int .i64 j, .int .i64 mm, y] 71)).drew).heap[k]? = some (.cells c t f) → t ≠ 71 → ¬ R.ov.ownBlock = some k := by
      intro k c t f hk ht hb
      obtain ⟨c', hc'⟩ := hR4.opn.cells hb
      rw [hk] at hc'; injection hc' with hc'; injection hc' with _ hc' _; exact ht hc'
    have p0 := H6b.at hR4.top (hk6 r _ _ _ hR4.top (by decide))
    have p1 := hR4.cur.mod H6b (hR4.cur.kind fun k c t f hk e => hk6 k c t f hk (by rw [e]; decide))
    have p2 : ∀ x' ps, PgRow _ x' ps → PgRow w6 x' ps := fun x' ps hx => Own.mod hx H6b (Own.kind hx fun k c t f hk e => hk6 k c t f hk (by rw [e]; decide))
    have key : ∀ e : TypeId, 45 ≠ e → ∀ k c' t' g, w6.heap[k]? = some (.cells c' t' g) → t' = e → ¬ r = k := by
      intro e he k c' t' g hk ht hbk
      rw [← hbk, hs6] at hk
      injection hk with hk; injection hk with _ hk _
      exact he (hk.trans ht)
    refine ⟨hs7, hb0, p1.mod hx7 (p1.kind (key 67 (by decide))), H6a.mod hx7 (H6a.kind (key 71 (by decide))), fun e he => ?_, fun e he => ?_, hH.four, ?_⟩
    · have := p2 _ _ (hR4.rowc e he)
      exact Own.mod this hx7 (Own.kind this (key 55 (by decide)))
    · have : PgRow w6 e.2.2.2.1 e.2.2.2.2 := by
        rcases List.mem_append.1 he with he | he
        · exact p2 _ _ (hR4.rowo e he)
        · simp only [List.mem_singleton] at he; subst he
          exact p2 _ _ (hR4.rowc x hmem.out)
      exact Own.mod this hx7 (Own.kind this (key 55 (by decide)))
    · simp only [List.length_append, List.length_singleton]; have := hm.out; omega
  have hmod : Mod (R.foot r) w (w6.setCell ⟨r, 1, none⟩ vn) := by
    have a1 : Mod (R.foot r) w w1 := hx1.out.mono (fun k e => .inl e.symm)
    have a2 : Mod (R.foot r) w (w1.alloc (.cells #[.int .i64 (n + 1), .int .i64 j, .int .i64 mm, y] 71)).drew := (a1.alloc _).drew
    exact (a2.then H6b (fun k _ e => .inr (.inr e))).then hx7 (fun k _ e => .inl e.symm)
  generalize (w6.setCell ⟨r, 1, none⟩ vn) = w7 at *
  have k2 : w7.cell? ⟨r, 2, none⟩ = some (.int .i64 (n + 1)) := by rw [cell_of hs7]; rfl
  replace hfin := hid hfin
  replace hmod := hid hmod
  clear hs7 hs6 fz6 H6b H6a e0 e1 e2 f0 f1 d0' d1' d2' g0' g1' d0 d1 d2 hx7
  go_wp2_with fail
  exact hKP.out vn _ _ rfl hmod.out hfin.out
end Go.Proofs.Ytncmhcfhbogjnaa
