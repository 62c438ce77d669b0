import Derived.Test.YtncmhcfhbogjnaaS1
namespace Go.Proofs.Ytncmhcfhbogjnaa
open Go.RowKit Cdk

theorem setCell_heap {w : World} {b j : Nat} {cs : Array Value} {t : TypeId} {fr : Nat × Nat} (h : w.heap[b]? = some (.cells cs t fr)) (v : Value) : (w.setCell ⟨b, j, none⟩ v).heap[b]? = some (.cells (cs.setIfInBounds j v) t fr) := by
  have := (Array.getElem?_eq_some_iff.1 h).1
  simp only [World.setCell, Array.getElem?_modify, if_true]
  rw [h]
  simp

theorem SiteAt.setLast {w : World} {F : Nat → Prop} {s : Nat} {st : SiteSt} (h : SiteAt w F s st) (n : Int) : SiteAt (w.setCell ⟨s, 5, none⟩ (.int .i64 n)) F s { st with last := n } := by
  have hx : Mod (Eq s) w (w.setCell ⟨s, 5, none⟩ (.int .i64 n)) := (Mod.refl (Eq s) w).setCell (fun _ => rfl) _
  have hm : s ≠ st.m := by
    intro e
    obtain ⟨es, c, hh, _⟩ := h.ses
    have := h.top
    rw [e, hh] at this
    simp at this
  constructor
  · exact fun k hk => Nat.lt_of_lt_of_le (h.lt k hk) hx.size
  · exact h.own
  · rw [setCell_heap h.top]; rfl
  · exact h.ses.mod hx hm
  · intro p hp
    obtain ⟨a, b, c, d, e⟩ := h.shot p hp
    refine ⟨a, b, c, hx.at d ?_, e.mod hx ?_⟩
    · intro e'; rw [← e', h.top] at d; simp at d
    · intro e'
      obtain ⟨es, c, hh, _⟩ := e
      have := h.top
      rw [e', hh] at this; simp at this
  · exact h.apart

theorem SiteAt.ne_m {w : World} {F : Nat → Prop} {s : Nat} {st : SiteSt} (h : SiteAt w F s st) : s ≠ st.m ∧ ∀ p, st.live p → p ≠ st.m := by
  obtain ⟨es, c, hh, _⟩ := h.ses
  refine ⟨fun e => ?_, fun p hp e => ?_⟩
  · have := h.top; rw [e, hh] at this; simp at this
  · obtain ⟨_, _, _, d, _⟩ := h.shot p hp; rw [e, hh] at d; simp at d

/-- The sessions' map alone has changed. -/
theorem SiteAt.withSes {w w' : World} {F : Nat → Prop} {s : Nat} {st : SiteSt} (h : SiteAt w F s st) (hx : Mod (Eq st.m) w w') (l : List (Int × Int × Nat)) (hm : MapAt w' (Value.int .i64) st.m (l.map sesPair))
    (hl : ∀ q ∈ l, st.live q.2.2) : SiteAt w' F s { st with ses := l } := by
  have hlive : ∀ p, SiteSt.live { st with ses := l } p → st.live p := by
    rintro p (hp | ⟨q, hq, rfl⟩)
    · exact .inl hp
    · exact hl q hq
  constructor
  · exact fun k hk => Nat.lt_of_lt_of_le (h.lt k hk) hx.size
  · exact h.own
  · exact hx.at h.top (fun e => h.ne_m.1 e.symm)
  · exact hm
  · intro p hp
    obtain ⟨a, b, c, d, e⟩ := h.shot p (hlive p hp)
    exact ⟨a, b, c, hx.at d (fun e' => h.ne_m.2 p (hlive p hp) e'.symm), e.mod hx (fun e' => c e'.symm)⟩
  · exact fun p q hp hq => h.apart p q (hlive p hp) (hlive q hq)

/-- 'Open'. -/
def openSt (st : SiteSt) (c : Int) : SiteSt := { st with last := st.last + 1, ses := st.ses ++ [(st.last + 1, c, st.cur c.toNat)] }
def openOk (st : SiteSt) (c : Int) : Bool := isClassB c && decide (st.ses.length < 16)

theorem assoc_new {l : List (Int × Int × Nat)} {n : Int} (h : ∀ q ∈ l, q.1 < n) : assoc (l.map sesPair) n = none := by
  rw [assoc_ses]
  have : l.find? (fun p => decide (p.1 = n)) = none := by
    rw [List.find?_eq_none]
    intro p hp
    have := h p hp
    simp; omega
  rw [this]; rfl
set_option maxHeartbeats 1000000 in
theorem Open_any {w : World} {F : Nat → Prop} {s : Nat} {st : SiteSt} (h : SiteAt w F s st) (c : Int) (hl0 : 0 ≤ st.last) (hl1 : st.last < 1000000) (hc : isClassB c = true) (hok : st.ses.length < 16) (hnum : ∀ q ∈ st.ses, q.1 ≤ st.last) :
    Calls Try.prog 31 #[snapV s, .int .i64 c] w fun e w' => e = .returned (.tuple #[.int .i64 (st.last + 1), .int .i64 0]) ∧ Mod F w w' ∧ SiteAt w' F s (openSt st c) := by
  obtain ⟨hj, h4, h5, hfr⟩ := h.cells
  have hms := hid (missing_some w s st.m h4)
  have hic := isClass_any c w
  rw [hc] at hic
  obtain ⟨hc0, hc1⟩ := isClassB_iff.1 hc
  obtain ⟨j, rfl⟩ := Int.eq_ofNat_of_zero_le hc0
  have hj0 : j < 4 := by omega
  have hcell := hj j hj0
  have hlen := fun ty => run_lenM (P := Try.prog) (t := 58) (ty := ty) Try.underlying58 h.ses
  simp only [List.length_map] at hlen
  have hb : decide (16 ≤ st.ses.length) = false := by simp; omega
  replace hic := hid hic
  have hsl : s < w.heap.size := lt_of_at h.top
  have hml : st.m < w.heap.size := h.lt _ h.own.2
  replace h := hid h
  replace hj := hid hj
  clear hc
  unfold snapV at *
  go_enter Try.func31, Try.ntmps31
  go_wp2_with fail
  refine hms.out.mono ?_; rintro e w' ⟨rfl, rfl⟩
  go_wp2_with fail
  refine hic.out.mono ?_; rintro e w' ⟨rfl, rfl⟩
  go_wp2_with fail
  have hx1 : Mod F w (w.setCell ⟨s, 5, none⟩ (.int .i64 (st.last + 1))) := (Mod.refl F w).setCell (fun _ => h.out.own.1) _
  have hS1 := (h.out.setLast (st.last + 1)).mod (Mod.drew0 (fun _ => False) _) (fun _ _ h => h)
  generalize w.setCell ⟨s, 5, none⟩ (.int .i64 (st.last + 1)) = w1 at hx1 hS1 ⊢
  obtain ⟨gj, g4, g5, gfr⟩ := hS1.cells
  have gcell := gj j hj0
  unfold snapV at gcell
  obtain ⟨w2, hu, hm2, hx2, hs2⟩ := run_updateM (P := Try.prog) (t := 58) (keyOk_int Try.underlying3) Try.underlying58 hS1.ses (st.last + 1) (.agg #[.int .i64 j, .pointer (some ⟨st.cur j, 0, none⟩)])
  have k5 := hx2.cell g5 (fun e => hS1.ne_m.1 e.symm)
  have hfin : SiteAt w2 F s (openSt st j) := by
    have hu : upd (st.ses.map sesPair) (st.last + 1) (.agg #[.int .i64 j, .pointer (some ⟨st.cur j, 0, none⟩)]) = (st.ses ++ [(st.last + 1, (j : Int), st.cur j)]).map sesPair := by
      unfold upd
      rw [assoc_new (fun q hq => by have := hnum q hq; omega)]
      simp [sesPair, snapV]
    rw [hu] at hm2
    refine hS1.withSes hx2 (st.ses ++ [(st.last + 1, (j : Int), st.cur j)]) hm2 ?_
    intro q hq
    rcases List.mem_append.1 hq with hq | hq
    · exact .inr ⟨q, hq, rfl⟩
    · simp at hq; subst hq; exact .inl ⟨j, hj0, rfl⟩
  replace hfin := hid hfin
  replace hm2 := hid hm2
  replace hx2 := hid hx2
  replace hnum := hid hnum
  replace hS1 := hid hS1
  replace gj := hid gj
  clear hcell h4 h5 hs2
  go_still_tail 16, (by kernel_rfl)
  change wpList _ _ _ _ _ w1.drew
  go_wp2
  go_ret2
  exact ⟨rfl, (hx1.drew).trans (hx2.out.mono (fun k e => e ▸ h.out.own.2)), hfin.out⟩

set_option maxHeartbeats 1000000 in
theorem Open_bad {w : World} {F : Nat → Prop} {s : Nat} {st : SiteSt} (h : SiteAt w F s st) (c : Int) (hbad : isClassB c = false ∨ 16 ≤ st.ses.length) (hl : st.ses.length < 1000000) :
    Calls Try.prog 31 #[snapV s, .int .i64 c] w fun e w' => e = .returned (.tuple #[.int .i64 0, .int .i64 250]) ∧ w = w' := by
  obtain ⟨hj, h4, h5, hfr⟩ := h.cells
  have hms := hid (missing_some w s st.m h4)
  have hic := isClass_any c w
  have hlen := fun ty => run_lenM (P := Try.prog) (t := 58) (ty := ty) Try.underlying58 h.ses
  simp only [List.length_map] at hlen
  replace h := hid h
  replace hj := hid hj
  cases hc : isClassB c with
  | false =>
    rw [hc] at hic
    replace hic := hid hic
    clear hc hbad
    unfold snapV at *
    go_enter Try.func31, Try.ntmps31
    go_wp2_with fail
    refine hms.out.mono ?_; rintro e w' ⟨rfl, rfl⟩
    go_wp2_with fail
    refine hic.out.mono ?_; rintro e w' ⟨rfl, rfl⟩
    go_wp2_with fail
    go_ret2
    exact ⟨rfl, rfl⟩
  | true =>
    rw [hc] at hic hbad
    replace hic := hid hic
    have hb : 16 ≤ st.ses.length := by simpa using hbad
    clear hc hbad
    unfold snapV at *
    go_enter Try.func31, Try.ntmps31
    go_wp2_with fail
    refine hms.out.mono ?_; rintro e w' ⟨rfl, rfl⟩
    go_wp2_with fail
    refine hic.out.mono ?_; rintro e w' ⟨rfl, rfl⟩
    go_wp2_with fail
    go_ret2
    exact ⟨rfl, rfl⟩
theorem Open_nil (w : World) (c : Int) :
    Calls Try.prog 31 #[.pointer none, .int .i64 c] w fun e w' => e = .returned (.tuple #[.int .i64 0, .int .i64 1]) ∧ w = w' := by
  have hms := hid (missing_nil w)
  go_enter Try.func31, Try.ntmps31
  go_wp2_with fail
  refine hms.out.mono ?_; rintro e w' ⟨rfl, rfl⟩
  go_wp2_with fail
  go_ret2
  exact ⟨rfl, rfl⟩
end Go.Proofs.Ytncmhcfhbogjnaa
