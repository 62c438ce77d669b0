import Derived.Test.YtncmhcfhbogjnaaD0
/-
  The reference's site: what it holds, and its functions that only read.
-/
namespace Go.Proofs.Ytncmhcfhbogjnaa
open Go.RowKit Cdk

/-- A snapshot of the reference: its number, its pages as a value, its pages. A session: its number, its class, its snapshot. -/
abbrev Shot := Int × Value × List Pg
abbrev Sess := Int × Int × Shot
def shotC (e : Shot) : List Value := [.int .i64 e.1, e.2.1]
def sessC (e : Sess) : List Value := [.int .i64 e.1, .int .i64 e.2.1, .int .i64 e.2.2.1, e.2.2.2.1]
theorem shotC_len (e : Shot) : (shotC e).length = 2 := rfl
theorem sessC_len (e : Sess) : (sessC e).length = 4 := rfl

structure RefSt where
  cv : Value
  ov : Value
  cur : List Shot
  opn : List Sess
  last : Int
  made : Int

/-- A page's row: it is never written again. -/
def PgRow (w : World) (x : Value) (ps : List Pg) : Prop := Own w 0 55 3 pgCells x ps

structure RefAt (w : World) (B r : Nat) (R : RefSt) : Prop where
  top : w.heap[r]? = some (.cells #[R.cv, R.ov, .int .i64 R.last, .int .i64 R.made] 45 (0, 0))
  base : B ≤ r
  cur : Own w B 67 2 shotC R.cv R.cur
  opn : Own w B 71 4 sessC R.ov R.opn
  rowc : ∀ e ∈ R.cur, PgRow w e.2.1 e.2.2
  rowo : ∀ e ∈ R.opn, PgRow w e.2.2.2.1 e.2.2.2.2
  four : R.cur.length = 4
  few : R.opn.length ≤ 16

def RefSt.foot (R : RefSt) (r k : Nat) : Prop := k = r ∨ R.cv.ownBlock = some k ∨ R.ov.ownBlock = some k

/-- No block of S is of one of the reference's types. -/
def NoRef (S : Nat → Prop) (w : World) : Prop := ∀ k c t f, w.heap[k]? = some (.cells c t f) → (t = 45 ∨ t = 67 ∨ t = 71 ∨ t = 55) → ¬ S k

theorem NoRef.none (w : World) : NoRef (fun _ => False) w := fun _ _ _ _ _ _ h => h

theorem _root_.Cdk.Own.kind {α : Type} {w : World} {base : Nat} {e : TypeId} {size : Nat} {f : α → List Value} {v : Value} {xs : List α} (h : Own w base e size f v xs) {S : Nat → Prop}
    (hS : ∀ k c t g, w.heap[k]? = some (.cells c t g) → t = e → ¬ S k) : ∀ k, v.ownBlock = some k → ¬ S k := by
  intro k hk
  obtain ⟨c, hc⟩ := h.cells hk
  exact hS k c e _ hc rfl

theorem RefAt.mod {w w' : World} {B r : Nat} {R : RefSt} {S : Nat → Prop} (h : RefAt w B r R) (hm : Mod S w w') (hS : NoRef S w) : RefAt w' B r R where
  top := hm.at h.top (hS r _ _ _ h.top (.inl rfl))
  base := h.base
  cur := h.cur.mod hm (h.cur.kind fun k c t g hk e => hS k c t g hk (by simp [e]))
  opn := h.opn.mod hm (h.opn.kind fun k c t g hk e => hS k c t g hk (by simp [e]))
  rowc := fun e he => (h.rowc e he).mod hm ((h.rowc e he).kind fun k c t g hk e => hS k c t g hk (by simp [e]))
  rowo := fun e he => (h.rowo e he).mod hm ((h.rowo e he).kind fun k c t g hk e => hS k c t g hk (by simp [e]))
  four := h.four
  few := h.few

theorem RefAt.ext {w w' : World} {B r : Nat} {R : RefSt} (h : RefAt w B r R) (hm : Ext w w') : RefAt w' B r R := h.mod hm (NoRef.none w)

/-- The reference's blocks are of its types. -/
theorem RefAt.kinds {w : World} {B r : Nat} {R : RefSt} (h : RefAt w B r R) {k : Nat} (hk : R.foot r k) : ∃ c t, w.heap[k]? = some (.cells c t (0, 0)) ∧ (t = 45 ∨ t = 67 ∨ t = 71) := by
  rcases hk with rfl | hk | hk
  · exact ⟨_, _, h.top, .inl rfl⟩
  · obtain ⟨c, hc⟩ := h.cur.cells hk; exact ⟨_, _, hc, .inr (.inl rfl)⟩
  · obtain ⟨c, hc⟩ := h.opn.cells hk; exact ⟨_, _, hc, .inr (.inr rfl)⟩

theorem RefAt.bound {w : World} {B r : Nat} {R : RefSt} (h : RefAt w B r R) {k : Nat} (hk : R.foot r k) : B ≤ k ∧ k < w.heap.size := by
  rcases hk with rfl | hk | hk
  · refine ⟨h.base, ?_⟩
    have := h.top
    rcases Nat.lt_or_ge k w.heap.size with h' | h'
    · exact h'
    · rw [Array.getElem?_eq_none h'] at this; cases this
  · exact h.cur.block k hk
  · exact h.opn.block k hk

/-- A site's blocks are of no type of the reference's. -/
theorem SiteAt.noref {w : World} {F : Nat → Prop} {s : Nat} {st : SiteSt} (h : SiteAt w F s st) : NoRef (st.foot s) w := by
  intro k c t f hk ht hf
  rcases hf with rfl | rfl | ⟨p, hp, rfl | rfl⟩
  · rw [h.top] at hk; injection hk with hk; injection hk with _ hk _; subst hk; revert ht; decide
  · obtain ⟨es, c, hh, _⟩ := h.ses
    rw [hh] at hk; cases hk
  · rw [(h.shot _ hp).2.2.2.1] at hk; injection hk with hk; injection hk with _ hk _; subst hk; revert ht; decide
  · obtain ⟨es, c, hh, _⟩ := (h.shot _ hp).2.2.2.2
    rw [hh] at hk; cases hk

theorem SiteAt.noref' {w : World} {F : Nat → Prop} {s : Nat} {st : SiteSt} (h : SiteAt w F s st) {B r : Nat} {R : RefSt} (hR : RefAt w B r R) : ∀ k, st.foot s k → ¬ R.foot r k := by
  intro k hk hr
  obtain ⟨c, t, hc, ht⟩ := hR.kinds hr
  exact h.noref k c t _ hc (by rcases ht with h | h | h <;> simp [h]) hk

theorem RefAt.cells {w : World} {B r : Nat} {R : RefSt} (h : RefAt w B r R) :
    w.cell? ⟨r, 0, none⟩ = some R.cv ∧ w.cell? ⟨r, 1, none⟩ = some R.ov ∧ w.cell? ⟨r, 2, none⟩ = some (.int .i64 R.last) ∧ w.cell? ⟨r, 3, none⟩ = some (.int .i64 R.made) ∧ ∀ j, w.frozen? ⟨r, j, none⟩ = false :=
  ⟨by rw [cell_of h.top]; rfl, by rw [cell_of h.top]; rfl, by rw [cell_of h.top]; rfl, by rw [cell_of h.top]; rfl, free_of h.top⟩

theorem shot_at {w : World} {ao : Option Addr} {l : List Shot} (hr : RowIs w ao (l.flatMap shotC)) {k : Nat} (hk : k < l.length) :
    ∃ b off, ao = some ⟨b, off, none⟩ ∧ w.cell? ⟨b, off + k * 2, none⟩ = some (.int .i64 l[k].1) ∧ w.cell? ⟨b, off + k * 2 + 1, none⟩ = some l[k].2.1 := by
  obtain ⟨b, off, rfl, hc⟩ := hr.at (by rw [flat_length _ 2 shotC_len]; omega)
  have f := fun j => flat_get shotC 2 shotC_len l k j l[k] (List.getElem?_eq_getElem hk)
  exact ⟨b, off, rfl, hc (k * 2) _ (by simpa [shotC] using f 0 (by omega)), by rw [Nat.add_assoc]; exact hc (k * 2 + 1) _ (by simpa [shotC] using f 1 (by omega))⟩

theorem sess_at {w : World} {ao : Option Addr} {l : List Sess} (hr : RowIs w ao (l.flatMap sessC)) {k : Nat} (hk : k < l.length) :
    ∃ b off, ao = some ⟨b, off, none⟩ ∧ w.cell? ⟨b, off + k * 4, none⟩ = some (.int .i64 l[k].1) ∧ w.cell? ⟨b, off + k * 4 + 1, none⟩ = some (.int .i64 l[k].2.1) ∧
      w.cell? ⟨b, off + k * 4 + 2, none⟩ = some (.int .i64 l[k].2.2.1) ∧ w.cell? ⟨b, off + k * 4 + 2 + 1, none⟩ = some l[k].2.2.2.1 := by
  obtain ⟨b, off, rfl, hc⟩ := hr.at (by rw [flat_length _ 4 sessC_len]; omega)
  have f := fun j => flat_get sessC 4 sessC_len l k j l[k] (List.getElem?_eq_getElem hk)
  exact ⟨b, off, rfl, hc (k * 4) _ (by simpa [sessC] using f 0 (by omega)), by rw [Nat.add_assoc]; exact hc (k * 4 + 1) _ (by simpa [sessC] using f 1 (by omega)),
    by rw [Nat.add_assoc]; exact hc (k * 4 + 2) _ (by simpa [sessC] using f 2 (by omega)), by rw [show off + k * 4 + 2 + 1 = off + (k * 4 + 3) by omega]; exact hc (k * 4 + 3) _ (by simpa [sessC] using f 3 (by omega))⟩

/-! class, text -/

theorem findI_cases (l : List Pg) (a : ByteArray) : (findI l a = -1 ∧ look (pubT l) a = none) ∨ ∃ k, ∃ h : k < l.length, findI l a = (k : Int) ∧ look (pubT l) a = some l[k].2.1 ∧ l[k].1 = a := by
  unfold findI
  cases hf : l.findIdx? (fun p => decide (p.1 = a)) with
  | none =>
    left
    refine ⟨rfl, look_pub_none.2 fun h => ?_⟩
    rw [List.findIdx?_eq_none_iff] at hf
    obtain ⟨p, hp, rfl⟩ := List.mem_map.1 h
    have := hf p hp
    simp at this
  | some k =>
    right
    rw [List.findIdx?_eq_some_iff_getElem] at hf
    obtain ⟨hk, h1, h2⟩ := hf
    have h1 : l[k].1 = a := by simpa using h1
    refine ⟨k, hk, rfl, ?_, h1⟩
    unfold look pubT
    have : (l.map (fun p => (p.1, p.2.1))).find? (fun p => decide (p.1 = a)) = some (l[k].1, l[k].2.1) := by
      rw [List.find?_eq_some_iff_getElem]
      refine ⟨by simpa using h1, k, by simpa using hk, by simp, fun j hj => ?_⟩
      simpa using h2 j hj
    rw [this]; rfl

set_option maxHeartbeats 400000 in
theorem text_any (l : List Pg) (a : ByteArray) (x : Value) (w : World) (hr : PgRow w x l) (hl : l.length ≤ 1000000) :
    Calls Try.prog 39 #[x, .string a] w fun e w' => e = .returned (resV (getR (pubT l) a)) ∧ w = w' := by
  obtain ⟨ao, cap, rfl, hrow, -⟩ := hr.row
  have hfi := hid (find_any l a ao cap w hrow (by omega))
  have hres := hid (getR_look (pubT l) a)
  clear hr
  unfold resV
  generalize getR (pubT l) a = u at hres ⊢
  rcases findI_cases l a with ⟨h1, h2⟩ | ⟨k, hk, h1, h2, -⟩
  · rw [h1] at hfi
    rw [h2] at hres
    clear h1 h2
    go_enter Try.func39, Try.ntmps39
    go_wp2_with fail
    refine hfi.out.mono ?_; rintro e w' ⟨rfl, rfl⟩
    go_wp2_with fail
    go_ret2
    rw [hres.out]; exact ⟨rfl, rfl⟩
  · rw [h1] at hfi
    rw [h2] at hres
    clear h1 h2
    obtain ⟨b, off, rfl, -, g1, -⟩ := pg_at hrow hk
    have hk0 : k ≤ 1000000 := by omega
    go_enter Try.func39, Try.ntmps39
    go_wp2_with fail
    refine hfi.out.mono ?_; rintro e w' ⟨rfl, rfl⟩
    go_wp2_with fail
    go_ret2
    rw [hres.out]; exact ⟨rfl, rfl⟩

/-! at -/
def atI (l : List Sess) (n : Int) : Int := match l.findIdx? (fun p => decide (p.1 = n)) with | some i => i | none => -1
theorem atI_none {l : List Sess} {a : Int} (h : ∀ j : Nat, j < l.length → ∀ p, l[j]? = some p → p.1 ≠ a) : atI l a = -1 := by
  have : l.findIdx? (fun p => decide (p.1 = a)) = none := by
    rw [List.findIdx?_eq_none_iff]
    intro p hp
    obtain ⟨j, hj, rfl⟩ := List.mem_iff_getElem.1 hp
    simpa using h j hj _ (List.getElem?_eq_getElem hj)
  unfold atI; rw [this]
theorem atI_some {l : List Sess} {a : Int} {k : Nat} (hk : k < l.length) (h : ∀ j : Nat, j < k → ∀ p, l[j]? = some p → p.1 ≠ a) (he : l[k].1 = a) : atI l a = k := by
  have : l.findIdx? (fun p => decide (p.1 = a)) = some k := by
    rw [List.findIdx?_eq_some_iff_getElem]
    refine ⟨hk, by simpa using he, fun j hj => ?_⟩
    simpa using h j hj _ (List.getElem?_eq_getElem (by omega))
  unfold atI; rw [this]
theorem atI_cases (l : List Sess) (a : Int) : (atI l a = -1 ∧ l.find? (fun p => decide (p.1 = a)) = none) ∨ ∃ k, ∃ h : k < l.length, atI l a = (k : Int) ∧ l.find? (fun p => decide (p.1 = a)) = some l[k] ∧ l[k].1 = a := by
  unfold atI
  cases hf : l.findIdx? (fun p => decide (p.1 = a)) with
  | none =>
    left
    refine ⟨rfl, ?_⟩
    rw [List.findIdx?_eq_none_iff] at hf
    rw [List.find?_eq_none]
    intro p hp
    have := hf p hp
    simpa using this
  | some k =>
    right
    rw [List.findIdx?_eq_some_iff_getElem] at hf
    obtain ⟨hk, h1, h2⟩ := hf
    refine ⟨k, hk, rfl, ?_, by simpa using h1⟩
    rw [List.find?_eq_some_iff_getElem]
    exact ⟨h1, k, hk, rfl, fun j hj => by simpa using h2 j hj⟩

set_option maxHeartbeats 400000 in
theorem at_any {w : World} {B r : Nat} {R : RefSt} (h : RefAt w B r R) (n : Int) :
    Calls Try.prog 35 #[.pointer (some ⟨r, 0, none⟩), .int .i64 n] w fun e w' => e = .returned (.int .i64 (atI R.opn n)) ∧ w = w' := by
  obtain ⟨-, h1, -, -, -⟩ := h.cells
  obtain ⟨ao, cap, hv, hrow, -⟩ := h.opn.row
  rw [hv] at h1
  have hfw := h.few
  generalize R.opn = l at hrow hfw h1 ⊢
  clear h hv
  replace hrow := hid hrow
  go_enter Try.func35, Try.ntmps35
  go_wp2
  go_loopg [5] l.length (fun g i wr => ∃ k : Nat, k + g = l.length ∧ i = .int .i64 k ∧ wr = w ∧ ∀ j : Nat, j < k → ∀ p, l[j]? = some p → p.1 ≠ n)
  case atStart => exact ⟨0, by omega, rfl, rfl, fun j h => by omega⟩
  case round =>
    obtain ⟨k, hk, rfl, rfl, hno⟩ := hrel
    have hk' : k ≤ l.length := by omega
    replace hk := hid hk
    replace hno := hid hno
    by_cases hlt : k < l.length
    · obtain ⟨b, off, rfl, c0, -⟩ := sess_at hrow.out hlt
      by_cases he : l[k].1 = n
      · have hb : (l[k].1 == n) = true := by simpa using he
        replace hf := hid (atI_some hlt hno.out he)
        clear he
        go_wp2
        go_ret
        rw [hf.out]; exact ⟨rfl, rfl⟩
      · have hb : (l[k].1 == n) = false := by simpa using he
        replace he := hid he
        go_wp2
        go_roundg (gk - 1)
        case measure => have := hk.out; omega
        case rel => exact ⟨k + 1, by have := hk.out; omega, by go_num, rfl, fun j hj p hp => by
          rcases Nat.lt_succ_iff_lt_or_eq.1 hj with h | h
          · exact hno.out j h p hp
          · subst h; rw [List.getElem?_eq_getElem hlt] at hp; simp at hp; subst hp; exact he.out⟩
    · have hf : atI l n = -1 := atI_none (fun j hj => hno.out j (by omega))
      replace hf := hid hf
      go_wp2
      go_ret
      rw [hf.out]; exact ⟨rfl, rfl⟩

/-! Get, Read -/
def RGet (R : RefSt) (c : Int) (a : ByteArray) : ByteArray × Int :=
  if isClassB c then (match R.cur[c.toNat]? with | some e => getR (pubT e.2.2) a | none => (.empty, 251)) else (.empty, 250)
def RRead (R : RefSt) (n : Int) (a : ByteArray) : ByteArray × Int :=
  match R.opn.find? (fun p => decide (p.1 = n)) with
  | some q => getR (pubT q.2.2.2.2) a
  | none => (.empty, 250)

/-- All pages' rows are small. -/
structure RefSt.small (R : RefSt) : Prop where
  cur : ∀ e ∈ R.cur, e.2.2.length ≤ 1000000
  opn : ∀ e ∈ R.opn, e.2.2.2.2.length ≤ 1000000

set_option maxHeartbeats 400000 in
theorem RGet_any {w : World} {B r : Nat} {R : RefSt} (h : RefAt w B r R) (hs : R.small) (c : Int) (a : ByteArray) :
    Calls Try.prog 26 #[.pointer (some ⟨r, 0, none⟩), .int .i64 c, .string a] w fun e w' => e = .returned (resV (RGet R c a)) ∧ w = w' := by
  obtain ⟨h0, -, -, -, -⟩ := h.cells
  obtain ⟨ao, cap, hv, hrow, -⟩ := h.cur.row
  have hrc := rclass_any c w
  have hres := hid (show RGet R c a = if isClassB c then (match R.cur[c.toNat]? with | some e => getR (pubT e.2.2) a | none => (.empty, 251)) else (.empty, 250) from rfl)
  generalize RGet R c a = u at hres ⊢
  rw [hv, h.four] at h0
  have h4 := h.four
  have hsm := hs.cur
  have hpg := h.rowc
  generalize R.cur = l at hrow hres h4 hsm hpg
  clear h hv hs
  cases hb : isClassB c with
  | false =>
    rw [hb] at hrc hres
    replace hrc := hid hrc
    clear hb hpg
    unfold resV
    go_enter Try.func26, Try.ntmps26
    go_wp2_with fail
    refine hrc.out.mono ?_; rintro e w' ⟨rfl, rfl⟩
    go_wp2_with fail
    go_ret2
    rw [hres.out]; exact ⟨rfl, rfl⟩
  | true =>
    rw [hb] at hrc hres
    have hc := isClassB_iff.1 hb
    obtain ⟨j, rfl⟩ := Int.eq_ofNat_of_zero_le hc.1
    have hj : j < l.length := by omega
    obtain ⟨b, off, rfl, -, g1⟩ := shot_at hrow hj
    have ht := hid (text_any l[j].2.2 a l[j].2.1 w (hpg _ (List.getElem_mem _)) (hsm _ (List.getElem_mem _)))
    simp only [Int.toNat_natCast, List.getElem?_eq_getElem hj] at hres
    replace hres := hid hres.out
    generalize l[j].2.1 = x at g1 ht
    generalize getR (pubT l[j].2.2) a = y at ht hres
    replace hrc := hid hrc
    have hj4 : j < 4 := by omega
    clear hb hpg h4 hsm hrow hc hj
    unfold resV at *
    go_enter Try.func26, Try.ntmps26
    go_wp2_with fail
    refine hrc.out.mono ?_; rintro e w' ⟨rfl, rfl⟩
    go_wp2_with fail
    refine ht.out.mono ?_; rintro e w' ⟨rfl, rfl⟩
    go_wp2_with fail
    go_ret2
    rw [hres.out]; exact ⟨rfl, rfl⟩

set_option maxHeartbeats 400000 in
theorem RRead_any {w : World} {B r : Nat} {R : RefSt} (h : RefAt w B r R) (hs : R.small) (n : Int) (a : ByteArray) :
    Calls Try.prog 28 #[.pointer (some ⟨r, 0, none⟩), .int .i64 n, .string a] w fun e w' => e = .returned (resV (RRead R n a)) ∧ w = w' := by
  obtain ⟨-, h0, -, -, -⟩ := h.cells
  obtain ⟨ao, cap, hv, hrow, -⟩ := h.opn.row
  have hat := at_any h n
  have hres := hid (show RRead R n a = match R.opn.find? (fun p => decide (p.1 = n)) with | some q => getR (pubT q.2.2.2.2) a | none => (.empty, 250) from rfl)
  generalize RRead R n a = u at hres ⊢
  rw [hv] at h0
  have hf := h.few
  have hsm := hs.opn
  have hpg := h.rowo
  generalize R.opn = l at hrow hres hf hsm hpg hat h0
  clear h hv hs
  rcases atI_cases l n with ⟨h1, h2⟩ | ⟨k, hk, h1, h2, -⟩
  · rw [h1] at hat
    rw [h2] at hres
    replace hat := hid hat
    clear hpg h1 h2
    unfold resV
    go_enter Try.func28, Try.ntmps28
    go_wp2_with fail
    refine hat.out.mono ?_; rintro e w' ⟨rfl, rfl⟩
    go_wp2_with fail
    go_ret2
    rw [hres.out]; exact ⟨rfl, rfl⟩
  · rw [h1] at hat
    rw [h2] at hres
    replace hat := hid hat
    obtain ⟨b, off, rfl, -, -, -, g1⟩ := sess_at hrow hk
    have ht := hid (text_any l[k].2.2.2.2 a l[k].2.2.2.1 w (hpg _ (List.getElem_mem _)) (hsm _ (List.getElem_mem _)))
    simp only at hres
    generalize l[k].2.2.2.1 = x at g1 ht
    generalize getR (pubT l[k].2.2.2.2) a = y at ht hres
    clear hpg hsm hrow h1 h2
    unfold resV at *
    go_enter Try.func28, Try.ntmps28
    go_wp2_with fail
    refine hat.out.mono ?_; rintro e w' ⟨rfl, rfl⟩
    go_wp2_with fail
    refine ht.out.mono ?_; rintro e w' ⟨rfl, rfl⟩
    go_wp2_with fail
    go_ret2
    rw [hres.out]; exact ⟨rfl, rfl⟩

theorem PgRow.small {w : World} {x : Value} {ps : List Pg} (h : PgRow w x ps) : ps.length ≤ 9223372036854775807 := by
  rcases h.2 with ⟨rfl, hn⟩ | ⟨g, cap, cur, rfl, hb, hg, hle, hcm, hcs, ht⟩
  · omega
  · simp only [maxLen] at hcm; omega
end Go.Proofs.Ytncmhcfhbogjnaa
