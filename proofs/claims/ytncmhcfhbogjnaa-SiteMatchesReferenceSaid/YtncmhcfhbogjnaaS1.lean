import Derived.Test.YtncmhcfhbogjnaaT2
import Derived.Test.YtncmhcfhbogjnaaMapOps
namespace Go.Proofs.Ytncmhcfhbogjnaa
open Go.RowKit Cdk

def snapV (p : Nat) : Value := .pointer (some ⟨p, 0, none⟩)
def txtPair (p : ByteArray × ByteArray) : ByteArray × Value := (p.1, .string p.2)
def sesPair (p : Int × Int × Nat) : Int × Value := (p.1, .agg #[.int .i64 p.2.1, snapV p.2.2])

/-- What a site holds: the class' snapshots by their blocks, the sessions (number, class, snapshot), the last number, the sessions' map; of each snapshot its map and its texts. -/
structure SiteSt where
  cur : Nat → Nat
  ses : List (Int × Int × Nat)
  last : Int
  m : Nat
  tm : Nat → Nat
  txt : Nat → List (ByteArray × ByteArray)

/-- The snapshots that can be reached. -/
def SiteSt.live (st : SiteSt) (p : Nat) : Prop := (∃ c, c < 4 ∧ st.cur c = p) ∨ ∃ q ∈ st.ses, q.2.2 = p

structure SiteAt (w : World) (F : Nat → Prop) (s : Nat) (st : SiteSt) : Prop where
  lt : ∀ k, F k → k < w.heap.size
  own : F s ∧ F st.m
  top : w.heap[s]? = some (.cells #[snapV (st.cur 0), snapV (st.cur 1), snapV (st.cur 2), snapV (st.cur 3), .map (some st.m), .int .i64 st.last] 62 (0, 0))
  ses : MapAt w (Value.int .i64) st.m (st.ses.map sesPair)
  shot : ∀ p, st.live p → F p ∧ F (st.tm p) ∧ st.tm p ≠ st.m ∧ w.heap[p]? = some (.cells #[.map (some (st.tm p))] 65 (0, 0)) ∧ MapAt w Value.string (st.tm p) ((st.txt p).map txtPair)
  apart : ∀ p q, st.live p → st.live q → st.tm p = st.tm q → p = q

theorem SiteAt.mod {w w' : World} {F S : Nat → Prop} {s : Nat} {st : SiteSt} (h : SiteAt w F s st) (hm : Mod S w w') (hs : ∀ k, F k → ¬ S k) : SiteAt w' F s st where
  lt := fun k hk => Nat.lt_of_lt_of_le (h.lt k hk) hm.size
  own := h.own
  top := hm.at h.top (hs _ h.own.1)
  ses := h.ses.mod hm (hs _ h.own.2)
  shot := fun p hp => let ⟨a, b, c, d, e⟩ := h.shot p hp; ⟨a, b, c, hm.at d (hs _ a), e.mod hm (hs _ b)⟩
  apart := h.apart

theorem cell_of {w : World} {b : Nat} {cs : Array Value} {t : TypeId} {fr : Nat × Nat} (h : w.heap[b]? = some (.cells cs t fr)) (j : Nat) : w.cell? ⟨b, j, none⟩ = cs[j]? := by
  simp [World.cell?, h]
theorem free_of {w : World} {b : Nat} {cs : Array Value} {t : TypeId} (h : w.heap[b]? = some (.cells cs t (0, 0))) (j : Nat) : w.frozen? ⟨b, j, none⟩ = false := by
  simp [World.frozen?, h]

theorem SiteAt.cells {w : World} {F : Nat → Prop} {s : Nat} {st : SiteSt} (h : SiteAt w F s st) :
    (∀ j, j < 4 → w.cell? ⟨s, j, none⟩ = some (snapV (st.cur j))) ∧ w.cell? ⟨s, 4, none⟩ = some (.map (some st.m)) ∧ w.cell? ⟨s, 5, none⟩ = some (.int .i64 st.last) ∧ ∀ j, w.frozen? ⟨s, j, none⟩ = false := by
  refine ⟨fun j hj => ?_, by rw [cell_of h.top]; rfl, by rw [cell_of h.top]; rfl, free_of h.top⟩
  rw [cell_of h.top]
  match j, hj with
  | 0, _ => rfl
  | 1, _ => rfl
  | 2, _ => rfl
  | 3, _ => rfl
  | j + 4, hj => omega

theorem missing_some (w : World) (s m : Nat) (h4 : w.cell? ⟨s, 4, none⟩ = some (.map (some m))) :
    Calls Try.prog 36 #[snapV s] w fun e w' => e = .returned (.bool false) ∧ w = w' := by
  unfold snapV
  have hq := fun (w : World) (r : Option Nat) => run_eql_map_nil (P := Try.prog) w 58 _ _ r Try.underlying58
  go_enter Try.func36, Try.ntmps36
  go_wp2
  go_ret
  exact ⟨rfl, rfl⟩
theorem missing_nil (w : World) :
    Calls Try.prog 36 #[.pointer none] w fun e w' => e = .returned (.bool true) ∧ w = w' := by
  go_enter Try.func36, Try.ntmps36
  go_wp2
  go_ret
  exact ⟨rfl, rfl⟩

/-- A text and an error, as a call returns them. -/
def resV (r : ByteArray × Int) : Value := .tuple #[.string r.1, .int .i64 r.2]

/-- 'get': the text at an address. -/
def getR (d : List (ByteArray × ByteArray)) (a : ByteArray) : ByteArray × Int :=
  match d.find? (fun p => decide (p.1 = a)) with
  | some p => (p.2, 0)
  | none => (.empty, 251)

theorem assoc_txt (d : List (ByteArray × ByteArray)) (a : ByteArray) : assoc (d.map txtPair) a = ((d.find? (fun p => decide (p.1 = a))).map (fun p => Value.string p.2)) := by
  unfold assoc
  rw [List.find?_map]
  simp only [Option.map_map]
  rfl

theorem zero9 (w : World) : (zeroValue 9).run Try.prog w = .ok (.string .empty) w := by kernel_rfl

set_option maxHeartbeats 400000 in
theorem get_any (p mt : Nat) (d : List (ByteArray × ByteArray)) (a : ByteArray) (w : World) (h0 : w.cell? ⟨p, 0, none⟩ = some (.map (some mt))) (hm : MapAt w Value.string mt (d.map txtPair)) :
    Calls Try.prog 38 #[snapV p, .string a] w fun e w' => e = .returned (resV (getR d a)) ∧ w = w' := by
  unfold snapV
  have hlk := run_lookupM (P := Try.prog) (t := 63) (keyOk_string Try.underlying9) Try.underlying63 hm a (zero9 w) true
  rw [assoc_txt] at hlk
  cases hf : d.find? (fun p => decide (p.1 = a)) with
  | none =>
    have hg : getR d a = (.empty, 251) := by unfold getR; rw [hf]
    replace hg := hid hg
    rw [hf] at hlk
    simp only [Option.map_none, Option.isSome_none, Option.getD_none, if_true] at hlk
    clear hf
    go_enter Try.func38, Try.ntmps38
    go_wp2
    go_ret2
    rw [hg.out]; exact ⟨rfl, rfl⟩
  | some q =>
    have hg : getR d a = (q.2, 0) := by unfold getR; rw [hf]
    replace hg := hid hg
    rw [hf] at hlk
    simp only [Option.map_some, Option.isSome_some, Option.getD_some, if_true] at hlk
    clear hf
    go_enter Try.func38, Try.ntmps38
    go_wp2
    go_ret2
    rw [hg.out]; exact ⟨rfl, rfl⟩

/-- 'Get'. -/
def GetR (st : SiteSt) (c : Int) (a : ByteArray) : ByteArray × Int :=
  if isClassB c then getR (st.txt (st.cur c.toNat)) a else (.empty, 250)

theorem isClassB_iff {c : Int} : isClassB c = true ↔ 0 ≤ c ∧ c < 4 := by simp [isClassB]

set_option maxHeartbeats 400000 in
theorem Get_any {w : World} {F : Nat → Prop} {s : Nat} {st : SiteSt} (h : SiteAt w F s st) (c : Int) (a : ByteArray) :
    Calls Try.prog 25 #[snapV s, .int .i64 c, .string a] w fun e w' => e = .returned (resV (GetR st c a)) ∧ w = w' := by
  obtain ⟨hj, h4, h5, _⟩ := h.cells
  have hms := hid (missing_some w s st.m h4)
  have hic := isClass_any c w
  have hg : Hid (GetR st c a = if isClassB c then getR (st.txt (st.cur c.toNat)) a else (.empty, 250)) := rfl
  cases hc : isClassB c with
  | false =>
    rw [hc] at hic hg
    replace hic := hid hic
    replace h := hid h
    replace hj := hid hj
    clear hc
    unfold snapV at *
    go_enter Try.func25, Try.ntmps25
    go_wp2_with fail
    refine hms.out.mono ?_; rintro e w' ⟨rfl, rfl⟩
    go_wp2_with fail
    refine hic.out.mono ?_; rintro e w' ⟨rfl, rfl⟩
    go_wp2_with fail
    go_ret2
    rw [hg.out]; exact ⟨rfl, rfl⟩
  | true =>
    obtain ⟨hc0, hc1⟩ := isClassB_iff.1 hc
    obtain ⟨j, rfl⟩ := Int.eq_ofNat_of_zero_le hc0
    have hj0 : j < 4 := by omega
    have hcell := hj j hj0
    obtain ⟨_, _, _, htop, hmap⟩ := h.shot (st.cur j) (.inl ⟨j, hj0, rfl⟩)
    have hget := hid (get_any (st.cur j) (st.tm (st.cur j)) _ a w (by rw [cell_of htop]; rfl) hmap)
    rw [hc] at hic hg
    replace hic := hid hic
    replace h := hid h
    replace hj := hid hj
    clear hc htop hmap
    unfold snapV at *
    go_enter Try.func25, Try.ntmps25
    go_wp2_with fail
    refine hms.out.mono ?_; rintro e w' ⟨rfl, rfl⟩
    go_wp2_with fail
    refine hic.out.mono ?_; rintro e w' ⟨rfl, rfl⟩
    go_wp2_with fail
    refine hget.out.mono ?_; rintro e w' ⟨rfl, rfl⟩
    unfold resV at *
    go_wp2_with fail
    go_ret2
    rw [hg.out]; exact ⟨rfl, rfl⟩

set_option maxHeartbeats 400000 in
theorem Get_nil (w : World) (c : Int) (a : ByteArray) :
    Calls Try.prog 25 #[.pointer none, .int .i64 c, .string a] w fun e w' => e = .returned (resV (.empty, 1)) ∧ w = w' := by
  have hms := hid (missing_nil w)
  go_enter Try.func25, Try.ntmps25
  go_wp2_with fail
  refine hms.out.mono ?_; rintro e w' ⟨rfl, rfl⟩
  go_wp2_with fail
  go_ret2
  exact ⟨rfl, rfl⟩

theorem assoc_ses (l : List (Int × Int × Nat)) (n : Int) : assoc (l.map sesPair) n = ((l.find? (fun p => decide (p.1 = n))).map (fun p => (sesPair p).2)) := by
  unfold assoc
  rw [List.find?_map]
  simp only [Option.map_map]
  rfl
theorem zero75 (w : World) : (zeroValue 75).run Try.prog w = .ok (.agg #[.int .i64 0, .pointer none]) w := by kernel_rfl

/-- 'Read'. -/
def ReadR (st : SiteSt) (n : Int) (a : ByteArray) : ByteArray × Int :=
  match st.ses.find? (fun p => decide (p.1 = n)) with
  | some q => getR (st.txt q.2.2) a
  | none => (.empty, 250)

set_option maxHeartbeats 400000 in
theorem Read_any {w : World} {F : Nat → Prop} {s : Nat} {st : SiteSt} (h : SiteAt w F s st) (n : Int) (a : ByteArray) :
    Calls Try.prog 27 #[snapV s, .int .i64 n, .string a] w fun e w' => e = .returned (resV (ReadR st n a)) ∧ Ext w w' := by
  obtain ⟨hj, h4, h5, _⟩ := h.cells
  have hms := hid (missing_some w s st.m h4)
  have hg : Hid (ReadR st n a = match st.ses.find? (fun p => decide (p.1 = n)) with | some q => getR (st.txt q.2.2) a | none => (.empty, 250)) := rfl
  have hlk := run_lookupM (P := Try.prog) (t := 58) (keyOk_int Try.underlying3) Try.underlying58 h.ses n (zero75 w) true
  rw [assoc_ses] at hlk
  cases hf : st.ses.find? (fun p => decide (p.1 = n)) with
  | none =>
    rw [hf] at hlk hg
    simp only [Option.map_none, Option.isSome_none, Option.getD_none, if_true] at hlk
    replace h := hid h
    replace hj := hid hj
    clear hf
    unfold snapV at *
    go_enter Try.func27, Try.ntmps27
    go_wp2_with fail
    refine hms.out.mono ?_; rintro e w' ⟨rfl, rfl⟩
    go_wp2_with fail
    go_ret2
    rw [hg.out]; exact ⟨rfl, (Mod.refl _ _).alloc _⟩
  | some q =>
    have hmem := List.mem_of_find?_eq_some hf
    obtain ⟨_, _, _, htop, hmap⟩ := h.shot q.2.2 (.inr ⟨q, hmem, rfl⟩)
    rw [hf] at hlk hg
    simp only [Option.map_some, Option.isSome_some, Option.getD_some, if_true, sesPair] at hlk
    replace h := hid h
    replace hj := hid hj
    replace htop := hid htop
    replace hmap := hid hmap
    replace hmem := hid hmem
    clear hf
    unfold snapV at *
    go_enter Try.func27, Try.ntmps27
    go_wp2_with fail
    refine hms.out.mono ?_; rintro e w' ⟨rfl, rfl⟩
    go_wp2_with fail
    have hx := Mod.alloc (Mod.refl (fun _ => False) w) (.cells #[.int .i64 q.2.1, .pointer (some ⟨q.2.2, 0, none⟩)] 75)
    refine (get_any q.2.2 (st.tm q.2.2) _ a _ (hx.cell (by rw [cell_of htop.out]; rfl) (fun h => h)) (hmap.out.mod hx (fun h => h))).mono ?_
    replace hx := hid hx
    unfold resV
    rintro e w' ⟨rfl, rfl⟩
    go_wp2_with fail
    go_ret2
    rw [hg.out]; exact ⟨rfl, hx.out⟩

set_option maxHeartbeats 400000 in
theorem Read_nil (w : World) (n : Int) (a : ByteArray) :
    Calls Try.prog 27 #[.pointer none, .int .i64 n, .string a] w fun e w' => e = .returned (resV (.empty, 1)) ∧ w = w' := by
  have hms := hid (missing_nil w)
  go_enter Try.func27, Try.ntmps27
  go_wp2_with fail
  refine hms.out.mono ?_; rintro e w' ⟨rfl, rfl⟩
  go_wp2_with fail
  go_ret2
  exact ⟨rfl, rfl⟩

/-- 'Sessions'. -/
theorem Sessions_any {w : World} {F : Nat → Prop} {s : Nat} {st : SiteSt} (h : SiteAt w F s st) :
    Calls Try.prog 21 #[snapV s] w fun e w' => e = .returned (.int .i64 st.ses.length) ∧ w = w' := by
  obtain ⟨hj, h4, h5, _⟩ := h.cells
  have hms := hid (missing_some w s st.m h4)
  have hlen := fun ty => run_lenM (P := Try.prog) (t := 58) (ty := ty) Try.underlying58 h.ses
  simp only [List.length_map] at hlen
  replace h := hid h
  replace hj := hid hj
  unfold snapV at *
  go_enter Try.func21, Try.ntmps21
  go_wp2_with fail
  refine hms.out.mono ?_; rintro e w' ⟨rfl, rfl⟩
  go_wp2_with fail
  go_ret
  exact ⟨rfl, rfl⟩
theorem Sessions_nil (w : World) :
    Calls Try.prog 21 #[.pointer none] w fun e w' => e = .returned (.int .i64 0) ∧ w = w' := by
  have hms := hid (missing_nil w)
  go_enter Try.func21, Try.ntmps21
  go_wp2_with fail
  refine hms.out.mono ?_; rintro e w' ⟨rfl, rfl⟩
  go_wp2_with fail
  go_ret
  exact ⟨rfl, rfl⟩

/-- 'Close'. -/
def closeSt (st : SiteSt) (n : Int) : SiteSt := { st with ses := st.ses.filter (fun p => !decide (p.1 = n)) }
def closeE (st : SiteSt) (n : Int) : Int := if (st.ses.find? (fun p => decide (p.1 = n))).isSome then 0 else 250

theorem del_ses (l : List (Int × Int × Nat)) (n : Int) : del (l.map sesPair) n = (l.filter (fun p => !decide (p.1 = n))).map sesPair := by
  unfold del
  rw [List.filter_map]
  rfl

theorem closeSt_live {st : SiteSt} {n : Int} {p : Nat} (h : (closeSt st n).live p) : st.live p := by
  rcases h with h | ⟨q, hq, e⟩
  · exact .inl h
  · exact .inr ⟨q, (List.mem_filter.1 hq).1, e⟩

set_option maxHeartbeats 400000 in
theorem Close_any {w : World} {F : Nat → Prop} {s : Nat} {st : SiteSt} (h : SiteAt w F s st) (n : Int) :
    Calls Try.prog 32 #[snapV s, .int .i64 n] w fun e w' => e = .returned (.int .i64 (closeE st n)) ∧ Mod F w w' ∧ SiteAt w' F s (closeSt st n) := by
  obtain ⟨hj, h4, h5, _⟩ := h.cells
  have hms := hid (missing_some w s st.m h4)
  have hg : Hid (closeE st n = if (st.ses.find? (fun p => decide (p.1 = n))).isSome then 0 else 250) := rfl
  have hlk := run_lookupM (P := Try.prog) (t := 58) (keyOk_int Try.underlying3) Try.underlying58 h.ses n (zero75 w) true
  rw [assoc_ses] at hlk
  cases hf : st.ses.find? (fun p => decide (p.1 = n)) with
  | none =>
    rw [hf] at hlk hg
    simp only [Option.map_none, Option.isSome_none, Option.getD_none, if_true] at hlk
    replace hf := hid hf
    replace h := hid h
    replace hj := hid hj
    unfold snapV at *
    go_enter Try.func32, Try.ntmps32
    go_wp2_with fail
    refine hms.out.mono ?_; rintro e w' ⟨rfl, rfl⟩
    go_wp2_with fail
    go_ret
    rw [hg.out]
    have hx := Mod.alloc (Mod.refl F w) (.cells #[.int .i64 0, .pointer none] 75)
    have he : closeSt st n = st := by
      unfold closeSt
      have : st.ses.filter (fun p => !decide (p.1 = n)) = st.ses := by
        rw [List.filter_eq_self]
        intro p hp
        have := List.find?_eq_none.1 hf.out p hp
        simpa using this
      rw [this]
    rw [he]
    exact ⟨rfl, hx, h.out.mod ((Mod.refl (fun _ => False) w).alloc _) (fun _ _ h => h)⟩
  | some q =>
    rw [hf] at hlk hg
    simp only [Option.map_some, Option.isSome_some, Option.getD_some, if_true, sesPair] at hlk
    have hsl : s < w.heap.size := lt_of_at h.top
    have hses := hid h.ses
    replace hf := hid hf
    replace h := hid h
    replace hj := hid hj
    unfold snapV at *
    go_enter Try.func32, Try.ntmps32
    go_wp2_with fail
    refine hms.out.mono ?_; rintro e w' ⟨rfl, rfl⟩
    go_wp2_with (at_delete; refine wpList_delete rfl _ _ _ _ _ rfl (keyOk_int Try.underlying3) Try.underlying58 (d := st.ses.map sesPair) (by exact hses.out.mod ((Mod.refl (fun _ => False) _).alloc _) (fun h => h)) n rfl rfl ?_; intro w1 hM)
    go_ret
    rw [hg.out]
    obtain ⟨hm1, hx1, hs1⟩ := hM.out
    have hx : Mod (Eq st.m) w w1 := ((Mod.refl (Eq st.m) w).alloc _).trans hx1
    have hsm : s ≠ st.m := by
      intro e
      obtain ⟨es, c, hh, _⟩ := h.out.ses
      have := h.out.top
      rw [e, hh] at this
      simp at this
    refine ⟨rfl, hx.mono (fun k e => e ▸ h.out.own.2), ?_⟩
    constructor
    · exact fun k hk => Nat.lt_of_lt_of_le (h.out.lt k hk) hx.size
    · exact h.out.own
    · exact hx.at h.out.top (fun e => hsm e.symm)
    · rw [del_ses] at hm1; exact hm1
    · intro p hp
      obtain ⟨a, b, c, d, e⟩ := h.out.shot p (closeSt_live hp)
      refine ⟨a, b, c, hx.at d (fun e' => ?_), e.mod hx (fun e' => c e'.symm)⟩
      obtain ⟨es, c, hh, _⟩ := h.out.ses
      rw [← e', hh] at d
      simp at d
    · exact fun p q hp hq => h.out.apart p q (closeSt_live hp) (closeSt_live hq)

theorem Close_nil (w : World) (n : Int) :
    Calls Try.prog 32 #[.pointer none, .int .i64 n] w fun e w' => e = .returned (.int .i64 1) ∧ w = w' := by
  have hms := hid (missing_nil w)
  go_enter Try.func32, Try.ntmps32
  go_wp2_with fail
  refine hms.out.mono ?_; rintro e w' ⟨rfl, rfl⟩
  go_wp2_with fail
  go_ret
  exact ⟨rfl, rfl⟩
end Go.Proofs.Ytncmhcfhbogjnaa
