import Derived.Test.YtpgniljgaknlpaaGreatDoorK2
import Derived.Laws.IdiomStrings
/-
  The lexer's 'literal'.
-/
namespace Go.Proofs.YtpgniljgaknlpaaGreatDoor
open Go.RowKit Cdk Tpl

theorem lit_open {c : UInt8} {r : Bs} (h : opensB (c :: r) = true) : lit (c :: r) = ([], 0, c :: r, true) := by
  cases r with
  | nil =>
    simp only [opensB, decide_eq_true_eq] at h
    simp [lit, h]
  | cons d r =>
    simp only [opensB, Bool.and_eq_true, decide_eq_true_eq, Bool.not_eq_true', decide_eq_false_iff_not] at h
    simp [lit, h.1, h.2]

theorem lit_bad {c : UInt8} {r : Bs} (h0 : c.toNat ≠ 10) (hp : isP c = false) : lit (c :: r) = ([], 0, c :: r, false) := by
  have h : c.toNat ≠ 123 := by
    intro h; unfold isP at hp; rw [h] at hp; revert hp; decide
  cases r with
  | nil => simp [lit, h, h0, hp]
  | cons d r => simp [lit, h, h0, hp]

theorem lit_step {c : UInt8} {r : Bs} (h : c.toNat ≠ 123) (h0 : c.toNat = 10 ∨ isP c = true) : lit (c :: r) = (c :: (lit r).1, (lit r).2.1 + 1, (lit r).2.2) := by
  have hb : (decide (c.toNat ≠ 10) && !isP c) = false := by
    rcases h0 with h0 | h0 <;> simp [h0]
  cases r with
  | nil => simp only [lit, if_neg h, hb]; rfl
  | cons d r => simp only [lit, if_neg h, hb]; rfl

theorem lit_brace {c : UInt8} {r : Bs} (h : c.toNat = 123) (ho : opensB (c :: r) = false) : ∃ d r', r = d :: r' ∧ lit (c :: r) = (c :: (lit r').1, (lit r').2.1 + 2, (lit r').2.2) := by
  cases r with
  | nil => simp [opensB, h] at ho
  | cons d r =>
    have hd : d.toNat = 123 := by
      simp only [opensB, h, decide_true, Bool.true_and, Bool.not_eq_false', decide_eq_true_eq] at ho
      exact ho
    exact ⟨d, r, rfl, by simp [lit, h, hd]⟩

theorem lit_len : ∀ (n : Nat) (l : Bs), l.length ≤ n → (lit l).2.1 + (lit l).2.2.1.length = l.length ∧ (lit l).1.length ≤ l.length
  | 0, [], _ => by simp [lit]
  | n + 1, [], _ => by simp [lit]
  | n + 1, [c], _ => by
    simp only [lit]
    split
    · simp
    · split <;> simp
  | n + 1, c :: d :: r, h => by
    simp only [lit]
    split
    · split
      · have := lit_len n r (by simp at h; omega)
        simp only [List.length_cons]; omega
      · simp
    · split
      · simp
      · have := lit_len n (d :: r) (by simpa using h)
        simp only [List.length_cons] at this ⊢; omega

/-- A token as a value. -/
def tokV (t : Tk) : Value := .agg #[.int .i64 t.kind, .string ⟨t.text.toArray⟩, .int .i64 t.off]
def byteC (c : UInt8) : List Value := [.int .u8 c.toNat]
theorem byteC_len (c : UInt8) : (byteC c).length = 1 := rfl
theorem byteC_one (c : UInt8) : ∀ u ∈ byteC c, u.oneCell' = true := fun u hu => by simp [byteC] at hu; subst hu; rfl
theorem el5 : El Tryz.prog 5 (.int .u8 0) 1 1 := ⟨by kernel_rfl, rfl, by decide, by decide⟩

/-- The text of an own slice of bytes. -/
theorem run_text {w : World} {base : Nat} {v : Value} {l : Bs} (h : Own w base 5 1 byteC v l) (hne : l ≠ []) : (convert 64 9 v).run Tryz.prog w = .ok (.string ⟨l.toArray⟩) w := by
  obtain ⟨ao, cap, rfl, hr, -⟩ := h.row
  obtain ⟨b, off, rfl, hc⟩ := hr.at (by rw [flat_length _ 1 byteC_len]; cases l with | nil => exact absurd rfl hne | cons a l => simp)
  refine run_convert_bytes_back w _ _ _ ⟨b, off, none⟩ cap l Tryz.underlying64 Tryz.underlying5 Tryz.underlying9 (fun j hj => ?_)
  have f := flat_get byteC 1 byteC_len l j 0 l[j] (List.getElem?_eq_getElem hj) (by omega)
  rw [Addr.add_lit]
  exact hc j _ (by simpa [byteC] using f)

theorem cell_of' {w : World} {b : Nat} {cs : Array Value} {t : TypeId} {fr : Nat × Nat} (h : w.heap[b]? = some (.cells cs t fr)) (j : Nat) : w.cell? ⟨b, j, none⟩ = cs[j]? := by
  simp [World.cell?, h]
theorem free_of' {w : World} {b : Nat} {cs : Array Value} {t : TypeId} (h : w.heap[b]? = some (.cells cs t (0, 0))) (j : Nat) : w.frozen? ⟨b, j, none⟩ = false := by
  simp [World.frozen?, h]

theorem ret_cell_tmp {P : Program} {fn : Func} {p u : Tmp} {ty : TypeId} (h : fn.results = #[.cell p ty, .tmp u]) (tmps : Array Value) (w : World) (g : Nat) (t : TypeId) (cs : Array Value) (fr : Nat × Nat) (d : TypeDesc)
    (hp : tmps.getD p undef = .pointer (some ⟨g, 0, none⟩)) (hg : w.heap[g]? = some (.cells cs t fr))
    (hu : P.underlying ty = some d) (hd : (match d with | .struct _ | .array _ _ => true | _ => false) = true) (hi : (P.info? ty).map (·.size) = some cs.size) :
    (results fn tmps).run P w = .ok (.tuple #[.agg cs, tmps.getD u undef]) w := by
  rw [results_cell_tmp h, hp]
  simp [asAddr, run_loadVar_row w g t ty cs fr d hg hu hd hi, Result.andThen]

theorem setCell3 {w : World} {R : Nat} {a b c x y z : Value} {t : TypeId} {fr : Nat × Nat} (h : w.heap[R]? = some (.cells #[a, b, c] t fr)) :
    (((w.setCell ⟨R, 0, none⟩ x).setCell ⟨R, 1, none⟩ y).setCell ⟨R, 2, none⟩ z).heap[R]? = some (.cells #[x, y, z] t fr) := by
  have key : ∀ {w : World} {cs : Array Value} (j : Nat) (v : Value), w.heap[R]? = some (.cells cs t fr) → (w.setCell ⟨R, j, none⟩ v).heap[R]? = some (.cells (cs.setIfInBounds j v) t fr) := by
    intro w cs j v h
    simp only [World.setCell, Array.getElem?_modify, if_true]
    rw [h]
    simp
  exact key 2 z (key 1 y (key 0 x h))

theorem tok_size : (Tryz.prog.info? 77).map (·.size) = some 3 := by kernel_rfl

/-- What 'literal' answers. -/
def litR (l : Bs) (k : Nat) : Tk × Int := let x := lit l; if x.2.2.2 then (⟨1, x.1, k⟩, ((k + x.2.1 : Nat) : Int)) else (⟨0, [], k + x.2.1⟩, 0)

set_option maxRecDepth 100000 in
set_option maxHeartbeats 4000000 in
theorem literal_any (s : ByteArray) (k : Nat) (hk : k < s.size) (hs : s.size ≤ 1000) (ho : opensB (s.data.toList.drop k) = false) (w : World) :
    Calls Tryz.prog 60 #[.string s, .int .i64 k] w fun e w' => e = .returned (.tuple #[tokV (litR (s.data.toList.drop k) k).1, .int .i64 (litR (s.data.toList.drop k) k).2]) ∧ Ext w w' := by
  have hres := hid (show litR (s.data.toList.drop k) k = if (lit (s.data.toList.drop k)).2.2.2 then (⟨1, (lit (s.data.toList.drop k)).1, k⟩, ((k + (lit (s.data.toList.drop k)).2.1 : Nat) : Int)) else (⟨0, [], k + (lit (s.data.toList.drop k)).2.1⟩, 0) from rfl)
  generalize litR (s.data.toList.drop k) k = res at hres ⊢
  obtain ⟨L, hL⟩ : ∃ L, L = s.data.toList := ⟨_, rfl⟩
  have hLn : L.length = s.size := by rw [hL]; rfl
  rw [← hL] at ho hres
  replace hLn := hid hLn
  replace hL := hid hL
  replace ho := hid ho
  unfold tokV
  go_enter Tryz.func60, Tryz.ntmps60
  go_wp2_with fail
  have hxR := Mod.alloc (Mod.refl (fun _ => False) w) (.cells #[.int .i64 0, .string ⟨#[]⟩, .int .i64 0] 77)
  have hR0 := heap_alloc_new w (.cells #[.int .i64 0, .string ⟨#[]⟩, .int .i64 0] 77)
  generalize hR : w.heap.size = R at hR0 ⊢
  generalize (w.alloc (.cells #[.int .i64 0, .string ⟨#[]⟩, .int .i64 0] 77)) = w0 at hxR hR0 ⊢
  have hRle : w.heap.size ≤ R := Nat.le_of_eq hR
  replace hR := hid hR
  go_loopg [6, 7] (s.size - k) (fun g v e wr => ∃ (j : Nat) (pre : Bs), k ≤ j ∧ j + g = s.size ∧ e = .int .i64 j ∧ Own wr (R + 1) 5 1 byteC v pre ∧ wr.heap[R]? = some (.cells #[.int .i64 0, .string ⟨#[]⟩, .int .i64 0] 77 (0, 0)) ∧ Ext w wr ∧
      lit (L.drop k) = (pre ++ (lit (L.drop j)).1, (j - k) + (lit (L.drop j)).2.1, (lit (L.drop j)).2.2) ∧ pre.length ≤ j - k ∧ (j ≠ k → pre ≠ []))
  case atStart => exact ⟨k, [], Nat.le_refl _, by omega, rfl, Own.nil _ _ _ _ _, hR0, hxR, by simp, by simp, fun h => absurd rfl h⟩
  case round =>
    clear hxR hR0
    obtain ⟨j, pre, hkj, hj, rfl, hown, hRc, hx, hlit, hpl, hpn⟩ := hrel
    have hjs : j ≤ s.size := by omega
    have hRw := lt_of_at hRc
    have fz := free_of' hRc
    have q0 : wr.cell? ⟨R, 0, none⟩ = some (.int .i64 0) := cell_of' hRc 0
    have q1 : wr.cell? ⟨R, 1, none⟩ = some (.string ⟨#[]⟩) := cell_of' hRc 1
    have q2 : wr.cell? ⟨R, 2, none⟩ = some (.int .i64 0) := cell_of' hRc 2
    replace hj := hid hj
    replace hx := hid hx
    replace hRc := hid hRc
    by_cases hlt : j < s.size
    · have hdj : L.drop j = s[j] :: L.drop (j + 1) := by rw [hL.out]; exact drop_at s hlt
      have hop := opens_any s j hlt hs wr
      rw [← hL.out] at hop
      cases hb : opensB (L.drop j) with
      | true =>
        have hjk : j ≠ k := fun e => by rw [e, ho.out] at hb; cases hb
        rw [hb] at hop
        rw [hdj] at hb
        rw [hdj, lit_open hb] at hlit
        have ht := run_text hown (hpn hjk)
        rw [hlit] at hres
        simp only [List.append_nil, Nat.add_zero, if_true] at hres
        have hkj' : k + (j - k) = j := by omega
        rw [hkj'] at hres
        clear hkj'
        replace hop := hid hop
        replace hown := hid hown
        replace hlit := hid hlit
        replace hres := hid hres.out
        clear hb hdj hpn
        go_wp2_with fail
        refine hop.out.mono ?_; rintro e w' ⟨rfl, rfl⟩
        go_wp2_with fail
        refine bodyPost_ret (ret_cell_tmp rfl _ _ R _ _ _ _ rfl (setCell3 hRc.out) Tryz.underlying77 rfl tok_size) rfl ?_
        refine ⟨by rw [hres.out]; rfl, (((hx.out.setCell (fun h => by have : R < w.heap.size := h; omega) _).setCell (fun h => by have : R < w.heap.size := h; omega) _).setCell (fun h => by have : R < w.heap.size := h; omega) _)⟩
      | false =>
        rw [hb] at hop
        rw [hdj] at hb
        replace hop := hid hop
        cases h10 : (((s[j]).toNat : Int) == 10) with
        | false =>
          have hn10 : (((s[j]).toNat : Int) != 10) = true := by simp only [bne, h10]; rfl
          have hpr := printable_any s[j] wr
          cases hpb : isP s[j] with
          | false =>
            rw [hdj, lit_bad (by intro h; rw [h] at h10; simp at h10) hpb] at hlit
            rw [hlit] at hres
            simp only [Bool.false_eq_true, if_false, Nat.add_zero] at hres
            rw [hpb] at hpr
            have hkj' : k + (j - k) = j := by omega
            rw [hkj'] at hres
            replace hres := hid hres.out
            replace hpr := hid hpr
            replace hown := hid hown
            replace hlit := hid hlit
            clear hb hpb hdj hpn hkj'
            go_wp2_with fail
            refine hop.out.mono ?_; rintro e w' ⟨rfl, rfl⟩
            go_wp2_with fail
            refine hpr.out.mono ?_; rintro e w' ⟨rfl, rfl⟩
            go_wp2_with fail
            refine bodyPost_ret (ret_cell_tmp rfl _ _ R _ _ _ _ rfl (setCell3 hRc.out) Tryz.underlying77 rfl tok_size) rfl ?_
            refine ⟨by rw [hres.out]; rfl, (((hx.out.setCell (fun h => by have : R < w.heap.size := h; omega) _).setCell (fun h => by have : R < w.heap.size := h; omega) _).setCell (fun h => by have : R < w.heap.size := h; omega) _)⟩
          | true =>
            rw [hpb] at hpr
            by_cases h123 : (s[j]).toNat = 123
            · -- a brace that is doubled
              obtain ⟨d, r', hr', hst⟩ := lit_brace h123 hb
              rw [hdj, hst] at hlit
              have hbb : (((s[j]).toNat : Int) == 123) = true := by rw [h123]; rfl
              have hj1 : j + 1 < s.size := by
                have := congrArg List.length hr'
                rw [List.length_drop, hLn.out] at this
                simp at this; omega
              have hdr : L.drop (j + 2) = r' := by
                rw [show j + 2 = (j + 1) + 1 by omega, ← List.drop_drop, hr']; rfl
              rw [← hdr] at hlit
              replace hlit := hid hlit
              replace hown := hid hown
              replace hpr := hid hpr
              clear hb hdj hpn hst h123 hr' hdr
              go_wp2_with fail
              refine hop.out.mono ?_; rintro e w' ⟨rfl, rfl⟩
              go_wp2_with fail
              refine hpr.out.mono ?_; rintro e w' ⟨rfl, rfl⟩
              go_wp2_with (at_builtin; refine wpList_app rfl _ _ _ rfl Tryz.underlying64 el5 rfl (hown.out.ext ((Mod.refl _ _).alloc _)) _ 1 1 rfl [s[j]] rfl (by exact RowIs.new _ _ _) byteC_len (fun y _ => byteC_one y) (by simp only [List.length_singleton]; omega) (by rw [World.size_alloc]; omega) (by simp) (fun v6 w6 H6 => ?_); go_frame)
              go_roundg (gk - 2)
              case measure => have := hj.out; omega
              case rel => exact ⟨j + 2, pre ++ [s[j]], by omega, by have := hj.out; omega, by go_num, H6.out.1, (H6.out.2.at (((Mod.refl (fun _ => False) wr).alloc _).at hRc.out (fun h => h)) (fun e => by have := (hown.out.block R e).1; omega)), ((hx.out.alloc _).then H6.out.2 (fun k' hk' e => by have := (hown.out.block k' e).1; omega)), by rw [hlit.out]; simp only [List.append_assoc, List.singleton_append]; congr 2; omega, by simp only [List.length_append, List.length_singleton]; omega, fun _ => by simp⟩
            · have hst := lit_step (r := L.drop (j + 1)) h123 (.inr hpb)
              rw [hdj, hst] at hlit
              have hbb : (((s[j]).toNat : Int) == 123) = false := by rw [beq_eq_false_iff_ne]; omega
              replace hlit := hid hlit
              replace hown := hid hown
              replace hpr := hid hpr
              clear hb hdj hpn hst h123
              go_wp2_with fail
              refine hop.out.mono ?_; rintro e w' ⟨rfl, rfl⟩
              go_wp2_with fail
              refine hpr.out.mono ?_; rintro e w' ⟨rfl, rfl⟩
              go_wp2_with (at_builtin; refine wpList_app rfl _ _ _ rfl Tryz.underlying64 el5 rfl (hown.out.ext ((Mod.refl _ _).alloc _)) _ 1 1 rfl [s[j]] rfl (by exact RowIs.new _ _ _) byteC_len (fun y _ => byteC_one y) (by simp only [List.length_singleton]; omega) (by rw [World.size_alloc]; omega) (by simp) (fun v6 w6 H6 => ?_); go_frame)
              go_roundg (gk - 1)
              case measure => have := hj.out; omega
              case rel => exact ⟨j + 1, pre ++ [s[j]], by omega, by have := hj.out; omega, by go_num, H6.out.1, (H6.out.2.at (((Mod.refl (fun _ => False) wr).alloc _).at hRc.out (fun h => h)) (fun e => by have := (hown.out.block R e).1; omega)), ((hx.out.alloc _).then H6.out.2 (fun k' hk' e => by have := (hown.out.block k' e).1; omega)), by rw [hlit.out]; simp only [List.append_assoc, List.singleton_append]; congr 2; omega, by simp only [List.length_append, List.length_singleton]; omega, fun _ => by simp⟩
        | true =>
          have hn10 : (((s[j]).toNat : Int) != 10) = false := by simp only [bne, h10]; rfl
          by_cases h123 : (s[j]).toNat = 123
          · -- a brace that is doubled
            obtain ⟨d, r', hr', hst⟩ := lit_brace h123 hb
            rw [hdj, hst] at hlit
            have hbb : (((s[j]).toNat : Int) == 123) = true := by rw [h123]; rfl
            have hj1 : j + 1 < s.size := by
              have := congrArg List.length hr'
              rw [List.length_drop, hLn.out] at this
              simp at this; omega
            have hdr : L.drop (j + 2) = r' := by
              rw [show j + 2 = (j + 1) + 1 by omega, ← List.drop_drop, hr']; rfl
            rw [← hdr] at hlit
            replace hlit := hid hlit
            replace hown := hid hown
            skip
            clear hb hdj hpn hst h123 hr' hdr
            go_wp2_with fail
            refine hop.out.mono ?_; rintro e w' ⟨rfl, rfl⟩
            skip
            go_wp2_with (at_builtin; refine wpList_app rfl _ _ _ rfl Tryz.underlying64 el5 rfl (hown.out.ext ((Mod.refl _ _).alloc _)) _ 1 1 rfl [s[j]] rfl (by exact RowIs.new _ _ _) byteC_len (fun y _ => byteC_one y) (by simp only [List.length_singleton]; omega) (by rw [World.size_alloc]; omega) (by simp) (fun v6 w6 H6 => ?_); go_frame)
            go_roundg (gk - 2)
            case measure => have := hj.out; omega
            case rel => exact ⟨j + 2, pre ++ [s[j]], by omega, by have := hj.out; omega, by go_num, H6.out.1, (H6.out.2.at (((Mod.refl (fun _ => False) wr).alloc _).at hRc.out (fun h => h)) (fun e => by have := (hown.out.block R e).1; omega)), ((hx.out.alloc _).then H6.out.2 (fun k' hk' e => by have := (hown.out.block k' e).1; omega)), by rw [hlit.out]; simp only [List.append_assoc, List.singleton_append]; congr 2; omega, by simp only [List.length_append, List.length_singleton]; omega, fun _ => by simp⟩
          · have hst := lit_step (r := L.drop (j + 1)) h123 (.inl (by have : ((s[j]).toNat : Int) = 10 := (by simpa using h10); omega))
            rw [hdj, hst] at hlit
            have hbb : (((s[j]).toNat : Int) == 123) = false := by rw [beq_eq_false_iff_ne]; omega
            replace hlit := hid hlit
            replace hown := hid hown
            skip
            clear hb hdj hpn hst h123
            go_wp2_with fail
            refine hop.out.mono ?_; rintro e w' ⟨rfl, rfl⟩
            skip
            go_wp2_with (at_builtin; refine wpList_app rfl _ _ _ rfl Tryz.underlying64 el5 rfl (hown.out.ext ((Mod.refl _ _).alloc _)) _ 1 1 rfl [s[j]] rfl (by exact RowIs.new _ _ _) byteC_len (fun y _ => byteC_one y) (by simp only [List.length_singleton]; omega) (by rw [World.size_alloc]; omega) (by simp) (fun v6 w6 H6 => ?_); go_frame)
            go_roundg (gk - 1)
            case measure => have := hj.out; omega
            case rel => exact ⟨j + 1, pre ++ [s[j]], by omega, by have := hj.out; omega, by go_num, H6.out.1, (H6.out.2.at (((Mod.refl (fun _ => False) wr).alloc _).at hRc.out (fun h => h)) (fun e => by have := (hown.out.block R e).1; omega)), ((hx.out.alloc _).then H6.out.2 (fun k' hk' e => by have := (hown.out.block k' e).1; omega)), by rw [hlit.out]; simp only [List.append_assoc, List.singleton_append]; congr 2; omega, by simp only [List.length_append, List.length_singleton]; omega, fun _ => by simp⟩
    · obtain rfl : j = s.size := by omega
      have hjk : s.size ≠ k := by omega
      have hdj : L.drop s.size = [] := List.drop_eq_nil_of_le (by rw [hLn.out]; exact Nat.le_refl _)
      rw [hdj] at hlit
      have ht := run_text hown (hpn hjk)
      rw [hlit] at hres
      simp only [lit, List.append_nil, Nat.add_zero, if_true] at hres
      have hkj' : k + (s.size - k) = s.size := by omega
      rw [hkj'] at hres
      clear hkj'
      replace hown := hid hown
      replace hlit := hid hlit
      replace hres := hid hres.out
      clear hdj hpn
      go_wp2_with fail
      refine bodyPost_ret (ret_cell_tmp rfl _ _ R _ _ _ _ rfl (setCell3 hRc.out) Tryz.underlying77 rfl tok_size) rfl ?_
      refine ⟨by rw [hres.out]; rfl, (((hx.out.setCell (fun h => by have : R < w.heap.size := h; omega) _).setCell (fun h => by have : R < w.heap.size := h; omega) _).setCell (fun h => by have : R < w.heap.size := h; omega) _)⟩
end Go.Proofs.YtpgniljgaknlpaaGreatDoor
