import Derived.Test.YtpgniljgaknlpaaGreatDoorK25
/-
  The law's own functions: 'pick', the feed's 'next' and 'word'.
-/
namespace Go.Proofs.YtpgniljgaknlpaaGreatDoor
open Go.RowKit Cdk Tpl

/-- 'pick'. -/
def pickS (c : Int) (n : Nat) : Nat := ((if c < 0 then -(c + 1) else c) % (n : Int)).toNat

theorem pickS_lt (c : Int) {n : Nat} (h : 0 < n) : pickS c n < n := by
  unfold pickS
  have h1 := Int.emod_lt_of_pos (if c < 0 then -(c + 1) else c) (show (0 : Int) < n by omega)
  have h2 := Int.emod_nonneg (if c < 0 then -(c + 1) else c) (show (n : Int) ≠ 0 by omega)
  omega

theorem pickS_int (c : Int) {n : Nat} (h : 0 < n) : ((pickS c n : Nat) : Int) = (if c < 0 then -(c + 1) else c) % (n : Int) := by
  unfold pickS
  have h2 := Int.emod_nonneg (if c < 0 then -(c + 1) else c) (show (n : Int) ≠ 0 by omega)
  omega

theorem pick_any (c : Int) (n : Nat) (w : World) (h1 : -9223372036854775808 ≤ c) (h2 : c ≤ 9223372036854775807) (hn : 0 < n) (hn2 : n ≤ 9223372036854775807) :
    Calls Tryz.prog 20 #[.int .i64 c, .int .i64 n] w fun e w' => e = .returned (.int .i64 (pickS c n)) ∧ w = w' := by
  have hp := pickS_int c hn
  generalize pickS c n = r at hp ⊢
  have hnz : ((n : Int) == 0) = false := by rw [beq_eq_false_iff_ne]; omega
  have hnz' : ¬ (n : Int) = 0 := by omega
  have hn0 : (0 : Int) < n := by omega
  by_cases hc : c < 0
  · rw [if_pos hc] at hp
    replace hp := hid hp
    go_enter Tryz.func20, Tryz.ntmps20
    go_wp2
    go_ret
    refine ⟨?_, rfl⟩
    have e1 : -((c + 1).tmod (n : Int)) = (r : Int) := by rw [hp.out, ← Int.neg_tmod, Int.tmod_eq_emod_of_nonneg (by omega)]
    show Ending.returned (Value.int .i64 (-((c + 1).tmod (n : Int)))) = _
    rw [e1]
  · rw [if_neg hc] at hp
    replace hp := hid hp
    go_enter Tryz.func20, Tryz.ntmps20
    go_wp2
    go_ret
    refine ⟨?_, rfl⟩
    rw [hp.out]
    rfl

def intC (z : Int) : List Value := [.int .i64 z]
theorem intC_len (z : Int) : (intC z).length = 1 := rfl

/-- The feed at block K: the numbers, how many were taken; it and its numbers lie below block B. -/
structure Fe (B K : Nat) (xs : List Int) (at_ : Nat) (w : World) : Prop where
  cell : ∃ ao cap, w.heap[K]? = some (.cells #[.slice ao xs.length cap, .int .i64 at_] 62 (0, 0)) ∧ RowIs w ao (xs.flatMap intC) ∧ (xs ≠ [] → ∀ b off, ao = some ⟨b, off, none⟩ → b < B ∧ b ≠ K)
  low : K < B
  vals : ∀ z ∈ xs, -9223372036854775808 ≤ z ∧ z ≤ 9223372036854775807
  len : xs.length ≤ 9223372036854775807
  small : at_ ≤ 4611686018427387904

/-- What 'next' answers. -/
def nextS (xs : List Int) (at_ n : Nat) : Nat := match xs[at_]? with | some c => if at_ < 40 then pickS c n else 0 | none => 0

theorem row_new {S : Nat → Prop} {B K : Nat} {xs : List Int} {ao : Option Addr} {w w' : World} (h : RowIs w ao (xs.flatMap intC)) (hb : xs ≠ [] → ∀ b off, ao = some ⟨b, off, none⟩ → b < B ∧ b ≠ K) (hm : Mod S w w') (hS : ∀ k, S k → B ≤ k ∨ k = K) : RowIs w' ao (xs.flatMap intC) := by
  by_cases hx : xs = []
  · subst hx; exact RowIs.nil _ _
  · exact h.mod hm (fun b off e e' => by have := hb hx b off e; rcases hS b e' with h | h <;> omega)

theorem Fe.mod {S : Nat → Prop} {B K : Nat} {xs : List Int} {at_ : Nat} {w w' : World} (h : Fe B K xs at_ w) (hm : Mod S w w') (hS : ∀ k, S k → B ≤ k) : Fe B K xs at_ w' := by
  obtain ⟨ao, cap, h1, h2, h3⟩ := h.cell
  have hl := h.low
  exact ⟨⟨ao, cap, hm.at h1 (fun e => by have := hS _ e; omega), row_new h2 h3 hm (fun k e => .inl (hS k e)), h3⟩, h.low, h.vals, h.len, h.small⟩
theorem Fe.ext {B K : Nat} {xs : List Int} {at_ : Nat} {w w' : World} (h : Fe B K xs at_ w) (hm : Ext w w') : Fe B K xs at_ w' := h.mod hm (fun _ h => h.elim)

set_option maxRecDepth 100000 in
set_option maxHeartbeats 4000000 in
theorem next_any {B K : Nat} {xs : List Int} {at_ : Nat} (n : Nat) (w : World) (h : Fe B K xs at_ w) (hs : at_ < 4611686018427387904) (hn : 0 < n) (hn2 : n ≤ 1000000) :
    Calls Tryz.prog 46 #[.pointer (some ⟨K, 0, none⟩), .int .i64 n] w fun e w' => e = .returned (.int .i64 (nextS xs at_ n)) ∧ Fe B K xs (at_ + 1) w' ∧ Mod (Eq K) w w' := by
  obtain ⟨ao, cap, hK, hrow, hap⟩ := h.cell
  have hxl := h.len
  have hvals := h.vals
  obtain ⟨l, hl⟩ : ∃ l, l = xs.length := ⟨_, rfl⟩
  rw [← hl] at hK hxl
  have c0 : w.cell? ⟨K, 0, none⟩ = some (.slice ao l cap) := cell_of' hK 0
  have c1 : w.cell? ⟨K, 1, none⟩ = some (.int .i64 at_) := cell_of' hK 1
  have z := free_of' hK
  obtain ⟨r, hr⟩ : ∃ r, r = nextS xs at_ n := ⟨_, rfl⟩
  rw [← hr]
  -- the world behind the count
  have hK1 := put_at hK 1 (.int .i64 ((at_ : Int) + 1))
  simp only [List.setIfInBounds_toArray, List.set_cons_zero, List.set_cons_succ] at hK1
  have hm1 := (Mod.refl (Eq K) w).setCell (a := ⟨K, 1, none⟩) (fun _ => rfl) (.int .i64 ((at_ : Int) + 1))
  have hrow1 : RowIs (w.setCell ⟨K, 1, none⟩ (.int .i64 ((at_ : Int) + 1))) ao (xs.flatMap intC) := row_new hrow hap hm1 (fun k e => .inr e.symm)
  have hfin : ∀ q, Hid (Fe B K xs (at_ + 1) ((w.setCell ⟨K, 1, none⟩ (.int .i64 ((at_ : Int) + 1))).drewN q) ∧ Mod (Eq K) w ((w.setCell ⟨K, 1, none⟩ (.int .i64 ((at_ : Int) + 1))).drewN q)) := fun q => hid ⟨⟨⟨ao, cap, by rw [← hl]; exact hK1, hrow1.ext ((Mod.refl _ _).ofDrewN q), hap⟩, h.low, h.vals, h.len, by omega⟩, hm1.ofDrewN q⟩
  replace hr := hid hr
  replace hl := hid hl
  replace hvals := hid hvals
  replace h := hid h
  replace hK := hid hK
  replace hrow := hid hrow
  replace hap := hid hap
  by_cases hlt : at_ < l
  · have hd1 : decide ((l : Int) < (at_ : Int) + 1) = false := decide_eq_false (by omega)
    have hi1 : ¬ (l : Int) < (at_ : Int) + 1 := by omega
    by_cases h40 : at_ < 40
    · have hd2 : decide ((40 : Int) < (at_ : Int) + 1) = false := decide_eq_false (by omega)
      have hi2 : ¬ (40 : Int) < (at_ : Int) + 1 := by omega
      go_enter Tryz.func46, Tryz.ntmps46
      go_wp2_with fail
      clear c0 c1 z
      have k0 : (w.setCell ⟨K, 1, none⟩ (.int .i64 ((at_ : Int) + 1))).cell? ⟨K, 0, none⟩ = some (.slice ao l cap) := cell_of' hK1 0
      have k1 : (w.setCell ⟨K, 1, none⟩ (.int .i64 ((at_ : Int) + 1))).cell? ⟨K, 1, none⟩ = some (.int .i64 ((at_ : Int) + 1)) := cell_of' hK1 1
      generalize (w.setCell ⟨K, 1, none⟩ (.int .i64 ((at_ : Int) + 1))) = w1 at hfin hrow1 hK1 k0 k1 ⊢
      replace hK1 := hid hK1
      have hlx : at_ < xs.length := by have := hl.out; omega
      obtain ⟨c, hc⟩ : ∃ c, c = xs[at_] := ⟨_, rfl⟩
      obtain ⟨v1, v2⟩ := hvals.out xs[at_] (List.getElem_mem hlx)
      have hrc : Hid (r = pickS c n) := hid (by rw [hr.out]; unfold nextS; rw [List.getElem?_eq_getElem hlx, ← hc]; simp [h40])
      obtain ⟨b, off, rfl, hcl⟩ := hrow1.at (by rw [flat_length _ 1 intC_len]; omega)
      have g0 := hcl _ _ ((flat_get intC 1 intC_len xs at_ 0 xs[at_] (List.getElem?_eq_getElem hlx) (by omega)).trans rfl)
      simp only [Nat.mul_one, Nat.add_zero] at g0
      rw [← hc] at g0 v1 v2
      clear hcl
      replace hrow1 := hid hrow1
      have hpk := fun w => hid ((pick_any c n w v1 v2 hn (by omega)).mono (R' := fun e w' => e = .returned (.int .i64 (pickS c n)) ∧ w' = w) fun e w' ⟨h1, h2⟩ => ⟨h1, h2.symm⟩)
      rw [← hrc.out] at hpk
      replace hc := hid hc
      go_quiet (fail)
      go_wp2_with fail
      have e1 : IntKind.i64.wrap ((at_ : Int) + 1 - 1) = (at_ : Int) := by rw [Int.add_sub_cancel]; exact IntWalk.i64_in _ (by omega)
      have e2 : IntKind.i64.wrap (at_ : Int) = (at_ : Int) := IntWalk.i64_in _ (by omega)
      have hi3 : (0 : Int) ≤ (at_ : Int) := by omega
      have hi4 : (at_ : Int) < (l : Int) := by omega
      have hd := (Mod.refl (fun _ => False) w1).ofDrewN nq |>.drew
      refine wp_region_sched (fun w' => w'.cell? ⟨K, 0, none⟩ = some (.slice (some ⟨b, off, none⟩) l cap) ∧ w'.cell? ⟨K, 1, none⟩ = some (.int .i64 ((at_ : Int) + 1)) ∧ w'.cell? ⟨b, off + at_, none⟩ = some (.int .i64 c)) [(0, true), (1, true), (2, true), (3, true), (4, true), (5, true), (6, true), (7, true), (8, true), (9, true), (10, true), (11, true), (12, false), (13, true)] (by as_aux_lemma => kernel_rfl) (by as_aux_lemma => kernel_rfl) (by as_aux_lemma => kernel_rfl) (by decide) ⟨hd.cell k0 (fun h => h), hd.cell k1 (fun h => h), hd.cell g0 (fun h => h)⟩ ?_
      simp only [schedOps, List.map_cons, List.map_nil, List.getD_cons_zero, List.getD_cons_succ]
      repeat (first | (refine wpS_q (by rfl) ?_ (fun w' hC => ?_) ?_; rotate_left; (go_simp; try with_reducible rfl); try simp only [Act.put, List.setIfInBounds_toArray, List.set_cons_zero, List.set_cons_succ]))
      refine wpS_c (by rfl) (fun K hK => ?_)
      go_simp
      refine ((hpk _).out).mono ?_; rintro e w' ⟨rfl, rfl⟩
      refine hK.out _ _ ⟨hd.cell k0 (fun h => h), hd.cell k1 (fun h => h), hd.cell g0 (fun h => h)⟩ ?_
      clear hK K
      try simp only [Act.put, List.setIfInBounds_toArray, List.set_cons_zero, List.set_cons_succ]
      repeat (first | (refine wpS_q (by rfl) ?_ (fun w' hC => ?_) ?_; rotate_left; (go_simp; try with_reducible rfl); try simp only [Act.put, List.setIfInBounds_toArray, List.set_cons_zero, List.set_cons_succ]))
      refine wpS_nil ?_
      go_wp2
      go_ret
      exact ⟨rfl, (hfin (nq + 1)).out⟩
    · have hd2 : decide ((40 : Int) < (at_ : Int) + 1) = true := decide_eq_true (by omega)
      have hi2 : (40 : Int) < (at_ : Int) + 1 := by omega
      have hr0 : Hid (r = 0) := hid (by rw [hr.out]; unfold nextS; split <;> simp [h40])
      go_enter Tryz.func46, Tryz.ntmps46
      go_wp2_with fail
      clear c0 c1 z
      have k0 : (w.setCell ⟨K, 1, none⟩ (.int .i64 ((at_ : Int) + 1))).cell? ⟨K, 0, none⟩ = some (.slice ao l cap) := cell_of' hK1 0
      have k1 : (w.setCell ⟨K, 1, none⟩ (.int .i64 ((at_ : Int) + 1))).cell? ⟨K, 1, none⟩ = some (.int .i64 ((at_ : Int) + 1)) := cell_of' hK1 1
      generalize (w.setCell ⟨K, 1, none⟩ (.int .i64 ((at_ : Int) + 1))) = w1 at hfin hrow1 hK1 k0 k1 ⊢
      replace hK1 := hid hK1
      go_quiet (fail)
      go_wp2
      go_ret
      exact ⟨by rw [hr0.out]; rfl, (hfin _).out⟩
  · have hd1 : decide ((l : Int) < (at_ : Int) + 1) = true := decide_eq_true (by omega)
    have hi1 : (l : Int) < (at_ : Int) + 1 := by omega
    have hr0 : Hid (r = 0) := hid (by rw [hr.out]; unfold nextS; rw [List.getElem?_eq_none (by have := hl.out; omega)])
    go_enter Tryz.func46, Tryz.ntmps46
    go_wp2_with fail
    clear c0 c1 z
    have k0 : (w.setCell ⟨K, 1, none⟩ (.int .i64 ((at_ : Int) + 1))).cell? ⟨K, 0, none⟩ = some (.slice ao l cap) := cell_of' hK1 0
    have k1 : (w.setCell ⟨K, 1, none⟩ (.int .i64 ((at_ : Int) + 1))).cell? ⟨K, 1, none⟩ = some (.int .i64 ((at_ : Int) + 1)) := cell_of' hK1 1
    generalize (w.setCell ⟨K, 1, none⟩ (.int .i64 ((at_ : Int) + 1))) = w1 at hfin hrow1 hK1 k0 k1 ⊢
    replace hK1 := hid hK1
    go_quiet (fail)
    go_wp2
    go_ret
    exact ⟨by rw [hr0.out]; rfl, (hfin _).out⟩

def fWords : List Bs := [[110, 97, 109, 101], [116, 105, 116, 108, 101], [97], [120, 45, 49], [117, 112, 112, 101, 114], [101, 110, 100], [102, 111, 114], [98, 50]]
def wordS (xs : List Int) (at_ : Nat) : Bs := fWords.getD (nextS xs at_ 8) []

theorem nextS_lt (xs : List Int) (at_ : Nat) {n : Nat} (h : 0 < n) : nextS xs at_ n < n := by
  unfold nextS
  split
  · split
    · exact pickS_lt _ h
    · exact h
  · exact h

/-- A word of a slice of strings that has just been made. -/
theorem str_pick {w w' : World} {z : Nat} {l : List Bs} (hz : w.heap[z]? = some (.cells (l.map strV).toArray 9)) (hm : Mod (fun k => k ≠ z) w w') {i : Nat} (hi : i < l.length) : w'.cell? ⟨z, i, none⟩ = some (.string ⟨(l.getD i []).toArray⟩) := by
  rw [cell_of' (hm.at hz (fun h => h rfl)) i]
  simp [strV, hi]

set_option maxRecDepth 100000 in
set_option maxHeartbeats 4000000 in
theorem fword_any {B K : Nat} {xs : List Int} {at_ : Nat} (w : World) (h : Fe B K xs at_ w) (hs : at_ < 4611686018427387904) :
    Calls Tryz.prog 47 #[.pointer (some ⟨K, 0, none⟩)] w fun e w' => e = .returned (strV (wordS xs at_)) ∧ Fe B K xs (at_ + 1) w' ∧ Mod (Eq K) w w' := by
  obtain ⟨ao, cap, hK, -, -⟩ := h.cell
  have hKl := lt_of_at hK
  have hlt := nextS_lt xs at_ (n := 8) (by omega)
  obtain ⟨r, hr⟩ : ∃ r, r = wordS xs at_ := ⟨_, rfl⟩
  rw [← hr]
  unfold strV
  have hri : Hid (r = fWords.getD (nextS xs at_ 8) []) := hid hr
  clear hr
  have hz := heap_alloc_new w (.cells (fWords.map strV).toArray 9)
  have hx := Mod.alloc (Mod.refl (fun _ => False) w) (.cells (fWords.map strV).toArray 9)
  have hn := hid (next_any 8 _ (h.ext hx) hs (by omega) (by omega))
  generalize nextS xs at_ 8 = i at hn hlt hri
  replace h := hid h
  replace hK := hid hK
  replace hz := hid hz
  replace hx := hid hx
  go_enter Tryz.func47, Tryz.ntmps47
  go_wp2_with fail
  refine hn.out.mono ?_
  rintro e w' ⟨rfl, hf, hm⟩
  have g := str_pick hz.out (hm.mono (fun k hk e => by have : K = k := hk; omega)) (show i < fWords.length from hlt)
  rw [← hri.out] at g
  have hi8 : (i : Int) < 8 := by omega
  have hi0 : (0 : Int) ≤ (i : Int) := by omega
  have hfin := hid ((hx.out.mono (T := Eq K) (fun _ h => h.elim)).trans hm)
  replace hf := hid hf
  replace hm := hid hm
  go_wp2_with fail
  go_ret
  exact ⟨rfl, hf.out, hfin.out⟩
end Go.Proofs.YtpgniljgaknlpaaGreatDoor
