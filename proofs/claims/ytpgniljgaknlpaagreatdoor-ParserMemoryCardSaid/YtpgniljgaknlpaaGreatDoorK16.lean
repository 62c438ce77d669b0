import Derived.Test.YtpgniljgaknlpaaGreatDoorK15
import Derived.Test.YtpgniljgaknlpaaGreatDoorShelf
import Derived.Lib.AppendStr
/-
  The printer's 'only' and 'put'.
-/
namespace Go.Proofs.YtpgniljgaknlpaaGreatDoor
open Go.RowKit Cdk Tpl

/-- What the library's calls ask of the package-level variables. -/
structure Gl (w : World) : Prop where
  tab : Lib.TabIs Tryz.prog w "internal/strconv.uint64pow10" .u64 Lib.pow10Tab
  mx : ∃ m : Int, w.cell? ⟨2, 0, none⟩ = some (.int .i64 m)
  size : 2 + 5 < w.heap.size

/-- The package-level variables lie below this block. -/
abbrev glN : Nat := 2 + 5 + 1

theorem pow_named : Tryz.prog.globalNamed "internal/strconv.uint64pow10" = some 5 := by kernel_rfl

theorem Gl.mod {S : Nat → Prop} {w w' : World} (h : Gl w) (hm : Mod S w w') (hS : ∀ k, S k → glN ≤ k) : Gl w' := by
  have hs := h.size
  refine ⟨?_, ?_, by have := hm.size; omega⟩
  · have ht := h.tab
    unfold Lib.TabIs World.var? at ht ⊢
    rw [pow_named] at ht ⊢
    simp only [Option.bind_some] at ht ⊢
    rw [hm.block 5 (by omega) (fun e => by have := hS _ e; unfold glN at this; omega)]
    exact ht
  · obtain ⟨m, hc⟩ := h.mx
    exact ⟨m, hm.cell hc (fun e => by have := hS _ e; unfold glN at this; simp only at this; omega)⟩
theorem Gl.ext {w w' : World} (h : Gl w) (hm : Ext w w') : Gl w' := h.mod hm (fun _ h => h.elim)

/-- The printer at block P: its text; what it writes lies from base on. -/
structure Pr (base P : Nat) (tx : Bs) (w : World) : Prop where
  cell : ∃ v, w.heap[P]? = some (.cells #[v] 66 (0, 0)) ∧ Cdk.Own w base 5 1 byteC v tx
  low : base ≤ P
  len : tx.length ≤ 1000
  gl : Gl w
  bl : glN ≤ base

theorem Pr.mod {base P : Nat} {tx : Bs} {S : Nat → Prop} {w w' : World} (h : Pr base P tx w) (hm : Mod S w w') (hS : ∀ k, S k → w.heap.size ≤ k) : Pr base P tx w' := by
  obtain ⟨v, h1, h2⟩ := h.cell
  have hP := lt_of_at h1
  exact ⟨⟨v, hm.at h1 (fun e => by have := hS _ e; omega), h2.mod hm (fun k hk e => by have := (h2.block k hk).2; have := hS _ e; omega)⟩, h.low, h.len, h.gl.mod hm (fun k e => by have := hS k e; have := h.gl.size; unfold glN; omega), h.bl⟩
theorem Pr.ext {base P : Nat} {tx : Bs} {w w' : World} (h : Pr base P tx w) (hm : Ext w w') : Pr base P tx w' := h.mod hm (fun _ h => h.elim)

/-- What the printer leaves as it is: all below base; and all that is no bytes, but the printer's own cell. -/
def Kp (base P : Nat) (w w' : World) : Prop := Mod (fun k => base ≤ k) w w' ∧ ∀ k cs t fr, w.heap[k]? = some (.cells cs t fr) → t ≠ 5 → k ≠ P → w'.heap[k]? = some (.cells cs t fr)

theorem Kp.ofExt {w w' : World} (base P : Nat) (h : Ext w w') : Kp base P w w' := ⟨h.mono (fun _ h => h.elim), fun _ _ _ _ hk _ _ => h.at hk (fun h => h)⟩
theorem Kp.trans {base P : Nat} {w w' w'' : World} (h : Kp base P w w') (k : Kp base P w' w'') : Kp base P w w'' := ⟨h.1.trans k.1, fun j cs t fr hj ht hP => k.2 j cs t fr (h.2 j cs t fr hj ht hP) ht hP⟩
theorem Kp.ext {base P : Nat} {w w' w'' : World} (h : Kp base P w w') (k : Ext w' w'') : Kp base P w w'' := h.trans (.ofExt base P k)

/-- What a part of the printer answers. -/
def PrP (base P : Nat) (w : World) (ok : Bool) (tx : Bs) (e : Ending) (w' : World) : Prop :=
  (ok = true ∧ e = .returned (.tuple #[]) ∧ Pr base P tx w' ∧ Kp base P w w') ∨ (ok = false ∧ e = .panicked [invE] ∧ Mod (fun k => base ≤ k) w w')

set_option maxRecDepth 100000 in
set_option maxHeartbeats 4000000 in
theorem only_any (k1 k2 : Int) (t1 t2 n1 n2 a1 a2 : Bs) (c1 c2 : Int) (p1 p2 q1 q2 r1 r2 : Option Addr) (l1 l2 m1 m2 o1 o2 x1 x2 y1 y2 z1 z2 : Nat) (w : World) :
    Calls Tryz.prog 54 #[.agg #[.int .i64 k1, .string ⟨t1.toArray⟩, .string ⟨n1.toArray⟩, .string ⟨a1.toArray⟩, .int .i64 c1, .slice p1 l1 x1, .slice q1 m1 y1, .slice r1 o1 z1], .agg #[.int .i64 k2, .string ⟨t2.toArray⟩, .string ⟨n2.toArray⟩, .string ⟨a2.toArray⟩, .int .i64 c2, .slice p2 l2 x2, .slice q2 m2 y2, .slice r2 o2 z2]] w fun e w' =>
      e = .returned (.bool (decide (t1 = t2) && (decide (n1 = n2) && (decide (a1 = a2) && (decide (c1 = c2) && (decide (l1 = l2) && (decide (m1 = m2) && decide (o1 = o2)))))))) ∧ Ext w w' := by
  have hx := ((Mod.refl (fun _ => False) w).alloc (.cells #[.int .i64 k1, .string ⟨t1.toArray⟩, .string ⟨n1.toArray⟩, .string ⟨a1.toArray⟩, .int .i64 c1, .slice p1 l1 x1, .slice q1 m1 y1, .slice r1 o1 z1] 36)).alloc (.cells #[.int .i64 k2, .string ⟨t2.toArray⟩, .string ⟨n2.toArray⟩, .string ⟨a2.toArray⟩, .int .i64 c2, .slice p2 l2 x2, .slice q2 m2 y2, .slice r2 o2 z2] 36)
  have g1 : (t1 == t2) = decide (t1 = t2) := by rw [Bool.eq_iff_iff, decide_eq_true_eq, beq_iff_eq]
  have g2 : (n1 == n2) = decide (n1 = n2) := by rw [Bool.eq_iff_iff, decide_eq_true_eq, beq_iff_eq]
  have g3 : (a1 == a2) = decide (a1 = a2) := by rw [Bool.eq_iff_iff, decide_eq_true_eq, beq_iff_eq]
  have g4 : (c1 == c2) = decide (c1 = c2) := by rw [Bool.eq_iff_iff, decide_eq_true_eq, beq_iff_eq]
  have g5 : ((l1 : Int) == (l2 : Int)) = decide (l1 = l2) := by rw [Bool.eq_iff_iff, decide_eq_true_eq, beq_iff_eq]; omega
  have j5 : (l1 == l2) = decide (l1 = l2) := by rw [Bool.eq_iff_iff, decide_eq_true_eq, beq_iff_eq]
  have g6 : ((m1 : Int) == (m2 : Int)) = decide (m1 = m2) := by rw [Bool.eq_iff_iff, decide_eq_true_eq, beq_iff_eq]; omega
  have j6 : (m1 == m2) = decide (m1 = m2) := by rw [Bool.eq_iff_iff, decide_eq_true_eq, beq_iff_eq]
  have g7 : ((o1 : Int) == (o2 : Int)) = decide (o1 = o2) := by rw [Bool.eq_iff_iff, decide_eq_true_eq, beq_iff_eq]; omega
  have j7 : (o1 == o2) = decide (o1 = o2) := by rw [Bool.eq_iff_iff, decide_eq_true_eq, beq_iff_eq]
  generalize decide (t1 = t2) = b1 at g1 ⊢
  generalize decide (n1 = n2) = b2 at g2 ⊢
  generalize decide (a1 = a2) = b3 at g3 ⊢
  generalize decide (c1 = c2) = b4 at g4 ⊢
  generalize decide (l1 = l2) = b5 at g5 j5 ⊢
  generalize decide (m1 = m2) = b6 at g6 j6 ⊢
  generalize decide (o1 = o2) = b7 at g7 j7 ⊢
  replace hx := hid hx
  cases b1 with
  | false =>
    go_enter Tryz.func54, Tryz.ntmps54
    go_wp2
    go_ret
    exact ⟨rfl, hx.out⟩
  | true =>
    cases b2 with
    | false =>
      go_enter Tryz.func54, Tryz.ntmps54
      go_wp2
      go_ret
      exact ⟨rfl, hx.out⟩
    | true =>
      cases b3 with
      | false =>
        go_enter Tryz.func54, Tryz.ntmps54
        go_wp2
        go_ret
        exact ⟨rfl, hx.out⟩
      | true =>
        cases b4 with
        | false =>
          go_enter Tryz.func54, Tryz.ntmps54
          go_wp2
          go_ret
          exact ⟨rfl, hx.out⟩
        | true =>
          cases b5 with
          | false =>
            go_enter Tryz.func54, Tryz.ntmps54
            go_wp2
            go_ret
            exact ⟨rfl, hx.out⟩
          | true =>
            cases b6 with
            | false =>
              go_enter Tryz.func54, Tryz.ntmps54
              go_wp2
              go_ret
              exact ⟨rfl, hx.out⟩
            | true =>
              cases b7 with
              | false =>
                go_enter Tryz.func54, Tryz.ntmps54
                go_wp2
                go_ret
                exact ⟨rfl, hx.out⟩
              | true =>
                go_enter Tryz.func54, Tryz.ntmps54
                go_wp2
                go_ret
                exact ⟨rfl, hx.out⟩

theorem byte_cells (l : Bs) : Lib.strCells ⟨l.toArray⟩ = l.flatMap byteC := by
  unfold Lib.strCells
  induction l with
  | nil => rfl
  | cons c l ih => simp only [List.map_cons, List.flatMap_cons, byteC, List.singleton_append] at ih ⊢; rw [ih]

set_option maxRecDepth 100000 in
set_option maxHeartbeats 4000000 in
theorem put_any (base P : Nat) (tx : Bs) (l : List Bs) (z : Nat) (w : World) (h : Pr base P tx w) (hz : w.heap[z]? = some (.cells (l.map strV).toArray 9)) (hl : l.length ≤ 100) :
    Calls Tryz.prog 55 #[.pointer (some ⟨P, 0, none⟩), .slice (some ⟨z, 0, none⟩) l.length l.length] w
      (PrP base P w (decide ((tx ++ l.flatten).length ≤ 1000)) (tx ++ l.flatten)) := by
  obtain ⟨post, hpost⟩ : ∃ post, post = PrP base P w (decide ((tx ++ l.flatten).length ≤ 1000)) (tx ++ l.flatten) := ⟨_, rfl⟩
  rw [← hpost]
  replace hpost := hid hpost
  obtain ⟨n, hn⟩ : ∃ n, n = l.length := ⟨_, rfl⟩
  rw [← hn]
  rw [← hn] at hl
  replace hn := hid hn
  have hz := hid hz
  have h := hid h
  go_enter Tryz.func55, Tryz.ntmps55
  go_wp2_with fail
  go_loopg [8] n (fun g e wr => ∃ k : Nat, k + g = n ∧ e = .int .i64 k ∧ Pr base P (tx ++ (l.take k).flatten) wr ∧ wr.heap[z]? = some (.cells (l.map strV).toArray 9) ∧ Kp base P w wr)
  case atStart => exact ⟨0, by omega, rfl, by simpa using h.out, hz.out, Kp.ofExt _ _ (Mod.refl _ _)⟩
  case round =>
    obtain ⟨k, hk, rfl, hp, hzr, hm⟩ := hrel
    replace hk := hid hk
    replace hm := hid hm
    have hkn : k ≤ n := by have := hk.out; omega
    by_cases hlt : k < n
    · have hd : decide ((k : Int) < (n : Int)) = true := decide_eq_true (by omega)
      have hdi : (k : Int) < (n : Int) := by omega
      have hkl : k < l.length := by have := hn.out; omega
      obtain ⟨s, hs⟩ : ∃ s, s = l[k] := ⟨_, rfl⟩
      have hsnoc : Hid ((l.take (k + 1)).flatten = (l.take k).flatten ++ s) := hid (by rw [List.take_succ_eq_append_getElem hkl, hs, List.flatten_append]; simp)
      have zc : wr.cell? ⟨z, k, none⟩ = some (.string ⟨s.toArray⟩) := by
        rw [cell_of' hzr k, hs]
        simp [strV, hkl]
      obtain ⟨v, hP, hown⟩ := hp.cell
      have hPlt := lt_of_at hP
      obtain ⟨av, capv, rfl, -, -⟩ := hown.row
      have hlow := hp.low
      have hlen := hp.len
      have hgl := hid hp.gl
      have hbl := hp.bl
      have hzP : Hid (z ≠ P) := hid (fun e => by subst e; rw [hzr] at hP; injection hP with hP; injection hP with _ hP _; exact absurd hP (by decide))
      generalize htt : tx ++ (l.take k).flatten = tt at hp hown hlen hP
      replace htt := hid htt
      have pc : wr.cell? ⟨P, 0, none⟩ = some (.slice av tt.length capv) := cell_of' hP 0
      have pz := free_of' hP
      replace hs := hid hs
      replace hp := hid hp
      replace hP := hid hP
      replace hown := hid hown
      replace hzr := hid hzr
      obtain ⟨m, hmm⟩ : ∃ m, m = tt.length := ⟨_, rfl⟩
      rw [← hmm] at pc hlen
      have hle : ∀ i, i < l.length → (l.take i).flatten.length ≤ l.flatten.length := fun i _ => by
        conv => rhs; rw [← List.take_append_drop i l, List.flatten_append, List.length_append]
        omega
      have hbig : Hid (1000 < (tt ++ s).length → decide ((tx ++ l.flatten).length ≤ 1000) = false) := hid (fun hb => by
        rw [decide_eq_false_iff_not, List.length_append]
        have h1 : (l.take (k + 1)).flatten.length ≤ l.flatten.length := by
          conv => rhs; rw [← List.take_append_drop (k + 1) l, List.flatten_append, List.length_append]
          omega
        rw [hsnoc.out, List.length_append] at h1
        rw [← htt.out, List.length_append, List.length_append] at hb
        omega)
      clear hle
      obtain ⟨sl, hsl⟩ : ∃ sl, sl = s.length := ⟨_, rfl⟩
      have hsz : Hid ((⟨s.toArray⟩ : ByteArray).size = sl) := hid (by rw [hsl]; simp [ByteArray.size])
      have hsz' : s.length = sl := hsl.symm
      replace hmm := hid hmm
      replace hsl := hid hsl
      by_cases hfit : m + sl ≤ 1000
      · have hcmp : decide ((sl : Int) ≤ 1000 - (m : Int)) = true := decide_eq_true (by omega)
        have hcmpi : (sl : Int) ≤ 1000 - (m : Int) := by omega
        go_wp2_with fail
        refine (require_true _).mono ?_; rintro e w' ⟨rfl, rfl⟩
        have hPn : Hid (¬ (Value.slice av m capv).ownBlock = some P) := hid (fun e => by
          obtain ⟨c, hc⟩ := hown.out.cells (k := P) (by rw [← hmm.out]; exact e)
          rw [hP.out] at hc; injection hc with hc; injection hc with _ hc _; exact absurd hc (by decide))
        have hzn : Hid (¬ (Value.slice av m capv).ownBlock = some z) := hid (fun e => by
          obtain ⟨c, hc⟩ := hown.out.cells (k := z) (by rw [← hmm.out]; exact e)
          rw [hzr.out] at hc; injection hc with hc; injection hc with _ hc _; exact absurd hc (by decide))
        have hbase : base ≤ wr.heap.size := by omega
        have hownm : Hid (wr.ownsRow base 5 1 (.slice av m capv) m (tt.flatMap byteC)) := hid (by rw [hmm.out]; exact hown.out)
        obtain ⟨i0, hi, hz0, hz1, hz2⟩ := info_parts el5.row
        replace hi := hid hi
        replace hz0 := hid hz0
        replace hz1 := hid hz1
        replace hz2 := hid hz2
        have hstep : ∀ (v6 : Value) (w6 : World), w6.ownsRow base 5 1 v6 (m + (⟨s.toArray⟩ : ByteArray).size) (tt.flatMap byteC ++ Lib.strCells ⟨s.toArray⟩) → wr.grownBy w6 (Value.slice av m capv).ownBlock →
            ∃ ao6 cap6, v6 = .slice ao6 (m + sl) cap6 ∧ Hid (Cdk.Own w6 base 5 1 byteC (.slice ao6 (m + sl) cap6) (tt ++ s) ∧ Mod (fun j => (Value.slice av m capv).ownBlock = some j) wr w6 ∧ w6.heap[P]? = some (.cells #[.slice av tt.length capv] 66 (0, 0)) ∧ w6.heap[z]? = some (.cells (l.map strV).toArray 9)) ∧
              w6.cell? ⟨P, 0, none⟩ = some (.slice av m capv) ∧ ∀ j, w6.frozen? ⟨P, j, none⟩ = false := by
          intro v6 w6 h6 hg6
          have hO6 : Cdk.Own w6 base 5 1 byteC v6 (tt ++ s) := by
            unfold Cdk.Own
            rw [List.flatMap_append, ← byte_cells s, List.length_append, ← hmm.out, ← hsl.out, ← hsz.out]
            exact h6
          have hM6 : Mod (fun j => (Value.slice av m capv).ownBlock = some j) wr w6 := Mod.ofGrown hg6 (fun j hj => hj)
          have hP6 := hM6.at hP.out hPn.out
          have hz6 := hM6.at hzr.out hzn.out
          obtain ⟨ao6, cap6, e6, -, -⟩ := hO6.row
          have e7 : (tt ++ s).length = m + sl := by rw [List.length_append, ← hmm.out, ← hsl.out]
          rw [e7] at e6
          subst e6
          exact ⟨ao6, cap6, rfl, hid ⟨hO6, hM6, hP6, hz6⟩, by rw [hmm.out]; exact cell_of' hP6 0, free_of' hP6⟩
        replace hstep := hid hstep
        go_wp2_with (at_builtin; refine Lib.wpList_append_own_string wr rfl _ _ 64 9 rfl base 5 i0 Tryz.underlying64 Tryz.underlying9 hi.out hz0.out hz1.out hz2.out (.slice av m capv) m (tt.flatMap byteC) rfl hownm.out ⟨s.toArray⟩ rfl (by rw [hsz.out]; unfold maxLen; omega) (by rw [hsz.out]; omega) hbase (fun v6 w6 h6 hg6 _ => ?_); obtain ⟨ao6, cap6, rfl, H6, p6, f6⟩ := hstep.out v6 w6 h6 hg6; clear h6 hg6; go_frame)
        clear p6 f6
        go_roundg (gk - 1)
        case measure => have := hk.out; omega
        case rel =>
          obtain ⟨hO6, hM6, hP6, hz6⟩ := H6.out
          have hMS := (Mod.refl (Eq P) w6).setCell (a := ⟨P, 0, none⟩) (fun _ => rfl) (.slice ao6 (m + sl) cap6)
          have hO7 := hO6.mod hMS (fun j hj e => by
            subst e
            obtain ⟨c, hc⟩ := hO6.cells hj
            rw [hP6] at hc; injection hc with hc; injection hc with _ hc _; exact absurd hc (by decide))
          have hP7 := put1 (v := .slice ao6 (m + sl) cap6) hP6
          have hz7 := (put_ne w6 (b := P) 0 (.slice ao6 (m + sl) cap6) hzP.out).trans hz6
          have hMa : Mod (fun j => base ≤ j) wr (w6.setCell ⟨P, 0, none⟩ (.slice ao6 (m + sl) cap6)) := (hM6.mono (fun j hj => (hownm.out.lt j hj).1)).then hMS (fun j hj e => by omega)
          have hgl7 := hgl.out.mod hMa (fun j hj => by omega)
          have hKa : Kp base P wr (w6.setCell ⟨P, 0, none⟩ (.slice ao6 (m + sl) cap6)) := ⟨hMa, fun j cs t fr hj ht hjP => by
            rw [put_ne w6 (b := P) 0 _ hjP]
            refine hM6.at hj (fun e => ?_)
            obtain ⟨c, hc⟩ := hown.out.cells (k := j) (by rw [← hmm.out]; exact e)
            rw [hj] at hc; injection hc with hc; injection hc with _ hc _; exact ht hc⟩
          refine ⟨k + 1, by have := hk.out; omega, by go_num, ?_, hz7, hm.out.trans hKa⟩
          rw [hsnoc.out, ← List.append_assoc, htt.out]
          exact ⟨⟨_, hP7, hO7⟩, hlow, by rw [List.length_append, ← hmm.out, ← hsl.out]; exact hfit, hgl7, hbl⟩
      · have hcmp : decide ((sl : Int) ≤ 1000 - (m : Int)) = false := decide_eq_false (by omega)
        have hcmpi : ¬ (sl : Int) ≤ 1000 - (m : Int) := by omega
        go_wp2_with fail
        refine (require_false _).mono ?_; rintro e w' ⟨rfl, rfl⟩
        go_wp2_with fail
        refine ⟨rfl, ?_⟩
        rw [hpost.out]
        exact .inr ⟨hbig.out (by rw [List.length_append, ← hmm.out, ← hsl.out]; omega), rfl, hm.out.1⟩
    · have hd : decide ((k : Int) < (n : Int)) = false := decide_eq_false (by omega)
      have hdi : ¬ (k : Int) < (n : Int) := by omega
      have hkl : l.take k = l := List.take_of_length_le (by have := hn.out; omega)
      rw [hkl] at hp
      replace hp := hid hp
      replace hzr := hid hzr
      clear hkl
      go_wp2_with fail
      go_end0
      rw [hpost.out]
      exact .inl ⟨decide_eq_true hp.out.len, rfl, hp.out, hm.out⟩
end Go.Proofs.YtpgniljgaknlpaaGreatDoor
