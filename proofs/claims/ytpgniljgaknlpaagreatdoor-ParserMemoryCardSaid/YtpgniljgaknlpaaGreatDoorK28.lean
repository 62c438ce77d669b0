import Derived.Test.YtpgniljgaknlpaaGreatDoorK27
import Derived.Test.YtpgniljgaknlpaaGreatDoorLibAll
import Derived.Deep.CutBlock
import Derived.Deep.CutRange
/-
  The feed's lists of nodes: the walk.
-/
namespace Go.Proofs.YtpgniljgaknlpaaGreatDoor
open Go.RowKit Cdk Tpl

def recF (xs : List Int) : Nat → Nat → List Nd × Nat
  | 0 => fun a => ([], a)
  | k + 1 => flistS xs k
def lastF (k : Nat) : Bool := decide (k = 0)
def useR : Nat → Nat
  | 0 => 0
  | k + 1 => useF k
theorem flistS_eq (xs : List Int) (k at_ : Nat) : flistS xs k at_ = loopF xs (recF xs k) (lastF k) (nextS xs at_ 5) (at_ + 1) [] := by
  cases k <;> rfl
theorem useF_eq (k : Nat) : 21 + 8 * useR k ≤ useF k := by
  cases k <;> simp [useF, useR] <;> omega
theorem recF_at (xs : List Int) (k a : Nat) : a ≤ (recF xs k a).2 ∧ (recF xs k a).2 ≤ a + useR k := by
  cases k with
  | zero => simp [recF, useR]
  | succ k => have := flistS_bd xs k a; simp only [recF, useR]; omega

def FListC (k : Nat) : Prop := ∀ (B K : Nat) (xs : List Int) (at_ depth : Nat) (w : World), depth + k = 8 → Fe B K xs at_ w → B ≤ w.heap.size → at_ + useF k ≤ 1000000000000 →
  Calls Tryz.prog 27 #[.pointer (some ⟨K, 0, none⟩), .int .i64 depth] w fun e w' => ∃ ao n cap, e = .returned (.slice ao n cap) ∧ NodesAt (Since w w') w' (.slice ao n cap) (flistS xs k at_).1 ∧ Fe B K xs (flistS xs k at_).2 w' ∧ Mod (Eq K) w w' ∧ ∃ rows R, n = rows.length ∧ w.heap.size < R ∧ Acc R w' (.slice ao n cap) rows (flistS xs k at_).1

/-- The node at block X, without what is in it. -/
def HeadAt (B K X : Nat) (xs : List Int) (hh : Nd × Nat) (wr wx : World) : Prop :=
  ∃ nc : NC, wx.heap[X]? = some (.cells (ncC nc).toArray 36 (0, 0)) ∧ NodeAt (fun j => X < j ∧ j < wx.heap.size) wx nc hh.1 ∧ Fe B K xs hh.2 wx ∧ Mod (Eq K) wr wx

theorem NodeAt.set {F F' : Nat → Prop} {w w' : World} {kd : Nat} {tx nm ar : Bs} {ct : Int} {vf vk ve : Value} {nd : Nd} (h : NodeAt F w ⟨kd, tx, nm, ar, ct, vf, vk, ve⟩ nd) (hfl : ∀ l, StrsAt F w vf l → StrsAt F' w' vf l) (ks es : List Nd) (vk' ve' : Value) (h1 : NodesAt F' w' vk' ks) (h2 : NodesAt F' w' ve' es) :
    NodeAt F' w' ⟨kd, tx, nm, ar, ct, vf, vk', ve'⟩ (setKids nd ks es) := by
  cases h with
  | mk _ fl _ _ g1 _ _ => exact .mk ⟨kd, tx, nm, ar, ct, vf, vk', ve'⟩ fl ks es (hfl _ g1) h1 h2
theorem NodeAt.els {F F' : Nat → Prop} {w w' : World} {kd : Nat} {tx nm ar : Bs} {ct : Int} {vf vk ve : Value} {nd : Nd} (h : NodeAt F w ⟨kd, tx, nm, ar, ct, vf, vk, ve⟩ nd) (he : nd.els = []) (hm : ∀ l, NodesAt F w ve l → NodesAt F' w' ve l) : NodesAt F' w' ve [] := by
  cases h with
  | mk _ fl _ es _ _ g3 =>
    have : es = [] := he
    subst this
    exact hm _ g3
theorem Acc.last {R : Nat} {w : World} {ao : Option Addr} {cap : Nat} {rows : List NC} {acc : List Nd} (h : Acc R w (.slice ao rows.length cap) rows acc) (hp : 0 < rows.length) :
    ∃ b off kp, ao = some ⟨b, off, none⟩ ∧ lastT acc = decide (kp = 1) ∧ w.cell? ⟨b, off + (rows.length - 1) * 8, none⟩ = some (.int .i64 (kp : Nat)) := by
  obtain ⟨ao', cap', hv, hrow, -⟩ := h.own.row
  injection hv with e1 _ _
  subst e1
  have hlen := h.at_.len
  obtain ⟨b, off, rfl, hc⟩ := hrow.at (by rw [flat_length _ 8 ncC_len]; omega)
  have hj : rows.length - 1 < acc.length := by omega
  obtain ⟨hr, hN⟩ := RowsAt.get hj h.at_
  have g := hc _ _ ((flat_get ncC 8 ncC_len rows (rows.length - 1) 0 _ (List.getElem?_eq_getElem hr) (by omega)).trans rfl)
  refine ⟨b, off, rows[rows.length - 1].kd, rfl, ?_, by simpa using g⟩
  have hl : acc.getLast? = some acc[rows.length - 1] := by
    rw [List.getLast?_eq_getElem?, ← hlen, List.getElem?_eq_getElem hj]
  unfold lastT
  rw [hl]
  simp only
  generalize rows[rows.length - 1] = c at hN
  generalize acc[rows.length - 1] = n at hN
  cases hN
  rfl

theorem head_mk {B K X a' : Nat} {xs : List Int} {nd : Nd} {wr w3 w4 : World} (nc : NC) (hx4 : w4.heap[X]? = some (.cells (ncC nc).toArray 36 (0, 0))) (hm34 : Mod (Eq X) w3 w4) (hfe : Fe B K xs a' w3) (hmr : Mod (Eq K) wr w3) (hXr : wr.heap.size ≤ X) (hBX : B ≤ X)
    (hn : NodeAt (fun j => X < j ∧ j < w4.heap.size) w4 nc nd) : HeadAt B K X xs (nd, a') wr w4 :=
  ⟨nc, hx4, hn, hfe.mod hm34 (fun k e => by omega), hmr.then hm34 (fun k hk e => by omega)⟩

theorem NodeAt.parts {F : Nat → Prop} {w : World} {c : NC} {nd : Nd} (h : NodeAt F w c nd) : StrsAt F w c.fl nd.filters ∧ NodesAt F w c.ks nd.kids ∧ NodesAt F w c.es nd.els := by
  cases h with
  | mk _ _ _ _ g1 g2 g3 => exact ⟨g1, g2, g3⟩
theorem NodeAt.with {F F' : Nat → Prop} {w w' : World} {kd : Nat} {tx nm ar : Bs} {ct : Int} {vf vk ve : Value} {nd : Nd} (h : NodeAt F w ⟨kd, tx, nm, ar, ct, vf, vk, ve⟩ nd) {ks es : List Nd} {vk' ve' : Value} (h0 : StrsAt F' w' vf nd.filters) (h1 : NodesAt F' w' vk' ks) (h2 : NodesAt F' w' ve' es) :
    NodeAt F' w' ⟨kd, tx, nm, ar, ct, vf, vk', ve'⟩ (setKids nd ks es) := by
  cases h with
  | mk _ fl _ _ g1 _ _ => exact .mk ⟨kd, tx, nm, ar, ct, vf, vk', ve'⟩ fl ks es h0 h1 h2
theorem setKids_id {nd : Nd} (h1 : nd.kids = []) (h2 : nd.els = []) : setKids nd [] [] = nd := by
  cases nd
  simp only [Nd.kids, Nd.els] at h1 h2
  subst h1; subst h2
  rfl

theorem store_step {P : Program} {w : World} {b j : Nat} {v u : Value} {cs : Array Value} {t : TypeId} (hb : w.heap[b]? = some (.cells cs t (0, 0))) (hj : cs[j]? = some u) (hv : v.oneCell' = true) : Sem.run P (store ⟨b, j, none⟩ v) w = .ok () (w.setCell ⟨b, j, none⟩ v) := by
  have hc : w.cell? ⟨b, j, none⟩ = some u := by rw [cell_of' hb j]; exact hj
  have hst := run_store P w ⟨b, j, none⟩ v .plain hv
  rw [hc] at hst
  simp only [free_of' hb j] at hst
  exact hst

set_option maxRecDepth 100000 in
set_option maxHeartbeats 16000000 in
/-- A struct of eight cells, stored. -/
theorem wp_store8 {o : Oper} {a : Act} {w : World} {K : Act → World → Prop} {Q : Exit → Act → World → Prop} {X : Nat} (p v : Operand) (ho : o.op = Op.store 36 p v) (_hd : o.dst = none) (hp : a.eval p = .pointer (some ⟨X, 0, none⟩)) {x0 x1 x2 x3 x4 x5 x6 x7 : Value} (hv : a.eval v = .agg #[x0, x1, x2, x3, x4, x5, x6, x7])
    (h0 : x0.oneCell' = true) (h1 : x1.oneCell' = true) (h2 : x2.oneCell' = true) (h3 : x3.oneCell' = true) (h4 : x4.oneCell' = true) (h5 : x5.oneCell' = true) (h6 : x6.oneCell' = true) (h7 : x7.oneCell' = true)
    {z0 z1 z2 z3 z4 z5 z6 z7 : Value} (hX : w.heap[X]? = some (.cells #[z0, z1, z2, z3, z4, z5, z6, z7] 36 (0, 0))) (hK : K a (put8 w X x0 x1 x2 x3 x4 x5 x6 x7)) : o.wp Tryz.prog a w K Q := by
  have g0 := put_at hX 0 x0
  simp only [List.setIfInBounds_toArray, List.set_cons_zero] at g0
  have g1 := put_at g0 1 x1
  simp only [List.setIfInBounds_toArray, List.set_cons_zero, List.set_cons_succ] at g1
  have g2 := put_at g1 2 x2
  simp only [List.setIfInBounds_toArray, List.set_cons_zero, List.set_cons_succ] at g2
  have g3 := put_at g2 3 x3
  simp only [List.setIfInBounds_toArray, List.set_cons_zero, List.set_cons_succ] at g3
  have g4 := put_at g3 4 x4
  simp only [List.setIfInBounds_toArray, List.set_cons_zero, List.set_cons_succ] at g4
  have g5 := put_at g4 5 x5
  simp only [List.setIfInBounds_toArray, List.set_cons_zero, List.set_cons_succ] at g5
  have g6 := put_at g5 6 x6
  simp only [List.setIfInBounds_toArray, List.set_cons_zero, List.set_cons_succ] at g6
  have s0 := store_step (P := Tryz.prog) hX (j := 0) rfl h0
  have s1 := store_step (P := Tryz.prog) g0 (j := 1) rfl h1
  have s2 := store_step (P := Tryz.prog) g1 (j := 2) rfl h2
  have s3 := store_step (P := Tryz.prog) g2 (j := 3) rfl h3
  have s4 := store_step (P := Tryz.prog) g3 (j := 4) rfl h4
  have s5 := store_step (P := Tryz.prog) g4 (j := 5) rfl h5
  have s6 := store_step (P := Tryz.prog) g5 (j := 6) rfl h6
  have s7 := store_step (P := Tryz.prog) g6 (j := 7) rfl h7
  clear hX g0 g1 g2 g3 g4 g5 g6 h0 h1 h2 h3 h4 h5 h6 h7
  unfold Oper.wp
  simp only [execOp, ho, hp, hv]
  go_simp
  exact hK

/-- The state of the region that makes a loop: the feed, and the two slices where they are made. -/
structure Ar (B K : Nat) (xs : List Int) (n : Nat) (w0 : World) (s i : Option Nat) (w : World) : Prop where
  fe : Fe B K xs n w
  mod : Mod (Eq K) w0 w
  lt : K < w0.heap.size
  str : ∀ z, s = some z → w.heap[z]? = some (.cells (fArgs.map strV).toArray 9 (0, 0)) ∧ w0.heap.size ≤ z
  num : ∀ z, i = some z → w.heap[z]? = some (.cells (fCounts.map (fun c => .int .i64 c)).toArray 3 (0, 0)) ∧ w0.heap.size ≤ z

section
variable {B K : Nat} {xs : List Int} {n : Nat} {w0 w : World} {s i : Option Nat}
theorem Ar.step {w' : World} {n' : Nat} (h : Ar B K xs n w0 s i w) (hf : Fe B K xs n' w') (hm : Mod (Eq K) w w') : Ar B K xs n' w0 s i w' :=
  ⟨hf, h.mod.trans hm, h.lt, fun z e => ⟨hm.at (h.str z e).1 (fun e' => by have := (h.str z e).2; have := h.lt; omega), (h.str z e).2⟩, fun z e => ⟨hm.at (h.num z e).1 (fun e' => by have := (h.num z e).2; have := h.lt; omega), (h.num z e).2⟩⟩
theorem Ar.word {wd : Bs} (h : Ar B K xs n w0 s i w) (hw : wordS xs n = wd) (hs : n < 4611686018427387904) : Calls Tryz.prog 47 #[.pointer (some ⟨K, 0, none⟩)] w fun e w' => e = .returned (.string ⟨wd.toArray⟩) ∧ Ar B K xs (n + 1) w0 s i w' := by
  subst hw
  exact (fword_any w h.fe hs).mono fun e w' ⟨h1, h2, h3⟩ => ⟨h1, h.step h2 h3⟩
theorem Ar.next {j : Nat} (h : Ar B K xs n w0 s i w) (hj : nextS xs n 3 = j) (hs : n < 4611686018427387904) : Calls Tryz.prog 46 #[.pointer (some ⟨K, 0, none⟩), .int .i64 3] w fun e w' => e = .returned (.int .i64 j) ∧ Ar B K xs (n + 1) w0 s i w' := by
  subst hj
  exact (next_any 3 w h.fe hs (by omega) (by omega)).mono fun e w' ⟨h1, h2, h3⟩ => ⟨h1, h.step h2 h3⟩
theorem Ar.strs (h : Ar B K xs n w0 none i w) : Ar B K xs n w0 (some w.heap.size) i (w.alloc (.cells (fArgs.map strV).toArray 9)) := by
  have hx := Mod.alloc (Mod.refl (fun _ => False) w) (.cells (fArgs.map strV).toArray 9)
  have hs := h.step (h.fe.ext hx) (hx.mono (fun _ h => h.elim))
  refine ⟨hs.fe, hs.mod, hs.lt, fun z e => ?_, hs.num⟩
  injection e with e
  subst e
  exact ⟨heap_alloc_new w _, h.mod.size⟩
theorem Ar.nums (h : Ar B K xs n w0 s none w) : Ar B K xs n w0 s (some w.heap.size) (w.alloc (.cells (fCounts.map (fun c => .int .i64 c)).toArray 3)) := by
  have hx := Mod.alloc (Mod.refl (fun _ => False) w) (.cells (fCounts.map (fun c => .int .i64 c)).toArray 3)
  have hs := h.step (h.fe.ext hx) (hx.mono (fun _ h => h.elim))
  refine ⟨hs.fe, hs.mod, hs.lt, hs.str, fun z e => ?_⟩
  injection e with e
  subst e
  exact ⟨heap_alloc_new w _, h.mod.size⟩
theorem Ar.arg {z j : Nat} {ag : Bs} (h : Ar B K xs n w0 (some z) i w) (hj : j < 3) (hag : fArgs.getD j [] = ag) : w.cell? ⟨z, j, none⟩ = some (.string ⟨ag.toArray⟩) := by
  rw [cell_of' (h.str z rfl).1 j, ← hag]
  have : j < fArgs.length := hj
  simp [strV, this]
theorem Ar.cnt {z j : Nat} {ct : Int} (h : Ar B K xs n w0 s (some z) w) (hj : j < 3) (hct : fCounts.getD j 0 = ct) : w.cell? ⟨z, j, none⟩ = some (.int .i64 ct) := by
  rw [cell_of' (h.num z rfl).1 j, ← hct]
  have : j < fCounts.length := hj
  simp [this]
theorem Ar.strlt {z : Nat} (h : Ar B K xs n w0 (some z) i w) : w0.heap.size ≤ z := (h.str z rfl).2
theorem Ar.numlt {z : Nat} (h : Ar B K xs n w0 s (some z) w) : w0.heap.size ≤ z := (h.num z rfl).2
theorem Ar.keep {X : Nat} {o : Obj} (h : Ar B K xs n w0 s i w) (hX : w0.heap[X]? = some o) (hKX : ¬ K = X) : w.heap[X]? = some o := h.mod.at hX hKX
end

set_option maxRecDepth 100000 in
set_option maxHeartbeats 16000000 in
/-- The walk up to the switch, and what the two sides of it have to show. -/
def flist_main (k : Nat) (ih : ∀ k', k' + 1 = k → FListC k') : PSigma fun T1 : Prop => PSigma fun T2 : Prop => Hid T1 → Hid T2 → FListC k := ⟨_, _, fun side1 side2 => by
  intro B K xs at_ depth w hd h hB hat
  obtain ⟨post, hpost⟩ : ∃ post : Ending → World → Prop, post = fun e w' => ∃ ao n cap, e = .returned (.slice ao n cap) ∧ NodesAt (Since w w') w' (.slice ao n cap) (flistS xs k at_).1 ∧ Fe B K xs (flistS xs k at_).2 w' ∧ Mod (Eq K) w w' ∧ ∃ rows R, n = rows.length ∧ w.heap.size < R ∧ Acc R w' (.slice ao n cap) rows (flistS xs k at_).1 := ⟨_, rfl⟩
  rw [← hpost]
  rw [flistS_eq] at hpost
  obtain ⟨tgt, htgt⟩ : ∃ tgt, tgt = loopF xs (recF xs k) (lastF k) (nextS xs at_ 5) (at_ + 1) [] := ⟨_, rfl⟩
  rw [← htgt] at hpost
  have hu := useF_eq k
  have hlowK := h.low
  have hn5 := nextS_lt xs at_ (n := 5) (by omega)
  have hxT := Mod.alloc (Mod.refl (fun _ => False) w) (.cells (fTexts.map strV).toArray 9)
  have hT := heap_alloc_new w (.cells (fTexts.map strV).toArray 9)
  have hsT : (w.alloc (.cells (fTexts.map strV).toArray 9)).heap.size = w.heap.size + 1 := World.size_alloc _ _
  have hn := hid (next_any 5 _ (h.ext hxT) (by omega) (by omega) (by omega))
  obtain ⟨c0, hc0⟩ : ∃ c0, c0 = nextS xs at_ 5 := ⟨_, rfl⟩
  rw [← hc0] at hn htgt hn5
  replace hc0 := hid hc0
  replace hpost := hid hpost
  replace htgt := hid htgt
  replace h := hid h
  replace ih := hid ih
  replace hT := hid hT
  replace hxT := hid hxT
  replace hd := hid hd
  replace hsT := hid hsT
  go_enter Tryz.func27, Tryz.ntmps27
  go_wp2_with fail
  refine hn.out.mono ?_
  rintro e w1 ⟨rfl, hfe1, hm1⟩
  have hT1 := hm1.at hT.out (by omega)
  have hmw1 := (hxT.out.mono (T := Eq K) (fun _ h => h.elim)).trans hm1
  have hs1 : w.heap.size + 1 ≤ w1.heap.size := by have := hm1.size; have := hsT.out; omega
  obtain ⟨T0, hT0⟩ : ∃ T0, T0 = w.heap.size := ⟨_, rfl⟩
  rw [← hT0] at hT1 hs1 hB ⊢
  replace hT0 := hid hT0
  replace hfe1 := hid hfe1
  replace hT1 := hid hT1
  replace hmw1 := hid hmw1
  clear hn hm1 hT hxT hsT
  go_wp2_with fail
  go_loopg [6, 7] c0 (fun g e kk wr => ∃ a acc rows, g ≤ 4 ∧ kk = .int .i64 g ∧ (∃ ao cap, e = .slice ao rows.length cap) ∧ Acc (T0 + 1) wr e rows acc ∧ Fe B K xs a wr ∧ wr.heap[T0]? = some (.cells (fTexts.map strV).toArray 9) ∧ Mod (Eq K) w wr ∧ T0 + 1 ≤ wr.heap.size ∧ rows.length + g ≤ 4 ∧ a + g * (5 + 2 * useR k) ≤ 1000000000000 ∧ Hid (tgt = loopF xs (recF xs k) (lastF k) g a acc))
  case atStart =>
    refine ⟨at_ + 1, [], [], by omega, rfl, ⟨_, _, rfl⟩, ⟨Cdk.Own.nil _ _ _ _ _, .nil⟩, hfe1.out, hT1.out, hmw1.out, hs1, by simp; omega, ?_, htgt⟩
    have : c0 * (5 + 2 * useR k) ≤ 4 * (5 + 2 * useR k) := Nat.mul_le_mul_right _ (by omega)
    omega
  case round =>
    clear hfe1 hT1 hmw1 hs1 htgt
    obtain ⟨a, acc, rows, hg4, rfl, ⟨aov, capv, rfl⟩, hacc, hfe, hT, hm, hsz, hrl, hab, htgt⟩ := hrel
    by_cases hpos : 0 < gk
    rotate_left
    · have hdl : decide ((0 : Int) < (gk : Int)) = false := decide_eq_false (by omega)
      have hdi : ¬ (0 : Int) < (gk : Int) := by omega
      obtain rfl : gk = 0 := by omega
      replace hacc := hid hacc
      replace hfe := hid hfe
      replace hT := hid hT
      replace hm := hid hm
      go_wp2_with fail
      rw [hpost.out]
      have e : tgt = (acc, a) := by rw [htgt.out, loopF]
      rw [e]
      exact ⟨aov, rows.length, capv, rfl, hacc.out.nodes.mono (fun j hj => ⟨by have := hT0.out; omega, hj.2⟩), hfe.out, hm.out, rows, T0 + 1, rfl, by have := hT0.out; omega, hacc.out⟩
    · have hdl : decide ((0 : Int) < (gk : Int)) = true := decide_eq_true (by omega)
      have hdi : (0 : Int) < (gk : Int) := by omega
      obtain ⟨wo, rfl⟩ : ∃ wo : World, wo = wr := ⟨_, rfl⟩
      obtain ⟨c, rfl⟩ : ∃ c, gk = c + 1 := ⟨gk - 1, by omega⟩
      have hcm : (c + 1) * (5 + 2 * useR k) = c * (5 + 2 * useR k) + (5 + 2 * useR k) := Nat.succ_mul _ _
      replace hacc := hid hacc
      replace hfe := hid hfe
      replace hT := hid hT
      replace hm := hid hm
      go_wp2_with fail
      have hxX := Mod.alloc (Mod.refl (fun _ => False) wo) (.cells #[.int .i64 5, .string ⟨#[]⟩, .string ⟨#[]⟩, .string ⟨#[]⟩, .int .i64 0, .slice none 0 0, .slice none 0 0, .slice none 0 0] 36)
      have hX := heap_alloc_new wo (.cells #[.int .i64 5, .string ⟨#[]⟩, .string ⟨#[]⟩, .string ⟨#[]⟩, .int .i64 0, .slice none 0 0, .slice none 0 0, .slice none 0 0] 36)
      have hsX : (wo.alloc (.cells #[.int .i64 5, .string ⟨#[]⟩, .string ⟨#[]⟩, .string ⟨#[]⟩, .int .i64 0, .slice none 0 0, .slice none 0 0, .slice none 0 0] 36)).heap.size = wo.heap.size + 1 := World.size_alloc _ _
      have hn8 := nextS_lt xs a (n := 8) (by omega)
      have hn := hid (next_any 8 _ (hfe.out.ext hxX) (by omega) (by omega) (by omega))
      obtain ⟨sel, hsel⟩ : ∃ sel, sel = nextS xs a 8 := ⟨_, rfl⟩
      rw [← hsel] at hn hn8
      refine hn.out.mono ?_
      clear hn
      rintro e w2 ⟨rfl, hfe2, hm2⟩
      have hX2 := hm2.at hX (by omega)
      have hmr2 := (hxX.mono (T := Eq K) (fun _ h => h.elim)).trans hm2
      have hXl : wo.heap.size < w2.heap.size := by have := hm2.size; omega
      clear hX hxX hm2
      generalize hXe : wo.heap.size = X at hX2 hXl hsX ⊢
      have hT2 := hid (hmr2.at hT.out (by omega))
      have hKX : ¬ K = X := by omega
      have hXs : T0 + 1 ≤ X := by omega
      have hXr : wo.heap.size ≤ X := by omega
      replace hsel := hid hsel
      replace hXe := hid hXe
      replace hsX := hid hsX
      replace hX2 := hid hX2
      replace hfe2 := hid hfe2
      replace hmr2 := hid hmr2
      have qs : ∀ i : Nat, ((sel : Int) == (i : Int)) = decide (sel = i) := fun i => by rw [Bool.eq_iff_iff, beq_iff_eq, decide_eq_true_eq]; omega
      have q0 := qs 0
      have q1 := qs 1
      have q2 := qs 2
      have q3 := qs 3
      have q4 := qs 4
      have q5 := qs 5
      have q6 := qs 6
      clear qs
      obtain ⟨hh, hhe⟩ : ∃ hh, hh = headS xs a := ⟨_, rfl⟩
      go_upto_block 2 with (fail)
      go_cut [9] from 13 to 133 (fun x9 wx => HeadAt B K X xs hh wo wx)
      case first =>
        rename_i y1 y2 y3 y4 y5 y6 y7 y8 y9 y10 y11 y12 y13 y14
        revert B K xs at_ depth w hat post tgt hu hlowK c0 hn5 hc0 hpost h ih hd y1 y2 w1 T0 hB hT0 u8 u9 u13 u14 u15 u16 u17 u18 u19 u20 u21 u22 u23 u24 u25 u26 u27 u28 u29 u30 u31 u32 u33 u34 u35 u36 u37 u38 u39 u40 u41 u42 u43 u44 u45 u46 u47 u48 u49 u50 u51 u52 u53 u54 u55 u56 u57 u58 u59 u60 u61 u62 u63 u64 u65 u66 u67 u68 u69 u70 u71 u72 u73 u74 u75 u76 u77 u78 u79 u80 u81 u82 u83 u84 u85 u86 u87 u88 u89 u90 u91 u92 u93 u94 u95 u96 u97 u98 u99 u100 u101 u102 u103 u104 u105 u106 u107 u108 u109 u110 u111 u112 u113 u114 u115 u116 u117 u118 u119 u120 u121 u122 u123 u124 u125 u126 u127 u128 u129 u130 u131 u132 u133 y3 y4 y5 a acc rows aov capv wo hsz c y6 hg4 hrl hab htgt hpos hdl hdi hcm hacc hfe hT hm y7 y8 y9 y10 sel hn8 w2 X hXl hT2 hKX hXs hXr hsel hXe hsX hX2 hfe2 hmr2 q0 q1 q2 q3 q4 q5 q6 hh hhe y11 y12 y13 y14
        exact side1.out
      case rest =>
        rename_i y1 y2 y3 y4 y5 y6 y7 y8 y9 y10 y11 y12 y13 y14 y15 y16 y17 y18 y19 y20 y21 y22 y23 y24 y25 y26 y27 y28 y29 y30 y31 y32 y33 y34 y35 y36 y37 y38 y39 y40 y41 y42 y43 y44 y45 y46 y47 y48 y49 y50 y51 y52 y53 y54 y55 y56 y57 y58 y59 y60 y61 y62 y63 y64 y65 y66 y67 y68 y69 y70 y71 y72 y73 y74 y75 y76 y77 y78 y79 y80 y81 y82 y83 y84 y85 y86 y87 y88 y89 y90 y91 y92 y93 y94 y95 y96 y97 y98 y99 y100 y101 y102 y103 y104 y105 y106 y107 y108 y109 y110 y111 y112 y113 y114 y115 y116 y117 y118 y119 y120 y121 y122 y123 y124 y125 y126 y127 y128 y129 y130 y131 y132
        revert B K xs at_ depth w hat post tgt hu hlowK c0 hn5 hc0 hpost h ih hd y1 y2 w1 T0 hB hT0 u8 y3 y4 y5 y6 y7 y8 y9 y10 y11 y12 y13 y14 y15 y16 y17 y18 y19 y20 y21 y22 y23 y24 y25 y26 y27 y28 y29 y30 y31 y32 y33 y34 y35 y36 y37 y38 y39 y40 y41 y42 y43 y44 y45 y46 y47 y48 y49 y50 y51 y52 y53 y54 y55 y56 y57 y58 y59 y60 y61 y62 y63 y64 y65 y66 y67 y68 y69 y70 y71 y72 y73 y74 y75 y76 y77 y78 y79 y80 y81 y82 y83 y84 y85 y86 y87 y88 y89 y90 y91 y92 y93 y94 y95 y96 y97 y98 y99 y100 y101 y102 y103 y104 y105 y106 y107 y108 y109 y110 y111 y112 y113 y114 y115 y116 y117 y118 y119 y120 y121 y122 y123 y124 y125 y126 y127 a acc rows aov capv wo hsz c y128 hg4 hrl hab htgt hpos hdl hdi hcm hacc hfe hT hm y129 y130 y131 y132 sel hn8 w2 X hXl hT2 hKX hXs hXr hsel hXe hsX hX2 hfe2 hmr2 q0 q1 q2 q3 q4 q5 q6 hh hhe wc u9 u13 u14 u15 u16 u17 u18 u19 u20 u21 u22 u23 u24 u25 u26 u27 u28 u29 u30 u31 u32 u33 u34 u35 u36 u37 u38 u39 u40 u41 u42 u43 u44 u45 u46 u47 u48 u49 u50 u51 u52 u53 u54 u55 u56 u57 u58 u59 u60 u61 u62 u63 u64 u65 u66 u67 u68 u69 u70 u71 u72 u73 u74 u75 u76 u77 u78 u79 u80 u81 u82 u83 u84 u85 u86 u87 u88 u89 u90 u91 u92 u93 u94 u95 u96 u97 u98 u99 u100 u101 u102 u103 u104 u105 u106 u107 u108 u109 u110 u111 u112 u113 u114 u115 u116 u117 u118 u119 u120 u121 u122 u123 u124 u125 u126 u127 u128 u129 u130 u131 u132 u133 hcut
        exact side2.out⟩

set_option maxRecDepth 100000 in
set_option maxHeartbeats 32000000 in
theorem flist_first (k : Nat) (ih : ∀ k', k' + 1 = k → FListC k') : (flist_main k ih).1 := by
  intro B K xs at_ depth w hat post tgt hu hlowK c0 hn5 hc0 hpost h ih hd y1 y2 w1 T0 hB hT0 u8 u9 u13 u14 u15 u16 u17 u18 u19 u20 u21 u22 u23 u24 u25 u26 u27 u28 u29 u30 u31 u32 u33 u34 u35 u36 u37 u38 u39 u40 u41 u42 u43 u44 u45 u46 u47 u48 u49 u50 u51 u52 u53 u54 u55 u56 u57 u58 u59 u60 u61 u62 u63 u64 u65 u66 u67 u68 u69 u70 u71 u72 u73 u74 u75 u76 u77 u78 u79 u80 u81 u82 u83 u84 u85 u86 u87 u88 u89 u90 u91 u92 u93 u94 u95 u96 u97 u98 u99 u100 u101 u102 u103 u104 u105 u106 u107 u108 u109 u110 u111 u112 u113 u114 u115 u116 u117 u118 u119 u120 u121 u122 u123 u124 u125 u126 u127 u128 u129 u130 u131 u132 u133 y3 y4 y5 a acc rows aov capv wo hsz c y6 hg4 hrl hab htgt hpos hdl hdi hcm hacc hfe hT hm y7 y8 y9 y10 sel hn8 w2 X hXl hT2 hKX hXs hXr hsel hXe hsX hX2 hfe2 hmr2 q0 q1 q2 q3 q4 q5 q6 hh hhe y11 y12 y13 y14
  unfold headS at hhe
  rw [← hsel.out] at hhe
  by_cases c0 : sel = 0 ∨ sel = 1
  · rw [if_pos c0] at hhe
    replace hhe := hid hhe
    have ht8 := nextS_lt xs (a + 1) (n := 8) (by omega)
    have hn := hid (next_any 8 _ hfe2.out (by omega) (by omega) (by omega))
    obtain ⟨i, hi⟩ : ∃ i, i = nextS xs (a + 1) 8 := ⟨_, rfl⟩
    rw [← hi] at hn ht8 hhe
    replace hi := hid hi
    have hi8 : (i : Int) < 8 := by omega
    have hi0 : (0 : Int) ≤ (i : Int) := by omega
    rcases c0 with c0 | c0
    · rw [decide_eq_true c0] at q0
      replace c0 := hid c0
      go_wp2_with fail
      refine hn.out.mono ?_
      rintro e w3 ⟨rfl, hfe3, hm3⟩
      have g := str_pick hT2.out (hm3.mono (fun k hk e => by have : K = k := hk; omega)) (show i < fTexts.length from ht8)
      generalize hgt : fTexts.getD i [] = tx at g hhe
      replace hgt := hid hgt
      have hX3 := hm3.at hX2.out hKX
      obtain ⟨k0, k1, k2, k3, k4, k5, k6, k7⟩ := cells8 hX3
      have zX := free_of' hX3
      replace hX3 := hid hX3
      replace hfe3 := hid hfe3
      replace hm3 := hid hm3
      go_wp2_with fail
      go_meet
      change HeadAt B K X xs hh wo (put8 w3 X (.int .i64 1) (.string ⟨tx.toArray⟩) (.string ⟨#[]⟩) (.string ⟨#[]⟩) (.int .i64 0) (.slice none 0 0) (.slice none 0 0) (.slice none 0 0))
      rw [hhe.out]
      exact head_mk ⟨1, tx, [], [], 0, .slice none 0 0, .slice none 0 0, .slice none 0 0⟩ (put8_at hX3.out) (put8_mod _ _ _ _ _ _ _ _ _ _) hfe3.out (hmr2.out.trans hm3.out) (by omega) (by omega) (.mk _ [] [] [] (StrsAt.nil _ _) (NodesAt.nil _ _) (NodesAt.nil _ _))
    · have c00 : ¬ sel = 0 := by omega
      rw [decide_eq_false c00] at q0
      rw [decide_eq_true c0] at q1
      clear c00
      replace c0 := hid c0
      go_wp2_with fail
      refine hn.out.mono ?_
      rintro e w3 ⟨rfl, hfe3, hm3⟩
      have g := str_pick hT2.out (hm3.mono (fun k hk e => by have : K = k := hk; omega)) (show i < fTexts.length from ht8)
      generalize hgt : fTexts.getD i [] = tx at g hhe
      replace hgt := hid hgt
      have hX3 := hm3.at hX2.out hKX
      obtain ⟨k0, k1, k2, k3, k4, k5, k6, k7⟩ := cells8 hX3
      have zX := free_of' hX3
      replace hX3 := hid hX3
      replace hfe3 := hid hfe3
      replace hm3 := hid hm3
      go_wp2_with fail
      go_meet
      change HeadAt B K X xs hh wo (put8 w3 X (.int .i64 1) (.string ⟨tx.toArray⟩) (.string ⟨#[]⟩) (.string ⟨#[]⟩) (.int .i64 0) (.slice none 0 0) (.slice none 0 0) (.slice none 0 0))
      rw [hhe.out]
      exact head_mk ⟨1, tx, [], [], 0, .slice none 0 0, .slice none 0 0, .slice none 0 0⟩ (put8_at hX3.out) (put8_mod _ _ _ _ _ _ _ _ _ _) hfe3.out (hmr2.out.trans hm3.out) (by omega) (by omega) (.mk _ [] [] [] (StrsAt.nil _ _) (NodesAt.nil _ _) (NodesAt.nil _ _))
  · rw [if_neg c0] at hhe
    have c01 : ¬ sel = 0 := fun e => c0 (.inl e)
    have c02 : ¬ sel = 1 := fun e => c0 (.inr e)
    rw [decide_eq_false c01] at q0
    rw [decide_eq_false c02] at q1
    clear c01 c02
    replace c0 := hid c0
    by_cases c2 : sel = 2 ∨ sel = 3 ∨ sel = 4
    · rw [if_pos c2] at hhe
      replace hhe := hid hhe
      have hN := heap_alloc_new w2 (.cells (fNames.map strV).toArray 9)
      have hxN := Mod.alloc (Mod.refl (fun _ => False) w2) (.cells (fNames.map strV).toArray 9)
      have hn3 := nextS_lt xs (a + 1) (n := 3) (by omega)
      have hn := hid (next_any 3 _ (hfe2.out.ext hxN) (by omega) (by omega) (by omega))
      obtain ⟨i, hi⟩ : ∃ i, i = nextS xs (a + 1) 3 := ⟨_, rfl⟩
      rw [← hi] at hn hn3 hhe
      replace hi := hid hi
      have hi3 : (i : Int) < 3 := by omega
      have hi0 : (0 : Int) ≤ (i : Int) := by omega
      have hX2N := hid (hxN.at hX2.out (fun h => h))
      have hmrN := hid (hmr2.out.then hxN (fun _ _ h => h.elim))
      have hKlt : K < w2.heap.size := by omega
      replace hN := hid hN
      clear hxN
      rcases c2 with c2 | c2 | c2
      · rw [decide_eq_true c2] at q2
        replace c2 := hid c2
        go_wp2_with fail
        refine hn.out.mono ?_
        rintro e w3 ⟨rfl, hfe3, hm3⟩
        have g := str_pick hN.out (hm3.mono (fun k hk e => by have : K = k := hk; omega)) (show i < fNames.length from hn3)
        generalize hgt : fNames.getD i [] = nm at g hhe
        replace hgt := hid hgt
        have hX3 := hm3.at hX2N.out hKX
        obtain ⟨k0, k1, k2, k3, k4, k5, k6, k7⟩ := cells8 hX3
        have zX := free_of' hX3
        have hs3 := hm3.size
        replace hX3 := hid hX3
        replace hfe3 := hid hfe3
        replace hm3 := hid hm3
        go_wp2_with fail
        clear k0 k1 k2 k3 k4 k5 k6 k7 zX g
        have hX4 := put8_at (x0 := .int .i64 2) (x1 := .string ⟨#[]⟩) (x2 := .string ⟨nm.toArray⟩) (x3 := .string ⟨#[]⟩) (x4 := .int .i64 0) (x5 := .slice none 0 0) (x6 := .slice none 0 0) (x7 := .slice none 0 0) hX3.out
        have hm4 := put8_mod w3 X (.int .i64 2) (.string ⟨#[]⟩) (.string ⟨nm.toArray⟩) (.string ⟨#[]⟩) (.int .i64 0) (.slice none 0 0) (.slice none 0 0) (.slice none 0 0)
        have hfe4 := hfe3.out.mod hm4 (fun k e => by omega)
        have hmr4 := (hmrN.out.trans hm3.out).then hm4 (fun k hk e => by omega)
        have hn4lt := nextS_lt xs (a + 2) (n := 3) (by omega)
        have hn4 := hid (next_any 3 _ hfe4 (by omega) (by omega) (by omega))
        clear hfe4
        change Calls _ _ _ (put8 w3 X (.int .i64 2) (.string ⟨#[]⟩) (.string ⟨nm.toArray⟩) (.string ⟨#[]⟩) (.int .i64 0) (.slice none 0 0) (.slice none 0 0) (.slice none 0 0)) _
        generalize (put8 w3 X (.int .i64 2) (.string ⟨#[]⟩) (.string ⟨nm.toArray⟩) (.string ⟨#[]⟩) (.int .i64 0) (.slice none 0 0) (.slice none 0 0) (.slice none 0 0)) = w4 at hX4 hm4 hmr4 hn4 ⊢
        obtain ⟨cf, hcf⟩ : ∃ cf, cf = nextS xs (a + 2) 3 := ⟨_, rfl⟩
        rw [show nextS xs (a + 1 + 1) 3 = nextS xs (a + 2) 3 from rfl, ← hcf] at hn4
        rw [← hcf] at hn4lt hhe
        replace hcf := hid hcf
        refine hn4.out.mono ?_
        clear hn4
        rintro e w5 ⟨rfl, hfe5, hm5⟩
        have hX5 := hm5.at hX4 hKX
        have hmr5 := hmr4.trans hm5
        clear hX4 hm4 hmr4 hm5
        replace hX5 := hid hX5
        replace hfe5 := hid hfe5
        replace hmr5 := hid hmr5
        go_wp2_with fail
        obtain ⟨G, hG⟩ : ∃ G, G = c + 1 := ⟨_, rfl⟩
        go_loopg [9] cf (fun g ii wx => ∃ (a5 : Nat) (accf : List Bs) (v5 : Value), ii = .int .i64 g ∧ g + accf.length = cf ∧ a5 = a + 3 + accf.length ∧ Cdk.Own wx (X + 1) 9 1 strC v5 accf ∧ wx.heap[X]? = some (.cells #[.int .i64 2, .string ⟨#[]⟩, .string ⟨nm.toArray⟩, .string ⟨#[]⟩, .int .i64 0, v5, .slice none 0 0, .slice none 0 0] 36 (0, 0)) ∧
          Fe B K xs a5 wx ∧ Mod (Eq K) wo wx ∧ Hid (filtF xs cf (a + 3) [] = filtF xs g a5 accf))
        case atStart => exact ⟨a + 3, [], _, rfl, by simp, by simp, Cdk.Own.nil _ _ _ _ _, hX5.out, hfe5.out, hmr5.out, hid rfl⟩
        case round =>
          obtain ⟨a5, accf, v5, rfl, hga, ha5, hown, hX6, hfe6, hmr6, hfil⟩ := hrel
          clear hX5 hfe5 hmr5
          obtain ⟨af, capf, rfl, -, -⟩ := hown.row
          by_cases hg0 : 0 < gk
          rotate_left
          · have hdl : decide ((0 : Int) < (gk : Int)) = false := decide_eq_false (by omega)
            have hdi : ¬ (0 : Int) < (gk : Int) := by omega
            obtain rfl : gk = 0 := by omega
            replace hown := hid hown
            replace hX6 := hid hX6
            replace hfe6 := hid hfe6
            replace hmr6 := hid hmr6
            go_wp2_with fail
            go_meet
            rw [hhe.out, hfil.out, filtF]
            obtain ⟨ao9, cap9, hv9, hr9, hb9⟩ := hown.out.row
            exact ⟨⟨2, [], nm, [], 0, .slice af accf.length capf, .slice none 0 0, .slice none 0 0⟩, hX6.out, .mk _ accf [] [] ⟨ao9, cap9, hv9, hr9, (fun b off e => by have := hown.out.block b (hb9 b off e); omega), Own.capOk (hv9 ▸ hown.out)⟩ (NodesAt.nil _ _) (NodesAt.nil _ _), hfe6.out, hmr6.out⟩
          · have hdl : decide ((0 : Int) < (gk : Int)) = true := decide_eq_true (by omega)
            have hdi : (0 : Int) < (gk : Int) := by omega
            obtain ⟨g, rfl⟩ : ∃ g, gk = g + 1 := ⟨gk - 1, by omega⟩
            have hacl : accf.length ≤ 3 := by omega
            replace hown := hid hown
            replace hX6 := hid hX6
            replace hfe6 := hid hfe6
            replace hmr6 := hid hmr6
            replace ha5 := hid ha5
            go_wp2_with fail
            have c5 : wr.drew.cell? ⟨X, 5, none⟩ = some (.slice af accf.length capf) := cell_of' hX6.out 5
            refine wp_region_schedE (fun w' => w'.cell? ⟨X, 5, none⟩ = some (.slice af accf.length capf)) [(0, true), (1, true), (2, true), (3, false), (4, false), (5, false), (6, true), (7, false)] (by as_aux_lemma => kernel_rfl) (by as_aux_lemma => kernel_rfl) (by as_aux_lemma => kernel_rfl) (by decide) c5 ?_
            simp only [schedOps, List.map_cons, List.map_nil, List.getD_cons_zero, List.getD_cons_succ]
            repeat (first | (refine wpT_p (by rfl) (by rfl) ?_ (fun w' hC => ?_) ?_; rotate_left; (go_simp; try with_reducible rfl); try simp only [Act.put, List.setIfInBounds_toArray, List.set_cons_zero, List.set_cons_succ]) | (refine wpT_q (by rfl) (by rfl) ?_ (fun w' hC => ?_) ?_; rotate_left; (go_simp; try with_reducible rfl); try simp only [Act.put, List.setIfInBounds_toArray, List.set_cons_zero, List.set_cons_succ]))
            refine wpT_c (by rfl) (fun Kc hKc => ?_)
            go_simp
            refine (fword_any _ (hfe6.out.ext (Mod.drew0 _ _)) (by have := ha5.out; omega)).mono ?_
            rintro e w7 ⟨rfl, hfe7, hm7'⟩
            have hm7 := (Mod.drew0 (Eq K) _).trans hm7'
            have hX7 := hm7.at hX6.out hKX
            have hown7 := hown.out.mod hm7 (fun k hk e => by have := (hown.out.block k hk).1; omega)
            have c5c : w7.cell? ⟨X, 5, none⟩ = some (.slice af accf.length capf) := cell_of' hX7 5
            refine hKc.out _ _ c5c ?_
            clear hKc Kc c5 hm7'
            replace hfe7 := hid hfe7
            replace hm7 := hid hm7
            replace hX7 := hid hX7
            replace hown7 := hid hown7
            try simp only [Act.put, List.setIfInBounds_toArray, List.set_cons_zero, List.set_cons_succ]
            generalize hwd : wordS xs a5 = wd
            replace hwd := hid hwd
            unfold strV
            repeat (first | (refine wpT_p (by rfl) (by rfl) ?_ (fun w' hC => ?_) ?_; rotate_left; (go_simp; try with_reducible rfl); try simp only [Act.put, List.setIfInBounds_toArray, List.set_cons_zero, List.set_cons_succ]) | (refine wpT_q (by rfl) (by rfl) ?_ (fun w' hC => ?_) ?_; rotate_left; (go_simp; try with_reducible rfl); try simp only [Act.put, List.setIfInBounds_toArray, List.set_cons_zero, List.set_cons_succ]))
            refine wpT_c (by rfl) (fun Kc hKc => ?_)
            go_simp
            have hxd := Mod.alloc (Mod.refl (fun _ => False) w7) (.cells #[.string ⟨wd.toArray⟩] 9)
            refine hKc.out _ _ (hxd.cell c5c (fun h => h)) ?_
            clear hKc Kc
            try simp only [Act.put, List.setIfInBounds_toArray, List.set_cons_zero, List.set_cons_succ]
            repeat (first | (refine wpT_p (by rfl) (by rfl) ?_ (fun w' hC => ?_) ?_; rotate_left; (go_simp; try with_reducible rfl); try simp only [Act.put, List.setIfInBounds_toArray, List.set_cons_zero, List.set_cons_succ]) | (refine wpT_q (by rfl) (by rfl) ?_ (fun w' hC => ?_) ?_; rotate_left; (go_simp; try with_reducible rfl); try simp only [Act.put, List.setIfInBounds_toArray, List.set_cons_zero, List.set_cons_succ]))
            refine wpT_c (by rfl) (fun Kc hKc => ?_)
            refine wp_app _ _ _ rfl Tryz.underlying25 el9 rfl (hown7.out.ext hxd) _ 1 1 rfl [wd] rfl (by exact RowIs.new _ _ _) strC_len (fun z hz u hu => ?_) (by simp only [List.length_singleton]; omega) (by rw [World.size_alloc]; have := lt_of_at hX7.out; omega) (by simp) (fun v8 w8 H8 => ?_)
            · simp only [List.mem_singleton] at hz; subst hz
              simp [strC] at hu
              subst hu; rfl
            try simp only [Act.put, List.setIfInBounds_toArray, List.set_cons_zero, List.set_cons_succ]
            have hnb : ¬ (Value.slice af accf.length capf).ownBlock = some X := fun e => by have := (hown7.out.block _ e).1; omega
            refine hKc.out _ _ (H8.out.2.cell (hxd.cell c5c (fun h => h)) hnb) ?_
            clear hKc Kc
            obtain ⟨ao8, cap8, rfl, -, -⟩ := H8.out.1.row
            rw [List.length_append, List.length_singleton]
            repeat (first | (refine wpT_p (by rfl) (by rfl) ?_ (fun w' hC => ?_) ?_; rotate_left; (go_simp; try with_reducible rfl); try simp only [Act.put, List.setIfInBounds_toArray, List.set_cons_zero, List.set_cons_succ]) | (refine wpT_q (by rfl) (by rfl) ?_ (fun w' hC => ?_) ?_; rotate_left; (go_simp; try with_reducible rfl); try simp only [Act.put, List.setIfInBounds_toArray, List.set_cons_zero, List.set_cons_succ]))
            have hX8 := H8.out.2.at (hxd.at hX7.out (fun h => h)) hnb
            have c58 : w8.cell? ⟨X, 5, none⟩ = some (.slice af accf.length capf) := cell_of' hX8 5
            have z8 := free_of' hX8
            replace hX8 := hid hX8
            refine wpT_e (by rfl) (fun Kc hKc => ?_)
            go_simp
            refine hKc.out _ _ ?_
            clear hKc Kc c58 z8
            go_wp2_with fail
            go_roundg g
            case measure => omega
            case rel =>
              have hmd : Mod (fun j => j = K ∨ (Value.slice af accf.length capf).ownBlock = some j) wr w8 := ((hm7.out.mono (fun _ h => .inl h.symm)).then (hxd.mono (T := fun _ => False) (fun _ h => h)) (fun _ _ h => h.elim)).then H8.out.2 (fun _ _ h => .inr h)
              have hmS := (Mod.refl (Eq X) w8).setCell (a := ⟨X, 5, none⟩) (fun _ => rfl) (.slice ao8 (accf.length + 1) cap8)
              have hO := hown7.out
              have h8 := H8.out.1.mod hmS (fun j hj e => by have := (H8.out.1.block j hj).1; omega)
              refine ⟨a5 + 1, accf ++ [wd], _, by go_num, by simp only [List.length_append, List.length_singleton]; omega, by have := ha5.out; simp only [List.length_append, List.length_singleton]; omega, ?_, put_at hX8.out 5 _, ?_, ?_, ?_⟩
              · rw [show accf.length + 1 = (accf ++ [wd]).length by simp]
                simpa using h8
              · refine ((hfe7.out.ext hxd).mod H8.out.2 (fun k e => ?_)).mod hmS (fun k e => by omega)
                have := (hO.block _ e).1; omega
              · exact (hmr6.out.then hmd (fun j hj e => by
                  rcases e with e | e
                  · exact e.symm
                  · have := (hO.block _ e).1; omega)).then hmS (fun j hj e => by omega)
              · refine hid ?_
                rw [hfil.out, filtF, hwd.out]
      · have c22 : ¬ sel = 2 := by omega
        rw [decide_eq_false c22] at q2
        rw [decide_eq_true c2] at q3
        clear c22
        replace c2 := hid c2
        go_wp2_with fail
        refine hn.out.mono ?_
        rintro e w3 ⟨rfl, hfe3, hm3⟩
        have g := str_pick hN.out (hm3.mono (fun k hk e => by have : K = k := hk; omega)) (show i < fNames.length from hn3)
        generalize hgt : fNames.getD i [] = nm at g hhe
        replace hgt := hid hgt
        have hX3 := hm3.at hX2N.out hKX
        obtain ⟨k0, k1, k2, k3, k4, k5, k6, k7⟩ := cells8 hX3
        have zX := free_of' hX3
        have hs3 := hm3.size
        replace hX3 := hid hX3
        replace hfe3 := hid hfe3
        replace hm3 := hid hm3
        go_wp2_with fail
        clear k0 k1 k2 k3 k4 k5 k6 k7 zX g
        have hX4 := put8_at (x0 := .int .i64 2) (x1 := .string ⟨#[]⟩) (x2 := .string ⟨nm.toArray⟩) (x3 := .string ⟨#[]⟩) (x4 := .int .i64 0) (x5 := .slice none 0 0) (x6 := .slice none 0 0) (x7 := .slice none 0 0) hX3.out
        have hm4 := put8_mod w3 X (.int .i64 2) (.string ⟨#[]⟩) (.string ⟨nm.toArray⟩) (.string ⟨#[]⟩) (.int .i64 0) (.slice none 0 0) (.slice none 0 0) (.slice none 0 0)
        have hfe4 := hfe3.out.mod hm4 (fun k e => by omega)
        have hmr4 := (hmrN.out.trans hm3.out).then hm4 (fun k hk e => by omega)
        have hn4lt := nextS_lt xs (a + 2) (n := 3) (by omega)
        have hn4 := hid (next_any 3 _ hfe4 (by omega) (by omega) (by omega))
        clear hfe4
        change Calls _ _ _ (put8 w3 X (.int .i64 2) (.string ⟨#[]⟩) (.string ⟨nm.toArray⟩) (.string ⟨#[]⟩) (.int .i64 0) (.slice none 0 0) (.slice none 0 0) (.slice none 0 0)) _
        generalize (put8 w3 X (.int .i64 2) (.string ⟨#[]⟩) (.string ⟨nm.toArray⟩) (.string ⟨#[]⟩) (.int .i64 0) (.slice none 0 0) (.slice none 0 0) (.slice none 0 0)) = w4 at hX4 hm4 hmr4 hn4 ⊢
        obtain ⟨cf, hcf⟩ : ∃ cf, cf = nextS xs (a + 2) 3 := ⟨_, rfl⟩
        rw [show nextS xs (a + 1 + 1) 3 = nextS xs (a + 2) 3 from rfl, ← hcf] at hn4
        rw [← hcf] at hn4lt hhe
        replace hcf := hid hcf
        refine hn4.out.mono ?_
        clear hn4
        rintro e w5 ⟨rfl, hfe5, hm5⟩
        have hX5 := hm5.at hX4 hKX
        have hmr5 := hmr4.trans hm5
        clear hX4 hm4 hmr4 hm5
        replace hX5 := hid hX5
        replace hfe5 := hid hfe5
        replace hmr5 := hid hmr5
        go_wp2_with fail
        obtain ⟨G, hG⟩ : ∃ G, G = c + 1 := ⟨_, rfl⟩
        go_loopg [9] cf (fun g ii wx => ∃ (a5 : Nat) (accf : List Bs) (v5 : Value), ii = .int .i64 g ∧ g + accf.length = cf ∧ a5 = a + 3 + accf.length ∧ Cdk.Own wx (X + 1) 9 1 strC v5 accf ∧ wx.heap[X]? = some (.cells #[.int .i64 2, .string ⟨#[]⟩, .string ⟨nm.toArray⟩, .string ⟨#[]⟩, .int .i64 0, v5, .slice none 0 0, .slice none 0 0] 36 (0, 0)) ∧
          Fe B K xs a5 wx ∧ Mod (Eq K) wo wx ∧ Hid (filtF xs cf (a + 3) [] = filtF xs g a5 accf))
        case atStart => exact ⟨a + 3, [], _, rfl, by simp, by simp, Cdk.Own.nil _ _ _ _ _, hX5.out, hfe5.out, hmr5.out, hid rfl⟩
        case round =>
          obtain ⟨a5, accf, v5, rfl, hga, ha5, hown, hX6, hfe6, hmr6, hfil⟩ := hrel
          clear hX5 hfe5 hmr5
          obtain ⟨af, capf, rfl, -, -⟩ := hown.row
          by_cases hg0 : 0 < gk
          rotate_left
          · have hdl : decide ((0 : Int) < (gk : Int)) = false := decide_eq_false (by omega)
            have hdi : ¬ (0 : Int) < (gk : Int) := by omega
            obtain rfl : gk = 0 := by omega
            replace hown := hid hown
            replace hX6 := hid hX6
            replace hfe6 := hid hfe6
            replace hmr6 := hid hmr6
            go_wp2_with fail
            go_meet
            rw [hhe.out, hfil.out, filtF]
            obtain ⟨ao9, cap9, hv9, hr9, hb9⟩ := hown.out.row
            exact ⟨⟨2, [], nm, [], 0, .slice af accf.length capf, .slice none 0 0, .slice none 0 0⟩, hX6.out, .mk _ accf [] [] ⟨ao9, cap9, hv9, hr9, (fun b off e => by have := hown.out.block b (hb9 b off e); omega), Own.capOk (hv9 ▸ hown.out)⟩ (NodesAt.nil _ _) (NodesAt.nil _ _), hfe6.out, hmr6.out⟩
          · have hdl : decide ((0 : Int) < (gk : Int)) = true := decide_eq_true (by omega)
            have hdi : (0 : Int) < (gk : Int) := by omega
            obtain ⟨g, rfl⟩ : ∃ g, gk = g + 1 := ⟨gk - 1, by omega⟩
            have hacl : accf.length ≤ 3 := by omega
            replace hown := hid hown
            replace hX6 := hid hX6
            replace hfe6 := hid hfe6
            replace hmr6 := hid hmr6
            replace ha5 := hid ha5
            go_wp2_with fail
            have c5 : wr.drew.cell? ⟨X, 5, none⟩ = some (.slice af accf.length capf) := cell_of' hX6.out 5
            refine wp_region_schedE (fun w' => w'.cell? ⟨X, 5, none⟩ = some (.slice af accf.length capf)) [(0, true), (1, true), (2, true), (3, false), (4, false), (5, false), (6, true), (7, false)] (by as_aux_lemma => kernel_rfl) (by as_aux_lemma => kernel_rfl) (by as_aux_lemma => kernel_rfl) (by decide) c5 ?_
            simp only [schedOps, List.map_cons, List.map_nil, List.getD_cons_zero, List.getD_cons_succ]
            repeat (first | (refine wpT_p (by rfl) (by rfl) ?_ (fun w' hC => ?_) ?_; rotate_left; (go_simp; try with_reducible rfl); try simp only [Act.put, List.setIfInBounds_toArray, List.set_cons_zero, List.set_cons_succ]) | (refine wpT_q (by rfl) (by rfl) ?_ (fun w' hC => ?_) ?_; rotate_left; (go_simp; try with_reducible rfl); try simp only [Act.put, List.setIfInBounds_toArray, List.set_cons_zero, List.set_cons_succ]))
            refine wpT_c (by rfl) (fun Kc hKc => ?_)
            go_simp
            refine (fword_any _ (hfe6.out.ext (Mod.drew0 _ _)) (by have := ha5.out; omega)).mono ?_
            rintro e w7 ⟨rfl, hfe7, hm7'⟩
            have hm7 := (Mod.drew0 (Eq K) _).trans hm7'
            have hX7 := hm7.at hX6.out hKX
            have hown7 := hown.out.mod hm7 (fun k hk e => by have := (hown.out.block k hk).1; omega)
            have c5c : w7.cell? ⟨X, 5, none⟩ = some (.slice af accf.length capf) := cell_of' hX7 5
            refine hKc.out _ _ c5c ?_
            clear hKc Kc c5 hm7'
            replace hfe7 := hid hfe7
            replace hm7 := hid hm7
            replace hX7 := hid hX7
            replace hown7 := hid hown7
            try simp only [Act.put, List.setIfInBounds_toArray, List.set_cons_zero, List.set_cons_succ]
            generalize hwd : wordS xs a5 = wd
            replace hwd := hid hwd
            unfold strV
            repeat (first | (refine wpT_p (by rfl) (by rfl) ?_ (fun w' hC => ?_) ?_; rotate_left; (go_simp; try with_reducible rfl); try simp only [Act.put, List.setIfInBounds_toArray, List.set_cons_zero, List.set_cons_succ]) | (refine wpT_q (by rfl) (by rfl) ?_ (fun w' hC => ?_) ?_; rotate_left; (go_simp; try with_reducible rfl); try simp only [Act.put, List.setIfInBounds_toArray, List.set_cons_zero, List.set_cons_succ]))
            refine wpT_c (by rfl) (fun Kc hKc => ?_)
            go_simp
            have hxd := Mod.alloc (Mod.refl (fun _ => False) w7) (.cells #[.string ⟨wd.toArray⟩] 9)
            refine hKc.out _ _ (hxd.cell c5c (fun h => h)) ?_
            clear hKc Kc
            try simp only [Act.put, List.setIfInBounds_toArray, List.set_cons_zero, List.set_cons_succ]
            repeat (first | (refine wpT_p (by rfl) (by rfl) ?_ (fun w' hC => ?_) ?_; rotate_left; (go_simp; try with_reducible rfl); try simp only [Act.put, List.setIfInBounds_toArray, List.set_cons_zero, List.set_cons_succ]) | (refine wpT_q (by rfl) (by rfl) ?_ (fun w' hC => ?_) ?_; rotate_left; (go_simp; try with_reducible rfl); try simp only [Act.put, List.setIfInBounds_toArray, List.set_cons_zero, List.set_cons_succ]))
            refine wpT_c (by rfl) (fun Kc hKc => ?_)
            refine wp_app _ _ _ rfl Tryz.underlying25 el9 rfl (hown7.out.ext hxd) _ 1 1 rfl [wd] rfl (by exact RowIs.new _ _ _) strC_len (fun z hz u hu => ?_) (by simp only [List.length_singleton]; omega) (by rw [World.size_alloc]; have := lt_of_at hX7.out; omega) (by simp) (fun v8 w8 H8 => ?_)
            · simp only [List.mem_singleton] at hz; subst hz
              simp [strC] at hu
              subst hu; rfl
            try simp only [Act.put, List.setIfInBounds_toArray, List.set_cons_zero, List.set_cons_succ]
            have hnb : ¬ (Value.slice af accf.length capf).ownBlock = some X := fun e => by have := (hown7.out.block _ e).1; omega
            refine hKc.out _ _ (H8.out.2.cell (hxd.cell c5c (fun h => h)) hnb) ?_
            clear hKc Kc
            obtain ⟨ao8, cap8, rfl, -, -⟩ := H8.out.1.row
            rw [List.length_append, List.length_singleton]
            repeat (first | (refine wpT_p (by rfl) (by rfl) ?_ (fun w' hC => ?_) ?_; rotate_left; (go_simp; try with_reducible rfl); try simp only [Act.put, List.setIfInBounds_toArray, List.set_cons_zero, List.set_cons_succ]) | (refine wpT_q (by rfl) (by rfl) ?_ (fun w' hC => ?_) ?_; rotate_left; (go_simp; try with_reducible rfl); try simp only [Act.put, List.setIfInBounds_toArray, List.set_cons_zero, List.set_cons_succ]))
            have hX8 := H8.out.2.at (hxd.at hX7.out (fun h => h)) hnb
            have c58 : w8.cell? ⟨X, 5, none⟩ = some (.slice af accf.length capf) := cell_of' hX8 5
            have z8 := free_of' hX8
            replace hX8 := hid hX8
            refine wpT_e (by rfl) (fun Kc hKc => ?_)
            go_simp
            refine hKc.out _ _ ?_
            clear hKc Kc c58 z8
            go_wp2_with fail
            go_roundg g
            case measure => omega
            case rel =>
              have hmd : Mod (fun j => j = K ∨ (Value.slice af accf.length capf).ownBlock = some j) wr w8 := ((hm7.out.mono (fun _ h => .inl h.symm)).then (hxd.mono (T := fun _ => False) (fun _ h => h)) (fun _ _ h => h.elim)).then H8.out.2 (fun _ _ h => .inr h)
              have hmS := (Mod.refl (Eq X) w8).setCell (a := ⟨X, 5, none⟩) (fun _ => rfl) (.slice ao8 (accf.length + 1) cap8)
              have hO := hown7.out
              have h8 := H8.out.1.mod hmS (fun j hj e => by have := (H8.out.1.block j hj).1; omega)
              refine ⟨a5 + 1, accf ++ [wd], _, by go_num, by simp only [List.length_append, List.length_singleton]; omega, by have := ha5.out; simp only [List.length_append, List.length_singleton]; omega, ?_, put_at hX8.out 5 _, ?_, ?_, ?_⟩
              · rw [show accf.length + 1 = (accf ++ [wd]).length by simp]
                simpa using h8
              · refine ((hfe7.out.ext hxd).mod H8.out.2 (fun k e => ?_)).mod hmS (fun k e => by omega)
                have := (hO.block _ e).1; omega
              · exact (hmr6.out.then hmd (fun j hj e => by
                  rcases e with e | e
                  · exact e.symm
                  · have := (hO.block _ e).1; omega)).then hmS (fun j hj e => by omega)
              · refine hid ?_
                rw [hfil.out, filtF, hwd.out]
      · have c22 : ¬ sel = 2 := by omega
        have c23 : ¬ sel = 3 := by omega
        rw [decide_eq_false c22] at q2
        rw [decide_eq_false c23] at q3
        rw [decide_eq_true c2] at q4
        clear c22 c23
        replace c2 := hid c2
        go_wp2_with fail
        refine hn.out.mono ?_
        rintro e w3 ⟨rfl, hfe3, hm3⟩
        have g := str_pick hN.out (hm3.mono (fun k hk e => by have : K = k := hk; omega)) (show i < fNames.length from hn3)
        generalize hgt : fNames.getD i [] = nm at g hhe
        replace hgt := hid hgt
        have hX3 := hm3.at hX2N.out hKX
        obtain ⟨k0, k1, k2, k3, k4, k5, k6, k7⟩ := cells8 hX3
        have zX := free_of' hX3
        have hs3 := hm3.size
        replace hX3 := hid hX3
        replace hfe3 := hid hfe3
        replace hm3 := hid hm3
        go_wp2_with fail
        clear k0 k1 k2 k3 k4 k5 k6 k7 zX g
        have hX4 := put8_at (x0 := .int .i64 2) (x1 := .string ⟨#[]⟩) (x2 := .string ⟨nm.toArray⟩) (x3 := .string ⟨#[]⟩) (x4 := .int .i64 0) (x5 := .slice none 0 0) (x6 := .slice none 0 0) (x7 := .slice none 0 0) hX3.out
        have hm4 := put8_mod w3 X (.int .i64 2) (.string ⟨#[]⟩) (.string ⟨nm.toArray⟩) (.string ⟨#[]⟩) (.int .i64 0) (.slice none 0 0) (.slice none 0 0) (.slice none 0 0)
        have hfe4 := hfe3.out.mod hm4 (fun k e => by omega)
        have hmr4 := (hmrN.out.trans hm3.out).then hm4 (fun k hk e => by omega)
        have hn4lt := nextS_lt xs (a + 2) (n := 3) (by omega)
        have hn4 := hid (next_any 3 _ hfe4 (by omega) (by omega) (by omega))
        clear hfe4
        change Calls _ _ _ (put8 w3 X (.int .i64 2) (.string ⟨#[]⟩) (.string ⟨nm.toArray⟩) (.string ⟨#[]⟩) (.int .i64 0) (.slice none 0 0) (.slice none 0 0) (.slice none 0 0)) _
        generalize (put8 w3 X (.int .i64 2) (.string ⟨#[]⟩) (.string ⟨nm.toArray⟩) (.string ⟨#[]⟩) (.int .i64 0) (.slice none 0 0) (.slice none 0 0) (.slice none 0 0)) = w4 at hX4 hm4 hmr4 hn4 ⊢
        obtain ⟨cf, hcf⟩ : ∃ cf, cf = nextS xs (a + 2) 3 := ⟨_, rfl⟩
        rw [show nextS xs (a + 1 + 1) 3 = nextS xs (a + 2) 3 from rfl, ← hcf] at hn4
        rw [← hcf] at hn4lt hhe
        replace hcf := hid hcf
        refine hn4.out.mono ?_
        clear hn4
        rintro e w5 ⟨rfl, hfe5, hm5⟩
        have hX5 := hm5.at hX4 hKX
        have hmr5 := hmr4.trans hm5
        clear hX4 hm4 hmr4 hm5
        replace hX5 := hid hX5
        replace hfe5 := hid hfe5
        replace hmr5 := hid hmr5
        go_wp2_with fail
        obtain ⟨G, hG⟩ : ∃ G, G = c + 1 := ⟨_, rfl⟩
        go_loopg [9] cf (fun g ii wx => ∃ (a5 : Nat) (accf : List Bs) (v5 : Value), ii = .int .i64 g ∧ g + accf.length = cf ∧ a5 = a + 3 + accf.length ∧ Cdk.Own wx (X + 1) 9 1 strC v5 accf ∧ wx.heap[X]? = some (.cells #[.int .i64 2, .string ⟨#[]⟩, .string ⟨nm.toArray⟩, .string ⟨#[]⟩, .int .i64 0, v5, .slice none 0 0, .slice none 0 0] 36 (0, 0)) ∧
          Fe B K xs a5 wx ∧ Mod (Eq K) wo wx ∧ Hid (filtF xs cf (a + 3) [] = filtF xs g a5 accf))
        case atStart => exact ⟨a + 3, [], _, rfl, by simp, by simp, Cdk.Own.nil _ _ _ _ _, hX5.out, hfe5.out, hmr5.out, hid rfl⟩
        case round =>
          obtain ⟨a5, accf, v5, rfl, hga, ha5, hown, hX6, hfe6, hmr6, hfil⟩ := hrel
          clear hX5 hfe5 hmr5
          obtain ⟨af, capf, rfl, -, -⟩ := hown.row
          by_cases hg0 : 0 < gk
          rotate_left
          · have hdl : decide ((0 : Int) < (gk : Int)) = false := decide_eq_false (by omega)
            have hdi : ¬ (0 : Int) < (gk : Int) := by omega
            obtain rfl : gk = 0 := by omega
            replace hown := hid hown
            replace hX6 := hid hX6
            replace hfe6 := hid hfe6
            replace hmr6 := hid hmr6
            go_wp2_with fail
            go_meet
            rw [hhe.out, hfil.out, filtF]
            obtain ⟨ao9, cap9, hv9, hr9, hb9⟩ := hown.out.row
            exact ⟨⟨2, [], nm, [], 0, .slice af accf.length capf, .slice none 0 0, .slice none 0 0⟩, hX6.out, .mk _ accf [] [] ⟨ao9, cap9, hv9, hr9, (fun b off e => by have := hown.out.block b (hb9 b off e); omega), Own.capOk (hv9 ▸ hown.out)⟩ (NodesAt.nil _ _) (NodesAt.nil _ _), hfe6.out, hmr6.out⟩
          · have hdl : decide ((0 : Int) < (gk : Int)) = true := decide_eq_true (by omega)
            have hdi : (0 : Int) < (gk : Int) := by omega
            obtain ⟨g, rfl⟩ : ∃ g, gk = g + 1 := ⟨gk - 1, by omega⟩
            have hacl : accf.length ≤ 3 := by omega
            replace hown := hid hown
            replace hX6 := hid hX6
            replace hfe6 := hid hfe6
            replace hmr6 := hid hmr6
            replace ha5 := hid ha5
            go_wp2_with fail
            have c5 : wr.drew.cell? ⟨X, 5, none⟩ = some (.slice af accf.length capf) := cell_of' hX6.out 5
            refine wp_region_schedE (fun w' => w'.cell? ⟨X, 5, none⟩ = some (.slice af accf.length capf)) [(0, true), (1, true), (2, true), (3, false), (4, false), (5, false), (6, true), (7, false)] (by as_aux_lemma => kernel_rfl) (by as_aux_lemma => kernel_rfl) (by as_aux_lemma => kernel_rfl) (by decide) c5 ?_
            simp only [schedOps, List.map_cons, List.map_nil, List.getD_cons_zero, List.getD_cons_succ]
            repeat (first | (refine wpT_p (by rfl) (by rfl) ?_ (fun w' hC => ?_) ?_; rotate_left; (go_simp; try with_reducible rfl); try simp only [Act.put, List.setIfInBounds_toArray, List.set_cons_zero, List.set_cons_succ]) | (refine wpT_q (by rfl) (by rfl) ?_ (fun w' hC => ?_) ?_; rotate_left; (go_simp; try with_reducible rfl); try simp only [Act.put, List.setIfInBounds_toArray, List.set_cons_zero, List.set_cons_succ]))
            refine wpT_c (by rfl) (fun Kc hKc => ?_)
            go_simp
            refine (fword_any _ (hfe6.out.ext (Mod.drew0 _ _)) (by have := ha5.out; omega)).mono ?_
            rintro e w7 ⟨rfl, hfe7, hm7'⟩
            have hm7 := (Mod.drew0 (Eq K) _).trans hm7'
            have hX7 := hm7.at hX6.out hKX
            have hown7 := hown.out.mod hm7 (fun k hk e => by have := (hown.out.block k hk).1; omega)
            have c5c : w7.cell? ⟨X, 5, none⟩ = some (.slice af accf.length capf) := cell_of' hX7 5
            refine hKc.out _ _ c5c ?_
            clear hKc Kc c5 hm7'
            replace hfe7 := hid hfe7
            replace hm7 := hid hm7
            replace hX7 := hid hX7
            replace hown7 := hid hown7
            try simp only [Act.put, List.setIfInBounds_toArray, List.set_cons_zero, List.set_cons_succ]
            generalize hwd : wordS xs a5 = wd
            replace hwd := hid hwd
            unfold strV
            repeat (first | (refine wpT_p (by rfl) (by rfl) ?_ (fun w' hC => ?_) ?_; rotate_left; (go_simp; try with_reducible rfl); try simp only [Act.put, List.setIfInBounds_toArray, List.set_cons_zero, List.set_cons_succ]) | (refine wpT_q (by rfl) (by rfl) ?_ (fun w' hC => ?_) ?_; rotate_left; (go_simp; try with_reducible rfl); try simp only [Act.put, List.setIfInBounds_toArray, List.set_cons_zero, List.set_cons_succ]))
            refine wpT_c (by rfl) (fun Kc hKc => ?_)
            go_simp
            have hxd := Mod.alloc (Mod.refl (fun _ => False) w7) (.cells #[.string ⟨wd.toArray⟩] 9)
            refine hKc.out _ _ (hxd.cell c5c (fun h => h)) ?_
            clear hKc Kc
            try simp only [Act.put, List.setIfInBounds_toArray, List.set_cons_zero, List.set_cons_succ]
            repeat (first | (refine wpT_p (by rfl) (by rfl) ?_ (fun w' hC => ?_) ?_; rotate_left; (go_simp; try with_reducible rfl); try simp only [Act.put, List.setIfInBounds_toArray, List.set_cons_zero, List.set_cons_succ]) | (refine wpT_q (by rfl) (by rfl) ?_ (fun w' hC => ?_) ?_; rotate_left; (go_simp; try with_reducible rfl); try simp only [Act.put, List.setIfInBounds_toArray, List.set_cons_zero, List.set_cons_succ]))
            refine wpT_c (by rfl) (fun Kc hKc => ?_)
            refine wp_app _ _ _ rfl Tryz.underlying25 el9 rfl (hown7.out.ext hxd) _ 1 1 rfl [wd] rfl (by exact RowIs.new _ _ _) strC_len (fun z hz u hu => ?_) (by simp only [List.length_singleton]; omega) (by rw [World.size_alloc]; have := lt_of_at hX7.out; omega) (by simp) (fun v8 w8 H8 => ?_)
            · simp only [List.mem_singleton] at hz; subst hz
              simp [strC] at hu
              subst hu; rfl
            try simp only [Act.put, List.setIfInBounds_toArray, List.set_cons_zero, List.set_cons_succ]
            have hnb : ¬ (Value.slice af accf.length capf).ownBlock = some X := fun e => by have := (hown7.out.block _ e).1; omega
            refine hKc.out _ _ (H8.out.2.cell (hxd.cell c5c (fun h => h)) hnb) ?_
            clear hKc Kc
            obtain ⟨ao8, cap8, rfl, -, -⟩ := H8.out.1.row
            rw [List.length_append, List.length_singleton]
            repeat (first | (refine wpT_p (by rfl) (by rfl) ?_ (fun w' hC => ?_) ?_; rotate_left; (go_simp; try with_reducible rfl); try simp only [Act.put, List.setIfInBounds_toArray, List.set_cons_zero, List.set_cons_succ]) | (refine wpT_q (by rfl) (by rfl) ?_ (fun w' hC => ?_) ?_; rotate_left; (go_simp; try with_reducible rfl); try simp only [Act.put, List.setIfInBounds_toArray, List.set_cons_zero, List.set_cons_succ]))
            have hX8 := H8.out.2.at (hxd.at hX7.out (fun h => h)) hnb
            have c58 : w8.cell? ⟨X, 5, none⟩ = some (.slice af accf.length capf) := cell_of' hX8 5
            have z8 := free_of' hX8
            replace hX8 := hid hX8
            refine wpT_e (by rfl) (fun Kc hKc => ?_)
            go_simp
            refine hKc.out _ _ ?_
            clear hKc Kc c58 z8
            go_wp2_with fail
            go_roundg g
            case measure => omega
            case rel =>
              have hmd : Mod (fun j => j = K ∨ (Value.slice af accf.length capf).ownBlock = some j) wr w8 := ((hm7.out.mono (fun _ h => .inl h.symm)).then (hxd.mono (T := fun _ => False) (fun _ h => h)) (fun _ _ h => h.elim)).then H8.out.2 (fun _ _ h => .inr h)
              have hmS := (Mod.refl (Eq X) w8).setCell (a := ⟨X, 5, none⟩) (fun _ => rfl) (.slice ao8 (accf.length + 1) cap8)
              have hO := hown7.out
              have h8 := H8.out.1.mod hmS (fun j hj e => by have := (H8.out.1.block j hj).1; omega)
              refine ⟨a5 + 1, accf ++ [wd], _, by go_num, by simp only [List.length_append, List.length_singleton]; omega, by have := ha5.out; simp only [List.length_append, List.length_singleton]; omega, ?_, put_at hX8.out 5 _, ?_, ?_, ?_⟩
              · rw [show accf.length + 1 = (accf ++ [wd]).length by simp]
                simpa using h8
              · refine ((hfe7.out.ext hxd).mod H8.out.2 (fun k e => ?_)).mod hmS (fun k e => by omega)
                have := (hO.block _ e).1; omega
              · exact (hmr6.out.then hmd (fun j hj e => by
                  rcases e with e | e
                  · exact e.symm
                  · have := (hO.block _ e).1; omega)).then hmS (fun j hj e => by omega)
              · refine hid ?_
                rw [hfil.out, filtF, hwd.out]
    · rw [if_neg c2] at hhe
      have c21 : ¬ sel = 2 := fun e => c2 (.inl e)
      have c22 : ¬ sel = 3 := fun e => c2 (.inr (.inl e))
      have c23 : ¬ sel = 4 := fun e => c2 (.inr (.inr e))
      rw [decide_eq_false c21] at q2
      rw [decide_eq_false c22] at q3
      rw [decide_eq_false c23] at q4
      clear c21 c22 c23
      replace c2 := hid c2
      by_cases c5 : sel = 5
      · rw [if_pos c5] at hhe
        rw [decide_eq_true c5] at q5
        replace c5 := hid c5
        generalize hwd : wordS xs (a + 1) = wd at hhe
        have hj1 := nextS_lt xs (a + 2) (n := 3) (by omega)
        have hj2 := nextS_lt xs (a + 3) (n := 3) (by omega)
        generalize hj1v : nextS xs (a + 2) 3 = j1 at hhe hj1
        generalize hj2v : nextS xs (a + 3) 3 = j2 at hhe hj2
        generalize hag : fArgs.getD j1 [] = ag at hhe
        generalize hct : fCounts.getD j2 0 = ct at hhe
        replace hwd := hid hwd
        replace hj1v := hid hj1v
        replace hj2v := hid hj2v
        replace hag := hid hag
        replace hct := hid hct
        replace hhe := hid hhe
        have i1 : (j1 : Int) < 3 := by omega
        have i2 : (j2 : Int) < 3 := by omega
        have i3 : (0 : Int) ≤ (j1 : Int) := by omega
        have i4 : (0 : Int) ≤ (j2 : Int) := by omega
        have hRy0 : Ar B K xs (a + 1) w2 none none w2.drew := ⟨hfe2.out.ext (Mod.drew0 _ _), Mod.drew0 _ _, by omega, fun z e => (by cases e), fun z e => (by cases e)⟩
        go_wp2_with fail
        refine wp_region_tree (.q 0 (.q 3 (.q 8 (.c3 1 (.c3 2 (.c2 4 (.s (.q 5 (.q 6 (.c2 7 (.c1 9 (.s (.q 10 (.q 11 (.q 12 (.c1 13 .done)))))) 9 (.c1 7 (.s (.q 10 (.q 11 (.q 12 (.c1 13 .done)))))))))) 7 (.c1 4 (.s (.q 5 (.q 6 (.c1 9 (.s (.q 10 (.q 11 (.q 12 (.c1 13 .done))))))))))) 4 (.c3 2 (.s (.q 5 (.q 6 (.c2 7 (.c1 9 (.s (.q 10 (.q 11 (.q 12 (.c1 13 .done)))))) 9 (.c1 7 (.s (.q 10 (.q 11 (.q 12 (.c1 13 .done)))))))))) 7 (.c2 2 (.s (.q 5 (.q 6 (.c1 9 (.s (.q 10 (.q 11 (.q 12 (.c1 13 .done))))))))) 9 (.s (.q 10 (.q 11 (.c1 2 (.s (.q 5 (.q 6 (.q 12 (.c1 13 .done)))))))))) 9 (.c2 2 (.s (.q 5 (.q 6 (.c1 7 (.s (.q 10 (.q 11 (.q 12 (.c1 13 .done))))))))) 7 (.s (.q 10 (.q 11 (.c1 2 (.s (.q 5 (.q 6 (.q 12 (.c1 13 .done))))))))))) 7 (.c2 2 (.c1 4 (.s (.q 5 (.q 6 (.c1 9 (.s (.q 10 (.q 11 (.q 12 (.c1 13 .done)))))))))) 4 (.c2 2 (.s (.q 5 (.q 6 (.c1 9 (.s (.q 10 (.q 11 (.q 12 (.c1 13 .done))))))))) 9 (.s (.q 10 (.q 11 (.c1 2 (.s (.q 5 (.q 6 (.q 12 (.c1 13 .done)))))))))))) 2 (.c2 1 (.c2 4 (.s (.q 5 (.q 6 (.c2 7 (.c1 9 (.s (.q 10 (.q 11 (.q 12 (.c1 13 .done)))))) 9 (.c1 7 (.s (.q 10 (.q 11 (.q 12 (.c1 13 .done)))))))))) 7 (.c1 4 (.s (.q 5 (.q 6 (.c1 9 (.s (.q 10 (.q 11 (.q 12 (.c1 13 .done))))))))))) 7 (.c1 1 (.c1 4 (.s (.q 5 (.q 6 (.c1 9 (.s (.q 10 (.q 11 (.q 12 (.c1 13 .done)))))))))))) 7 (.c2 1 (.c2 2 (.c1 4 (.s (.q 5 (.q 6 (.c1 9 (.s (.q 10 (.q 11 (.q 12 (.c1 13 .done)))))))))) 4 (.c2 2 (.s (.q 5 (.q 6 (.c1 9 (.s (.q 10 (.q 11 (.q 12 (.c1 13 .done))))))))) 9 (.s (.q 10 (.q 11 (.c1 2 (.s (.q 5 (.q 6 (.q 12 (.c1 13 .done))))))))))) 2 (.c1 1 (.c1 4 (.s (.q 5 (.q 6 (.c1 9 (.s (.q 10 (.q 11 (.q 12 (.c1 13 .done)))))))))))))))) (by as_aux_lemma => kernel_rfl) (by as_aux_lemma => kernel_rfl) (by as_aux_lemma => kernel_rfl) (by decide) ?_
        generalize w2.drew = y0 at hRy0 ⊢
        refine wpTr_q _ (by simp only [List.getD_cons_zero]; rfl) (by rfl) ?_ (fun w' hC => ?_) ?_; rotate_left; (go_simp; try with_reducible rfl); try simp only [Act.put, List.setIfInBounds_toArray, List.set_cons_zero, List.set_cons_succ]
        refine wpTr_q _ (by simp only [List.getD_cons_succ, List.getD_cons_zero]; rfl) (by rfl) ?_ (fun w' hC => ?_) ?_; rotate_left; (go_simp; try with_reducible rfl); try simp only [Act.put, List.setIfInBounds_toArray, List.set_cons_zero, List.set_cons_succ]
        refine wpTr_q _ (by simp only [List.getD_cons_succ, List.getD_cons_zero]; rfl) (by rfl) ?_ (fun w' hC => ?_) ?_; rotate_left; (go_simp; try with_reducible rfl); try simp only [Act.put, List.setIfInBounds_toArray, List.set_cons_zero, List.set_cons_succ]
        refine wpTr_c3 _ _ _ (by simp only [List.getD_cons_succ, List.getD_cons_zero]; rfl) (by simp only [List.getD_cons_succ, List.getD_cons_zero]; rfl) (by simp only [List.getD_cons_succ, List.getD_cons_zero]; rfl) ?_ ?_ ?_
        · refine wpN_c (by rfl) (fun Kc hKc => ?_)
          go_simp
          refine (hRy0.word hwd.out (by omega)).mono ?_
          rintro e y1 ⟨rfl, hRy1⟩
          refine hKc.out _ _ trivial ?_
          clear hKc Kc
          try simp only [Act.put, List.setIfInBounds_toArray, List.set_cons_zero, List.set_cons_succ]
          refine wpTr_c3 _ _ _ (by simp only [List.getD_cons_succ, List.getD_cons_zero]; rfl) (by simp only [List.getD_cons_succ, List.getD_cons_zero]; rfl) (by simp only [List.getD_cons_succ, List.getD_cons_zero]; rfl) ?_ ?_ ?_
          · refine wpN_c (by rfl) (fun Kc hKc => ?_)
            go_simp
            have hRy2 : Ar B K xs (a + 2) w2 (some y1.heap.size) none (y1.alloc (.cells #[.string ⟨#[]⟩, .string ⟨#[99, 105, 116, 121]⟩, .string ⟨#[123, 97, 125, 32, 124]⟩] 9)) := hRy1.strs
            generalize y1.heap.size = z2 at hRy2 ⊢
            generalize (y1.alloc (.cells #[.string ⟨#[]⟩, .string ⟨#[99, 105, 116, 121]⟩, .string ⟨#[123, 97, 125, 32, 124]⟩] 9)) = y2 at hRy2 ⊢
            refine hKc.out _ _ trivial ?_
            clear hKc Kc
            try simp only [Act.put, List.setIfInBounds_toArray, List.set_cons_zero, List.set_cons_succ]
            refine wpTr_c2 _ _ (by simp only [List.getD_cons_succ, List.getD_cons_zero]; rfl) (by simp only [List.getD_cons_succ, List.getD_cons_zero]; rfl) ?_ ?_
            · refine wpN_c (by rfl) (fun Kc hKc => ?_)
              go_simp
              refine (hRy2.next hj1v.out (by omega)).mono ?_
              rintro e y3 ⟨rfl, hRy3⟩
              refine hKc.out _ _ trivial ?_
              clear hKc Kc
              try simp only [Act.put, List.setIfInBounds_toArray, List.set_cons_zero, List.set_cons_succ]
              refine wpTr_s (fun w' => w'.cell? ⟨z2, j1, none⟩ = some (.string ⟨ag.toArray⟩)) (fun w' h => trivial) (hRy3.arg hj1 hag.out) ?_
              refine wpTr_q _ (by simp only [List.getD_cons_succ, List.getD_cons_zero]; rfl) (by rfl) ?_ (fun w' hC => ?_) ?_; rotate_left; (go_simp; try with_reducible rfl); try simp only [Act.put, List.setIfInBounds_toArray, List.set_cons_zero, List.set_cons_succ]
              refine wpTr_q _ (by simp only [List.getD_cons_succ, List.getD_cons_zero]; rfl) (by rfl) ?_ (fun w' hC => ?_) ?_; rotate_left; (go_simp; try with_reducible rfl); try simp only [Act.put, List.setIfInBounds_toArray, List.set_cons_zero, List.set_cons_succ]
              refine wpTr_c2 _ _ (by simp only [List.getD_cons_succ, List.getD_cons_zero]; rfl) (by simp only [List.getD_cons_succ, List.getD_cons_zero]; rfl) ?_ ?_
              · refine wpN_c (by rfl) (fun Kc hKc => ?_)
                go_simp
                have hRy4 : Ar B K xs (a + 3) w2 (some z2) (some y3.heap.size) (y3.alloc (.cells #[.int .i64 0, .int .i64 5, .int .i64 999999] 3)) := hRy3.nums
                generalize y3.heap.size = z4 at hRy4 ⊢
                generalize (y3.alloc (.cells #[.int .i64 0, .int .i64 5, .int .i64 999999] 3)) = y4 at hRy4 ⊢
                refine hKc.out _ _ (hRy4.arg hj1 hag.out) ?_
                clear hKc Kc
                try simp only [Act.put, List.setIfInBounds_toArray, List.set_cons_zero, List.set_cons_succ]
                refine wpTr_c1 _ (by simp only [List.getD_cons_succ, List.getD_cons_zero]; rfl) ?_
                · refine wpN_c (by rfl) (fun Kc hKc => ?_)
                  go_simp
                  refine (hRy4.next hj2v.out (by omega)).mono ?_
                  rintro e y5 ⟨rfl, hRy5⟩
                  refine hKc.out _ _ (hRy5.arg hj1 hag.out) ?_
                  clear hKc Kc
                  try simp only [Act.put, List.setIfInBounds_toArray, List.set_cons_zero, List.set_cons_succ]
                  refine wpTr_s (fun w' => w'.cell? ⟨z4, j2, none⟩ = some (.int .i64 ct) ∧ w'.cell? ⟨z2, j1, none⟩ = some (.string ⟨ag.toArray⟩)) (fun w' h => h.2) ⟨(hRy5.cnt hj2 hct.out), (hRy5.arg hj1 hag.out)⟩ ?_
                  refine wpTr_q _ (by simp only [List.getD_cons_succ, List.getD_cons_zero]; rfl) (by rfl) ?_ (fun w' hC => ?_) ?_; rotate_left; (go_simp; try with_reducible rfl); try simp only [Act.put, List.setIfInBounds_toArray, List.set_cons_zero, List.set_cons_succ]
                  refine wpTr_q _ (by simp only [List.getD_cons_succ, List.getD_cons_zero]; rfl) (by rfl) ?_ (fun w' hC => ?_) ?_; rotate_left; (go_simp; try with_reducible rfl); try simp only [Act.put, List.setIfInBounds_toArray, List.set_cons_zero, List.set_cons_succ]
                  refine wpTr_q _ (by simp only [List.getD_cons_succ, List.getD_cons_zero]; rfl) (by rfl) ?_ (fun w' hC => ?_) ?_; rotate_left; (go_simp; try with_reducible rfl); try simp only [Act.put, List.setIfInBounds_toArray, List.set_cons_zero, List.set_cons_succ]
                  have hXw := hRy5.keep hX2.out hKX
                  have hmX : Mod (Eq X) y5 (put8 y5 X (.int .i64 3) (.string ⟨#[]⟩) (.string ⟨wd.toArray⟩) (.string ⟨ag.toArray⟩) (.int .i64 ct) (.slice none 0 0) (.slice none 0 0) (.slice none 0 0)) := put8_mod _ _ _ _ _ _ _ _ _ _
                  refine wpTr_c1 _ (by simp only [List.getD_cons_succ, List.getD_cons_zero]; rfl) (wpN_c (by rfl) (fun Kc hKc => ?_))
                  refine wp_store8 _ _ rfl rfl rfl rfl rfl rfl rfl rfl rfl rfl rfl rfl hXw ?_
                  refine hKc.out _ _ ⟨(hmX.cell (hRy5.cnt hj2 hct.out) (fun e => by have := hRy5.numlt; have : X = z4 := e; omega)), (hmX.cell (hRy5.arg hj1 hag.out) (fun e => by have := hRy5.strlt; have : X = z2 := e; omega))⟩ (wpTr_done ?_)
                  clear hKc Kc
                  replace hXw := hid hXw
                  replace hmX := hid hmX
                  go_wp2_with fail
                  go_meet
                  change HeadAt B K X xs hh wo (put8 y5 X (.int .i64 3) (.string ⟨#[]⟩) (.string ⟨wd.toArray⟩) (.string ⟨ag.toArray⟩) (.int .i64 ct) (.slice none 0 0) (.slice none 0 0) (.slice none 0 0))
                  rw [hhe.out]
                  exact head_mk ⟨3, [], wd, ag, ct, .slice none 0 0, .slice none 0 0, .slice none 0 0⟩ (put8_at hXw.out) hmX.out hRy5.fe (hmr2.out.trans hRy5.mod) (by omega) (by omega) (.mk _ [] [] [] (StrsAt.nil _ _) (NodesAt.nil _ _) (NodesAt.nil _ _))
              · refine wpN_c (by rfl) (fun Kc hKc => ?_)
                go_simp
                refine (hRy3.next hj2v.out (by omega)).mono ?_
                rintro e y6 ⟨rfl, hRy6⟩
                refine hKc.out _ _ (hRy6.arg hj1 hag.out) ?_
                clear hKc Kc
                try simp only [Act.put, List.setIfInBounds_toArray, List.set_cons_zero, List.set_cons_succ]
                refine wpTr_c1 _ (by simp only [List.getD_cons_succ, List.getD_cons_zero]; rfl) ?_
                · refine wpN_c (by rfl) (fun Kc hKc => ?_)
                  go_simp
                  have hRy7 : Ar B K xs (a + 4) w2 (some z2) (some y6.heap.size) (y6.alloc (.cells #[.int .i64 0, .int .i64 5, .int .i64 999999] 3)) := hRy6.nums
                  generalize y6.heap.size = z7 at hRy7 ⊢
                  generalize (y6.alloc (.cells #[.int .i64 0, .int .i64 5, .int .i64 999999] 3)) = y7 at hRy7 ⊢
                  refine hKc.out _ _ (hRy7.arg hj1 hag.out) ?_
                  clear hKc Kc
                  try simp only [Act.put, List.setIfInBounds_toArray, List.set_cons_zero, List.set_cons_succ]
                  refine wpTr_s (fun w' => w'.cell? ⟨z7, j2, none⟩ = some (.int .i64 ct) ∧ w'.cell? ⟨z2, j1, none⟩ = some (.string ⟨ag.toArray⟩)) (fun w' h => h.2) ⟨(hRy7.cnt hj2 hct.out), (hRy7.arg hj1 hag.out)⟩ ?_
                  refine wpTr_q _ (by simp only [List.getD_cons_succ, List.getD_cons_zero]; rfl) (by rfl) ?_ (fun w' hC => ?_) ?_; rotate_left; (go_simp; try with_reducible rfl); try simp only [Act.put, List.setIfInBounds_toArray, List.set_cons_zero, List.set_cons_succ]
                  refine wpTr_q _ (by simp only [List.getD_cons_succ, List.getD_cons_zero]; rfl) (by rfl) ?_ (fun w' hC => ?_) ?_; rotate_left; (go_simp; try with_reducible rfl); try simp only [Act.put, List.setIfInBounds_toArray, List.set_cons_zero, List.set_cons_succ]
                  refine wpTr_q _ (by simp only [List.getD_cons_succ, List.getD_cons_zero]; rfl) (by rfl) ?_ (fun w' hC => ?_) ?_; rotate_left; (go_simp; try with_reducible rfl); try simp only [Act.put, List.setIfInBounds_toArray, List.set_cons_zero, List.set_cons_succ]
                  have hXw := hRy7.keep hX2.out hKX
                  have hmX : Mod (Eq X) y7 (put8 y7 X (.int .i64 3) (.string ⟨#[]⟩) (.string ⟨wd.toArray⟩) (.string ⟨ag.toArray⟩) (.int .i64 ct) (.slice none 0 0) (.slice none 0 0) (.slice none 0 0)) := put8_mod _ _ _ _ _ _ _ _ _ _
                  refine wpTr_c1 _ (by simp only [List.getD_cons_succ, List.getD_cons_zero]; rfl) (wpN_c (by rfl) (fun Kc hKc => ?_))
                  refine wp_store8 _ _ rfl rfl rfl rfl rfl rfl rfl rfl rfl rfl rfl rfl hXw ?_
                  refine hKc.out _ _ ⟨(hmX.cell (hRy7.cnt hj2 hct.out) (fun e => by have := hRy7.numlt; have : X = z7 := e; omega)), (hmX.cell (hRy7.arg hj1 hag.out) (fun e => by have := hRy7.strlt; have : X = z2 := e; omega))⟩ (wpTr_done ?_)
                  clear hKc Kc
                  replace hXw := hid hXw
                  replace hmX := hid hmX
                  go_wp2_with fail
                  go_meet
                  change HeadAt B K X xs hh wo (put8 y7 X (.int .i64 3) (.string ⟨#[]⟩) (.string ⟨wd.toArray⟩) (.string ⟨ag.toArray⟩) (.int .i64 ct) (.slice none 0 0) (.slice none 0 0) (.slice none 0 0))
                  rw [hhe.out]
                  exact head_mk ⟨3, [], wd, ag, ct, .slice none 0 0, .slice none 0 0, .slice none 0 0⟩ (put8_at hXw.out) hmX.out hRy7.fe (hmr2.out.trans hRy7.mod) (by omega) (by omega) (.mk _ [] [] [] (StrsAt.nil _ _) (NodesAt.nil _ _) (NodesAt.nil _ _))
            · refine wpN_c (by rfl) (fun Kc hKc => ?_)
              go_simp
              have hRy8 : Ar B K xs (a + 2) w2 (some z2) (some y2.heap.size) (y2.alloc (.cells #[.int .i64 0, .int .i64 5, .int .i64 999999] 3)) := hRy2.nums
              generalize y2.heap.size = z8 at hRy8 ⊢
              generalize (y2.alloc (.cells #[.int .i64 0, .int .i64 5, .int .i64 999999] 3)) = y8 at hRy8 ⊢
              refine hKc.out _ _ trivial ?_
              clear hKc Kc
              try simp only [Act.put, List.setIfInBounds_toArray, List.set_cons_zero, List.set_cons_succ]
              refine wpTr_c1 _ (by simp only [List.getD_cons_succ, List.getD_cons_zero]; rfl) ?_
              · refine wpN_c (by rfl) (fun Kc hKc => ?_)
                go_simp
                refine (hRy8.next hj1v.out (by omega)).mono ?_
                rintro e y9 ⟨rfl, hRy9⟩
                refine hKc.out _ _ trivial ?_
                clear hKc Kc
                try simp only [Act.put, List.setIfInBounds_toArray, List.set_cons_zero, List.set_cons_succ]
                refine wpTr_s (fun w' => w'.cell? ⟨z2, j1, none⟩ = some (.string ⟨ag.toArray⟩)) (fun w' h => trivial) (hRy9.arg hj1 hag.out) ?_
                refine wpTr_q _ (by simp only [List.getD_cons_succ, List.getD_cons_zero]; rfl) (by rfl) ?_ (fun w' hC => ?_) ?_; rotate_left; (go_simp; try with_reducible rfl); try simp only [Act.put, List.setIfInBounds_toArray, List.set_cons_zero, List.set_cons_succ]
                refine wpTr_q _ (by simp only [List.getD_cons_succ, List.getD_cons_zero]; rfl) (by rfl) ?_ (fun w' hC => ?_) ?_; rotate_left; (go_simp; try with_reducible rfl); try simp only [Act.put, List.setIfInBounds_toArray, List.set_cons_zero, List.set_cons_succ]
                refine wpTr_c1 _ (by simp only [List.getD_cons_succ, List.getD_cons_zero]; rfl) ?_
                · refine wpN_c (by rfl) (fun Kc hKc => ?_)
                  go_simp
                  refine (hRy9.next hj2v.out (by omega)).mono ?_
                  rintro e y10 ⟨rfl, hRy10⟩
                  refine hKc.out _ _ (hRy10.arg hj1 hag.out) ?_
                  clear hKc Kc
                  try simp only [Act.put, List.setIfInBounds_toArray, List.set_cons_zero, List.set_cons_succ]
                  refine wpTr_s (fun w' => w'.cell? ⟨z8, j2, none⟩ = some (.int .i64 ct) ∧ w'.cell? ⟨z2, j1, none⟩ = some (.string ⟨ag.toArray⟩)) (fun w' h => h.2) ⟨(hRy10.cnt hj2 hct.out), (hRy10.arg hj1 hag.out)⟩ ?_
                  refine wpTr_q _ (by simp only [List.getD_cons_succ, List.getD_cons_zero]; rfl) (by rfl) ?_ (fun w' hC => ?_) ?_; rotate_left; (go_simp; try with_reducible rfl); try simp only [Act.put, List.setIfInBounds_toArray, List.set_cons_zero, List.set_cons_succ]
                  refine wpTr_q _ (by simp only [List.getD_cons_succ, List.getD_cons_zero]; rfl) (by rfl) ?_ (fun w' hC => ?_) ?_; rotate_left; (go_simp; try with_reducible rfl); try simp only [Act.put, List.setIfInBounds_toArray, List.set_cons_zero, List.set_cons_succ]
                  refine wpTr_q _ (by simp only [List.getD_cons_succ, List.getD_cons_zero]; rfl) (by rfl) ?_ (fun w' hC => ?_) ?_; rotate_left; (go_simp; try with_reducible rfl); try simp only [Act.put, List.setIfInBounds_toArray, List.set_cons_zero, List.set_cons_succ]
                  have hXw := hRy10.keep hX2.out hKX
                  have hmX : Mod (Eq X) y10 (put8 y10 X (.int .i64 3) (.string ⟨#[]⟩) (.string ⟨wd.toArray⟩) (.string ⟨ag.toArray⟩) (.int .i64 ct) (.slice none 0 0) (.slice none 0 0) (.slice none 0 0)) := put8_mod _ _ _ _ _ _ _ _ _ _
                  refine wpTr_c1 _ (by simp only [List.getD_cons_succ, List.getD_cons_zero]; rfl) (wpN_c (by rfl) (fun Kc hKc => ?_))
                  refine wp_store8 _ _ rfl rfl rfl rfl rfl rfl rfl rfl rfl rfl rfl rfl hXw ?_
                  refine hKc.out _ _ ⟨(hmX.cell (hRy10.cnt hj2 hct.out) (fun e => by have := hRy10.numlt; have : X = z8 := e; omega)), (hmX.cell (hRy10.arg hj1 hag.out) (fun e => by have := hRy10.strlt; have : X = z2 := e; omega))⟩ (wpTr_done ?_)
                  clear hKc Kc
                  replace hXw := hid hXw
                  replace hmX := hid hmX
                  go_wp2_with fail
                  go_meet
                  change HeadAt B K X xs hh wo (put8 y10 X (.int .i64 3) (.string ⟨#[]⟩) (.string ⟨wd.toArray⟩) (.string ⟨ag.toArray⟩) (.int .i64 ct) (.slice none 0 0) (.slice none 0 0) (.slice none 0 0))
                  rw [hhe.out]
                  exact head_mk ⟨3, [], wd, ag, ct, .slice none 0 0, .slice none 0 0, .slice none 0 0⟩ (put8_at hXw.out) hmX.out hRy10.fe (hmr2.out.trans hRy10.mod) (by omega) (by omega) (.mk _ [] [] [] (StrsAt.nil _ _) (NodesAt.nil _ _) (NodesAt.nil _ _))
          · refine wpN_c (by rfl) (fun Kc hKc => ?_)
            go_simp
            refine (hRy1.next hj1v.out (by omega)).mono ?_
            rintro e y11 ⟨rfl, hRy11⟩
            refine hKc.out _ _ trivial ?_
            clear hKc Kc
            try simp only [Act.put, List.setIfInBounds_toArray, List.set_cons_zero, List.set_cons_succ]
            refine wpTr_c3 _ _ _ (by simp only [List.getD_cons_succ, List.getD_cons_zero]; rfl) (by simp only [List.getD_cons_succ, List.getD_cons_zero]; rfl) (by simp only [List.getD_cons_succ, List.getD_cons_zero]; rfl) ?_ ?_ ?_
            · refine wpN_c (by rfl) (fun Kc hKc => ?_)
              go_simp
              have hRy12 : Ar B K xs (a + 3) w2 (some y11.heap.size) none (y11.alloc (.cells #[.string ⟨#[]⟩, .string ⟨#[99, 105, 116, 121]⟩, .string ⟨#[123, 97, 125, 32, 124]⟩] 9)) := hRy11.strs
              generalize y11.heap.size = z12 at hRy12 ⊢
              generalize (y11.alloc (.cells #[.string ⟨#[]⟩, .string ⟨#[99, 105, 116, 121]⟩, .string ⟨#[123, 97, 125, 32, 124]⟩] 9)) = y12 at hRy12 ⊢
              refine hKc.out _ _ trivial ?_
              clear hKc Kc
              try simp only [Act.put, List.setIfInBounds_toArray, List.set_cons_zero, List.set_cons_succ]
              refine wpTr_s (fun w' => w'.cell? ⟨z12, j1, none⟩ = some (.string ⟨ag.toArray⟩)) (fun w' h => trivial) (hRy12.arg hj1 hag.out) ?_
              refine wpTr_q _ (by simp only [List.getD_cons_succ, List.getD_cons_zero]; rfl) (by rfl) ?_ (fun w' hC => ?_) ?_; rotate_left; (go_simp; try with_reducible rfl); try simp only [Act.put, List.setIfInBounds_toArray, List.set_cons_zero, List.set_cons_succ]
              refine wpTr_q _ (by simp only [List.getD_cons_succ, List.getD_cons_zero]; rfl) (by rfl) ?_ (fun w' hC => ?_) ?_; rotate_left; (go_simp; try with_reducible rfl); try simp only [Act.put, List.setIfInBounds_toArray, List.set_cons_zero, List.set_cons_succ]
              refine wpTr_c2 _ _ (by simp only [List.getD_cons_succ, List.getD_cons_zero]; rfl) (by simp only [List.getD_cons_succ, List.getD_cons_zero]; rfl) ?_ ?_
              · refine wpN_c (by rfl) (fun Kc hKc => ?_)
                go_simp
                have hRy13 : Ar B K xs (a + 3) w2 (some z12) (some y12.heap.size) (y12.alloc (.cells #[.int .i64 0, .int .i64 5, .int .i64 999999] 3)) := hRy12.nums
                generalize y12.heap.size = z13 at hRy13 ⊢
                generalize (y12.alloc (.cells #[.int .i64 0, .int .i64 5, .int .i64 999999] 3)) = y13 at hRy13 ⊢
                refine hKc.out _ _ (hRy13.arg hj1 hag.out) ?_
                clear hKc Kc
                try simp only [Act.put, List.setIfInBounds_toArray, List.set_cons_zero, List.set_cons_succ]
                refine wpTr_c1 _ (by simp only [List.getD_cons_succ, List.getD_cons_zero]; rfl) ?_
                · refine wpN_c (by rfl) (fun Kc hKc => ?_)
                  go_simp
                  refine (hRy13.next hj2v.out (by omega)).mono ?_
                  rintro e y14 ⟨rfl, hRy14⟩
                  refine hKc.out _ _ (hRy14.arg hj1 hag.out) ?_
                  clear hKc Kc
                  try simp only [Act.put, List.setIfInBounds_toArray, List.set_cons_zero, List.set_cons_succ]
                  refine wpTr_s (fun w' => w'.cell? ⟨z13, j2, none⟩ = some (.int .i64 ct) ∧ w'.cell? ⟨z12, j1, none⟩ = some (.string ⟨ag.toArray⟩)) (fun w' h => h.2) ⟨(hRy14.cnt hj2 hct.out), (hRy14.arg hj1 hag.out)⟩ ?_
                  refine wpTr_q _ (by simp only [List.getD_cons_succ, List.getD_cons_zero]; rfl) (by rfl) ?_ (fun w' hC => ?_) ?_; rotate_left; (go_simp; try with_reducible rfl); try simp only [Act.put, List.setIfInBounds_toArray, List.set_cons_zero, List.set_cons_succ]
                  refine wpTr_q _ (by simp only [List.getD_cons_succ, List.getD_cons_zero]; rfl) (by rfl) ?_ (fun w' hC => ?_) ?_; rotate_left; (go_simp; try with_reducible rfl); try simp only [Act.put, List.setIfInBounds_toArray, List.set_cons_zero, List.set_cons_succ]
                  refine wpTr_q _ (by simp only [List.getD_cons_succ, List.getD_cons_zero]; rfl) (by rfl) ?_ (fun w' hC => ?_) ?_; rotate_left; (go_simp; try with_reducible rfl); try simp only [Act.put, List.setIfInBounds_toArray, List.set_cons_zero, List.set_cons_succ]
                  have hXw := hRy14.keep hX2.out hKX
                  have hmX : Mod (Eq X) y14 (put8 y14 X (.int .i64 3) (.string ⟨#[]⟩) (.string ⟨wd.toArray⟩) (.string ⟨ag.toArray⟩) (.int .i64 ct) (.slice none 0 0) (.slice none 0 0) (.slice none 0 0)) := put8_mod _ _ _ _ _ _ _ _ _ _
                  refine wpTr_c1 _ (by simp only [List.getD_cons_succ, List.getD_cons_zero]; rfl) (wpN_c (by rfl) (fun Kc hKc => ?_))
                  refine wp_store8 _ _ rfl rfl rfl rfl rfl rfl rfl rfl rfl rfl rfl rfl hXw ?_
                  refine hKc.out _ _ ⟨(hmX.cell (hRy14.cnt hj2 hct.out) (fun e => by have := hRy14.numlt; have : X = z13 := e; omega)), (hmX.cell (hRy14.arg hj1 hag.out) (fun e => by have := hRy14.strlt; have : X = z12 := e; omega))⟩ (wpTr_done ?_)
                  clear hKc Kc
                  replace hXw := hid hXw
                  replace hmX := hid hmX
                  go_wp2_with fail
                  go_meet
                  change HeadAt B K X xs hh wo (put8 y14 X (.int .i64 3) (.string ⟨#[]⟩) (.string ⟨wd.toArray⟩) (.string ⟨ag.toArray⟩) (.int .i64 ct) (.slice none 0 0) (.slice none 0 0) (.slice none 0 0))
                  rw [hhe.out]
                  exact head_mk ⟨3, [], wd, ag, ct, .slice none 0 0, .slice none 0 0, .slice none 0 0⟩ (put8_at hXw.out) hmX.out hRy14.fe (hmr2.out.trans hRy14.mod) (by omega) (by omega) (.mk _ [] [] [] (StrsAt.nil _ _) (NodesAt.nil _ _) (NodesAt.nil _ _))
              · refine wpN_c (by rfl) (fun Kc hKc => ?_)
                go_simp
                refine (hRy12.next hj2v.out (by omega)).mono ?_
                rintro e y15 ⟨rfl, hRy15⟩
                refine hKc.out _ _ (hRy15.arg hj1 hag.out) ?_
                clear hKc Kc
                try simp only [Act.put, List.setIfInBounds_toArray, List.set_cons_zero, List.set_cons_succ]
                refine wpTr_c1 _ (by simp only [List.getD_cons_succ, List.getD_cons_zero]; rfl) ?_
                · refine wpN_c (by rfl) (fun Kc hKc => ?_)
                  go_simp
                  have hRy16 : Ar B K xs (a + 4) w2 (some z12) (some y15.heap.size) (y15.alloc (.cells #[.int .i64 0, .int .i64 5, .int .i64 999999] 3)) := hRy15.nums
                  generalize y15.heap.size = z16 at hRy16 ⊢
                  generalize (y15.alloc (.cells #[.int .i64 0, .int .i64 5, .int .i64 999999] 3)) = y16 at hRy16 ⊢
                  refine hKc.out _ _ (hRy16.arg hj1 hag.out) ?_
                  clear hKc Kc
                  try simp only [Act.put, List.setIfInBounds_toArray, List.set_cons_zero, List.set_cons_succ]
                  refine wpTr_s (fun w' => w'.cell? ⟨z16, j2, none⟩ = some (.int .i64 ct) ∧ w'.cell? ⟨z12, j1, none⟩ = some (.string ⟨ag.toArray⟩)) (fun w' h => h.2) ⟨(hRy16.cnt hj2 hct.out), (hRy16.arg hj1 hag.out)⟩ ?_
                  refine wpTr_q _ (by simp only [List.getD_cons_succ, List.getD_cons_zero]; rfl) (by rfl) ?_ (fun w' hC => ?_) ?_; rotate_left; (go_simp; try with_reducible rfl); try simp only [Act.put, List.setIfInBounds_toArray, List.set_cons_zero, List.set_cons_succ]
                  refine wpTr_q _ (by simp only [List.getD_cons_succ, List.getD_cons_zero]; rfl) (by rfl) ?_ (fun w' hC => ?_) ?_; rotate_left; (go_simp; try with_reducible rfl); try simp only [Act.put, List.setIfInBounds_toArray, List.set_cons_zero, List.set_cons_succ]
                  refine wpTr_q _ (by simp only [List.getD_cons_succ, List.getD_cons_zero]; rfl) (by rfl) ?_ (fun w' hC => ?_) ?_; rotate_left; (go_simp; try with_reducible rfl); try simp only [Act.put, List.setIfInBounds_toArray, List.set_cons_zero, List.set_cons_succ]
                  have hXw := hRy16.keep hX2.out hKX
                  have hmX : Mod (Eq X) y16 (put8 y16 X (.int .i64 3) (.string ⟨#[]⟩) (.string ⟨wd.toArray⟩) (.string ⟨ag.toArray⟩) (.int .i64 ct) (.slice none 0 0) (.slice none 0 0) (.slice none 0 0)) := put8_mod _ _ _ _ _ _ _ _ _ _
                  refine wpTr_c1 _ (by simp only [List.getD_cons_succ, List.getD_cons_zero]; rfl) (wpN_c (by rfl) (fun Kc hKc => ?_))
                  refine wp_store8 _ _ rfl rfl rfl rfl rfl rfl rfl rfl rfl rfl rfl rfl hXw ?_
                  refine hKc.out _ _ ⟨(hmX.cell (hRy16.cnt hj2 hct.out) (fun e => by have := hRy16.numlt; have : X = z16 := e; omega)), (hmX.cell (hRy16.arg hj1 hag.out) (fun e => by have := hRy16.strlt; have : X = z12 := e; omega))⟩ (wpTr_done ?_)
                  clear hKc Kc
                  replace hXw := hid hXw
                  replace hmX := hid hmX
                  go_wp2_with fail
                  go_meet
                  change HeadAt B K X xs hh wo (put8 y16 X (.int .i64 3) (.string ⟨#[]⟩) (.string ⟨wd.toArray⟩) (.string ⟨ag.toArray⟩) (.int .i64 ct) (.slice none 0 0) (.slice none 0 0) (.slice none 0 0))
                  rw [hhe.out]
                  exact head_mk ⟨3, [], wd, ag, ct, .slice none 0 0, .slice none 0 0, .slice none 0 0⟩ (put8_at hXw.out) hmX.out hRy16.fe (hmr2.out.trans hRy16.mod) (by omega) (by omega) (.mk _ [] [] [] (StrsAt.nil _ _) (NodesAt.nil _ _) (NodesAt.nil _ _))
            · refine wpN_c (by rfl) (fun Kc hKc => ?_)
              go_simp
              have hRy17 : Ar B K xs (a + 3) w2 none (some y11.heap.size) (y11.alloc (.cells #[.int .i64 0, .int .i64 5, .int .i64 999999] 3)) := hRy11.nums
              generalize y11.heap.size = z17 at hRy17 ⊢
              generalize (y11.alloc (.cells #[.int .i64 0, .int .i64 5, .int .i64 999999] 3)) = y17 at hRy17 ⊢
              refine hKc.out _ _ trivial ?_
              clear hKc Kc
              try simp only [Act.put, List.setIfInBounds_toArray, List.set_cons_zero, List.set_cons_succ]
              refine wpTr_c2 _ _ (by simp only [List.getD_cons_succ, List.getD_cons_zero]; rfl) (by simp only [List.getD_cons_succ, List.getD_cons_zero]; rfl) ?_ ?_
              · refine wpN_c (by rfl) (fun Kc hKc => ?_)
                go_simp
                have hRy18 : Ar B K xs (a + 3) w2 (some y17.heap.size) (some z17) (y17.alloc (.cells #[.string ⟨#[]⟩, .string ⟨#[99, 105, 116, 121]⟩, .string ⟨#[123, 97, 125, 32, 124]⟩] 9)) := hRy17.strs
                generalize y17.heap.size = z18 at hRy18 ⊢
                generalize (y17.alloc (.cells #[.string ⟨#[]⟩, .string ⟨#[99, 105, 116, 121]⟩, .string ⟨#[123, 97, 125, 32, 124]⟩] 9)) = y18 at hRy18 ⊢
                refine hKc.out _ _ trivial ?_
                clear hKc Kc
                try simp only [Act.put, List.setIfInBounds_toArray, List.set_cons_zero, List.set_cons_succ]
                refine wpTr_s (fun w' => w'.cell? ⟨z18, j1, none⟩ = some (.string ⟨ag.toArray⟩)) (fun w' h => trivial) (hRy18.arg hj1 hag.out) ?_
                refine wpTr_q _ (by simp only [List.getD_cons_succ, List.getD_cons_zero]; rfl) (by rfl) ?_ (fun w' hC => ?_) ?_; rotate_left; (go_simp; try with_reducible rfl); try simp only [Act.put, List.setIfInBounds_toArray, List.set_cons_zero, List.set_cons_succ]
                refine wpTr_q _ (by simp only [List.getD_cons_succ, List.getD_cons_zero]; rfl) (by rfl) ?_ (fun w' hC => ?_) ?_; rotate_left; (go_simp; try with_reducible rfl); try simp only [Act.put, List.setIfInBounds_toArray, List.set_cons_zero, List.set_cons_succ]
                refine wpTr_c1 _ (by simp only [List.getD_cons_succ, List.getD_cons_zero]; rfl) ?_
                · refine wpN_c (by rfl) (fun Kc hKc => ?_)
                  go_simp
                  refine (hRy18.next hj2v.out (by omega)).mono ?_
                  rintro e y19 ⟨rfl, hRy19⟩
                  refine hKc.out _ _ (hRy19.arg hj1 hag.out) ?_
                  clear hKc Kc
                  try simp only [Act.put, List.setIfInBounds_toArray, List.set_cons_zero, List.set_cons_succ]
                  refine wpTr_s (fun w' => w'.cell? ⟨z17, j2, none⟩ = some (.int .i64 ct) ∧ w'.cell? ⟨z18, j1, none⟩ = some (.string ⟨ag.toArray⟩)) (fun w' h => h.2) ⟨(hRy19.cnt hj2 hct.out), (hRy19.arg hj1 hag.out)⟩ ?_
                  refine wpTr_q _ (by simp only [List.getD_cons_succ, List.getD_cons_zero]; rfl) (by rfl) ?_ (fun w' hC => ?_) ?_; rotate_left; (go_simp; try with_reducible rfl); try simp only [Act.put, List.setIfInBounds_toArray, List.set_cons_zero, List.set_cons_succ]
                  refine wpTr_q _ (by simp only [List.getD_cons_succ, List.getD_cons_zero]; rfl) (by rfl) ?_ (fun w' hC => ?_) ?_; rotate_left; (go_simp; try with_reducible rfl); try simp only [Act.put, List.setIfInBounds_toArray, List.set_cons_zero, List.set_cons_succ]
                  refine wpTr_q _ (by simp only [List.getD_cons_succ, List.getD_cons_zero]; rfl) (by rfl) ?_ (fun w' hC => ?_) ?_; rotate_left; (go_simp; try with_reducible rfl); try simp only [Act.put, List.setIfInBounds_toArray, List.set_cons_zero, List.set_cons_succ]
                  have hXw := hRy19.keep hX2.out hKX
                  have hmX : Mod (Eq X) y19 (put8 y19 X (.int .i64 3) (.string ⟨#[]⟩) (.string ⟨wd.toArray⟩) (.string ⟨ag.toArray⟩) (.int .i64 ct) (.slice none 0 0) (.slice none 0 0) (.slice none 0 0)) := put8_mod _ _ _ _ _ _ _ _ _ _
                  refine wpTr_c1 _ (by simp only [List.getD_cons_succ, List.getD_cons_zero]; rfl) (wpN_c (by rfl) (fun Kc hKc => ?_))
                  refine wp_store8 _ _ rfl rfl rfl rfl rfl rfl rfl rfl rfl rfl rfl rfl hXw ?_
                  refine hKc.out _ _ ⟨(hmX.cell (hRy19.cnt hj2 hct.out) (fun e => by have := hRy19.numlt; have : X = z17 := e; omega)), (hmX.cell (hRy19.arg hj1 hag.out) (fun e => by have := hRy19.strlt; have : X = z18 := e; omega))⟩ (wpTr_done ?_)
                  clear hKc Kc
                  replace hXw := hid hXw
                  replace hmX := hid hmX
                  go_wp2_with fail
                  go_meet
                  change HeadAt B K X xs hh wo (put8 y19 X (.int .i64 3) (.string ⟨#[]⟩) (.string ⟨wd.toArray⟩) (.string ⟨ag.toArray⟩) (.int .i64 ct) (.slice none 0 0) (.slice none 0 0) (.slice none 0 0))
                  rw [hhe.out]
                  exact head_mk ⟨3, [], wd, ag, ct, .slice none 0 0, .slice none 0 0, .slice none 0 0⟩ (put8_at hXw.out) hmX.out hRy19.fe (hmr2.out.trans hRy19.mod) (by omega) (by omega) (.mk _ [] [] [] (StrsAt.nil _ _) (NodesAt.nil _ _) (NodesAt.nil _ _))
              · refine wpN_c (by rfl) (fun Kc hKc => ?_)
                go_simp
                refine (hRy17.next hj2v.out (by omega)).mono ?_
                rintro e y20 ⟨rfl, hRy20⟩
                refine hKc.out _ _ trivial ?_
                clear hKc Kc
                try simp only [Act.put, List.setIfInBounds_toArray, List.set_cons_zero, List.set_cons_succ]
                refine wpTr_s (fun w' => w'.cell? ⟨z17, j2, none⟩ = some (.int .i64 ct)) (fun w' h => trivial) (hRy20.cnt hj2 hct.out) ?_
                refine wpTr_q _ (by simp only [List.getD_cons_succ, List.getD_cons_zero]; rfl) (by rfl) ?_ (fun w' hC => ?_) ?_; rotate_left; (go_simp; try with_reducible rfl); try simp only [Act.put, List.setIfInBounds_toArray, List.set_cons_zero, List.set_cons_succ]
                refine wpTr_q _ (by simp only [List.getD_cons_succ, List.getD_cons_zero]; rfl) (by rfl) ?_ (fun w' hC => ?_) ?_; rotate_left; (go_simp; try with_reducible rfl); try simp only [Act.put, List.setIfInBounds_toArray, List.set_cons_zero, List.set_cons_succ]
                refine wpTr_c1 _ (by simp only [List.getD_cons_succ, List.getD_cons_zero]; rfl) ?_
                · refine wpN_c (by rfl) (fun Kc hKc => ?_)
                  go_simp
                  have hRy21 : Ar B K xs (a + 4) w2 (some y20.heap.size) (some z17) (y20.alloc (.cells #[.string ⟨#[]⟩, .string ⟨#[99, 105, 116, 121]⟩, .string ⟨#[123, 97, 125, 32, 124]⟩] 9)) := hRy20.strs
                  generalize y20.heap.size = z21 at hRy21 ⊢
                  generalize (y20.alloc (.cells #[.string ⟨#[]⟩, .string ⟨#[99, 105, 116, 121]⟩, .string ⟨#[123, 97, 125, 32, 124]⟩] 9)) = y21 at hRy21 ⊢
                  refine hKc.out _ _ (hRy21.cnt hj2 hct.out) ?_
                  clear hKc Kc
                  try simp only [Act.put, List.setIfInBounds_toArray, List.set_cons_zero, List.set_cons_succ]
                  refine wpTr_s (fun w' => w'.cell? ⟨z21, j1, none⟩ = some (.string ⟨ag.toArray⟩) ∧ w'.cell? ⟨z17, j2, none⟩ = some (.int .i64 ct)) (fun w' h => h.2) ⟨(hRy21.arg hj1 hag.out), (hRy21.cnt hj2 hct.out)⟩ ?_
                  refine wpTr_q _ (by simp only [List.getD_cons_succ, List.getD_cons_zero]; rfl) (by rfl) ?_ (fun w' hC => ?_) ?_; rotate_left; (go_simp; try with_reducible rfl); try simp only [Act.put, List.setIfInBounds_toArray, List.set_cons_zero, List.set_cons_succ]
                  refine wpTr_q _ (by simp only [List.getD_cons_succ, List.getD_cons_zero]; rfl) (by rfl) ?_ (fun w' hC => ?_) ?_; rotate_left; (go_simp; try with_reducible rfl); try simp only [Act.put, List.setIfInBounds_toArray, List.set_cons_zero, List.set_cons_succ]
                  refine wpTr_q _ (by simp only [List.getD_cons_succ, List.getD_cons_zero]; rfl) (by rfl) ?_ (fun w' hC => ?_) ?_; rotate_left; (go_simp; try with_reducible rfl); try simp only [Act.put, List.setIfInBounds_toArray, List.set_cons_zero, List.set_cons_succ]
                  have hXw := hRy21.keep hX2.out hKX
                  have hmX : Mod (Eq X) y21 (put8 y21 X (.int .i64 3) (.string ⟨#[]⟩) (.string ⟨wd.toArray⟩) (.string ⟨ag.toArray⟩) (.int .i64 ct) (.slice none 0 0) (.slice none 0 0) (.slice none 0 0)) := put8_mod _ _ _ _ _ _ _ _ _ _
                  refine wpTr_c1 _ (by simp only [List.getD_cons_succ, List.getD_cons_zero]; rfl) (wpN_c (by rfl) (fun Kc hKc => ?_))
                  refine wp_store8 _ _ rfl rfl rfl rfl rfl rfl rfl rfl rfl rfl rfl rfl hXw ?_
                  refine hKc.out _ _ ⟨(hmX.cell (hRy21.arg hj1 hag.out) (fun e => by have := hRy21.strlt; have : X = z21 := e; omega)), (hmX.cell (hRy21.cnt hj2 hct.out) (fun e => by have := hRy21.numlt; have : X = z17 := e; omega))⟩ (wpTr_done ?_)
                  clear hKc Kc
                  replace hXw := hid hXw
                  replace hmX := hid hmX
                  go_wp2_with fail
                  go_meet
                  change HeadAt B K X xs hh wo (put8 y21 X (.int .i64 3) (.string ⟨#[]⟩) (.string ⟨wd.toArray⟩) (.string ⟨ag.toArray⟩) (.int .i64 ct) (.slice none 0 0) (.slice none 0 0) (.slice none 0 0))
                  rw [hhe.out]
                  exact head_mk ⟨3, [], wd, ag, ct, .slice none 0 0, .slice none 0 0, .slice none 0 0⟩ (put8_at hXw.out) hmX.out hRy21.fe (hmr2.out.trans hRy21.mod) (by omega) (by omega) (.mk _ [] [] [] (StrsAt.nil _ _) (NodesAt.nil _ _) (NodesAt.nil _ _))
            · refine wpN_c (by rfl) (fun Kc hKc => ?_)
              go_simp
              refine (hRy11.next hj2v.out (by omega)).mono ?_
              rintro e y22 ⟨rfl, hRy22⟩
              refine hKc.out _ _ trivial ?_
              clear hKc Kc
              try simp only [Act.put, List.setIfInBounds_toArray, List.set_cons_zero, List.set_cons_succ]
              refine wpTr_c2 _ _ (by simp only [List.getD_cons_succ, List.getD_cons_zero]; rfl) (by simp only [List.getD_cons_succ, List.getD_cons_zero]; rfl) ?_ ?_
              · refine wpN_c (by rfl) (fun Kc hKc => ?_)
                go_simp
                have hRy23 : Ar B K xs (a + 4) w2 (some y22.heap.size) none (y22.alloc (.cells #[.string ⟨#[]⟩, .string ⟨#[99, 105, 116, 121]⟩, .string ⟨#[123, 97, 125, 32, 124]⟩] 9)) := hRy22.strs
                generalize y22.heap.size = z23 at hRy23 ⊢
                generalize (y22.alloc (.cells #[.string ⟨#[]⟩, .string ⟨#[99, 105, 116, 121]⟩, .string ⟨#[123, 97, 125, 32, 124]⟩] 9)) = y23 at hRy23 ⊢
                refine hKc.out _ _ trivial ?_
                clear hKc Kc
                try simp only [Act.put, List.setIfInBounds_toArray, List.set_cons_zero, List.set_cons_succ]
                refine wpTr_s (fun w' => w'.cell? ⟨z23, j1, none⟩ = some (.string ⟨ag.toArray⟩)) (fun w' h => trivial) (hRy23.arg hj1 hag.out) ?_
                refine wpTr_q _ (by simp only [List.getD_cons_succ, List.getD_cons_zero]; rfl) (by rfl) ?_ (fun w' hC => ?_) ?_; rotate_left; (go_simp; try with_reducible rfl); try simp only [Act.put, List.setIfInBounds_toArray, List.set_cons_zero, List.set_cons_succ]
                refine wpTr_q _ (by simp only [List.getD_cons_succ, List.getD_cons_zero]; rfl) (by rfl) ?_ (fun w' hC => ?_) ?_; rotate_left; (go_simp; try with_reducible rfl); try simp only [Act.put, List.setIfInBounds_toArray, List.set_cons_zero, List.set_cons_succ]
                refine wpTr_c1 _ (by simp only [List.getD_cons_succ, List.getD_cons_zero]; rfl) ?_
                · refine wpN_c (by rfl) (fun Kc hKc => ?_)
                  go_simp
                  have hRy24 : Ar B K xs (a + 4) w2 (some z23) (some y23.heap.size) (y23.alloc (.cells #[.int .i64 0, .int .i64 5, .int .i64 999999] 3)) := hRy23.nums
                  generalize y23.heap.size = z24 at hRy24 ⊢
                  generalize (y23.alloc (.cells #[.int .i64 0, .int .i64 5, .int .i64 999999] 3)) = y24 at hRy24 ⊢
                  refine hKc.out _ _ (hRy24.arg hj1 hag.out) ?_
                  clear hKc Kc
                  try simp only [Act.put, List.setIfInBounds_toArray, List.set_cons_zero, List.set_cons_succ]
                  refine wpTr_s (fun w' => w'.cell? ⟨z24, j2, none⟩ = some (.int .i64 ct) ∧ w'.cell? ⟨z23, j1, none⟩ = some (.string ⟨ag.toArray⟩)) (fun w' h => h.2) ⟨(hRy24.cnt hj2 hct.out), (hRy24.arg hj1 hag.out)⟩ ?_
                  refine wpTr_q _ (by simp only [List.getD_cons_succ, List.getD_cons_zero]; rfl) (by rfl) ?_ (fun w' hC => ?_) ?_; rotate_left; (go_simp; try with_reducible rfl); try simp only [Act.put, List.setIfInBounds_toArray, List.set_cons_zero, List.set_cons_succ]
                  refine wpTr_q _ (by simp only [List.getD_cons_succ, List.getD_cons_zero]; rfl) (by rfl) ?_ (fun w' hC => ?_) ?_; rotate_left; (go_simp; try with_reducible rfl); try simp only [Act.put, List.setIfInBounds_toArray, List.set_cons_zero, List.set_cons_succ]
                  refine wpTr_q _ (by simp only [List.getD_cons_succ, List.getD_cons_zero]; rfl) (by rfl) ?_ (fun w' hC => ?_) ?_; rotate_left; (go_simp; try with_reducible rfl); try simp only [Act.put, List.setIfInBounds_toArray, List.set_cons_zero, List.set_cons_succ]
                  have hXw := hRy24.keep hX2.out hKX
                  have hmX : Mod (Eq X) y24 (put8 y24 X (.int .i64 3) (.string ⟨#[]⟩) (.string ⟨wd.toArray⟩) (.string ⟨ag.toArray⟩) (.int .i64 ct) (.slice none 0 0) (.slice none 0 0) (.slice none 0 0)) := put8_mod _ _ _ _ _ _ _ _ _ _
                  refine wpTr_c1 _ (by simp only [List.getD_cons_succ, List.getD_cons_zero]; rfl) (wpN_c (by rfl) (fun Kc hKc => ?_))
                  refine wp_store8 _ _ rfl rfl rfl rfl rfl rfl rfl rfl rfl rfl rfl rfl hXw ?_
                  refine hKc.out _ _ ⟨(hmX.cell (hRy24.cnt hj2 hct.out) (fun e => by have := hRy24.numlt; have : X = z24 := e; omega)), (hmX.cell (hRy24.arg hj1 hag.out) (fun e => by have := hRy24.strlt; have : X = z23 := e; omega))⟩ (wpTr_done ?_)
                  clear hKc Kc
                  replace hXw := hid hXw
                  replace hmX := hid hmX
                  go_wp2_with fail
                  go_meet
                  change HeadAt B K X xs hh wo (put8 y24 X (.int .i64 3) (.string ⟨#[]⟩) (.string ⟨wd.toArray⟩) (.string ⟨ag.toArray⟩) (.int .i64 ct) (.slice none 0 0) (.slice none 0 0) (.slice none 0 0))
                  rw [hhe.out]
                  exact head_mk ⟨3, [], wd, ag, ct, .slice none 0 0, .slice none 0 0, .slice none 0 0⟩ (put8_at hXw.out) hmX.out hRy24.fe (hmr2.out.trans hRy24.mod) (by omega) (by omega) (.mk _ [] [] [] (StrsAt.nil _ _) (NodesAt.nil _ _) (NodesAt.nil _ _))
              · refine wpN_c (by rfl) (fun Kc hKc => ?_)
                go_simp
                have hRy25 : Ar B K xs (a + 4) w2 none (some y22.heap.size) (y22.alloc (.cells #[.int .i64 0, .int .i64 5, .int .i64 999999] 3)) := hRy22.nums
                generalize y22.heap.size = z25 at hRy25 ⊢
                generalize (y22.alloc (.cells #[.int .i64 0, .int .i64 5, .int .i64 999999] 3)) = y25 at hRy25 ⊢
                refine hKc.out _ _ trivial ?_
                clear hKc Kc
                try simp only [Act.put, List.setIfInBounds_toArray, List.set_cons_zero, List.set_cons_succ]
                refine wpTr_s (fun w' => w'.cell? ⟨z25, j2, none⟩ = some (.int .i64 ct)) (fun w' h => trivial) (hRy25.cnt hj2 hct.out) ?_
                refine wpTr_q _ (by simp only [List.getD_cons_succ, List.getD_cons_zero]; rfl) (by rfl) ?_ (fun w' hC => ?_) ?_; rotate_left; (go_simp; try with_reducible rfl); try simp only [Act.put, List.setIfInBounds_toArray, List.set_cons_zero, List.set_cons_succ]
                refine wpTr_q _ (by simp only [List.getD_cons_succ, List.getD_cons_zero]; rfl) (by rfl) ?_ (fun w' hC => ?_) ?_; rotate_left; (go_simp; try with_reducible rfl); try simp only [Act.put, List.setIfInBounds_toArray, List.set_cons_zero, List.set_cons_succ]
                refine wpTr_c1 _ (by simp only [List.getD_cons_succ, List.getD_cons_zero]; rfl) ?_
                · refine wpN_c (by rfl) (fun Kc hKc => ?_)
                  go_simp
                  have hRy26 : Ar B K xs (a + 4) w2 (some y25.heap.size) (some z25) (y25.alloc (.cells #[.string ⟨#[]⟩, .string ⟨#[99, 105, 116, 121]⟩, .string ⟨#[123, 97, 125, 32, 124]⟩] 9)) := hRy25.strs
                  generalize y25.heap.size = z26 at hRy26 ⊢
                  generalize (y25.alloc (.cells #[.string ⟨#[]⟩, .string ⟨#[99, 105, 116, 121]⟩, .string ⟨#[123, 97, 125, 32, 124]⟩] 9)) = y26 at hRy26 ⊢
                  refine hKc.out _ _ (hRy26.cnt hj2 hct.out) ?_
                  clear hKc Kc
                  try simp only [Act.put, List.setIfInBounds_toArray, List.set_cons_zero, List.set_cons_succ]
                  refine wpTr_s (fun w' => w'.cell? ⟨z26, j1, none⟩ = some (.string ⟨ag.toArray⟩) ∧ w'.cell? ⟨z25, j2, none⟩ = some (.int .i64 ct)) (fun w' h => h.2) ⟨(hRy26.arg hj1 hag.out), (hRy26.cnt hj2 hct.out)⟩ ?_
                  refine wpTr_q _ (by simp only [List.getD_cons_succ, List.getD_cons_zero]; rfl) (by rfl) ?_ (fun w' hC => ?_) ?_; rotate_left; (go_simp; try with_reducible rfl); try simp only [Act.put, List.setIfInBounds_toArray, List.set_cons_zero, List.set_cons_succ]
                  refine wpTr_q _ (by simp only [List.getD_cons_succ, List.getD_cons_zero]; rfl) (by rfl) ?_ (fun w' hC => ?_) ?_; rotate_left; (go_simp; try with_reducible rfl); try simp only [Act.put, List.setIfInBounds_toArray, List.set_cons_zero, List.set_cons_succ]
                  refine wpTr_q _ (by simp only [List.getD_cons_succ, List.getD_cons_zero]; rfl) (by rfl) ?_ (fun w' hC => ?_) ?_; rotate_left; (go_simp; try with_reducible rfl); try simp only [Act.put, List.setIfInBounds_toArray, List.set_cons_zero, List.set_cons_succ]
                  have hXw := hRy26.keep hX2.out hKX
                  have hmX : Mod (Eq X) y26 (put8 y26 X (.int .i64 3) (.string ⟨#[]⟩) (.string ⟨wd.toArray⟩) (.string ⟨ag.toArray⟩) (.int .i64 ct) (.slice none 0 0) (.slice none 0 0) (.slice none 0 0)) := put8_mod _ _ _ _ _ _ _ _ _ _
                  refine wpTr_c1 _ (by simp only [List.getD_cons_succ, List.getD_cons_zero]; rfl) (wpN_c (by rfl) (fun Kc hKc => ?_))
                  refine wp_store8 _ _ rfl rfl rfl rfl rfl rfl rfl rfl rfl rfl rfl rfl hXw ?_
                  refine hKc.out _ _ ⟨(hmX.cell (hRy26.arg hj1 hag.out) (fun e => by have := hRy26.strlt; have : X = z26 := e; omega)), (hmX.cell (hRy26.cnt hj2 hct.out) (fun e => by have := hRy26.numlt; have : X = z25 := e; omega))⟩ (wpTr_done ?_)
                  clear hKc Kc
                  replace hXw := hid hXw
                  replace hmX := hid hmX
                  go_wp2_with fail
                  go_meet
                  change HeadAt B K X xs hh wo (put8 y26 X (.int .i64 3) (.string ⟨#[]⟩) (.string ⟨wd.toArray⟩) (.string ⟨ag.toArray⟩) (.int .i64 ct) (.slice none 0 0) (.slice none 0 0) (.slice none 0 0))
                  rw [hhe.out]
                  exact head_mk ⟨3, [], wd, ag, ct, .slice none 0 0, .slice none 0 0, .slice none 0 0⟩ (put8_at hXw.out) hmX.out hRy26.fe (hmr2.out.trans hRy26.mod) (by omega) (by omega) (.mk _ [] [] [] (StrsAt.nil _ _) (NodesAt.nil _ _) (NodesAt.nil _ _))
          · refine wpN_c (by rfl) (fun Kc hKc => ?_)
            go_simp
            have hRy27 : Ar B K xs (a + 2) w2 none (some y1.heap.size) (y1.alloc (.cells #[.int .i64 0, .int .i64 5, .int .i64 999999] 3)) := hRy1.nums
            generalize y1.heap.size = z27 at hRy27 ⊢
            generalize (y1.alloc (.cells #[.int .i64 0, .int .i64 5, .int .i64 999999] 3)) = y27 at hRy27 ⊢
            refine hKc.out _ _ trivial ?_
            clear hKc Kc
            try simp only [Act.put, List.setIfInBounds_toArray, List.set_cons_zero, List.set_cons_succ]
            refine wpTr_c2 _ _ (by simp only [List.getD_cons_succ, List.getD_cons_zero]; rfl) (by simp only [List.getD_cons_succ, List.getD_cons_zero]; rfl) ?_ ?_
            · refine wpN_c (by rfl) (fun Kc hKc => ?_)
              go_simp
              have hRy28 : Ar B K xs (a + 2) w2 (some y27.heap.size) (some z27) (y27.alloc (.cells #[.string ⟨#[]⟩, .string ⟨#[99, 105, 116, 121]⟩, .string ⟨#[123, 97, 125, 32, 124]⟩] 9)) := hRy27.strs
              generalize y27.heap.size = z28 at hRy28 ⊢
              generalize (y27.alloc (.cells #[.string ⟨#[]⟩, .string ⟨#[99, 105, 116, 121]⟩, .string ⟨#[123, 97, 125, 32, 124]⟩] 9)) = y28 at hRy28 ⊢
              refine hKc.out _ _ trivial ?_
              clear hKc Kc
              try simp only [Act.put, List.setIfInBounds_toArray, List.set_cons_zero, List.set_cons_succ]
              refine wpTr_c1 _ (by simp only [List.getD_cons_succ, List.getD_cons_zero]; rfl) ?_
              · refine wpN_c (by rfl) (fun Kc hKc => ?_)
                go_simp
                refine (hRy28.next hj1v.out (by omega)).mono ?_
                rintro e y29 ⟨rfl, hRy29⟩
                refine hKc.out _ _ trivial ?_
                clear hKc Kc
                try simp only [Act.put, List.setIfInBounds_toArray, List.set_cons_zero, List.set_cons_succ]
                refine wpTr_s (fun w' => w'.cell? ⟨z28, j1, none⟩ = some (.string ⟨ag.toArray⟩)) (fun w' h => trivial) (hRy29.arg hj1 hag.out) ?_
                refine wpTr_q _ (by simp only [List.getD_cons_succ, List.getD_cons_zero]; rfl) (by rfl) ?_ (fun w' hC => ?_) ?_; rotate_left; (go_simp; try with_reducible rfl); try simp only [Act.put, List.setIfInBounds_toArray, List.set_cons_zero, List.set_cons_succ]
                refine wpTr_q _ (by simp only [List.getD_cons_succ, List.getD_cons_zero]; rfl) (by rfl) ?_ (fun w' hC => ?_) ?_; rotate_left; (go_simp; try with_reducible rfl); try simp only [Act.put, List.setIfInBounds_toArray, List.set_cons_zero, List.set_cons_succ]
                refine wpTr_c1 _ (by simp only [List.getD_cons_succ, List.getD_cons_zero]; rfl) ?_
                · refine wpN_c (by rfl) (fun Kc hKc => ?_)
                  go_simp
                  refine (hRy29.next hj2v.out (by omega)).mono ?_
                  rintro e y30 ⟨rfl, hRy30⟩
                  refine hKc.out _ _ (hRy30.arg hj1 hag.out) ?_
                  clear hKc Kc
                  try simp only [Act.put, List.setIfInBounds_toArray, List.set_cons_zero, List.set_cons_succ]
                  refine wpTr_s (fun w' => w'.cell? ⟨z27, j2, none⟩ = some (.int .i64 ct) ∧ w'.cell? ⟨z28, j1, none⟩ = some (.string ⟨ag.toArray⟩)) (fun w' h => h.2) ⟨(hRy30.cnt hj2 hct.out), (hRy30.arg hj1 hag.out)⟩ ?_
                  refine wpTr_q _ (by simp only [List.getD_cons_succ, List.getD_cons_zero]; rfl) (by rfl) ?_ (fun w' hC => ?_) ?_; rotate_left; (go_simp; try with_reducible rfl); try simp only [Act.put, List.setIfInBounds_toArray, List.set_cons_zero, List.set_cons_succ]
                  refine wpTr_q _ (by simp only [List.getD_cons_succ, List.getD_cons_zero]; rfl) (by rfl) ?_ (fun w' hC => ?_) ?_; rotate_left; (go_simp; try with_reducible rfl); try simp only [Act.put, List.setIfInBounds_toArray, List.set_cons_zero, List.set_cons_succ]
                  refine wpTr_q _ (by simp only [List.getD_cons_succ, List.getD_cons_zero]; rfl) (by rfl) ?_ (fun w' hC => ?_) ?_; rotate_left; (go_simp; try with_reducible rfl); try simp only [Act.put, List.setIfInBounds_toArray, List.set_cons_zero, List.set_cons_succ]
                  have hXw := hRy30.keep hX2.out hKX
                  have hmX : Mod (Eq X) y30 (put8 y30 X (.int .i64 3) (.string ⟨#[]⟩) (.string ⟨wd.toArray⟩) (.string ⟨ag.toArray⟩) (.int .i64 ct) (.slice none 0 0) (.slice none 0 0) (.slice none 0 0)) := put8_mod _ _ _ _ _ _ _ _ _ _
                  refine wpTr_c1 _ (by simp only [List.getD_cons_succ, List.getD_cons_zero]; rfl) (wpN_c (by rfl) (fun Kc hKc => ?_))
                  refine wp_store8 _ _ rfl rfl rfl rfl rfl rfl rfl rfl rfl rfl rfl rfl hXw ?_
                  refine hKc.out _ _ ⟨(hmX.cell (hRy30.cnt hj2 hct.out) (fun e => by have := hRy30.numlt; have : X = z27 := e; omega)), (hmX.cell (hRy30.arg hj1 hag.out) (fun e => by have := hRy30.strlt; have : X = z28 := e; omega))⟩ (wpTr_done ?_)
                  clear hKc Kc
                  replace hXw := hid hXw
                  replace hmX := hid hmX
                  go_wp2_with fail
                  go_meet
                  change HeadAt B K X xs hh wo (put8 y30 X (.int .i64 3) (.string ⟨#[]⟩) (.string ⟨wd.toArray⟩) (.string ⟨ag.toArray⟩) (.int .i64 ct) (.slice none 0 0) (.slice none 0 0) (.slice none 0 0))
                  rw [hhe.out]
                  exact head_mk ⟨3, [], wd, ag, ct, .slice none 0 0, .slice none 0 0, .slice none 0 0⟩ (put8_at hXw.out) hmX.out hRy30.fe (hmr2.out.trans hRy30.mod) (by omega) (by omega) (.mk _ [] [] [] (StrsAt.nil _ _) (NodesAt.nil _ _) (NodesAt.nil _ _))
            · refine wpN_c (by rfl) (fun Kc hKc => ?_)
              go_simp
              refine (hRy27.next hj1v.out (by omega)).mono ?_
              rintro e y31 ⟨rfl, hRy31⟩
              refine hKc.out _ _ trivial ?_
              clear hKc Kc
              try simp only [Act.put, List.setIfInBounds_toArray, List.set_cons_zero, List.set_cons_succ]
              refine wpTr_c2 _ _ (by simp only [List.getD_cons_succ, List.getD_cons_zero]; rfl) (by simp only [List.getD_cons_succ, List.getD_cons_zero]; rfl) ?_ ?_
              · refine wpN_c (by rfl) (fun Kc hKc => ?_)
                go_simp
                have hRy32 : Ar B K xs (a + 3) w2 (some y31.heap.size) (some z27) (y31.alloc (.cells #[.string ⟨#[]⟩, .string ⟨#[99, 105, 116, 121]⟩, .string ⟨#[123, 97, 125, 32, 124]⟩] 9)) := hRy31.strs
                generalize y31.heap.size = z32 at hRy32 ⊢
                generalize (y31.alloc (.cells #[.string ⟨#[]⟩, .string ⟨#[99, 105, 116, 121]⟩, .string ⟨#[123, 97, 125, 32, 124]⟩] 9)) = y32 at hRy32 ⊢
                refine hKc.out _ _ trivial ?_
                clear hKc Kc
                try simp only [Act.put, List.setIfInBounds_toArray, List.set_cons_zero, List.set_cons_succ]
                refine wpTr_s (fun w' => w'.cell? ⟨z32, j1, none⟩ = some (.string ⟨ag.toArray⟩)) (fun w' h => trivial) (hRy32.arg hj1 hag.out) ?_
                refine wpTr_q _ (by simp only [List.getD_cons_succ, List.getD_cons_zero]; rfl) (by rfl) ?_ (fun w' hC => ?_) ?_; rotate_left; (go_simp; try with_reducible rfl); try simp only [Act.put, List.setIfInBounds_toArray, List.set_cons_zero, List.set_cons_succ]
                refine wpTr_q _ (by simp only [List.getD_cons_succ, List.getD_cons_zero]; rfl) (by rfl) ?_ (fun w' hC => ?_) ?_; rotate_left; (go_simp; try with_reducible rfl); try simp only [Act.put, List.setIfInBounds_toArray, List.set_cons_zero, List.set_cons_succ]
                refine wpTr_c1 _ (by simp only [List.getD_cons_succ, List.getD_cons_zero]; rfl) ?_
                · refine wpN_c (by rfl) (fun Kc hKc => ?_)
                  go_simp
                  refine (hRy32.next hj2v.out (by omega)).mono ?_
                  rintro e y33 ⟨rfl, hRy33⟩
                  refine hKc.out _ _ (hRy33.arg hj1 hag.out) ?_
                  clear hKc Kc
                  try simp only [Act.put, List.setIfInBounds_toArray, List.set_cons_zero, List.set_cons_succ]
                  refine wpTr_s (fun w' => w'.cell? ⟨z27, j2, none⟩ = some (.int .i64 ct) ∧ w'.cell? ⟨z32, j1, none⟩ = some (.string ⟨ag.toArray⟩)) (fun w' h => h.2) ⟨(hRy33.cnt hj2 hct.out), (hRy33.arg hj1 hag.out)⟩ ?_
                  refine wpTr_q _ (by simp only [List.getD_cons_succ, List.getD_cons_zero]; rfl) (by rfl) ?_ (fun w' hC => ?_) ?_; rotate_left; (go_simp; try with_reducible rfl); try simp only [Act.put, List.setIfInBounds_toArray, List.set_cons_zero, List.set_cons_succ]
                  refine wpTr_q _ (by simp only [List.getD_cons_succ, List.getD_cons_zero]; rfl) (by rfl) ?_ (fun w' hC => ?_) ?_; rotate_left; (go_simp; try with_reducible rfl); try simp only [Act.put, List.setIfInBounds_toArray, List.set_cons_zero, List.set_cons_succ]
                  refine wpTr_q _ (by simp only [List.getD_cons_succ, List.getD_cons_zero]; rfl) (by rfl) ?_ (fun w' hC => ?_) ?_; rotate_left; (go_simp; try with_reducible rfl); try simp only [Act.put, List.setIfInBounds_toArray, List.set_cons_zero, List.set_cons_succ]
                  have hXw := hRy33.keep hX2.out hKX
                  have hmX : Mod (Eq X) y33 (put8 y33 X (.int .i64 3) (.string ⟨#[]⟩) (.string ⟨wd.toArray⟩) (.string ⟨ag.toArray⟩) (.int .i64 ct) (.slice none 0 0) (.slice none 0 0) (.slice none 0 0)) := put8_mod _ _ _ _ _ _ _ _ _ _
                  refine wpTr_c1 _ (by simp only [List.getD_cons_succ, List.getD_cons_zero]; rfl) (wpN_c (by rfl) (fun Kc hKc => ?_))
                  refine wp_store8 _ _ rfl rfl rfl rfl rfl rfl rfl rfl rfl rfl rfl rfl hXw ?_
                  refine hKc.out _ _ ⟨(hmX.cell (hRy33.cnt hj2 hct.out) (fun e => by have := hRy33.numlt; have : X = z27 := e; omega)), (hmX.cell (hRy33.arg hj1 hag.out) (fun e => by have := hRy33.strlt; have : X = z32 := e; omega))⟩ (wpTr_done ?_)
                  clear hKc Kc
                  replace hXw := hid hXw
                  replace hmX := hid hmX
                  go_wp2_with fail
                  go_meet
                  change HeadAt B K X xs hh wo (put8 y33 X (.int .i64 3) (.string ⟨#[]⟩) (.string ⟨wd.toArray⟩) (.string ⟨ag.toArray⟩) (.int .i64 ct) (.slice none 0 0) (.slice none 0 0) (.slice none 0 0))
                  rw [hhe.out]
                  exact head_mk ⟨3, [], wd, ag, ct, .slice none 0 0, .slice none 0 0, .slice none 0 0⟩ (put8_at hXw.out) hmX.out hRy33.fe (hmr2.out.trans hRy33.mod) (by omega) (by omega) (.mk _ [] [] [] (StrsAt.nil _ _) (NodesAt.nil _ _) (NodesAt.nil _ _))
              · refine wpN_c (by rfl) (fun Kc hKc => ?_)
                go_simp
                refine (hRy31.next hj2v.out (by omega)).mono ?_
                rintro e y34 ⟨rfl, hRy34⟩
                refine hKc.out _ _ trivial ?_
                clear hKc Kc
                try simp only [Act.put, List.setIfInBounds_toArray, List.set_cons_zero, List.set_cons_succ]
                refine wpTr_s (fun w' => w'.cell? ⟨z27, j2, none⟩ = some (.int .i64 ct)) (fun w' h => trivial) (hRy34.cnt hj2 hct.out) ?_
                refine wpTr_q _ (by simp only [List.getD_cons_succ, List.getD_cons_zero]; rfl) (by rfl) ?_ (fun w' hC => ?_) ?_; rotate_left; (go_simp; try with_reducible rfl); try simp only [Act.put, List.setIfInBounds_toArray, List.set_cons_zero, List.set_cons_succ]
                refine wpTr_q _ (by simp only [List.getD_cons_succ, List.getD_cons_zero]; rfl) (by rfl) ?_ (fun w' hC => ?_) ?_; rotate_left; (go_simp; try with_reducible rfl); try simp only [Act.put, List.setIfInBounds_toArray, List.set_cons_zero, List.set_cons_succ]
                refine wpTr_c1 _ (by simp only [List.getD_cons_succ, List.getD_cons_zero]; rfl) ?_
                · refine wpN_c (by rfl) (fun Kc hKc => ?_)
                  go_simp
                  have hRy35 : Ar B K xs (a + 4) w2 (some y34.heap.size) (some z27) (y34.alloc (.cells #[.string ⟨#[]⟩, .string ⟨#[99, 105, 116, 121]⟩, .string ⟨#[123, 97, 125, 32, 124]⟩] 9)) := hRy34.strs
                  generalize y34.heap.size = z35 at hRy35 ⊢
                  generalize (y34.alloc (.cells #[.string ⟨#[]⟩, .string ⟨#[99, 105, 116, 121]⟩, .string ⟨#[123, 97, 125, 32, 124]⟩] 9)) = y35 at hRy35 ⊢
                  refine hKc.out _ _ (hRy35.cnt hj2 hct.out) ?_
                  clear hKc Kc
                  try simp only [Act.put, List.setIfInBounds_toArray, List.set_cons_zero, List.set_cons_succ]
                  refine wpTr_s (fun w' => w'.cell? ⟨z35, j1, none⟩ = some (.string ⟨ag.toArray⟩) ∧ w'.cell? ⟨z27, j2, none⟩ = some (.int .i64 ct)) (fun w' h => h.2) ⟨(hRy35.arg hj1 hag.out), (hRy35.cnt hj2 hct.out)⟩ ?_
                  refine wpTr_q _ (by simp only [List.getD_cons_succ, List.getD_cons_zero]; rfl) (by rfl) ?_ (fun w' hC => ?_) ?_; rotate_left; (go_simp; try with_reducible rfl); try simp only [Act.put, List.setIfInBounds_toArray, List.set_cons_zero, List.set_cons_succ]
                  refine wpTr_q _ (by simp only [List.getD_cons_succ, List.getD_cons_zero]; rfl) (by rfl) ?_ (fun w' hC => ?_) ?_; rotate_left; (go_simp; try with_reducible rfl); try simp only [Act.put, List.setIfInBounds_toArray, List.set_cons_zero, List.set_cons_succ]
                  refine wpTr_q _ (by simp only [List.getD_cons_succ, List.getD_cons_zero]; rfl) (by rfl) ?_ (fun w' hC => ?_) ?_; rotate_left; (go_simp; try with_reducible rfl); try simp only [Act.put, List.setIfInBounds_toArray, List.set_cons_zero, List.set_cons_succ]
                  have hXw := hRy35.keep hX2.out hKX
                  have hmX : Mod (Eq X) y35 (put8 y35 X (.int .i64 3) (.string ⟨#[]⟩) (.string ⟨wd.toArray⟩) (.string ⟨ag.toArray⟩) (.int .i64 ct) (.slice none 0 0) (.slice none 0 0) (.slice none 0 0)) := put8_mod _ _ _ _ _ _ _ _ _ _
                  refine wpTr_c1 _ (by simp only [List.getD_cons_succ, List.getD_cons_zero]; rfl) (wpN_c (by rfl) (fun Kc hKc => ?_))
                  refine wp_store8 _ _ rfl rfl rfl rfl rfl rfl rfl rfl rfl rfl rfl rfl hXw ?_
                  refine hKc.out _ _ ⟨(hmX.cell (hRy35.arg hj1 hag.out) (fun e => by have := hRy35.strlt; have : X = z35 := e; omega)), (hmX.cell (hRy35.cnt hj2 hct.out) (fun e => by have := hRy35.numlt; have : X = z27 := e; omega))⟩ (wpTr_done ?_)
                  clear hKc Kc
                  replace hXw := hid hXw
                  replace hmX := hid hmX
                  go_wp2_with fail
                  go_meet
                  change HeadAt B K X xs hh wo (put8 y35 X (.int .i64 3) (.string ⟨#[]⟩) (.string ⟨wd.toArray⟩) (.string ⟨ag.toArray⟩) (.int .i64 ct) (.slice none 0 0) (.slice none 0 0) (.slice none 0 0))
                  rw [hhe.out]
                  exact head_mk ⟨3, [], wd, ag, ct, .slice none 0 0, .slice none 0 0, .slice none 0 0⟩ (put8_at hXw.out) hmX.out hRy35.fe (hmr2.out.trans hRy35.mod) (by omega) (by omega) (.mk _ [] [] [] (StrsAt.nil _ _) (NodesAt.nil _ _) (NodesAt.nil _ _))
        · refine wpN_c (by rfl) (fun Kc hKc => ?_)
          go_simp
          have hRy36 : Ar B K xs (a + 1) w2 (some y0.heap.size) none (y0.alloc (.cells #[.string ⟨#[]⟩, .string ⟨#[99, 105, 116, 121]⟩, .string ⟨#[123, 97, 125, 32, 124]⟩] 9)) := hRy0.strs
          generalize y0.heap.size = z36 at hRy36 ⊢
          generalize (y0.alloc (.cells #[.string ⟨#[]⟩, .string ⟨#[99, 105, 116, 121]⟩, .string ⟨#[123, 97, 125, 32, 124]⟩] 9)) = y36 at hRy36 ⊢
          refine hKc.out _ _ trivial ?_
          clear hKc Kc
          try simp only [Act.put, List.setIfInBounds_toArray, List.set_cons_zero, List.set_cons_succ]
          refine wpTr_c2 _ _ (by simp only [List.getD_cons_succ, List.getD_cons_zero]; rfl) (by simp only [List.getD_cons_succ, List.getD_cons_zero]; rfl) ?_ ?_
          · refine wpN_c (by rfl) (fun Kc hKc => ?_)
            go_simp
            refine (hRy36.word hwd.out (by omega)).mono ?_
            rintro e y37 ⟨rfl, hRy37⟩
            refine hKc.out _ _ trivial ?_
            clear hKc Kc
            try simp only [Act.put, List.setIfInBounds_toArray, List.set_cons_zero, List.set_cons_succ]
            refine wpTr_c2 _ _ (by simp only [List.getD_cons_succ, List.getD_cons_zero]; rfl) (by simp only [List.getD_cons_succ, List.getD_cons_zero]; rfl) ?_ ?_
            · refine wpN_c (by rfl) (fun Kc hKc => ?_)
              go_simp
              refine (hRy37.next hj1v.out (by omega)).mono ?_
              rintro e y38 ⟨rfl, hRy38⟩
              refine hKc.out _ _ trivial ?_
              clear hKc Kc
              try simp only [Act.put, List.setIfInBounds_toArray, List.set_cons_zero, List.set_cons_succ]
              refine wpTr_s (fun w' => w'.cell? ⟨z36, j1, none⟩ = some (.string ⟨ag.toArray⟩)) (fun w' h => trivial) (hRy38.arg hj1 hag.out) ?_
              refine wpTr_q _ (by simp only [List.getD_cons_succ, List.getD_cons_zero]; rfl) (by rfl) ?_ (fun w' hC => ?_) ?_; rotate_left; (go_simp; try with_reducible rfl); try simp only [Act.put, List.setIfInBounds_toArray, List.set_cons_zero, List.set_cons_succ]
              refine wpTr_q _ (by simp only [List.getD_cons_succ, List.getD_cons_zero]; rfl) (by rfl) ?_ (fun w' hC => ?_) ?_; rotate_left; (go_simp; try with_reducible rfl); try simp only [Act.put, List.setIfInBounds_toArray, List.set_cons_zero, List.set_cons_succ]
              refine wpTr_c2 _ _ (by simp only [List.getD_cons_succ, List.getD_cons_zero]; rfl) (by simp only [List.getD_cons_succ, List.getD_cons_zero]; rfl) ?_ ?_
              · refine wpN_c (by rfl) (fun Kc hKc => ?_)
                go_simp
                have hRy39 : Ar B K xs (a + 3) w2 (some z36) (some y38.heap.size) (y38.alloc (.cells #[.int .i64 0, .int .i64 5, .int .i64 999999] 3)) := hRy38.nums
                generalize y38.heap.size = z39 at hRy39 ⊢
                generalize (y38.alloc (.cells #[.int .i64 0, .int .i64 5, .int .i64 999999] 3)) = y39 at hRy39 ⊢
                refine hKc.out _ _ (hRy39.arg hj1 hag.out) ?_
                clear hKc Kc
                try simp only [Act.put, List.setIfInBounds_toArray, List.set_cons_zero, List.set_cons_succ]
                refine wpTr_c1 _ (by simp only [List.getD_cons_succ, List.getD_cons_zero]; rfl) ?_
                · refine wpN_c (by rfl) (fun Kc hKc => ?_)
                  go_simp
                  refine (hRy39.next hj2v.out (by omega)).mono ?_
                  rintro e y40 ⟨rfl, hRy40⟩
                  refine hKc.out _ _ (hRy40.arg hj1 hag.out) ?_
                  clear hKc Kc
                  try simp only [Act.put, List.setIfInBounds_toArray, List.set_cons_zero, List.set_cons_succ]
                  refine wpTr_s (fun w' => w'.cell? ⟨z39, j2, none⟩ = some (.int .i64 ct) ∧ w'.cell? ⟨z36, j1, none⟩ = some (.string ⟨ag.toArray⟩)) (fun w' h => h.2) ⟨(hRy40.cnt hj2 hct.out), (hRy40.arg hj1 hag.out)⟩ ?_
                  refine wpTr_q _ (by simp only [List.getD_cons_succ, List.getD_cons_zero]; rfl) (by rfl) ?_ (fun w' hC => ?_) ?_; rotate_left; (go_simp; try with_reducible rfl); try simp only [Act.put, List.setIfInBounds_toArray, List.set_cons_zero, List.set_cons_succ]
                  refine wpTr_q _ (by simp only [List.getD_cons_succ, List.getD_cons_zero]; rfl) (by rfl) ?_ (fun w' hC => ?_) ?_; rotate_left; (go_simp; try with_reducible rfl); try simp only [Act.put, List.setIfInBounds_toArray, List.set_cons_zero, List.set_cons_succ]
                  refine wpTr_q _ (by simp only [List.getD_cons_succ, List.getD_cons_zero]; rfl) (by rfl) ?_ (fun w' hC => ?_) ?_; rotate_left; (go_simp; try with_reducible rfl); try simp only [Act.put, List.setIfInBounds_toArray, List.set_cons_zero, List.set_cons_succ]
                  have hXw := hRy40.keep hX2.out hKX
                  have hmX : Mod (Eq X) y40 (put8 y40 X (.int .i64 3) (.string ⟨#[]⟩) (.string ⟨wd.toArray⟩) (.string ⟨ag.toArray⟩) (.int .i64 ct) (.slice none 0 0) (.slice none 0 0) (.slice none 0 0)) := put8_mod _ _ _ _ _ _ _ _ _ _
                  refine wpTr_c1 _ (by simp only [List.getD_cons_succ, List.getD_cons_zero]; rfl) (wpN_c (by rfl) (fun Kc hKc => ?_))
                  refine wp_store8 _ _ rfl rfl rfl rfl rfl rfl rfl rfl rfl rfl rfl rfl hXw ?_
                  refine hKc.out _ _ ⟨(hmX.cell (hRy40.cnt hj2 hct.out) (fun e => by have := hRy40.numlt; have : X = z39 := e; omega)), (hmX.cell (hRy40.arg hj1 hag.out) (fun e => by have := hRy40.strlt; have : X = z36 := e; omega))⟩ (wpTr_done ?_)
                  clear hKc Kc
                  replace hXw := hid hXw
                  replace hmX := hid hmX
                  go_wp2_with fail
                  go_meet
                  change HeadAt B K X xs hh wo (put8 y40 X (.int .i64 3) (.string ⟨#[]⟩) (.string ⟨wd.toArray⟩) (.string ⟨ag.toArray⟩) (.int .i64 ct) (.slice none 0 0) (.slice none 0 0) (.slice none 0 0))
                  rw [hhe.out]
                  exact head_mk ⟨3, [], wd, ag, ct, .slice none 0 0, .slice none 0 0, .slice none 0 0⟩ (put8_at hXw.out) hmX.out hRy40.fe (hmr2.out.trans hRy40.mod) (by omega) (by omega) (.mk _ [] [] [] (StrsAt.nil _ _) (NodesAt.nil _ _) (NodesAt.nil _ _))
              · refine wpN_c (by rfl) (fun Kc hKc => ?_)
                go_simp
                refine (hRy38.next hj2v.out (by omega)).mono ?_
                rintro e y41 ⟨rfl, hRy41⟩
                refine hKc.out _ _ (hRy41.arg hj1 hag.out) ?_
                clear hKc Kc
                try simp only [Act.put, List.setIfInBounds_toArray, List.set_cons_zero, List.set_cons_succ]
                refine wpTr_c1 _ (by simp only [List.getD_cons_succ, List.getD_cons_zero]; rfl) ?_
                · refine wpN_c (by rfl) (fun Kc hKc => ?_)
                  go_simp
                  have hRy42 : Ar B K xs (a + 4) w2 (some z36) (some y41.heap.size) (y41.alloc (.cells #[.int .i64 0, .int .i64 5, .int .i64 999999] 3)) := hRy41.nums
                  generalize y41.heap.size = z42 at hRy42 ⊢
                  generalize (y41.alloc (.cells #[.int .i64 0, .int .i64 5, .int .i64 999999] 3)) = y42 at hRy42 ⊢
                  refine hKc.out _ _ (hRy42.arg hj1 hag.out) ?_
                  clear hKc Kc
                  try simp only [Act.put, List.setIfInBounds_toArray, List.set_cons_zero, List.set_cons_succ]
                  refine wpTr_s (fun w' => w'.cell? ⟨z42, j2, none⟩ = some (.int .i64 ct) ∧ w'.cell? ⟨z36, j1, none⟩ = some (.string ⟨ag.toArray⟩)) (fun w' h => h.2) ⟨(hRy42.cnt hj2 hct.out), (hRy42.arg hj1 hag.out)⟩ ?_
                  refine wpTr_q _ (by simp only [List.getD_cons_succ, List.getD_cons_zero]; rfl) (by rfl) ?_ (fun w' hC => ?_) ?_; rotate_left; (go_simp; try with_reducible rfl); try simp only [Act.put, List.setIfInBounds_toArray, List.set_cons_zero, List.set_cons_succ]
                  refine wpTr_q _ (by simp only [List.getD_cons_succ, List.getD_cons_zero]; rfl) (by rfl) ?_ (fun w' hC => ?_) ?_; rotate_left; (go_simp; try with_reducible rfl); try simp only [Act.put, List.setIfInBounds_toArray, List.set_cons_zero, List.set_cons_succ]
                  refine wpTr_q _ (by simp only [List.getD_cons_succ, List.getD_cons_zero]; rfl) (by rfl) ?_ (fun w' hC => ?_) ?_; rotate_left; (go_simp; try with_reducible rfl); try simp only [Act.put, List.setIfInBounds_toArray, List.set_cons_zero, List.set_cons_succ]
                  have hXw := hRy42.keep hX2.out hKX
                  have hmX : Mod (Eq X) y42 (put8 y42 X (.int .i64 3) (.string ⟨#[]⟩) (.string ⟨wd.toArray⟩) (.string ⟨ag.toArray⟩) (.int .i64 ct) (.slice none 0 0) (.slice none 0 0) (.slice none 0 0)) := put8_mod _ _ _ _ _ _ _ _ _ _
                  refine wpTr_c1 _ (by simp only [List.getD_cons_succ, List.getD_cons_zero]; rfl) (wpN_c (by rfl) (fun Kc hKc => ?_))
                  refine wp_store8 _ _ rfl rfl rfl rfl rfl rfl rfl rfl rfl rfl rfl rfl hXw ?_
                  refine hKc.out _ _ ⟨(hmX.cell (hRy42.cnt hj2 hct.out) (fun e => by have := hRy42.numlt; have : X = z42 := e; omega)), (hmX.cell (hRy42.arg hj1 hag.out) (fun e => by have := hRy42.strlt; have : X = z36 := e; omega))⟩ (wpTr_done ?_)
                  clear hKc Kc
                  replace hXw := hid hXw
                  replace hmX := hid hmX
                  go_wp2_with fail
                  go_meet
                  change HeadAt B K X xs hh wo (put8 y42 X (.int .i64 3) (.string ⟨#[]⟩) (.string ⟨wd.toArray⟩) (.string ⟨ag.toArray⟩) (.int .i64 ct) (.slice none 0 0) (.slice none 0 0) (.slice none 0 0))
                  rw [hhe.out]
                  exact head_mk ⟨3, [], wd, ag, ct, .slice none 0 0, .slice none 0 0, .slice none 0 0⟩ (put8_at hXw.out) hmX.out hRy42.fe (hmr2.out.trans hRy42.mod) (by omega) (by omega) (.mk _ [] [] [] (StrsAt.nil _ _) (NodesAt.nil _ _) (NodesAt.nil _ _))
            · refine wpN_c (by rfl) (fun Kc hKc => ?_)
              go_simp
              have hRy43 : Ar B K xs (a + 2) w2 (some z36) (some y37.heap.size) (y37.alloc (.cells #[.int .i64 0, .int .i64 5, .int .i64 999999] 3)) := hRy37.nums
              generalize y37.heap.size = z43 at hRy43 ⊢
              generalize (y37.alloc (.cells #[.int .i64 0, .int .i64 5, .int .i64 999999] 3)) = y43 at hRy43 ⊢
              refine hKc.out _ _ trivial ?_
              clear hKc Kc
              try simp only [Act.put, List.setIfInBounds_toArray, List.set_cons_zero, List.set_cons_succ]
              refine wpTr_c1 _ (by simp only [List.getD_cons_succ, List.getD_cons_zero]; rfl) ?_
              · refine wpN_c (by rfl) (fun Kc hKc => ?_)
                go_simp
                refine (hRy43.next hj1v.out (by omega)).mono ?_
                rintro e y44 ⟨rfl, hRy44⟩
                refine hKc.out _ _ trivial ?_
                clear hKc Kc
                try simp only [Act.put, List.setIfInBounds_toArray, List.set_cons_zero, List.set_cons_succ]
                refine wpTr_s (fun w' => w'.cell? ⟨z36, j1, none⟩ = some (.string ⟨ag.toArray⟩)) (fun w' h => trivial) (hRy44.arg hj1 hag.out) ?_
                refine wpTr_q _ (by simp only [List.getD_cons_succ, List.getD_cons_zero]; rfl) (by rfl) ?_ (fun w' hC => ?_) ?_; rotate_left; (go_simp; try with_reducible rfl); try simp only [Act.put, List.setIfInBounds_toArray, List.set_cons_zero, List.set_cons_succ]
                refine wpTr_q _ (by simp only [List.getD_cons_succ, List.getD_cons_zero]; rfl) (by rfl) ?_ (fun w' hC => ?_) ?_; rotate_left; (go_simp; try with_reducible rfl); try simp only [Act.put, List.setIfInBounds_toArray, List.set_cons_zero, List.set_cons_succ]
                refine wpTr_c1 _ (by simp only [List.getD_cons_succ, List.getD_cons_zero]; rfl) ?_
                · refine wpN_c (by rfl) (fun Kc hKc => ?_)
                  go_simp
                  refine (hRy44.next hj2v.out (by omega)).mono ?_
                  rintro e y45 ⟨rfl, hRy45⟩
                  refine hKc.out _ _ (hRy45.arg hj1 hag.out) ?_
                  clear hKc Kc
                  try simp only [Act.put, List.setIfInBounds_toArray, List.set_cons_zero, List.set_cons_succ]
                  refine wpTr_s (fun w' => w'.cell? ⟨z43, j2, none⟩ = some (.int .i64 ct) ∧ w'.cell? ⟨z36, j1, none⟩ = some (.string ⟨ag.toArray⟩)) (fun w' h => h.2) ⟨(hRy45.cnt hj2 hct.out), (hRy45.arg hj1 hag.out)⟩ ?_
                  refine wpTr_q _ (by simp only [List.getD_cons_succ, List.getD_cons_zero]; rfl) (by rfl) ?_ (fun w' hC => ?_) ?_; rotate_left; (go_simp; try with_reducible rfl); try simp only [Act.put, List.setIfInBounds_toArray, List.set_cons_zero, List.set_cons_succ]
                  refine wpTr_q _ (by simp only [List.getD_cons_succ, List.getD_cons_zero]; rfl) (by rfl) ?_ (fun w' hC => ?_) ?_; rotate_left; (go_simp; try with_reducible rfl); try simp only [Act.put, List.setIfInBounds_toArray, List.set_cons_zero, List.set_cons_succ]
                  refine wpTr_q _ (by simp only [List.getD_cons_succ, List.getD_cons_zero]; rfl) (by rfl) ?_ (fun w' hC => ?_) ?_; rotate_left; (go_simp; try with_reducible rfl); try simp only [Act.put, List.setIfInBounds_toArray, List.set_cons_zero, List.set_cons_succ]
                  have hXw := hRy45.keep hX2.out hKX
                  have hmX : Mod (Eq X) y45 (put8 y45 X (.int .i64 3) (.string ⟨#[]⟩) (.string ⟨wd.toArray⟩) (.string ⟨ag.toArray⟩) (.int .i64 ct) (.slice none 0 0) (.slice none 0 0) (.slice none 0 0)) := put8_mod _ _ _ _ _ _ _ _ _ _
                  refine wpTr_c1 _ (by simp only [List.getD_cons_succ, List.getD_cons_zero]; rfl) (wpN_c (by rfl) (fun Kc hKc => ?_))
                  refine wp_store8 _ _ rfl rfl rfl rfl rfl rfl rfl rfl rfl rfl rfl rfl hXw ?_
                  refine hKc.out _ _ ⟨(hmX.cell (hRy45.cnt hj2 hct.out) (fun e => by have := hRy45.numlt; have : X = z43 := e; omega)), (hmX.cell (hRy45.arg hj1 hag.out) (fun e => by have := hRy45.strlt; have : X = z36 := e; omega))⟩ (wpTr_done ?_)
                  clear hKc Kc
                  replace hXw := hid hXw
                  replace hmX := hid hmX
                  go_wp2_with fail
                  go_meet
                  change HeadAt B K X xs hh wo (put8 y45 X (.int .i64 3) (.string ⟨#[]⟩) (.string ⟨wd.toArray⟩) (.string ⟨ag.toArray⟩) (.int .i64 ct) (.slice none 0 0) (.slice none 0 0) (.slice none 0 0))
                  rw [hhe.out]
                  exact head_mk ⟨3, [], wd, ag, ct, .slice none 0 0, .slice none 0 0, .slice none 0 0⟩ (put8_at hXw.out) hmX.out hRy45.fe (hmr2.out.trans hRy45.mod) (by omega) (by omega) (.mk _ [] [] [] (StrsAt.nil _ _) (NodesAt.nil _ _) (NodesAt.nil _ _))
          · refine wpN_c (by rfl) (fun Kc hKc => ?_)
            go_simp
            have hRy46 : Ar B K xs (a + 1) w2 (some z36) (some y36.heap.size) (y36.alloc (.cells #[.int .i64 0, .int .i64 5, .int .i64 999999] 3)) := hRy36.nums
            generalize y36.heap.size = z46 at hRy46 ⊢
            generalize (y36.alloc (.cells #[.int .i64 0, .int .i64 5, .int .i64 999999] 3)) = y46 at hRy46 ⊢
            refine hKc.out _ _ trivial ?_
            clear hKc Kc
            try simp only [Act.put, List.setIfInBounds_toArray, List.set_cons_zero, List.set_cons_succ]
            refine wpTr_c1 _ (by simp only [List.getD_cons_succ, List.getD_cons_zero]; rfl) ?_
            · refine wpN_c (by rfl) (fun Kc hKc => ?_)
              go_simp
              refine (hRy46.word hwd.out (by omega)).mono ?_
              rintro e y47 ⟨rfl, hRy47⟩
              refine hKc.out _ _ trivial ?_
              clear hKc Kc
              try simp only [Act.put, List.setIfInBounds_toArray, List.set_cons_zero, List.set_cons_succ]
              refine wpTr_c1 _ (by simp only [List.getD_cons_succ, List.getD_cons_zero]; rfl) ?_
              · refine wpN_c (by rfl) (fun Kc hKc => ?_)
                go_simp
                refine (hRy47.next hj1v.out (by omega)).mono ?_
                rintro e y48 ⟨rfl, hRy48⟩
                refine hKc.out _ _ trivial ?_
                clear hKc Kc
                try simp only [Act.put, List.setIfInBounds_toArray, List.set_cons_zero, List.set_cons_succ]
                refine wpTr_s (fun w' => w'.cell? ⟨z36, j1, none⟩ = some (.string ⟨ag.toArray⟩)) (fun w' h => trivial) (hRy48.arg hj1 hag.out) ?_
                refine wpTr_q _ (by simp only [List.getD_cons_succ, List.getD_cons_zero]; rfl) (by rfl) ?_ (fun w' hC => ?_) ?_; rotate_left; (go_simp; try with_reducible rfl); try simp only [Act.put, List.setIfInBounds_toArray, List.set_cons_zero, List.set_cons_succ]
                refine wpTr_q _ (by simp only [List.getD_cons_succ, List.getD_cons_zero]; rfl) (by rfl) ?_ (fun w' hC => ?_) ?_; rotate_left; (go_simp; try with_reducible rfl); try simp only [Act.put, List.setIfInBounds_toArray, List.set_cons_zero, List.set_cons_succ]
                refine wpTr_c1 _ (by simp only [List.getD_cons_succ, List.getD_cons_zero]; rfl) ?_
                · refine wpN_c (by rfl) (fun Kc hKc => ?_)
                  go_simp
                  refine (hRy48.next hj2v.out (by omega)).mono ?_
                  rintro e y49 ⟨rfl, hRy49⟩
                  refine hKc.out _ _ (hRy49.arg hj1 hag.out) ?_
                  clear hKc Kc
                  try simp only [Act.put, List.setIfInBounds_toArray, List.set_cons_zero, List.set_cons_succ]
                  refine wpTr_s (fun w' => w'.cell? ⟨z46, j2, none⟩ = some (.int .i64 ct) ∧ w'.cell? ⟨z36, j1, none⟩ = some (.string ⟨ag.toArray⟩)) (fun w' h => h.2) ⟨(hRy49.cnt hj2 hct.out), (hRy49.arg hj1 hag.out)⟩ ?_
                  refine wpTr_q _ (by simp only [List.getD_cons_succ, List.getD_cons_zero]; rfl) (by rfl) ?_ (fun w' hC => ?_) ?_; rotate_left; (go_simp; try with_reducible rfl); try simp only [Act.put, List.setIfInBounds_toArray, List.set_cons_zero, List.set_cons_succ]
                  refine wpTr_q _ (by simp only [List.getD_cons_succ, List.getD_cons_zero]; rfl) (by rfl) ?_ (fun w' hC => ?_) ?_; rotate_left; (go_simp; try with_reducible rfl); try simp only [Act.put, List.setIfInBounds_toArray, List.set_cons_zero, List.set_cons_succ]
                  refine wpTr_q _ (by simp only [List.getD_cons_succ, List.getD_cons_zero]; rfl) (by rfl) ?_ (fun w' hC => ?_) ?_; rotate_left; (go_simp; try with_reducible rfl); try simp only [Act.put, List.setIfInBounds_toArray, List.set_cons_zero, List.set_cons_succ]
                  have hXw := hRy49.keep hX2.out hKX
                  have hmX : Mod (Eq X) y49 (put8 y49 X (.int .i64 3) (.string ⟨#[]⟩) (.string ⟨wd.toArray⟩) (.string ⟨ag.toArray⟩) (.int .i64 ct) (.slice none 0 0) (.slice none 0 0) (.slice none 0 0)) := put8_mod _ _ _ _ _ _ _ _ _ _
                  refine wpTr_c1 _ (by simp only [List.getD_cons_succ, List.getD_cons_zero]; rfl) (wpN_c (by rfl) (fun Kc hKc => ?_))
                  refine wp_store8 _ _ rfl rfl rfl rfl rfl rfl rfl rfl rfl rfl rfl rfl hXw ?_
                  refine hKc.out _ _ ⟨(hmX.cell (hRy49.cnt hj2 hct.out) (fun e => by have := hRy49.numlt; have : X = z46 := e; omega)), (hmX.cell (hRy49.arg hj1 hag.out) (fun e => by have := hRy49.strlt; have : X = z36 := e; omega))⟩ (wpTr_done ?_)
                  clear hKc Kc
                  replace hXw := hid hXw
                  replace hmX := hid hmX
                  go_wp2_with fail
                  go_meet
                  change HeadAt B K X xs hh wo (put8 y49 X (.int .i64 3) (.string ⟨#[]⟩) (.string ⟨wd.toArray⟩) (.string ⟨ag.toArray⟩) (.int .i64 ct) (.slice none 0 0) (.slice none 0 0) (.slice none 0 0))
                  rw [hhe.out]
                  exact head_mk ⟨3, [], wd, ag, ct, .slice none 0 0, .slice none 0 0, .slice none 0 0⟩ (put8_at hXw.out) hmX.out hRy49.fe (hmr2.out.trans hRy49.mod) (by omega) (by omega) (.mk _ [] [] [] (StrsAt.nil _ _) (NodesAt.nil _ _) (NodesAt.nil _ _))
        · refine wpN_c (by rfl) (fun Kc hKc => ?_)
          go_simp
          have hRy50 : Ar B K xs (a + 1) w2 none (some y0.heap.size) (y0.alloc (.cells #[.int .i64 0, .int .i64 5, .int .i64 999999] 3)) := hRy0.nums
          generalize y0.heap.size = z50 at hRy50 ⊢
          generalize (y0.alloc (.cells #[.int .i64 0, .int .i64 5, .int .i64 999999] 3)) = y50 at hRy50 ⊢
          refine hKc.out _ _ trivial ?_
          clear hKc Kc
          try simp only [Act.put, List.setIfInBounds_toArray, List.set_cons_zero, List.set_cons_succ]
          refine wpTr_c2 _ _ (by simp only [List.getD_cons_succ, List.getD_cons_zero]; rfl) (by simp only [List.getD_cons_succ, List.getD_cons_zero]; rfl) ?_ ?_
          · refine wpN_c (by rfl) (fun Kc hKc => ?_)
            go_simp
            refine (hRy50.word hwd.out (by omega)).mono ?_
            rintro e y51 ⟨rfl, hRy51⟩
            refine hKc.out _ _ trivial ?_
            clear hKc Kc
            try simp only [Act.put, List.setIfInBounds_toArray, List.set_cons_zero, List.set_cons_succ]
            refine wpTr_c2 _ _ (by simp only [List.getD_cons_succ, List.getD_cons_zero]; rfl) (by simp only [List.getD_cons_succ, List.getD_cons_zero]; rfl) ?_ ?_
            · refine wpN_c (by rfl) (fun Kc hKc => ?_)
              go_simp
              have hRy52 : Ar B K xs (a + 2) w2 (some y51.heap.size) (some z50) (y51.alloc (.cells #[.string ⟨#[]⟩, .string ⟨#[99, 105, 116, 121]⟩, .string ⟨#[123, 97, 125, 32, 124]⟩] 9)) := hRy51.strs
              generalize y51.heap.size = z52 at hRy52 ⊢
              generalize (y51.alloc (.cells #[.string ⟨#[]⟩, .string ⟨#[99, 105, 116, 121]⟩, .string ⟨#[123, 97, 125, 32, 124]⟩] 9)) = y52 at hRy52 ⊢
              refine hKc.out _ _ trivial ?_
              clear hKc Kc
              try simp only [Act.put, List.setIfInBounds_toArray, List.set_cons_zero, List.set_cons_succ]
              refine wpTr_c1 _ (by simp only [List.getD_cons_succ, List.getD_cons_zero]; rfl) ?_
              · refine wpN_c (by rfl) (fun Kc hKc => ?_)
                go_simp
                refine (hRy52.next hj1v.out (by omega)).mono ?_
                rintro e y53 ⟨rfl, hRy53⟩
                refine hKc.out _ _ trivial ?_
                clear hKc Kc
                try simp only [Act.put, List.setIfInBounds_toArray, List.set_cons_zero, List.set_cons_succ]
                refine wpTr_s (fun w' => w'.cell? ⟨z52, j1, none⟩ = some (.string ⟨ag.toArray⟩)) (fun w' h => trivial) (hRy53.arg hj1 hag.out) ?_
                refine wpTr_q _ (by simp only [List.getD_cons_succ, List.getD_cons_zero]; rfl) (by rfl) ?_ (fun w' hC => ?_) ?_; rotate_left; (go_simp; try with_reducible rfl); try simp only [Act.put, List.setIfInBounds_toArray, List.set_cons_zero, List.set_cons_succ]
                refine wpTr_q _ (by simp only [List.getD_cons_succ, List.getD_cons_zero]; rfl) (by rfl) ?_ (fun w' hC => ?_) ?_; rotate_left; (go_simp; try with_reducible rfl); try simp only [Act.put, List.setIfInBounds_toArray, List.set_cons_zero, List.set_cons_succ]
                refine wpTr_c1 _ (by simp only [List.getD_cons_succ, List.getD_cons_zero]; rfl) ?_
                · refine wpN_c (by rfl) (fun Kc hKc => ?_)
                  go_simp
                  refine (hRy53.next hj2v.out (by omega)).mono ?_
                  rintro e y54 ⟨rfl, hRy54⟩
                  refine hKc.out _ _ (hRy54.arg hj1 hag.out) ?_
                  clear hKc Kc
                  try simp only [Act.put, List.setIfInBounds_toArray, List.set_cons_zero, List.set_cons_succ]
                  refine wpTr_s (fun w' => w'.cell? ⟨z50, j2, none⟩ = some (.int .i64 ct) ∧ w'.cell? ⟨z52, j1, none⟩ = some (.string ⟨ag.toArray⟩)) (fun w' h => h.2) ⟨(hRy54.cnt hj2 hct.out), (hRy54.arg hj1 hag.out)⟩ ?_
                  refine wpTr_q _ (by simp only [List.getD_cons_succ, List.getD_cons_zero]; rfl) (by rfl) ?_ (fun w' hC => ?_) ?_; rotate_left; (go_simp; try with_reducible rfl); try simp only [Act.put, List.setIfInBounds_toArray, List.set_cons_zero, List.set_cons_succ]
                  refine wpTr_q _ (by simp only [List.getD_cons_succ, List.getD_cons_zero]; rfl) (by rfl) ?_ (fun w' hC => ?_) ?_; rotate_left; (go_simp; try with_reducible rfl); try simp only [Act.put, List.setIfInBounds_toArray, List.set_cons_zero, List.set_cons_succ]
                  refine wpTr_q _ (by simp only [List.getD_cons_succ, List.getD_cons_zero]; rfl) (by rfl) ?_ (fun w' hC => ?_) ?_; rotate_left; (go_simp; try with_reducible rfl); try simp only [Act.put, List.setIfInBounds_toArray, List.set_cons_zero, List.set_cons_succ]
                  have hXw := hRy54.keep hX2.out hKX
                  have hmX : Mod (Eq X) y54 (put8 y54 X (.int .i64 3) (.string ⟨#[]⟩) (.string ⟨wd.toArray⟩) (.string ⟨ag.toArray⟩) (.int .i64 ct) (.slice none 0 0) (.slice none 0 0) (.slice none 0 0)) := put8_mod _ _ _ _ _ _ _ _ _ _
                  refine wpTr_c1 _ (by simp only [List.getD_cons_succ, List.getD_cons_zero]; rfl) (wpN_c (by rfl) (fun Kc hKc => ?_))
                  refine wp_store8 _ _ rfl rfl rfl rfl rfl rfl rfl rfl rfl rfl rfl rfl hXw ?_
                  refine hKc.out _ _ ⟨(hmX.cell (hRy54.cnt hj2 hct.out) (fun e => by have := hRy54.numlt; have : X = z50 := e; omega)), (hmX.cell (hRy54.arg hj1 hag.out) (fun e => by have := hRy54.strlt; have : X = z52 := e; omega))⟩ (wpTr_done ?_)
                  clear hKc Kc
                  replace hXw := hid hXw
                  replace hmX := hid hmX
                  go_wp2_with fail
                  go_meet
                  change HeadAt B K X xs hh wo (put8 y54 X (.int .i64 3) (.string ⟨#[]⟩) (.string ⟨wd.toArray⟩) (.string ⟨ag.toArray⟩) (.int .i64 ct) (.slice none 0 0) (.slice none 0 0) (.slice none 0 0))
                  rw [hhe.out]
                  exact head_mk ⟨3, [], wd, ag, ct, .slice none 0 0, .slice none 0 0, .slice none 0 0⟩ (put8_at hXw.out) hmX.out hRy54.fe (hmr2.out.trans hRy54.mod) (by omega) (by omega) (.mk _ [] [] [] (StrsAt.nil _ _) (NodesAt.nil _ _) (NodesAt.nil _ _))
            · refine wpN_c (by rfl) (fun Kc hKc => ?_)
              go_simp
              refine (hRy51.next hj1v.out (by omega)).mono ?_
              rintro e y55 ⟨rfl, hRy55⟩
              refine hKc.out _ _ trivial ?_
              clear hKc Kc
              try simp only [Act.put, List.setIfInBounds_toArray, List.set_cons_zero, List.set_cons_succ]
              refine wpTr_c2 _ _ (by simp only [List.getD_cons_succ, List.getD_cons_zero]; rfl) (by simp only [List.getD_cons_succ, List.getD_cons_zero]; rfl) ?_ ?_
              · refine wpN_c (by rfl) (fun Kc hKc => ?_)
                go_simp
                have hRy56 : Ar B K xs (a + 3) w2 (some y55.heap.size) (some z50) (y55.alloc (.cells #[.string ⟨#[]⟩, .string ⟨#[99, 105, 116, 121]⟩, .string ⟨#[123, 97, 125, 32, 124]⟩] 9)) := hRy55.strs
                generalize y55.heap.size = z56 at hRy56 ⊢
                generalize (y55.alloc (.cells #[.string ⟨#[]⟩, .string ⟨#[99, 105, 116, 121]⟩, .string ⟨#[123, 97, 125, 32, 124]⟩] 9)) = y56 at hRy56 ⊢
                refine hKc.out _ _ trivial ?_
                clear hKc Kc
                try simp only [Act.put, List.setIfInBounds_toArray, List.set_cons_zero, List.set_cons_succ]
                refine wpTr_s (fun w' => w'.cell? ⟨z56, j1, none⟩ = some (.string ⟨ag.toArray⟩)) (fun w' h => trivial) (hRy56.arg hj1 hag.out) ?_
                refine wpTr_q _ (by simp only [List.getD_cons_succ, List.getD_cons_zero]; rfl) (by rfl) ?_ (fun w' hC => ?_) ?_; rotate_left; (go_simp; try with_reducible rfl); try simp only [Act.put, List.setIfInBounds_toArray, List.set_cons_zero, List.set_cons_succ]
                refine wpTr_q _ (by simp only [List.getD_cons_succ, List.getD_cons_zero]; rfl) (by rfl) ?_ (fun w' hC => ?_) ?_; rotate_left; (go_simp; try with_reducible rfl); try simp only [Act.put, List.setIfInBounds_toArray, List.set_cons_zero, List.set_cons_succ]
                refine wpTr_c1 _ (by simp only [List.getD_cons_succ, List.getD_cons_zero]; rfl) ?_
                · refine wpN_c (by rfl) (fun Kc hKc => ?_)
                  go_simp
                  refine (hRy56.next hj2v.out (by omega)).mono ?_
                  rintro e y57 ⟨rfl, hRy57⟩
                  refine hKc.out _ _ (hRy57.arg hj1 hag.out) ?_
                  clear hKc Kc
                  try simp only [Act.put, List.setIfInBounds_toArray, List.set_cons_zero, List.set_cons_succ]
                  refine wpTr_s (fun w' => w'.cell? ⟨z50, j2, none⟩ = some (.int .i64 ct) ∧ w'.cell? ⟨z56, j1, none⟩ = some (.string ⟨ag.toArray⟩)) (fun w' h => h.2) ⟨(hRy57.cnt hj2 hct.out), (hRy57.arg hj1 hag.out)⟩ ?_
                  refine wpTr_q _ (by simp only [List.getD_cons_succ, List.getD_cons_zero]; rfl) (by rfl) ?_ (fun w' hC => ?_) ?_; rotate_left; (go_simp; try with_reducible rfl); try simp only [Act.put, List.setIfInBounds_toArray, List.set_cons_zero, List.set_cons_succ]
                  refine wpTr_q _ (by simp only [List.getD_cons_succ, List.getD_cons_zero]; rfl) (by rfl) ?_ (fun w' hC => ?_) ?_; rotate_left; (go_simp; try with_reducible rfl); try simp only [Act.put, List.setIfInBounds_toArray, List.set_cons_zero, List.set_cons_succ]
                  refine wpTr_q _ (by simp only [List.getD_cons_succ, List.getD_cons_zero]; rfl) (by rfl) ?_ (fun w' hC => ?_) ?_; rotate_left; (go_simp; try with_reducible rfl); try simp only [Act.put, List.setIfInBounds_toArray, List.set_cons_zero, List.set_cons_succ]
                  have hXw := hRy57.keep hX2.out hKX
                  have hmX : Mod (Eq X) y57 (put8 y57 X (.int .i64 3) (.string ⟨#[]⟩) (.string ⟨wd.toArray⟩) (.string ⟨ag.toArray⟩) (.int .i64 ct) (.slice none 0 0) (.slice none 0 0) (.slice none 0 0)) := put8_mod _ _ _ _ _ _ _ _ _ _
                  refine wpTr_c1 _ (by simp only [List.getD_cons_succ, List.getD_cons_zero]; rfl) (wpN_c (by rfl) (fun Kc hKc => ?_))
                  refine wp_store8 _ _ rfl rfl rfl rfl rfl rfl rfl rfl rfl rfl rfl rfl hXw ?_
                  refine hKc.out _ _ ⟨(hmX.cell (hRy57.cnt hj2 hct.out) (fun e => by have := hRy57.numlt; have : X = z50 := e; omega)), (hmX.cell (hRy57.arg hj1 hag.out) (fun e => by have := hRy57.strlt; have : X = z56 := e; omega))⟩ (wpTr_done ?_)
                  clear hKc Kc
                  replace hXw := hid hXw
                  replace hmX := hid hmX
                  go_wp2_with fail
                  go_meet
                  change HeadAt B K X xs hh wo (put8 y57 X (.int .i64 3) (.string ⟨#[]⟩) (.string ⟨wd.toArray⟩) (.string ⟨ag.toArray⟩) (.int .i64 ct) (.slice none 0 0) (.slice none 0 0) (.slice none 0 0))
                  rw [hhe.out]
                  exact head_mk ⟨3, [], wd, ag, ct, .slice none 0 0, .slice none 0 0, .slice none 0 0⟩ (put8_at hXw.out) hmX.out hRy57.fe (hmr2.out.trans hRy57.mod) (by omega) (by omega) (.mk _ [] [] [] (StrsAt.nil _ _) (NodesAt.nil _ _) (NodesAt.nil _ _))
              · refine wpN_c (by rfl) (fun Kc hKc => ?_)
                go_simp
                refine (hRy55.next hj2v.out (by omega)).mono ?_
                rintro e y58 ⟨rfl, hRy58⟩
                refine hKc.out _ _ trivial ?_
                clear hKc Kc
                try simp only [Act.put, List.setIfInBounds_toArray, List.set_cons_zero, List.set_cons_succ]
                refine wpTr_s (fun w' => w'.cell? ⟨z50, j2, none⟩ = some (.int .i64 ct)) (fun w' h => trivial) (hRy58.cnt hj2 hct.out) ?_
                refine wpTr_q _ (by simp only [List.getD_cons_succ, List.getD_cons_zero]; rfl) (by rfl) ?_ (fun w' hC => ?_) ?_; rotate_left; (go_simp; try with_reducible rfl); try simp only [Act.put, List.setIfInBounds_toArray, List.set_cons_zero, List.set_cons_succ]
                refine wpTr_q _ (by simp only [List.getD_cons_succ, List.getD_cons_zero]; rfl) (by rfl) ?_ (fun w' hC => ?_) ?_; rotate_left; (go_simp; try with_reducible rfl); try simp only [Act.put, List.setIfInBounds_toArray, List.set_cons_zero, List.set_cons_succ]
                refine wpTr_c1 _ (by simp only [List.getD_cons_succ, List.getD_cons_zero]; rfl) ?_
                · refine wpN_c (by rfl) (fun Kc hKc => ?_)
                  go_simp
                  have hRy59 : Ar B K xs (a + 4) w2 (some y58.heap.size) (some z50) (y58.alloc (.cells #[.string ⟨#[]⟩, .string ⟨#[99, 105, 116, 121]⟩, .string ⟨#[123, 97, 125, 32, 124]⟩] 9)) := hRy58.strs
                  generalize y58.heap.size = z59 at hRy59 ⊢
                  generalize (y58.alloc (.cells #[.string ⟨#[]⟩, .string ⟨#[99, 105, 116, 121]⟩, .string ⟨#[123, 97, 125, 32, 124]⟩] 9)) = y59 at hRy59 ⊢
                  refine hKc.out _ _ (hRy59.cnt hj2 hct.out) ?_
                  clear hKc Kc
                  try simp only [Act.put, List.setIfInBounds_toArray, List.set_cons_zero, List.set_cons_succ]
                  refine wpTr_s (fun w' => w'.cell? ⟨z59, j1, none⟩ = some (.string ⟨ag.toArray⟩) ∧ w'.cell? ⟨z50, j2, none⟩ = some (.int .i64 ct)) (fun w' h => h.2) ⟨(hRy59.arg hj1 hag.out), (hRy59.cnt hj2 hct.out)⟩ ?_
                  refine wpTr_q _ (by simp only [List.getD_cons_succ, List.getD_cons_zero]; rfl) (by rfl) ?_ (fun w' hC => ?_) ?_; rotate_left; (go_simp; try with_reducible rfl); try simp only [Act.put, List.setIfInBounds_toArray, List.set_cons_zero, List.set_cons_succ]
                  refine wpTr_q _ (by simp only [List.getD_cons_succ, List.getD_cons_zero]; rfl) (by rfl) ?_ (fun w' hC => ?_) ?_; rotate_left; (go_simp; try with_reducible rfl); try simp only [Act.put, List.setIfInBounds_toArray, List.set_cons_zero, List.set_cons_succ]
                  refine wpTr_q _ (by simp only [List.getD_cons_succ, List.getD_cons_zero]; rfl) (by rfl) ?_ (fun w' hC => ?_) ?_; rotate_left; (go_simp; try with_reducible rfl); try simp only [Act.put, List.setIfInBounds_toArray, List.set_cons_zero, List.set_cons_succ]
                  have hXw := hRy59.keep hX2.out hKX
                  have hmX : Mod (Eq X) y59 (put8 y59 X (.int .i64 3) (.string ⟨#[]⟩) (.string ⟨wd.toArray⟩) (.string ⟨ag.toArray⟩) (.int .i64 ct) (.slice none 0 0) (.slice none 0 0) (.slice none 0 0)) := put8_mod _ _ _ _ _ _ _ _ _ _
                  refine wpTr_c1 _ (by simp only [List.getD_cons_succ, List.getD_cons_zero]; rfl) (wpN_c (by rfl) (fun Kc hKc => ?_))
                  refine wp_store8 _ _ rfl rfl rfl rfl rfl rfl rfl rfl rfl rfl rfl rfl hXw ?_
                  refine hKc.out _ _ ⟨(hmX.cell (hRy59.arg hj1 hag.out) (fun e => by have := hRy59.strlt; have : X = z59 := e; omega)), (hmX.cell (hRy59.cnt hj2 hct.out) (fun e => by have := hRy59.numlt; have : X = z50 := e; omega))⟩ (wpTr_done ?_)
                  clear hKc Kc
                  replace hXw := hid hXw
                  replace hmX := hid hmX
                  go_wp2_with fail
                  go_meet
                  change HeadAt B K X xs hh wo (put8 y59 X (.int .i64 3) (.string ⟨#[]⟩) (.string ⟨wd.toArray⟩) (.string ⟨ag.toArray⟩) (.int .i64 ct) (.slice none 0 0) (.slice none 0 0) (.slice none 0 0))
                  rw [hhe.out]
                  exact head_mk ⟨3, [], wd, ag, ct, .slice none 0 0, .slice none 0 0, .slice none 0 0⟩ (put8_at hXw.out) hmX.out hRy59.fe (hmr2.out.trans hRy59.mod) (by omega) (by omega) (.mk _ [] [] [] (StrsAt.nil _ _) (NodesAt.nil _ _) (NodesAt.nil _ _))
          · refine wpN_c (by rfl) (fun Kc hKc => ?_)
            go_simp
            have hRy60 : Ar B K xs (a + 1) w2 (some y50.heap.size) (some z50) (y50.alloc (.cells #[.string ⟨#[]⟩, .string ⟨#[99, 105, 116, 121]⟩, .string ⟨#[123, 97, 125, 32, 124]⟩] 9)) := hRy50.strs
            generalize y50.heap.size = z60 at hRy60 ⊢
            generalize (y50.alloc (.cells #[.string ⟨#[]⟩, .string ⟨#[99, 105, 116, 121]⟩, .string ⟨#[123, 97, 125, 32, 124]⟩] 9)) = y60 at hRy60 ⊢
            refine hKc.out _ _ trivial ?_
            clear hKc Kc
            try simp only [Act.put, List.setIfInBounds_toArray, List.set_cons_zero, List.set_cons_succ]
            refine wpTr_c1 _ (by simp only [List.getD_cons_succ, List.getD_cons_zero]; rfl) ?_
            · refine wpN_c (by rfl) (fun Kc hKc => ?_)
              go_simp
              refine (hRy60.word hwd.out (by omega)).mono ?_
              rintro e y61 ⟨rfl, hRy61⟩
              refine hKc.out _ _ trivial ?_
              clear hKc Kc
              try simp only [Act.put, List.setIfInBounds_toArray, List.set_cons_zero, List.set_cons_succ]
              refine wpTr_c1 _ (by simp only [List.getD_cons_succ, List.getD_cons_zero]; rfl) ?_
              · refine wpN_c (by rfl) (fun Kc hKc => ?_)
                go_simp
                refine (hRy61.next hj1v.out (by omega)).mono ?_
                rintro e y62 ⟨rfl, hRy62⟩
                refine hKc.out _ _ trivial ?_
                clear hKc Kc
                try simp only [Act.put, List.setIfInBounds_toArray, List.set_cons_zero, List.set_cons_succ]
                refine wpTr_s (fun w' => w'.cell? ⟨z60, j1, none⟩ = some (.string ⟨ag.toArray⟩)) (fun w' h => trivial) (hRy62.arg hj1 hag.out) ?_
                refine wpTr_q _ (by simp only [List.getD_cons_succ, List.getD_cons_zero]; rfl) (by rfl) ?_ (fun w' hC => ?_) ?_; rotate_left; (go_simp; try with_reducible rfl); try simp only [Act.put, List.setIfInBounds_toArray, List.set_cons_zero, List.set_cons_succ]
                refine wpTr_q _ (by simp only [List.getD_cons_succ, List.getD_cons_zero]; rfl) (by rfl) ?_ (fun w' hC => ?_) ?_; rotate_left; (go_simp; try with_reducible rfl); try simp only [Act.put, List.setIfInBounds_toArray, List.set_cons_zero, List.set_cons_succ]
                refine wpTr_c1 _ (by simp only [List.getD_cons_succ, List.getD_cons_zero]; rfl) ?_
                · refine wpN_c (by rfl) (fun Kc hKc => ?_)
                  go_simp
                  refine (hRy62.next hj2v.out (by omega)).mono ?_
                  rintro e y63 ⟨rfl, hRy63⟩
                  refine hKc.out _ _ (hRy63.arg hj1 hag.out) ?_
                  clear hKc Kc
                  try simp only [Act.put, List.setIfInBounds_toArray, List.set_cons_zero, List.set_cons_succ]
                  refine wpTr_s (fun w' => w'.cell? ⟨z50, j2, none⟩ = some (.int .i64 ct) ∧ w'.cell? ⟨z60, j1, none⟩ = some (.string ⟨ag.toArray⟩)) (fun w' h => h.2) ⟨(hRy63.cnt hj2 hct.out), (hRy63.arg hj1 hag.out)⟩ ?_
                  refine wpTr_q _ (by simp only [List.getD_cons_succ, List.getD_cons_zero]; rfl) (by rfl) ?_ (fun w' hC => ?_) ?_; rotate_left; (go_simp; try with_reducible rfl); try simp only [Act.put, List.setIfInBounds_toArray, List.set_cons_zero, List.set_cons_succ]
                  refine wpTr_q _ (by simp only [List.getD_cons_succ, List.getD_cons_zero]; rfl) (by rfl) ?_ (fun w' hC => ?_) ?_; rotate_left; (go_simp; try with_reducible rfl); try simp only [Act.put, List.setIfInBounds_toArray, List.set_cons_zero, List.set_cons_succ]
                  refine wpTr_q _ (by simp only [List.getD_cons_succ, List.getD_cons_zero]; rfl) (by rfl) ?_ (fun w' hC => ?_) ?_; rotate_left; (go_simp; try with_reducible rfl); try simp only [Act.put, List.setIfInBounds_toArray, List.set_cons_zero, List.set_cons_succ]
                  have hXw := hRy63.keep hX2.out hKX
                  have hmX : Mod (Eq X) y63 (put8 y63 X (.int .i64 3) (.string ⟨#[]⟩) (.string ⟨wd.toArray⟩) (.string ⟨ag.toArray⟩) (.int .i64 ct) (.slice none 0 0) (.slice none 0 0) (.slice none 0 0)) := put8_mod _ _ _ _ _ _ _ _ _ _
                  refine wpTr_c1 _ (by simp only [List.getD_cons_succ, List.getD_cons_zero]; rfl) (wpN_c (by rfl) (fun Kc hKc => ?_))
                  refine wp_store8 _ _ rfl rfl rfl rfl rfl rfl rfl rfl rfl rfl rfl rfl hXw ?_
                  refine hKc.out _ _ ⟨(hmX.cell (hRy63.cnt hj2 hct.out) (fun e => by have := hRy63.numlt; have : X = z50 := e; omega)), (hmX.cell (hRy63.arg hj1 hag.out) (fun e => by have := hRy63.strlt; have : X = z60 := e; omega))⟩ (wpTr_done ?_)
                  clear hKc Kc
                  replace hXw := hid hXw
                  replace hmX := hid hmX
                  go_wp2_with fail
                  go_meet
                  change HeadAt B K X xs hh wo (put8 y63 X (.int .i64 3) (.string ⟨#[]⟩) (.string ⟨wd.toArray⟩) (.string ⟨ag.toArray⟩) (.int .i64 ct) (.slice none 0 0) (.slice none 0 0) (.slice none 0 0))
                  rw [hhe.out]
                  exact head_mk ⟨3, [], wd, ag, ct, .slice none 0 0, .slice none 0 0, .slice none 0 0⟩ (put8_at hXw.out) hmX.out hRy63.fe (hmr2.out.trans hRy63.mod) (by omega) (by omega) (.mk _ [] [] [] (StrsAt.nil _ _) (NodesAt.nil _ _) (NodesAt.nil _ _))
      · rw [if_neg c5] at hhe
        rw [decide_eq_false c5] at q5
        replace c5 := hid c5
        have hn := hid (fword_any _ hfe2.out (by omega))
        generalize hwd : wordS xs (a + 1) = wd at hn hhe
        replace hwd := hid hwd
        unfold strV at hn
        by_cases c6 : sel = 6
        · rw [if_pos c6] at hhe
          rw [decide_eq_true c6] at q6
          replace hhe := hid hhe
          replace c6 := hid c6
          go_wp2_with fail
          refine hn.out.mono ?_
          rintro e w3 ⟨rfl, hfe3, hm3⟩
          have hX3 := hm3.at hX2.out hKX
          obtain ⟨k0, k1, k2, k3, k4, k5, k6, k7⟩ := cells8 hX3
          have zX := free_of' hX3
          replace hX3 := hid hX3
          replace hfe3 := hid hfe3
          replace hm3 := hid hm3
          go_wp2_with fail
          go_meet
          change HeadAt B K X xs hh wo (put8 w3 X (.int .i64 4) (.string ⟨#[]⟩) (.string ⟨wd.toArray⟩) (.string ⟨#[]⟩) (.int .i64 0) (.slice none 0 0) (.slice none 0 0) (.slice none 0 0))
          rw [hhe.out]
          exact head_mk ⟨4, [], wd, [], 0, .slice none 0 0, .slice none 0 0, .slice none 0 0⟩ (put8_at hX3.out) (put8_mod _ _ _ _ _ _ _ _ _ _) hfe3.out (hmr2.out.trans hm3.out) (by omega) (by omega) (.mk _ [] [] [] (StrsAt.nil _ _) (NodesAt.nil _ _) (NodesAt.nil _ _))
        · rw [if_neg c6] at hhe
          rw [decide_eq_false c6] at q6
          replace hhe := hid hhe
          replace c6 := hid c6
          go_wp2_with fail
          refine hn.out.mono ?_
          rintro e w3 ⟨rfl, hfe3, hm3⟩
          have hX3 := hm3.at hX2.out hKX
          obtain ⟨k0, k1, k2, k3, k4, k5, k6, k7⟩ := cells8 hX3
          have zX := free_of' hX3
          replace hX3 := hid hX3
          replace hfe3 := hid hfe3
          replace hm3 := hid hm3
          go_wp2_with fail
          go_meet
          rw [hhe.out]
          have hX4 := put_at hX3.out 2 (.string ⟨wd.toArray⟩)
          simp only [List.setIfInBounds_toArray, List.set_cons_zero, List.set_cons_succ] at hX4
          exact head_mk ⟨5, [], wd, [], 0, .slice none 0 0, .slice none 0 0, .slice none 0 0⟩ hX4 ((Mod.refl (Eq X) w3).setCell (a := ⟨X, 2, none⟩) (fun _ => rfl) _) hfe3.out (hmr2.out.trans hm3.out) (by omega) (by omega) (.mk _ [] [] [] (StrsAt.nil _ _) (NodesAt.nil _ _) (NodesAt.nil _ _))
set_option maxRecDepth 100000 in
set_option maxHeartbeats 32000000 in
theorem flist_rest (k : Nat) (ih : ∀ k', k' + 1 = k → FListC k') : (flist_main k ih).2.1 := by
  intro B K xs at_ depth w hat post tgt hu hlowK c0 hn5 hc0 hpost h ih hd y1 y2 w1 T0 hB hT0 u8 y3 y4 y5 y6 y7 y8 y9 y10 y11 y12 y13 y14 y15 y16 y17 y18 y19 y20 y21 y22 y23 y24 y25 y26 y27 y28 y29 y30 y31 y32 y33 y34 y35 y36 y37 y38 y39 y40 y41 y42 y43 y44 y45 y46 y47 y48 y49 y50 y51 y52 y53 y54 y55 y56 y57 y58 y59 y60 y61 y62 y63 y64 y65 y66 y67 y68 y69 y70 y71 y72 y73 y74 y75 y76 y77 y78 y79 y80 y81 y82 y83 y84 y85 y86 y87 y88 y89 y90 y91 y92 y93 y94 y95 y96 y97 y98 y99 y100 y101 y102 y103 y104 y105 y106 y107 y108 y109 y110 y111 y112 y113 y114 y115 y116 y117 y118 y119 y120 y121 y122 y123 y124 y125 y126 y127 a acc rows aov capv wo hsz c y128 hg4 hrl hab htgt hpos hdl hdi hcm hacc hfe hT hm y129 y130 y131 y132 sel hn8 w2 X hXl hT2 hKX hXs hXr hsel hXe hsX hX2 hfe2 hmr2 q0 q1 q2 q3 q4 q5 q6 hh hhe wc u9 u13 u14 u15 u16 u17 u18 u19 u20 u21 u22 u23 u24 u25 u26 u27 u28 u29 u30 u31 u32 u33 u34 u35 u36 u37 u38 u39 u40 u41 u42 u43 u44 u45 u46 u47 u48 u49 u50 u51 u52 u53 u54 u55 u56 u57 u58 u59 u60 u61 u62 u63 u64 u65 u66 u67 u68 u69 u70 u71 u72 u73 u74 u75 u76 u77 u78 u79 u80 u81 u82 u83 u84 u85 u86 u87 u88 u89 u90 u91 u92 u93 u94 u95 u96 u97 u98 u99 u100 u101 u102 u103 u104 u105 u106 u107 u108 u109 u110 u111 u112 u113 u114 u115 u116 u117 u118 u119 u120 u121 u122 u123 u124 u125 u126 u127 u128 u129 u130 u131 u132 u133 hcut
  obtain ⟨nc, hXc, hND, hfec, hmc⟩ := hcut
  have hha := headS_at xs a
  obtain ⟨hhz, hhk, hhl⟩ := headS_sz xs a
  obtain ⟨a1, ha1⟩ : ∃ a1, a1 = hh.2 := ⟨_, rfl⟩
  rw [← hhe] at hha hhk hhl hhz
  rw [← ha1] at hfec hha
  have hhh : Hid (hh = headS xs a) := hid hhe
  clear hhe
  obtain ⟨nd, hnd⟩ : ∃ nd, nd = hh.1 := ⟨_, rfl⟩
  rw [← hnd] at hND hhk hhl hhz
  have hkind : nd.kind = nc.kd := by cases hND; rfl
  obtain ⟨kd, tx, nm, ar, ct, f1, f2, f3, k1, k2, k3, e1, e2, e3, rfl⟩ := hND.form
  simp only at hkind
  obtain ⟨c0', c1', c2', c3', c4', c5', c6', c7'⟩ := cells8 hXc
  have zX := free_of' hXc
  have qk1 : ((kd : Int) == 1) = decide (kd = 1) := by rw [Bool.eq_iff_iff, beq_iff_eq, decide_eq_true_eq]; omega
  have qk3 : ((kd : Int) == 3) = decide (kd = 3) := by rw [Bool.eq_iff_iff, beq_iff_eq, decide_eq_true_eq]; omega
  have qk4 : ((kd : Int) == 4) = decide (kd = 4) := by rw [Bool.eq_iff_iff, beq_iff_eq, decide_eq_true_eq]; omega
  have qd : ((depth : Int) == 8) = decide (depth = 8) := by rw [Bool.eq_iff_iff, beq_iff_eq, decide_eq_true_eq]; omega
  have hlast : Hid (lastF k = decide (depth = 8)) := hid (by have := hd.out; unfold lastF; rw [Bool.eq_iff_iff, decide_eq_true_eq, decide_eq_true_eq]; omega)
  have hXlc : X < wc.heap.size := lt_of_at hXc
  have hRc : T0 + 1 ≤ wc.heap.size := by omega
  have haccz := hid (hacc.out.mod hmc (fun j e => by omega))
  have hnW : Hid (NodeAt (fun j => T0 + 1 ≤ j ∧ j < wc.heap.size ∧ (Value.slice aov rows.length capv).ownBlock ≠ some j) wc ⟨kd, tx, nm, ar, ct, .slice f1 f2 f3, .slice k1 k2 k3, .slice e1 e2 e3⟩ nd) := hid (hND.mono (fun j hj => ⟨by omega, hj.2, fun e => by have := (hacc.out.own.block j e).2; have := hXe.out; omega⟩))
  have hlen := hid hacc.out.at_.len
  replace hXc := hid hXc
  replace hND := hid hND
  replace hfec := hid hfec
  replace hmc := hid hmc
  replace hkind := hid hkind
  replace hnd := hid hnd
  replace ha1 := hid ha1
  replace hhk := hid hhk
  replace hhl := hid hhl
  clear hn8 q0 q1 q2 q3 q4 q5 q6 hT2 hfe2 hmr2 hX2 hXl hhz
  go_step
  go_step
  go_cut [] from 77 to 133 (fun wx => wc = wx ∧ Hid (skipS acc kd (lastF k) = false))
  case first =>
    cases hk1 : decide (kd = 1) with
    | true =>
      rw [hk1] at qk1
      rw [decide_eq_true_eq] at hk1
      have hk3 : Hid (¬ kd = 3) := hid (by omega)
      have hk4 : Hid (¬ kd = 4) := hid (by omega)
      rw [decide_eq_false hk3.out] at qk3
      rw [decide_eq_false hk4.out] at qk4
      replace hk1 := hid hk1
      by_cases hr0 : rows.length = 0
      · have hl0 : decide ((0 : Int) < (rows.length : Int)) = false := decide_eq_false (by omega)
        have hl0i : ¬ (0 : Int) < (rows.length : Int) := by omega
        have hskip : Hid (skipS acc kd (lastF k) = false) := hid (by
          have e : acc = [] := List.eq_nil_of_length_eq_zero (by have := hlen.out; omega)
          rw [e, skipS, decide_eq_false hk3.out, decide_eq_false hk4.out]; simp [lastT])
        replace hr0 := hid hr0
        cases hd8 : decide (depth = 8) with
        | true =>
          rw [hd8] at qd hlast
          go_wp2_with fail
          go_meet
          exact ⟨rfl, hskip⟩
        | false =>
          rw [hd8] at qd hlast
          go_wp2_with fail
          go_meet
          exact ⟨rfl, hskip⟩
      · have hl0 : decide ((0 : Int) < (rows.length : Int)) = true := decide_eq_true (by omega)
        have hl0i : (0 : Int) < (rows.length : Int) := by omega
        have hl1 : (0 : Int) ≤ (rows.length : Int) - 1 := by omega
        have hl2 : (rows.length : Int) - 1 < (rows.length : Int) := by omega
        obtain ⟨bl, ol, kp, hal, hkp, gp⟩ := haccz.out.last (by omega)
        subst hal
        have qkp : ((kp : Int) == 1) = decide (kp = 1) := by rw [Bool.eq_iff_iff, beq_iff_eq, decide_eq_true_eq]; omega
        cases hkp1 : decide (kp = 1) with
        | true =>
          rw [hkp1] at qkp
          have hskip : Hid (skipS acc kd (lastF k) = true) := hid (by rw [skipS, decide_eq_true hk1.out, hkp, hkp1]; rfl)
          replace hkp := hid hkp
          go_wp2_with fail
          go_roundg c
          case measure => omega
          case rel =>
            refine ⟨a1, acc, rows, by omega, by go_num, ⟨_, _, rfl⟩, haccz.out, hfec.out, hmc.out.at hT.out (by omega), hm.out.trans hmc.out, by omega, by omega, by omega, hid ?_⟩
            rw [htgt.out, loopF]
            rw [← hhh.out, ← hnd.out, ← ha1.out, hkind.out, if_pos hskip.out]
        | false =>
          rw [hkp1] at qkp
          have hskip : Hid (skipS acc kd (lastF k) = false) := hid (by rw [skipS, decide_eq_true hk1.out, hkp, hkp1, decide_eq_false hk3.out, decide_eq_false hk4.out]; simp)
          replace hkp := hid hkp
          cases hd8 : decide (depth = 8) with
          | true =>
            rw [hd8] at qd hlast
            go_wp2_with fail
            go_meet
            exact ⟨rfl, hskip⟩
          | false =>
            rw [hd8] at qd hlast
            go_wp2_with fail
            go_meet
            exact ⟨rfl, hskip⟩
    | false =>
      rw [hk1] at qk1
      rw [decide_eq_false_iff_not] at hk1
      replace hk1 := hid hk1
      cases hk3 : decide (kd = 3) with
      | true =>
        rw [hk3] at qk3
        rw [decide_eq_true_eq] at hk3
        have hk4 : Hid (¬ kd = 4) := hid (by omega)
        rw [decide_eq_false hk4.out] at qk4
        replace hk3 := hid hk3
        cases hd8 : decide (depth = 8) with
        | true =>
          rw [hd8] at qd hlast
          have hskip : Hid (skipS acc kd (lastF k) = true) := hid (by rw [skipS, hlast.out, decide_eq_true hk3.out]; simp)
          go_wp2_with fail
          go_roundg c
          case measure => omega
          case rel =>
            refine ⟨a1, acc, rows, by omega, by go_num, ⟨_, _, rfl⟩, haccz.out, hfec.out, hmc.out.at hT.out (by omega), hm.out.trans hmc.out, by omega, by omega, by omega, hid ?_⟩
            rw [htgt.out, loopF]
            rw [← hhh.out, ← hnd.out, ← ha1.out, hkind.out, if_pos hskip.out]
        | false =>
          rw [hd8] at qd hlast
          have hskip : Hid (skipS acc kd (lastF k) = false) := hid (by rw [skipS, decide_eq_false hk1.out, hlast.out]; simp)
          go_wp2_with fail
          go_meet
          exact ⟨rfl, hskip⟩
      | false =>
        rw [hk3] at qk3
        rw [decide_eq_false_iff_not] at hk3
        replace hk3 := hid hk3
        cases hk4 : decide (kd = 4) with
        | true =>
          rw [hk4] at qk4
          rw [decide_eq_true_eq] at hk4
          replace hk4 := hid hk4
          cases hd8 : decide (depth = 8) with
          | true =>
            rw [hd8] at qd hlast
            have hskip : Hid (skipS acc kd (lastF k) = true) := hid (by rw [skipS, hlast.out, decide_eq_true hk4.out]; simp)
            go_wp2_with fail
            go_roundg c
            case measure => omega
            case rel =>
              refine ⟨a1, acc, rows, by omega, by go_num, ⟨_, _, rfl⟩, haccz.out, hfec.out, hmc.out.at hT.out (by omega), hm.out.trans hmc.out, by omega, by omega, by omega, hid ?_⟩
              rw [htgt.out, loopF]
              rw [← hhh.out, ← hnd.out, ← ha1.out, hkind.out, if_pos hskip.out]
          | false =>
            rw [hd8] at qd hlast
            have hskip : Hid (skipS acc kd (lastF k) = false) := hid (by rw [skipS, decide_eq_false hk1.out, hlast.out]; simp)
            go_wp2_with fail
            go_meet
            exact ⟨rfl, hskip⟩
        | false =>
          rw [hk4] at qk4
          rw [decide_eq_false_iff_not] at hk4
          have hskip : Hid (skipS acc kd (lastF k) = false) := hid (by rw [skipS, decide_eq_false hk1.out, decide_eq_false hk3.out, decide_eq_false hk4]; simp)
          replace hk4 := hid hk4
          cases hd8 : decide (depth = 8) with
          | true =>
            rw [hd8] at qd hlast
            go_wp2_with fail
            go_meet
            exact ⟨rfl, hskip⟩
          | false =>
            rw [hd8] at qd hlast
            go_wp2_with fail
            go_meet
            exact ⟨rfl, hskip⟩
  case rest =>
    obtain ⟨rfl, hskip⟩ := hcut
    go_step
    go_step
    go_cut [] from 77 to 133 (fun wx => ∃ (a2 : Nat) (ks : List Nd) (v1 : Option Addr) (m1 l1 : Nat), wx.heap[X]? = some (.cells (ncC ⟨kd, tx, nm, ar, ct, .slice f1 f2 f3, .slice v1 m1 l1, .slice e1 e2 e3⟩).toArray 36 (0, 0)) ∧ NodeAt (fun j => T0 + 1 ≤ j ∧ j < wx.heap.size ∧ (Value.slice aov rows.length capv).ownBlock ≠ some j ∧ j ≠ X) wx ⟨kd, tx, nm, ar, ct, .slice f1 f2 f3, .slice v1 m1 l1, .slice e1 e2 e3⟩ (setKids nd ks []) ∧ Fe B K xs a2 wx ∧ Mod (Eq K) wo wx ∧ a1 ≤ a2 ∧ a2 ≤ a1 + useR k ∧ Hid (if kd = 3 ∨ kd = 4 then (ks, a2) = recF xs k a1 else ks = [] ∧ a2 = a1))
    case first =>
      cases hk3 : decide (kd = 3) with
      | true =>
        rw [hk3] at qk3
        rw [decide_eq_true_eq] at hk3
        replace hk3 := hid hk3
        have hll : Hid (lastF k = false) := hid (by
          have := hskip.out
          rw [skipS, decide_eq_true hk3.out] at this
          cases h : lastF k
          · rfl
          · rw [h] at this; simp at this)
        obtain ⟨k', hkk⟩ : ∃ k', k = k' + 1 := ⟨k - 1, by
          have := hd.out
          have h1 : lastF k = false := hll.out
          unfold lastF at h1
          rw [decide_eq_false_iff_not] at h1
          omega⟩
        have hur : useR k = useF k' := by rw [hkk]; rfl
        have hrk0 : flistS xs k' a1 = recF xs k a1 := by rw [hkk]; rfl
        have hb1 := recF_at xs k a1
        have hL := hid (ih.out k' hkk.symm B K xs a1 (depth + 1) wc (by have := hd.out; omega) hfec.out (by omega) (by rw [← hur]; omega))
        rw [show ((depth + 1 : Nat) : Int) = (depth : Int) + 1 by omega, hrk0] at hL
        obtain ⟨rk, hrk⟩ : ∃ rk, rk = recF xs k a1 := ⟨_, rfl⟩
        rw [← hrk] at hL hb1
        replace hrk := hid hrk
        replace hb1 := hid hb1
        replace hab := hid hab
        replace hcm := hid hcm
        replace hat := hid hat
        replace hu := hid hu
        clear hur hrk0 hkk
        have hdb : depth ≤ 8 := by have := hd.out; omega
        have hdw : IntKind.i64.wrap ((depth : Int) + 1) = (depth : Int) + 1 := IntWalk.i64_in _ (by omega)
        go_wp2_with fail
        refine hL.out.mono ?_
        clear hL
        rintro e wk ⟨aok, nk, ck, rfl, hNk, hfek, hmk, -⟩
        have hXk := hmk.at hXc.out hKX
        have hsk := hmk.size
        clear c0' c1' c2' c3' c4' c5' c6' c7' zX
        obtain ⟨c0', c1', c2', c3', c4', c5', c6', c7'⟩ := cells8 hXk
        have zX := free_of' hXk
        replace hXk := hid hXk
        replace hNk := hid hNk
        replace hfek := hid hfek
        replace hmk := hid hmk
        go_wp2_with fail
        go_meet
        have hXz := put_at hXk.out 6 (.slice aok nk ck)
        simp only [List.setIfInBounds_toArray] at hXz
        have hmS := (Mod.refl (Eq X) wk).setCell (a := ⟨X, 6, none⟩) (fun _ => rfl) (.slice aok nk ck)
        generalize (wk.setCell ⟨X, 6, none⟩ (.slice aok nk ck)) = wz at hXz hmS ⊢
        have hsz9 := hmS.size
        have hcz : Mod (fun j => j = K ∨ j = X) wc wz := (hmk.out.mono (fun _ h => .inl h.symm)).then hmS (fun _ _ h => .inr h.symm)
        obtain ⟨p0, p1, p2⟩ := hND.out.parts
        rw [hhl.out] at p2
        refine ⟨rk.2, rk.1, aok, nk, ck, hXz, hND.out.with ((p0.mod hcz (fun j hj e => by omega)).mono (fun j hj => ⟨by omega, by omega, fun e => by have := (hacc.out.own.block j e).2; have := hXe.out; omega, by omega⟩))
          ((hNk.out.mod hmS (fun j hj e => by have := hj.1; omega)).mono (fun j hj => ⟨by have := hj.1; omega, by have := hj.2; omega, fun e => by have := (hacc.out.own.block j e).2; have := hXe.out; have := hj.1; omega, by have := hj.1; omega⟩))
          ((p2.mod hcz (fun j hj e => by omega)).mono (fun j hj => ⟨by omega, by omega, fun e => by have := (hacc.out.own.block j e).2; have := hXe.out; omega, by omega⟩)),
          hfek.out.mod hmS (fun j e => by omega), (hmc.out.trans hmk.out).then hmS (fun j hj e => by omega), hb1.out.1, hb1.out.2, hid ?_⟩
        rw [if_pos (.inl hk3.out)]
        exact hrk.out
      | false =>
        rw [hk3] at qk3
        rw [decide_eq_false_iff_not] at hk3
        replace hk3 := hid hk3
        cases hk4 : decide (kd = 4) with
        | true =>
          rw [hk4] at qk4
          rw [decide_eq_true_eq] at hk4
          replace hk4 := hid hk4
          have hll : Hid (lastF k = false) := hid (by
            have := hskip.out
            rw [skipS, decide_eq_true hk4.out] at this
            cases h : lastF k
            · rfl
            · rw [h] at this; simp at this)
          obtain ⟨k', hkk⟩ : ∃ k', k = k' + 1 := ⟨k - 1, by
            have := hd.out
            have h1 : lastF k = false := hll.out
            unfold lastF at h1
            rw [decide_eq_false_iff_not] at h1
            omega⟩
          have hur : useR k = useF k' := by rw [hkk]; rfl
          have hrk0 : flistS xs k' a1 = recF xs k a1 := by rw [hkk]; rfl
          have hb1 := recF_at xs k a1
          have hL := hid (ih.out k' hkk.symm B K xs a1 (depth + 1) wc (by have := hd.out; omega) hfec.out (by omega) (by rw [← hur]; omega))
          rw [show ((depth + 1 : Nat) : Int) = (depth : Int) + 1 by omega, hrk0] at hL
          obtain ⟨rk, hrk⟩ : ∃ rk, rk = recF xs k a1 := ⟨_, rfl⟩
          rw [← hrk] at hL hb1
          replace hrk := hid hrk
          replace hb1 := hid hb1
          replace hab := hid hab
          replace hcm := hid hcm
          replace hat := hid hat
          replace hu := hid hu
          clear hur hrk0 hkk
          have hdb : depth ≤ 8 := by have := hd.out; omega
          have hdw : IntKind.i64.wrap ((depth : Int) + 1) = (depth : Int) + 1 := IntWalk.i64_in _ (by omega)
          go_wp2_with fail
          refine hL.out.mono ?_
          clear hL
          rintro e wk ⟨aok, nk, ck, rfl, hNk, hfek, hmk, -⟩
          have hXk := hmk.at hXc.out hKX
          have hsk := hmk.size
          clear c0' c1' c2' c3' c4' c5' c6' c7' zX
          obtain ⟨c0', c1', c2', c3', c4', c5', c6', c7'⟩ := cells8 hXk
          have zX := free_of' hXk
          replace hXk := hid hXk
          replace hNk := hid hNk
          replace hfek := hid hfek
          replace hmk := hid hmk
          go_wp2_with fail
          go_meet
          have hXz := put_at hXk.out 6 (.slice aok nk ck)
          simp only [List.setIfInBounds_toArray] at hXz
          have hmS := (Mod.refl (Eq X) wk).setCell (a := ⟨X, 6, none⟩) (fun _ => rfl) (.slice aok nk ck)
          generalize (wk.setCell ⟨X, 6, none⟩ (.slice aok nk ck)) = wz at hXz hmS ⊢
          have hsz9 := hmS.size
          have hcz : Mod (fun j => j = K ∨ j = X) wc wz := (hmk.out.mono (fun _ h => .inl h.symm)).then hmS (fun _ _ h => .inr h.symm)
          obtain ⟨p0, p1, p2⟩ := hND.out.parts
          rw [hhl.out] at p2
          refine ⟨rk.2, rk.1, aok, nk, ck, hXz, hND.out.with ((p0.mod hcz (fun j hj e => by omega)).mono (fun j hj => ⟨by omega, by omega, fun e => by have := (hacc.out.own.block j e).2; have := hXe.out; omega, by omega⟩))
            ((hNk.out.mod hmS (fun j hj e => by have := hj.1; omega)).mono (fun j hj => ⟨by have := hj.1; omega, by have := hj.2; omega, fun e => by have := (hacc.out.own.block j e).2; have := hXe.out; have := hj.1; omega, by have := hj.1; omega⟩))
            ((p2.mod hcz (fun j hj e => by omega)).mono (fun j hj => ⟨by omega, by omega, fun e => by have := (hacc.out.own.block j e).2; have := hXe.out; omega, by omega⟩)),
            hfek.out.mod hmS (fun j e => by omega), (hmc.out.trans hmk.out).then hmS (fun j hj e => by omega), hb1.out.1, hb1.out.2, hid ?_⟩
          rw [if_pos (.inr hk4.out)]
          exact hrk.out
        | false =>
          rw [hk4] at qk4
          rw [decide_eq_false_iff_not] at hk4
          replace hk4 := hid hk4
          go_wp2_with fail
          go_meet
          obtain ⟨p0, p1, p2⟩ := hND.out.parts
          rw [hhk.out] at p1
          rw [hhl.out] at p2
          have hmo : ∀ j, X < j ∧ j < wc.heap.size → T0 + 1 ≤ j ∧ j < wc.heap.size ∧ (Value.slice aov rows.length capv).ownBlock ≠ some j ∧ j ≠ X := fun j hj => ⟨by omega, hj.2, fun e => by have := (hacc.out.own.block j e).2; have := hXe.out; omega, by omega⟩
          exact ⟨a1, [], k1, k2, k3, hXc.out, hND.out.with (p0.mono hmo) (p1.mono hmo) (p2.mono hmo), hfec.out, hmc.out, Nat.le_refl _, Nat.le_add_right _ _, hid (by rw [if_neg (by have := hk3.out; have := hk4.out; omega)]; exact ⟨rfl, rfl⟩)⟩
    case rest =>
      obtain ⟨wx, rfl⟩ : ∃ wx : World, wx = wc := ⟨_, rfl⟩
      obtain ⟨a2, ks, v1, m1, l1, hXx, hNx, hfex, hmx, hb1, hb2, hks⟩ := hcut
      have hXlx : X < wx.heap.size := lt_of_at hXx
      clear c0' c1' c2' c3' c4' c5' c6' c7' zX haccz hnW hRc hXlc hfec hmc hND hXc
      obtain ⟨c0', c1', c2', c3', c4', c5', c6', c7'⟩ := cells8 hXx
      have zX := free_of' hXx
      replace hXx := hid hXx
      replace hNx := hid hNx
      replace hfex := hid hfex
      replace hmx := hid hmx
      go_step
      go_step
      go_cut [] from 77 to 133 (fun wy => ∃ (a3 : Nat) (es : List Nd) (v2 : Option Addr) (m2 l2 : Nat), wy.heap[X]? = some (.cells (ncC ⟨kd, tx, nm, ar, ct, .slice f1 f2 f3, .slice v1 m1 l1, .slice v2 m2 l2⟩).toArray 36 (0, 0)) ∧ NodeAt (fun j => T0 + 1 ≤ j ∧ j < wy.heap.size ∧ (Value.slice aov rows.length capv).ownBlock ≠ some j ∧ j ≠ X) wy ⟨kd, tx, nm, ar, ct, .slice f1 f2 f3, .slice v1 m1 l1, .slice v2 m2 l2⟩ (setKids nd ks es) ∧ Fe B K xs a3 wy ∧ Mod (Eq K) wo wy ∧ a2 ≤ a3 ∧ a3 ≤ a2 + useR k ∧ Hid (if kd = 4 then (es, a3) = recF xs k a2 else es = [] ∧ a3 = a2))
      case first =>
        cases hk4 : decide (kd = 4) with
        | true =>
          rw [hk4] at qk4
          rw [decide_eq_true_eq] at hk4
          replace hk4 := hid hk4
          have hll : Hid (lastF k = false) := hid (by
            have := hskip.out
            rw [skipS, decide_eq_true hk4.out] at this
            cases h : lastF k
            · rfl
            · rw [h] at this; simp at this)
          obtain ⟨k', hkk⟩ : ∃ k', k = k' + 1 := ⟨k - 1, by
            have := hd.out
            have h1 : lastF k = false := hll.out
            unfold lastF at h1
            rw [decide_eq_false_iff_not] at h1
            omega⟩
          have hur : useR k = useF k' := by rw [hkk]; rfl
          have hrk0 : flistS xs k' a2 = recF xs k a2 := by rw [hkk]; rfl
          have hb3 := recF_at xs k a2
          have hL := hid (ih.out k' hkk.symm B K xs a2 (depth + 1) wx (by have := hd.out; omega) hfex.out (by omega) (by rw [← hur]; omega))
          rw [show ((depth + 1 : Nat) : Int) = (depth : Int) + 1 by omega, hrk0] at hL
          obtain ⟨rl, hrl2⟩ : ∃ rl, rl = recF xs k a2 := ⟨_, rfl⟩
          rw [← hrl2] at hL hb3
          replace hrl2 := hid hrl2
          replace hb3 := hid hb3
          replace hab := hid hab
          replace hcm := hid hcm
          replace hat := hid hat
          replace hu := hid hu
          replace hb1 := hid hb1
          replace hb2 := hid hb2
          clear hur hrk0 hkk
          have hdb : depth ≤ 8 := by have := hd.out; omega
          have hdw : IntKind.i64.wrap ((depth : Int) + 1) = (depth : Int) + 1 := IntWalk.i64_in _ (by omega)
          go_wp2_with fail
          refine hL.out.mono ?_
          clear hL
          rintro e wl ⟨aol, nl, cl, rfl, hNl, hfel, hml, -⟩
          have hXl := hml.at hXx.out hKX
          have hsl := hml.size
          clear c0' c1' c2' c3' c4' c5' c6' c7' zX
          obtain ⟨c0', c1', c2', c3', c4', c5', c6', c7'⟩ := cells8 hXl
          have zX := free_of' hXl
          replace hXl := hid hXl
          replace hNl := hid hNl
          replace hfel := hid hfel
          replace hml := hid hml
          go_wp2_with fail
          go_meet
          have hXz := put_at hXl.out 7 (.slice aol nl cl)
          simp only [List.setIfInBounds_toArray] at hXz
          have hmS := (Mod.refl (Eq X) wl).setCell (a := ⟨X, 7, none⟩) (fun _ => rfl) (.slice aol nl cl)
          generalize (wl.setCell ⟨X, 7, none⟩ (.slice aol nl cl)) = wz at hXz hmS ⊢
          have hsz9 := hmS.size
          have hcz : Mod (fun j => j = K ∨ j = X) wx wz := (hml.out.mono (fun _ h => .inl h.symm)).then hmS (fun _ _ h => .inr h.symm)
          obtain ⟨p0, p1, p2⟩ := hNx.out.parts
          refine ⟨rl.2, rl.1, aol, nl, cl, hXz, NodeAt.with (nd := setKids nd ks []) hNx.out ((p0.mod hcz (fun j hj e => by omega)).mono (fun j hj => ⟨hj.1, by omega, hj.2.2⟩))
            ((p1.mod hcz (fun j hj e => by omega)).mono (fun j hj => ⟨hj.1, by omega, hj.2.2⟩))
            ((hNl.out.mod hmS (fun j hj e => by have := hj.1; omega)).mono (fun j hj => ⟨by have := hj.1; omega, by have := hj.2; omega, fun e => by have := (hacc.out.own.block j e).2; have := hXe.out; have := hj.1; omega, by have := hj.1; omega⟩)),
            hfel.out.mod hmS (fun j e => by omega), (hmx.out.trans hml.out).then hmS (fun j hj e => by omega), hb3.out.1, hb3.out.2, hid ?_⟩
          rw [if_pos hk4.out]
          exact hrl2.out
        | false =>
          rw [hk4] at qk4
          rw [decide_eq_false_iff_not] at hk4
          replace hk4 := hid hk4
          go_wp2_with fail
          go_meet
          exact ⟨a2, [], e1, e2, e3, hXx.out, hNx.out, hfex.out, hmx.out, Nat.le_refl _, Nat.le_add_right _ _, hid (by rw [if_neg hk4.out]; exact ⟨rfl, rfl⟩)⟩
      case rest =>
        obtain ⟨wy, rfl⟩ : ∃ wy : World, wy = wc := ⟨_, rfl⟩
        obtain ⟨a3, es, v2, m2, l2, hXy, hNy, hfey, hmy, hb3, hb4, hes⟩ := hcut
        have hXly : X < wy.heap.size := lt_of_at hXy
        clear c0' c1' c2' c3' c4' c5' c6' c7' zX hfex hmx hNx hXx
        obtain ⟨c0', c1', c2', c3', c4', c5', c6', c7'⟩ := cells8 hXy
        have hRy : T0 + 1 ≤ wy.heap.size := by omega
        have haccy := hid (hacc.out.mod hmy (fun j e => by omega))
        have hny := hid (hNy.mono (F' := fun j => T0 + 1 ≤ j ∧ j < wy.heap.size ∧ (Value.slice aov rows.length capv).ownBlock ≠ some j) (fun j hj => ⟨hj.1, hj.2.1, hj.2.2.1⟩))
        replace hXy := hid hXy
        replace hfey := hid hfey
        replace hmy := hid hmy
        clear hNy qk1 qk3 qk4 qd hlast
        go_wp2_with (at_builtin; refine wpList_snoc rfl _ _ rfl _ _ rfl haccy.out (by omega) hny.out hRy rfl (fun g6 cap6 w6 H6 => ?_); go_frame)
        go_roundg c
        case measure => omega
        case rel =>
          obtain ⟨hA6, hM6⟩ := H6.out
          have hfe6 := hfey.out.mod hM6 (fun j e => by omega)
          have hmz6 := (hm.out.trans hmy.out).then hM6 (fun j hj e => by have := hT0.out; omega)
          have hT6 := hM6.at (hmy.out.at hT.out (by omega)) (by omega)
          have hs6 := hM6.size
          simp only [List.length_append, List.length_singleton] at hA6
          refine ⟨a3, acc ++ [setKids nd ks es], rows ++ [⟨kd, tx, nm, ar, ct, .slice f1 f2 f3, .slice v1 m1 l1, .slice v2 m2 l2⟩], by omega, by go_num, ⟨some ⟨g6, 0, none⟩, cap6, by simp only [List.length_append, List.length_singleton]⟩, hA6, hfe6, hT6, hmz6, by omega, by simp only [List.length_append, List.length_singleton]; omega, by omega, hid ?_⟩
          rw [htgt.out, loopF]
          rw [← hhh.out, ← hnd.out, ← ha1.out, hkind.out, if_neg (by rw [hskip.out]; decide)]
          have g1 := hks.out
          have g2 := hes.out
          by_cases h3 : kd = 3
          · rw [if_pos h3]
            rw [if_pos (.inl h3)] at g1
            rw [if_neg (by omega)] at g2
            rw [← g1, g2.1, g2.2]
          · rw [if_neg h3]
            by_cases h4 : kd = 4
            · rw [if_pos h4]
              rw [if_pos (.inr h4)] at g1
              rw [if_pos h4] at g2
              rw [← g1, ← g2]
            · rw [if_neg h4]
              rw [if_neg (by omega)] at g1
              rw [if_neg h4] at g2
              rw [g1.1, g1.2] at *
              rw [g2.1, g2.2, setKids_id hhk.out hhl.out]
theorem flist_step (k : Nat) (ih : ∀ k', k' + 1 = k → FListC k') : FListC k := (flist_main k ih).2.2 (hid (flist_first k ih)) (hid (flist_rest k ih))
end Go.Proofs.YtpgniljgaknlpaaGreatDoor
