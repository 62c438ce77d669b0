import Derived.Test.YtpgniljgaknlpaaGreatDoorP6
import Derived.Test.YtpgniljgaknlpaaGreatDoorK46
import Derived.Test.YtpgniljgaknlpaaGreatDoorS1
import Derived.Test.YtpgniljgaknlpaaGreatDoorK33
import Derived.Test.YtpgniljgaknlpaaGreatDoorK37
import Derived.Test.YtpgniljgaknlpaaGreatDoorLibAll
import Derived.Maps.AppendAt
/-
  The law of Print and Same against the reference: the walk.
-/
namespace Go.Proofs.YtpgniljgaknlpaaGreatDoor
open Go.RowKit Cdk Tpl

/-- 'make([]T, 0, n)', as an operation. -/
theorem wp_mk {α : Type} {P : Program} (f : α → List Value) {base : Nat} {e : TypeId} {z : Value} {size bytes : Nat} {w : World} {o : Oper} {a : Act} {K : Act → World → Prop} {Q : Exit → Act → World → Prop} (l c : Operand) (t : TypeId)
    (ho : o.op = Op.makeSlice t l c) (ht : P.underlying t = some (.slice e)) (el : El P e z size bytes) (n : Nat) (hl : a.eval l = .int .i64 0) (C : Int) (hc : a.eval c = .int .i64 C) (hC : C = (n : Int)) (hn : n ≤ 137438953472) (hbase : base ≤ w.heap.size)
    (hK : ∀ v w', Hid (Cdk.Own w' base e size f v ([] : List α) ∧ Ext w w') → K (a.put o.dst v) w') : o.wp P a w K Q := by
  obtain ⟨i0, hi, hz0, hz1, hz2⟩ := info_parts el.row
  obtain ⟨w', hrun, r1, r2⟩ := run_make_own (P := P) w base t e i0 z size ht hi hz0 hz1 .i64 .i64 n (by rw [hz2]; have := el.small; exact Nat.le_trans (Nat.mul_le_mul this hn) (by decide)) (Nat.le_trans hn (by decide)) hbase
  subst hC
  unfold Oper.wp
  simp [execOp, ho, hl, hc, hrun, Result.andThen]
  exact hK _ w' ⟨r1, Mod.ofGrown r2 (fun k hk => by cases hk)⟩

/-- What is small in a node of the feed's. -/
def smN (x : Nd) : Prop := x.text.length ≤ 20 ∧ x.name.length ≤ 20 ∧ x.arg.length ≤ 20 ∧ 0 ≤ x.count ∧ x.count ≤ 999999 ∧ x.kind ≤ 5
theorem pickL_len {L : List Bs} {i m : Nat} (h : ∀ x ∈ L, x.length ≤ m) : (L.getD i []).length ≤ m := by
  rw [List.getD_eq_getElem?_getD]
  cases hx : L[i]? with
  | none => simp
  | some x => exact h x (List.mem_of_getElem? hx)
theorem headS_sm (xs : List Int) (a : Nat) : smN (headS xs a).1 := by
  unfold headS
  have hT : ∀ i, (fTexts.getD i []).length ≤ 20 := fun i => pickL_len (by decide)
  have hN : ∀ i, (fNames.getD i []).length ≤ 20 := fun i => pickL_len (by decide)
  have hA : ∀ i, (fArgs.getD i []).length ≤ 20 := fun i => pickL_len (by decide)
  have hW : ∀ i, (wordS xs i).length ≤ 20 := fun i => by
    unfold wordS
    exact pickL_len (by decide)
  have hC : ∀ i, 0 ≤ fCounts.getD i 0 ∧ fCounts.getD i 0 ≤ 999999 := fun i => by
    rw [List.getD_eq_getElem?_getD]
    cases hx : fCounts[i]? with
    | none => simp
    | some x =>
      have : x ∈ fCounts := List.mem_of_getElem? hx
      simp only [fCounts, List.mem_cons, List.not_mem_nil, or_false] at this
      rcases this with rfl | rfl | rfl <;> simp
  split
  · exact ⟨hT _, by simp [Nd.name], by simp [Nd.arg], by simp [Nd.count], by simp [Nd.count], by simp [Nd.kind]⟩
  · split
    · exact ⟨by simp [Nd.text], hN _, by simp [Nd.arg], by simp [Nd.count], by simp [Nd.count], by simp [Nd.kind]⟩
    · split
      · exact ⟨by simp [Nd.text], hW _, hA _, (hC _).1, (hC _).2, by simp [Nd.kind]⟩
      · split
        · exact ⟨by simp [Nd.text], hW _, by simp [Nd.arg], by simp [Nd.count], by simp [Nd.count], by simp [Nd.kind]⟩
        · exact ⟨by simp [Nd.text], hW _, by simp [Nd.arg], by simp [Nd.count], by simp [Nd.count], by simp [Nd.kind]⟩
theorem setKids_sm {x : Nd} (h : smN x) (ks es : List Nd) : smN (setKids x ks es) := by
  cases x; exact h
theorem loopF_sm (xs : List Int) (rec : Nat → List Nd × Nat) (last : Bool) : ∀ (c a : Nat) (acc : List Nd), (∀ x ∈ acc, smN x) → ∀ x ∈ (loopF xs rec last c a acc).1, smN x
  | 0, _, _, h => h
  | c + 1, a, acc, h => by
    have hs := headS_sm xs a
    have app : ∀ y, smN y → ∀ x ∈ acc ++ [y], smN x := fun y hy x hx => by
      rcases List.mem_append.1 hx with h1 | h1
      · exact h x h1
      · rw [List.mem_singleton] at h1; rw [h1]; exact hy
    rw [loopF]
    split
    · exact loopF_sm xs rec last c _ _ h
    · split
      · exact loopF_sm xs rec last c _ _ (app _ (setKids_sm hs _ _))
      · split
        · exact loopF_sm xs rec last c _ _ (app _ (setKids_sm hs _ _))
        · exact loopF_sm xs rec last c _ _ (app _ hs)
theorem nodesS_sm (xs : List Int) : ∀ x ∈ nodesS xs, smN x := loopF_sm _ _ _ _ _ _ (fun _ h => by simp at h)


theorem loopF_len (xs : List Int) (rec : Nat → List Nd × Nat) (last : Bool) : ∀ (c a : Nat) (acc : List Nd), (loopF xs rec last c a acc).1.length ≤ acc.length + c
  | 0, _, _ => Nat.le_refl _
  | c + 1, a, acc => by
    rw [loopF]
    split
    · have := loopF_len xs rec last c (headS xs a).2 acc; omega
    · split
      · have := loopF_len xs rec last c (rec (headS xs a).2).2 (acc ++ [setKids (headS xs a).1 (rec (headS xs a).2).1 []])
        rw [List.length_append, List.length_singleton] at this; omega
      · split
        · have := loopF_len xs rec last c (rec (rec (headS xs a).2).2).2 (acc ++ [setKids (headS xs a).1 (rec (headS xs a).2).1 (rec (rec (headS xs a).2).2).1])
          rw [List.length_append, List.length_singleton] at this; omega
        · have := loopF_len xs rec last c (headS xs a).2 (acc ++ [(headS xs a).1])
          rw [List.length_append, List.length_singleton] at this; omega
theorem nodesS_len (xs : List Int) : (nodesS xs).length ≤ 4 := by
  unfold nodesS
  have h := nextS_lt xs 0 (n := 5) (by omega)
  have := loopF_len xs (flistS xs 7) false (nextS xs 0 5) (0 + 1) []
  rw [flistS]
  simp only [List.length_nil] at this
  omega
theorem nodesS_sz4 (xs : List Int) : szL (nodesS xs) ≤ 400000000 := by
  have := (flistS_bd xs 8 0).2.2
  have h : sizeF 8 ≤ 400000000 := by decide
  unfold nodesS
  omega

theorem filtF_flat (xs : List Int) : ∀ (i a : Nat) (acc : List Bs), (((filtF xs i a acc).1).flatMap (fun x => 124 :: x)).length ≤ (acc.flatMap (fun x => 124 :: x)).length + 21 * i
  | 0, _, _ => by simp [filtF]
  | i + 1, a, acc => by
    have hw : (wordS xs a).length ≤ 20 := by unfold wordS; exact pickL_len (by decide)
    have := filtF_flat xs i (a + 1) (acc ++ [wordS xs a])
    rw [filtF]
    rw [List.flatMap_append, List.length_append] at this
    simp only [List.flatMap_cons, List.flatMap_nil, List.append_nil, List.length_cons] at this
    omega
theorem headS_b (xs : List Int) (a : Nat) : bN (headS xs a).1 ≤ 200 := by
  have hs := headS_sm xs a
  obtain ⟨hk, he⟩ := (headS_sz xs a).2
  have hf : ((headS xs a).1.filters.flatMap (fun x => 124 :: x)).length ≤ 63 := by
    unfold headS
    have := nextS_lt xs (a + 2) (n := 3) (by omega)
    split
    · simp [Nd.filters]
    · split
      · have h2 := filtF_flat xs (nextS xs (a + 2) 3) (a + 3) []
        simp only [Nd.filters]
        simp only [List.flatMap_nil, List.length_nil] at h2
        omega
      · split
        · simp [Nd.filters]
        · split <;> simp [Nd.filters]
  obtain ⟨s1, s2, s3, -⟩ := hs
  generalize (headS xs a).1 = x at *
  cases x with
  | mk k t n ar c f ks es =>
    simp only [Nd.kids, Nd.els, Nd.filters, Nd.text, Nd.name, Nd.arg] at *
    subst hk; subst he
    simp only [bN, bL]
    omega
theorem bN_set (nd : Nd) (ks es : List Nd) (h1 : nd.kids = []) (h2 : nd.els = []) : bN (setKids nd ks es) = bN nd + bL ks + bL es := by
  cases nd
  simp only [Nd.kids, Nd.els] at h1 h2
  subst h1; subst h2
  simp [setKids, bN, bL, Nd.filters, Nd.text, Nd.name, Nd.arg]
theorem loopF_b (xs : List Int) (rec : Nat → List Nd × Nat) (last : Bool) (Z : Nat) (hU : ∀ a, bL (rec a).1 ≤ Z) : ∀ (c a : Nat) (acc : List Nd), bL (loopF xs rec last c a acc).1 ≤ bL acc + c * (200 + 2 * Z)
  | 0, _, _ => by simp [loopF]
  | c + 1, a, acc => by
    have hh := headS_b xs a
    obtain ⟨-, hk, he⟩ := headS_sz xs a
    have m2 : (c + 1) * (200 + 2 * Z) = c * (200 + 2 * Z) + (200 + 2 * Z) := Nat.succ_mul _ _
    rw [loopF]
    split
    · have := loopF_b xs rec last Z hU c (headS xs a).2 acc; omega
    · split
      · have h1 := hU (headS xs a).2
        have := loopF_b xs rec last Z hU c (rec (headS xs a).2).2 (acc ++ [setKids (headS xs a).1 (rec (headS xs a).2).1 []])
        rw [bL_app, bL, bN_set _ _ _ hk he] at this
        simp only [bL] at this
        omega
      · split
        · have h1 := hU (headS xs a).2
          have h2 := hU (rec (headS xs a).2).2
          have := loopF_b xs rec last Z hU c (rec (rec (headS xs a).2).2).2 (acc ++ [setKids (headS xs a).1 (rec (headS xs a).2).1 (rec (rec (headS xs a).2).2).1])
          rw [bL_app, bL, bN_set _ _ _ hk he] at this
          simp only [bL] at this
          omega
        · have := loopF_b xs rec last Z hU c (headS xs a).2 (acc ++ [(headS xs a).1])
          rw [bL_app, bL] at this
          simp only [bL] at this
          omega
def sizeB : Nat → Nat
  | 0 => 800
  | k + 1 => 800 + 8 * sizeB k
theorem flistS_b (xs : List Int) : ∀ (k a : Nat), bL (flistS xs k a).1 ≤ sizeB k
  | 0, a => by
    have hn := nextS_lt xs a (n := 5) (by omega)
    have h := loopF_b xs (fun a => ([], a)) true 0 (fun a => by simp [bL]) (nextS xs a 5) (a + 1) []
    rw [flistS]
    simp only [bL, sizeB] at h ⊢
    omega
  | k + 1, a => by
    have hn := nextS_lt xs a (n := 5) (by omega)
    have h := loopF_b xs (flistS xs k) false (sizeB k) (fun a => flistS_b xs k a) (nextS xs a 5) (a + 1) []
    rw [flistS]
    have m2 : nextS xs a 5 * (200 + 2 * sizeB k) ≤ 4 * (200 + 2 * sizeB k) := Nat.mul_le_mul_right _ (by omega)
    simp only [bL, sizeB] at h ⊢
    omega
theorem nodesS_b (xs : List Int) : bL (nodesS xs) ≤ 100000000000 := by
  have := flistS_b xs 8 0
  have h : sizeB 8 ≤ 100000000000 := by decide
  unfold nodesS
  omega

theorem badN_bz (n : Int) : szN (badN.getD (pickS n 26) (.mk 0 [] [] [] 0 [] [] [])) ≤ 100 ∧ bN (badN.getD (pickS n 26) (.mk 0 [] [] [] 0 [] [] [])) ≤ 1000 := by
  have h := pickS_lt n (n := 26) (by omega)
  generalize pickS n 26 = i at h
  have key : ∀ i : Nat, i < 26 → szN (badN.getD i (.mk 0 [] [] [] 0 [] [] [])) ≤ 100 ∧ bN (badN.getD i (.mk 0 [] [] [] 0 [] [] [])) ≤ 1000 := by decide +kernel
  exact key i h
theorem spoil_bz (l : List Nd) (n : Int) : szL (spoilS l n) ≤ szL l + 100 ∧ bL (spoilS l n) ≤ bL l + 1000 := by
  have := badN_bz n
  unfold spoilS
  rw [szL_app, bL_app]
  simp only [szL, bL]
  omega
theorem addText_bz (x : Nd) (t : Bs) : szN (addText x t) = szN x ∧ bN (addText x t) = bN x + 2 * t.length := by
  cases x
  constructor
  · simp [addText, szN, Nd.filters, Nd.kids, Nd.els]
  · simp only [addText, bN, Nd.filters, Nd.kids, Nd.els, Nd.text, Nd.name, Nd.arg, List.length_append]; omega
theorem text_bz (x : Nd) : 3 ≤ szN x ∧ 2 * x.text.length ≤ bN x := by
  cases x
  constructor
  · simp only [szN]; omega
  · simp only [bN, Nd.text]; omega
theorem glued_bz (a b : List Nd) : szL (glued a b) ≤ szL a + szL b ∧ bL (glued a b) ≤ bL a + bL b := by
  rcases List.eq_nil_or_concat a with rfl | ⟨d, x, rfl⟩
  · rw [show glued [] b = b from rfl]; simp [szL, bL]
  · cases b with
    | nil =>
      have : glued (d ++ [x]) [] = d ++ [x] := by
        unfold glued
        rw [List.getLast?_concat]
        simp
      rw [List.concat_eq_append, this]; simp [szL, bL]
    | cons y b' =>
      rw [List.concat_eq_append]
      unfold glued
      rw [List.getLast?_concat]
      simp only
      obtain ⟨h1, h2⟩ := addText_bz x y.text
      obtain ⟨h3, h4⟩ := text_bz y
      split
      · rw [List.dropLast_concat, szL_app, bL_app, szL_app, bL_app]
        simp only [szL, bL, h1, h2]; omega
      · rw [szL_app, bL_app]
        omega

/-- Slices of nodes in the cells of block Z. -/
def AllAt (w : World) (Z : Nat) (L : List (List Nd)) : Prop := ∀ (i : Nat) (h : i < L.length), ∃ a n c, w.cell? ⟨Z, i, none⟩ = some (.slice a n c) ∧ NodesAt (Lo w) w (.slice a n c) L[i]
theorem AllAt.get {w : World} {Z : Nat} {L : List (List Nd)} (h : AllAt w Z L) (hLn : L.length = 6) (hLb : ∀ l ∈ L, szL l ≤ 1000000000 ∧ bL l ≤ 1000000000000) (j : Nat) (hj : j < 6) : ∃ a n c P, w.cell? ⟨Z, j, none⟩ = some (.slice a n c) ∧ NodesAt (Lo w) w (.slice a n c) P ∧ szL P ≤ 1000000000 ∧ bL P ≤ 1000000000000 := by
  obtain ⟨a, n, c, h1, h2⟩ := h j (by omega)
  have h3 := hLb _ (List.getElem_mem (by omega : j < L.length))
  exact ⟨a, n, c, L[j], h1, h2, h3.1, h3.2⟩

theorem AllAt.ext {w w' : World} {Z : Nat} {L : List (List Nd)} (h : AllAt w Z L) (hx : Ext w w') : AllAt w' Z L := fun i hi => by
  obtain ⟨a, n, c, h1, h2⟩ := h i hi
  exact ⟨a, n, c, hx.cell h1 (fun h => h), h2.up hx⟩

/-- Blocks that are there, but the own slice's. -/
def NF (ov : Value) (w : World) (k : Nat) : Prop := k < w.heap.size ∧ ov.ownBlock ≠ some k
theorem NF.ext {ov : Value} {w w' : World} (hx : Ext w w') : ∀ k, NF ov w k → NF ov w' k := fun _ h => ⟨Nat.lt_of_lt_of_le h.1 hx.size, h.2⟩
theorem NodesAt.nfE {ov : Value} {w w' : World} {v : Value} {l : List Nd} (h : NodesAt (NF ov w) w v l) (hx : Ext w w') : NodesAt (NF ov w') w' v l := (h.mod hx (fun _ _ h => h)).mono (NF.ext hx)
theorem RowsAt.nfE {ov : Value} {w w' : World} {r : List NC} {l : List Nd} (h : RowsAt (NF ov w) w r l) (hx : Ext w w') : RowsAt (NF ov w') w' r l := (h.mod hx (fun _ _ h => h)).mono (NF.ext hx)
theorem NF.app {ov ov' : Value} {w w' : World} (hm : Mod (fun k => ov.ownBlock = some k) w w') (ho : ov'.ownBlock = ov.ownBlock ∨ ov'.ownBlock = some w.heap.size) : ∀ k, NF ov w k → NF ov' w' k := fun k h =>
  ⟨Nat.lt_of_lt_of_le h.1 hm.size, fun e => by
    rcases ho with ho | ho
    · rw [ho] at e; exact h.2 e
    · rw [ho] at e; injection e with e; have := h.1; omega⟩
theorem NodesAt.nfA {ov ov' : Value} {w w' : World} {v : Value} {l : List Nd} (h : NodesAt (NF ov w) w v l) (hm : Mod (fun k => ov.ownBlock = some k) w w') (ho : ov'.ownBlock = ov.ownBlock ∨ ov'.ownBlock = some w.heap.size) : NodesAt (NF ov' w') w' v l := (h.mod hm (fun _ h e => h.2 e)).mono (NF.app hm ho)
theorem RowsAt.nfA {ov ov' : Value} {w w' : World} {r : List NC} {l : List Nd} (h : RowsAt (NF ov w) w r l) (hm : Mod (fun k => ov.ownBlock = some k) w w') (ho : ov'.ownBlock = ov.ownBlock ∨ ov'.ownBlock = some w.heap.size) : RowsAt (NF ov' w') w' r l := (h.mod hm (fun _ h e => h.2 e)).mono (NF.app hm ho)
theorem NF.make {ov : Value} {w w' : World} (hx : Ext w w') (ho : ∀ k, ov.ownBlock = some k → w.heap.size ≤ k) : ∀ k, NF (.slice none 0 0) w k → NF ov w' k := fun k h => ⟨Nat.lt_of_lt_of_le h.1 hx.size, fun e => by have := ho k e; have := h.1; omega⟩
theorem NF.or {ov : Value} {w w' : World} (hx : Ext w w') (ho : ∀ k, ov.ownBlock = some k → k < w.heap.size) : ∀ k, (NF ov w k ∨ Since w w' k) → NF ov w' k := fun k h => h.elim (NF.ext hx k) (fun h => ⟨h.2, fun e => by have := ho k e; have := h.1; omega⟩)

/-- 'append' onto an own slice, with where its block lies afterwards. -/
theorem wp_app2 {α : Type} {P : Program} {f : α → List Value} {base : Nat} {e : TypeId} {z : Value} {size bytes : Nat} {w : World} {v : Value} {xs : List α} {o : Oper} {a : Act} {K : Act → World → Prop} {Q : Exit → Act → World → Prop} (s x : Operand) (t : TypeId)
    (ho : o.op = .call { callee := .builtin .append, args := #[s, x], argTypes := #[t, t] }) (ht : P.underlying t = some (.slice e)) (el : El P e z size bytes)
    (hs : a.eval s = v) (hown : Cdk.Own w base e size f v xs) (ao : Option Addr) (m c : Nat) (hx : a.eval x = .slice ao m c) (ys : List α) (hm : ys.length = m) (hrow : RowIs w ao (ys.flatMap f))
    (hf : ∀ y, (f y).length = size) (h1 : ∀ y ∈ ys, ∀ u ∈ f y, u.oneCell' = true) (hlen : xs.length + ys.length ≤ 1000000) (hbase : base ≤ w.heap.size) (hc : ao = none → c = 0)
    (hK : ∀ v' w', Hid (Cdk.Own w' base e size f v' (xs ++ ys) ∧ Mod (fun k => v.ownBlock = some k) w w' ∧ (v'.ownBlock = v.ownBlock ∨ v'.ownBlock = some w.heap.size)) → K (a.put o.dst v') w') : o.wp P a w K Q := by
  obtain ⟨i0, hi, hz0, hz1, hz2⟩ := info_parts el.row
  have hflat := fun l : List α => flat_length f size hf l
  cases ao with
  | some ad =>
    have hcells : ∀ j u, (ys.flatMap f)[j]? = some u → w.cell? (ad.add j) = some u := by
      intro j u hu
      obtain ⟨b, off, he, hcc⟩ := hrow j u hu
      simp only [Option.some.injEq] at he
      subst he
      rw [Addr.add_lit]
      exact hcc
    have hb : (xs.length + m) * bytes ≤ 140737488355328 := by
      have h1 := el.small
      have : (xs.length + m) * bytes ≤ 1000000 * 1024 := Nat.mul_le_mul (by omega) h1
      omega
    obtain ⟨v', w', hr, h2, h3, _, h5⟩ := run_append_own_at (P := P) w base t o.type e i0 z size bytes ht hi hz0 hz1 hz2 el.cells el.pos v xs.length (xs.flatMap f) hown ad m c (ys.flatMap f) (by rw [hflat, hm]) hcells (fun u hu => by
      obtain ⟨y, hy, hu⟩ := List.mem_flatMap.1 hu
      exact h1 y hy u hu) (by simp only [maxLen]; omega) hb hbase
    unfold Oper.wp execOp
    simp only [ho, resolve, invoke, builtin, Sem.run_bind, Sem.run_pure, Result.andThen_ok, List.map_toArray, List.map_cons, List.map_nil, hs, hx, hr]
    refine hK v' w' ⟨?_, Mod.ofGrown h3 (fun k hk => hk), h5⟩
    subst hm
    unfold Cdk.Own
    rw [List.length_append, List.flatMap_append]
    exact h2
  | none =>
    have hy : ys = [] := by
      cases ys with
      | nil => rfl
      | cons y ys =>
        exfalso
        have hp : 0 < ((y :: ys).flatMap f).length := by rw [hflat]; exact Nat.mul_pos (by simp) el.pos
        obtain ⟨b, off, he, _⟩ := hrow.at hp
        simp at he
    subst hy
    simp at hm
    subst hm
    have hc0 := hc rfl
    subst hc0
    have hrun := run_append_owned_none (P := P) w base t o.type e i0 size ht hi v xs.length (xs.flatMap f) hown
    unfold Oper.wp
    simp [execOp, ho, resolve, invoke, builtin, hs, hx, hrun, Result.andThen]
    exact hK v w ⟨by simpa using hown, Mod.refl _ _, .inl rfl⟩

theorem nf_row {ov : Value} {w : World} {ao : Option Addr} {n c : Nat} {l : List Nd} (h : NodesAt (NF ov w) w (.slice ao n c) l) (b off : Nat) (e : ao = some ⟨b, off, none⟩) (e' : ov.ownBlock = some b) : False := by
  cases h with
  | mk _ _ _ _ _ h2 _ _ => exact (h2 b off e).2 e'


set_option maxRecDepth 100000 in
set_option maxHeartbeats 16000000 in
theorem PrintMatch_any (xs ys : List Int) (ao bo : Option Addr) (cap dap : Nat) (bad : Int) (w : World) (hg : Gl w) (hrow : RowIs w ao (xs.flatMap intC)) (hv : ∀ z ∈ xs, -9223372036854775808 ≤ z ∧ z ≤ 9223372036854775807) (hl : xs.length ≤ 9223372036854775807)
    (hrow2 : RowIs w bo (ys.flatMap intC)) (hv2 : ∀ z ∈ ys, -9223372036854775808 ≤ z ∧ z ≤ 9223372036854775807) (hl2 : ys.length ≤ 9223372036854775807) (hb1 : -9223372036854775808 ≤ bad) (hb2 : bad ≤ 9223372036854775807) :
    Calls Tryz.prog 4 #[.slice ao xs.length cap, .slice bo ys.length dap, .int .i64 bad] w fun e w' => e = .returned (.bool true) ∧ Ext w w' := by
  obtain ⟨post, hpost⟩ : ∃ post : Ending → World → Prop, post = fun e w' => e = .returned (.bool true) ∧ Ext w w' := ⟨_, rfl⟩
  rw [← hpost]
  have hsane := hid (sane_any w hg)
  have hN := hid (fun w (h : RowIs w ao (xs.flatMap intC)) => Nodes_any xs ao cap w h hv hl)
  have hM := hid (fun w (h : RowIs w bo (ys.flatMap intC)) => Nodes_any ys bo dap w h hv2 hl2)
  have sA := nodesS_sz4 xs
  have sB := nodesS_sz4 ys
  have bA := nodesS_b xs
  have bB := nodesS_b ys
  have lA := nodesS_len xs
  have lB := nodesS_len ys
  have tA : ∀ x ∈ nodesS xs, x.text.length ≤ 1000000 := fun x hx => by have := (nodesS_sm xs x hx).1; omega
  have tB : ∀ x ∈ nodesS ys, x.text.length ≤ 1000000 := fun x hx => by have := (nodesS_sm ys x hx).1; omega
  obtain ⟨A, hA⟩ : ∃ l, l = nodesS xs := ⟨_, rfl⟩
  obtain ⟨B, hB⟩ : ∃ l, l = nodesS ys := ⟨_, rfl⟩
  rw [← hA] at hN sA bA lA tA
  rw [← hB] at hM sB bB lB tB
  obtain ⟨L, hL⟩ : ∃ L : List (List Nd), L = [A, B, spoilS A bad, glued A B, A ++ B, [.mk 4 [] [97] [] 0 [] [] (spoilS [] bad)]] := ⟨_, rfl⟩
  have hLn : L.length = 6 := by rw [hL]; rfl
  have hLb : ∀ l ∈ L, szL l ≤ 1000000000 ∧ bL l ≤ 1000000000000 := by
    intro l hl
    rw [hL] at hl
    simp only [List.mem_cons, List.not_mem_nil, or_false] at hl
    have h1 := spoil_bz A bad
    have h2 := glued_bz A B
    have h3 := spoil_bz [] bad
    simp only [szL, bL] at h3
    rcases hl with rfl | rfl | rfl | rfl | rfl | rfl
    · omega
    · omega
    · omega
    · omega
    · rw [szL_app, bL_app]; omega
    · simp only [szL, szN, bL, bN, List.length_nil, List.length_cons, List.flatMap_nil]; omega
  obtain ⟨n, hn⟩ : ∃ n, n = xs.length := ⟨_, rfl⟩
  obtain ⟨m, hm⟩ : ∃ m, m = ys.length := ⟨_, rfl⟩
  rw [← hn] at hN hl ⊢
  rw [← hm] at hM hl2 ⊢
  clear hA hB hv hv2 sA sB bA bB
  replace hL := hid hL
  replace hLn := hid hLn
  replace hLb := hid hLb
  replace hn := hid hn
  replace hm := hid hm
  replace tA := hid tA
  replace tB := hid tB
  replace hpost := hid hpost
  replace hg := hid hg
  replace hrow := hid hrow
  replace hrow2 := hid hrow2
  go_enter Tryz.func4, Tryz.ntmps4
  go_wp2_with fail
  refine hsane.out.mono ?_
  rintro e w1 ⟨rfl, hx1⟩
  clear hsane
  replace hx1 := hid hx1
  go_wp2_with fail
  refine (hN.out w1 (hrow.out.ext hx1.out)).mono ?_
  rintro e w2 ⟨a2, n2, c2, rfl, hna, hx2, -⟩
  have hxw := hid (hx1.out.trans hx2)
  have hna := hid (hna.mono (F' := Lo w2) (fun k hk => hk.2))
  clear hN hx1 hx2 hrow
  go_wp2_with fail
  refine (hM.out w2 (hrow2.out.ext hxw.out)).mono ?_
  rintro e w3 ⟨a3, n3, c3, rfl, hnb, hx3, -⟩
  have hna := hna.out.up hx3
  have hnb := hnb.mono (F' := Lo w3) (fun k hk => hk.2)
  have hxw := hid (hxw.out.trans hx3)
  clear hM hx3 hrow2
  have hcA := hna.count
  have hcB := hnb.count
  obtain ⟨rA, hrA, hRA, hTA, hqA, -⟩ := hna.rows
  obtain ⟨rB, hrB, hRB, hTB, hqB, -⟩ := hnb.rows
  have hd3 := Mod.drew0 (fun _ => False) w3
  have hI : ∀ k, Lo w3 k → NF (.slice none 0 0) w3 k := fun k hk => ⟨hk, by simp [Value.ownBlock]⟩
  have na0 := hid ((hna.mono hI).nfE hd3)
  have nb0 := hid ((hnb.mono hI).nfE hd3)
  have ra0 := hid ((hTA.mono hI).nfE hd3)
  have rb0 := hid ((hTB.mono hI).nfE hd3)
  have ia0 := hid (hRA.ext hd3)
  have ib0 := hid (hRB.ext hd3)
  have one_a := hid (RowsAt.one hTA)
  have one_b := hid (RowsAt.one hTB)
  have hE0 := hid (hxw.out.trans hd3)
  have hlA : n2 ≤ 4 := by omega
  have hlB : n3 ≤ 4 := by omega
  replace hcA := hid hcA
  replace hcB := hid hcB
  replace hrA := hid hrA
  replace hrB := hid hrB
  replace hqA := hid hqA
  replace hqB := hid hqB
  replace lA := hid lA
  replace lB := hid lB
  clear hna hnb hRA hRB hTA hTB hI hd3
  go_upto_region 5 with fail
  refine wp_region_tree (.q 0 (.q 1 (.q 2 (.q 3 (.q 5 (.q 6 (.q 9 (.q 11 (.q 13 (.c2 4 (.c2 7 (.c1 8 (.c1 10 (.c1 12 (.c1 14 (.q 15 (.c1 16 (.c1 17 (.q 18 .done)))))))) 8 (.c1 7 (.c1 10 (.c1 12 (.c1 14 (.q 15 (.c1 16 (.c1 17 (.q 18 .done))))))))) 8 (.c1 4 (.c1 7 (.c1 10 (.c1 12 (.c1 14 (.q 15 (.c1 16 (.c1 17 (.q 18 .done))))))))))))))))))) (by as_aux_lemma => kernel_rfl) (by as_aux_lemma => kernel_rfl) (by as_aux_lemma => kernel_rfl) (by decide) ?_
  generalize w3.drew = y0 at na0 nb0 ra0 rb0 ia0 ib0 hE0 ⊢
  refine wpTr_q _ (by simp only [List.getD_cons_succ, List.getD_cons_zero]; rfl) (by rfl) ?_ (fun w' hC => ?_) ?_; rotate_left; (go_simp; try with_reducible rfl); try simp only [Act.put, List.setIfInBounds_toArray, List.set_cons_zero, List.set_cons_succ]
  refine wpTr_q _ (by simp only [List.getD_cons_succ, List.getD_cons_zero]; rfl) (by rfl) ?_ (fun w' hC => ?_) ?_; rotate_left; (go_simp; try with_reducible rfl); try simp only [Act.put, List.setIfInBounds_toArray, List.set_cons_zero, List.set_cons_succ]
  refine wpTr_q _ (by simp only [List.getD_cons_succ, List.getD_cons_zero]; rfl) (by rfl) ?_ (fun w' hC => ?_) ?_; rotate_left; (go_simp; try with_reducible rfl); try simp only [Act.put, List.setIfInBounds_toArray, List.set_cons_zero, List.set_cons_succ]
  refine wpTr_q _ (by simp only [List.getD_cons_succ, List.getD_cons_zero]; rfl) (by rfl) ?_ (fun w' hC => ?_) ?_; rotate_left; (go_simp; try with_reducible rfl); try simp only [Act.put, List.setIfInBounds_toArray, List.set_cons_zero, List.set_cons_succ]
  refine wpTr_q _ (by simp only [List.getD_cons_succ, List.getD_cons_zero]; rfl) (by rfl) ?_ (fun w' hC => ?_) ?_; rotate_left; (go_simp; try with_reducible rfl); try simp only [Act.put, List.setIfInBounds_toArray, List.set_cons_zero, List.set_cons_succ]
  refine wpTr_q _ (by simp only [List.getD_cons_succ, List.getD_cons_zero]; rfl) (by rfl) ?_ (fun w' hC => ?_) ?_; rotate_left; (go_simp; try with_reducible rfl); try simp only [Act.put, List.setIfInBounds_toArray, List.set_cons_zero, List.set_cons_succ]
  refine wpTr_q _ (by simp only [List.getD_cons_succ, List.getD_cons_zero]; rfl) (by rfl) ?_ (fun w' hC => ?_) ?_; rotate_left; (go_simp; try with_reducible rfl); try simp only [Act.put, List.setIfInBounds_toArray, List.set_cons_zero, List.set_cons_succ]
  refine wpTr_q _ (by simp only [List.getD_cons_succ, List.getD_cons_zero]; rfl) (by rfl) ?_ (fun w' hC => ?_) ?_; rotate_left; (go_simp; try with_reducible rfl); try simp only [Act.put, List.setIfInBounds_toArray, List.set_cons_zero, List.set_cons_succ]
  refine wpTr_q _ (by simp only [List.getD_cons_succ, List.getD_cons_zero]; rfl) (by rfl) ?_ (fun w' hC => ?_) ?_; rotate_left; (go_simp; try with_reducible rfl); try simp only [Act.put, List.setIfInBounds_toArray, List.set_cons_zero, List.set_cons_succ]
  refine wpTr_c2 _ _ (by simp only [List.getD_cons_succ, List.getD_cons_zero]; rfl) (by simp only [List.getD_cons_succ, List.getD_cons_zero]; rfl) ?_ ?_
  · refine wpN_c (by rfl) (fun Kc hKc => ?_)
    go_simp
    refine (spoil_any (F := NF (.slice none 0 0) y0) y0 a2 n2 c2 A bad na0.out (fun k h => h.1) (by omega) hb1 hb2).mono ?_
    rintro e y1 ⟨v1, rfl, hs1, hm1⟩
    obtain ⟨sa, sn, sc, rfl⟩ := hs1.slice
    have sp1 := hid (hs1.mono (NF.or hm1 (fun k e => by simp [Value.ownBlock] at e)))
    have na1 := hid (na0.out.nfE hm1)
    have nb1 := hid (nb0.out.nfE hm1)
    have ra1 := hid (ra0.out.nfE hm1)
    have rb1 := hid (rb0.out.nfE hm1)
    have ia1 := hid (ia0.out.ext hm1)
    have ib1 := hid (ib0.out.ext hm1)
    have hE1 := hid (hE0.out.trans hm1)
    clear hs1 hm1
    refine hKc.out _ _ trivial ?_
    clear hKc Kc
    try simp only [Act.put, List.setIfInBounds_toArray, List.set_cons_zero, List.set_cons_succ]
    refine wpTr_c2 _ _ (by simp only [List.getD_cons_succ, List.getD_cons_zero]; rfl) (by simp only [List.getD_cons_succ, List.getD_cons_zero]; rfl) ?_ ?_
    · refine wpN_c (by rfl) (fun Kc hKc => ?_)
      go_simp
      refine (glued_anyF (F := NF (.slice none 0 0) y1) y1 a2 a3 n2 n3 c2 c3 A B na1.out nb1.out (by omega) (by omega) tA.out tB.out).mono ?_
      rintro e y2 ⟨v2, rfl, hs2, hm2⟩
      obtain ⟨ga, gn, gc, rfl⟩ := hs2.slice
      have gl2 := hid (hs2.mono (NF.or hm2 (fun k e => by simp [Value.ownBlock] at e)))
      have na2 := hid (na1.out.nfE hm2)
      have nb2 := hid (nb1.out.nfE hm2)
      have ra2 := hid (ra1.out.nfE hm2)
      have rb2 := hid (rb1.out.nfE hm2)
      have ia2 := hid (ia1.out.ext hm2)
      have ib2 := hid (ib1.out.ext hm2)
      have sp2 := hid (sp1.out.nfE hm2)
      have hE2 := hid (hE1.out.trans hm2)
      clear hs2 hm2
      refine hKc.out _ _ trivial ?_
      clear hKc Kc
      try simp only [Act.put, List.setIfInBounds_toArray, List.set_cons_zero, List.set_cons_succ]
      refine wpTr_c1 _ (by simp only [List.getD_cons_succ, List.getD_cons_zero]; rfl) ?_
      refine wpN_c (by rfl) (fun Kc hKc => ?_)
      refine wp_mk ncC _ _ _ rfl Tryz.underlying26 el42 20 rfl _ rfl rfl (by decide) (base := y2.heap.size) (Nat.le_refl _) (fun v3 y3 H3 => ?_)
      obtain ⟨ho3, hm3⟩ := H3.out
      clear H3
      have hmk3 := NF.make (ov := v3) hm3 (fun k e => (ho3.block k e).1)
      have na3 := hid ((na2.out.mod hm3 (fun _ _ h => h)).mono hmk3)
      have nb3 := hid ((nb2.out.mod hm3 (fun _ _ h => h)).mono hmk3)
      have ra3 := hid ((ra2.out.mod hm3 (fun _ _ h => h)).mono hmk3)
      have rb3 := hid ((rb2.out.mod hm3 (fun _ _ h => h)).mono hmk3)
      have ia3 := hid (ia2.out.ext hm3)
      have ib3 := hid (ib2.out.ext hm3)
      have sp3 := hid ((sp2.out.mod hm3 (fun _ _ h => h)).mono hmk3)
      have gl3 := hid ((gl2.out.mod hm3 (fun _ _ h => h)).mono hmk3)
      have hE3 := hid (hE2.out.trans hm3)
      have hsz3 := hE2.out.size
      have ob3 : ∀ k, v3.ownBlock = some k → k < y3.heap.size := fun k e => (ho3.block k e).2
      have ho3 := hid (ho3.weaken (base' := w.heap.size) hsz3)
      clear hm3 hmk3 hsz3
      refine hKc.out _ _ trivial ?_
      clear hKc Kc
      try simp only [Act.put, List.setIfInBounds_toArray, List.set_cons_zero, List.set_cons_succ]
      refine wpTr_c1 _ (by simp only [List.getD_cons_succ, List.getD_cons_zero]; rfl) ?_
      refine wpN_c (by rfl) (fun Kc hKc => ?_)
      refine wp_app2 _ _ _ rfl Tryz.underlying26 el42 rfl ho3.out _ _ _ rfl rA hrA.out.symm ia3.out ncC_len one_a.out (by simp only [List.length_nil, List.nil_append]; have := hrA.out; have := hrB.out; omega) hE3.out.size hqA.out (fun v4 y4 H4 => ?_)
      obtain ⟨ho4, hm4, hw4⟩ := H4.out
      clear H4
      have na4 := hid (na3.out.nfA hm4 hw4)
      have nb4 := hid (nb3.out.nfA hm4 hw4)
      have ra4 := hid (ra3.out.nfA hm4 hw4)
      have rb4 := hid (rb3.out.nfA hm4 hw4)
      have sp4 := hid (sp3.out.nfA hm4 hw4)
      have gl4 := hid (gl3.out.nfA hm4 hw4)
      have ia4 := hid (ia3.out.mod hm4 (fun b off e e' => nf_row na3.out b off e e'))
      have ib4 := hid (ib3.out.mod hm4 (fun b off e e' => nf_row nb3.out b off e e'))
      have hE4 := hid (Ext.grow hE3.out ho3.out hm4)
      have ob4 : ∀ k, v4.ownBlock = some k → k < y4.heap.size := fun k e => (ho4.block k e).2
      have ho4 := hid ho4
      clear hm4 hw4
      refine hKc.out _ _ trivial ?_
      clear hKc Kc
      try simp only [Act.put, List.setIfInBounds_toArray, List.set_cons_zero, List.set_cons_succ]
      refine wpTr_c1 _ (by simp only [List.getD_cons_succ, List.getD_cons_zero]; rfl) ?_
      refine wpN_c (by rfl) (fun Kc hKc => ?_)
      refine wp_app2 _ _ _ rfl Tryz.underlying26 el42 rfl ho4.out _ _ _ rfl rB hrB.out.symm ib4.out ncC_len one_b.out (by simp only [List.length_nil, List.nil_append]; have := hrA.out; have := hrB.out; omega) hE4.out.size hqB.out (fun v5 y5 H5 => ?_)
      obtain ⟨ho5, hm5, hw5⟩ := H5.out
      clear H5
      have na5 := hid (na4.out.nfA hm5 hw5)
      have nb5 := hid (nb4.out.nfA hm5 hw5)
      have ra5 := hid (ra4.out.nfA hm5 hw5)
      have rb5 := hid (rb4.out.nfA hm5 hw5)
      have sp5 := hid (sp4.out.nfA hm5 hw5)
      have gl5 := hid (gl4.out.nfA hm5 hw5)
      have ia5 := hid (ia4.out.mod hm5 (fun b off e e' => nf_row na4.out b off e e'))
      have ib5 := hid (ib4.out.mod hm5 (fun b off e e' => nf_row nb4.out b off e e'))
      have hE5 := hid (Ext.grow hE4.out ho4.out hm5)
      have ob5 : ∀ k, v5.ownBlock = some k → k < y5.heap.size := fun k e => (ho5.block k e).2
      have ho5 := hid ho5
      clear hm5 hw5
      refine hKc.out _ _ trivial ?_
      clear hKc Kc
      try simp only [Act.put, List.setIfInBounds_toArray, List.set_cons_zero, List.set_cons_succ]
      refine wpTr_c1 _ (by simp only [List.getD_cons_succ, List.getD_cons_zero]; rfl) ?_
      refine wpN_c (by rfl) (fun Kc hKc => ?_)
      go_simp
      refine (spoil_any (F := NF (v5) y5) y5 none 0 0 [] bad (NodesAt.nil _ _) (fun k h => h.1) (by omega) hb1 hb2).mono ?_
      rintro e y6 ⟨v6, rfl, hs6, hm6⟩
      obtain ⟨na9, nn9, nc9, rfl⟩ := hs6.slice
      have nl6 := hid (hs6.mono (NF.or hm6 ob5))
      have na6 := hid (na5.out.nfE hm6)
      have nb6 := hid (nb5.out.nfE hm6)
      have ra6 := hid (ra5.out.nfE hm6)
      have rb6 := hid (rb5.out.nfE hm6)
      have ia6 := hid (ia5.out.ext hm6)
      have ib6 := hid (ib5.out.ext hm6)
      have sp6 := hid (sp5.out.nfE hm6)
      have gl6 := hid (gl5.out.nfE hm6)
      have hE6 := hid (hE5.out.trans hm6)
      have ho6 := hid (ho5.out.ext hm6)
      have ob6 : ∀ k, (v5).ownBlock = some k → k < y6.heap.size := fun k e => (ho6.out.block k e).2
      clear hs6 hm6
      refine hKc.out _ _ trivial ?_
      clear hKc Kc
      try simp only [Act.put, List.setIfInBounds_toArray, List.set_cons_zero, List.set_cons_succ]
      refine wpTr_q _ (by simp only [List.getD_cons_succ, List.getD_cons_zero]; rfl) (by rfl) ?_ (fun w' hC => ?_) ?_; rotate_left; (go_simp; try with_reducible rfl); try simp only [Act.put, List.setIfInBounds_toArray, List.set_cons_zero, List.set_cons_succ]
      refine wpTr_c1 _ (by simp only [List.getD_cons_succ, List.getD_cons_zero]; rfl) ?_
      refine wpN_c (by rfl) (fun Kc hKc => ?_)
      go_simp
      have hm7 := Mod.alloc (Mod.refl (fun _ => False) y6) (.cells #[.int .i64 4, .string ⟨#[]⟩, .string ⟨#[97]⟩, .string ⟨#[]⟩, .int .i64 0, .slice none 0 0, .slice none 0 0, .slice na9 nn9 nc9] 36)
      have if7 : NodesAt (Lo (y6.alloc (.cells #[.int .i64 4, .string ⟨#[]⟩, .string ⟨#[97]⟩, .string ⟨#[]⟩, .int .i64 0, .slice none 0 0, .slice none 0 0, .slice na9 nn9 nc9] 36))) (y6.alloc (.cells #[.int .i64 4, .string ⟨#[]⟩, .string ⟨#[97]⟩, .string ⟨#[]⟩, .int .i64 0, .slice none 0 0, .slice none 0 0, .slice na9 nn9 nc9] 36)) (.slice (some ⟨y6.heap.size, 0, none⟩) 1 1) [.mk 4 [] [97] [] 0 [] [] (spoilS [] bad)] := NodesAt.made (w := y6) [⟨4, [], [97], [], 0, .slice none 0 0, .slice none 0 0, .slice na9 nn9 nc9⟩] _ [.int .i64 4, .string ⟨#[]⟩, .string ⟨#[97]⟩, .string ⟨#[]⟩, .int .i64 0, .slice none 0 0, .slice none 0 0, .slice na9 nn9 nc9] 1 _ rfl rfl rfl (.cons _ _ _ _ (.mk _ [] [] (spoilS [] bad) (StrsAt.nil _ _) (NodesAt.nil _ _) (nl6.out.mono (fun k h => h.1))) .nil)
      generalize y6.heap.size = I7 at if7 ⊢
      generalize (y6.alloc (.cells #[.int .i64 4, .string ⟨#[]⟩, .string ⟨#[97]⟩, .string ⟨#[]⟩, .int .i64 0, .slice none 0 0, .slice none 0 0, .slice na9 nn9 nc9] 36)) = y7 at hm7 if7 ⊢
      have na7 := hid (na6.out.nfE hm7)
      have nb7 := hid (nb6.out.nfE hm7)
      have ra7 := hid (ra6.out.nfE hm7)
      have rb7 := hid (rb6.out.nfE hm7)
      have ia7 := hid (ia6.out.ext hm7)
      have ib7 := hid (ib6.out.ext hm7)
      have sp7 := hid (sp6.out.nfE hm7)
      have gl7 := hid (gl6.out.nfE hm7)
      have nl7 := hid (nl6.out.nfE hm7)
      have hE7 := hid (hE6.out.trans hm7)
      have ho7 := hid (ho6.out.ext hm7)
      have ob7 : ∀ k, (v5).ownBlock = some k → k < y7.heap.size := fun k e => (ho7.out.block k e).2
      replace if7 := hid if7
      clear hm7
      refine hKc.out _ _ trivial ?_
      clear hKc Kc
      try simp only [Act.put, List.setIfInBounds_toArray, List.set_cons_zero, List.set_cons_succ]
      refine wpTr_c1 _ (by simp only [List.getD_cons_succ, List.getD_cons_zero]; rfl) ?_
      refine wpN_c (by rfl) (fun Kc hKc => ?_)
      obtain ⟨oa, oc, rfl, -, -⟩ := ho7.out.row
      go_simp
      have hm8 := Mod.alloc (Mod.refl (fun _ => False) y7) (.cells #[.slice a2 n2 c2, .slice a3 n3 c3, .slice sa sn sc, .slice ga gn gc, .slice oa (rA.length + rB.length) oc, .slice (some ⟨I7, 0, none⟩) 1 1] 26)
      have hZ := heap_alloc_new y7 (.cells #[.slice a2 n2 c2, .slice a3 n3 c3, .slice sa sn sc, .slice ga gn gc, .slice oa (rA.length + rB.length) oc, .slice (some ⟨I7, 0, none⟩) 1 1] 26)
      generalize y7.heap.size = Z at hZ ⊢
      generalize (y7.alloc (.cells #[.slice a2 n2 c2, .slice a3 n3 c3, .slice sa sn sc, .slice ga gn gc, .slice oa (rA.length + rB.length) oc, .slice (some ⟨I7, 0, none⟩) 1 1] 26)) = y8 at hm8 hZ ⊢
      have hE8 := hid (hE7.out.trans hm8)
      have hAll : Hid (AllAt y8 Z L) := hid (by
        rw [hL.out]
        have ab := Own.nodes ho7.out ((ra7.out.mono (F' := Lo y7) (fun k h => h.1)).app (rb7.out.mono (fun k h => h.1))) (fun k h => h)
        rw [List.nil_append, List.length_append] at ab
        intro i hi
        match i, hi with
        | 0, _ => exact ⟨_, _, _, cell_of' hZ 0, NodesAt.up (na7.out.mono (F' := Lo y7) (fun k h => h.1)) hm8⟩
        | 1, _ => exact ⟨_, _, _, cell_of' hZ 1, NodesAt.up (nb7.out.mono (F' := Lo y7) (fun k h => h.1)) hm8⟩
        | 2, _ => exact ⟨_, _, _, cell_of' hZ 2, NodesAt.up (sp7.out.mono (F' := Lo y7) (fun k h => h.1)) hm8⟩
        | 3, _ => exact ⟨_, _, _, cell_of' hZ 3, NodesAt.up (gl7.out.mono (F' := Lo y7) (fun k h => h.1)) hm8⟩
        | 4, _ => exact ⟨_, _, _, cell_of' hZ 4, NodesAt.up ab hm8⟩
        | 5, _ => exact ⟨_, _, _, cell_of' hZ 5, NodesAt.up if7.out hm8⟩
        )
      replace hZ := hid hZ
      clear hm8
      refine hKc.out _ _ trivial ?_
      clear hKc Kc
      try simp only [Act.put, List.setIfInBounds_toArray, List.set_cons_zero, List.set_cons_succ]
      refine wpTr_q _ (by simp only [List.getD_cons_succ, List.getD_cons_zero]; rfl) (by rfl) ?_ (fun w' hC => ?_) ?_; rotate_left; (go_simp; try with_reducible rfl); try simp only [Act.put, List.setIfInBounds_toArray, List.set_cons_zero, List.set_cons_succ]
      refine wpTr_done ?_
      clear na7 nb7 ra7 rb7 ia7 ib7
      go_wp2_with fail
      go_loopg [44] 6 (fun g iv wr => ∃ j : Nat, j + g = 6 ∧ iv = .int .i64 j ∧ AllAt wr Z L ∧ Ext w wr)
      case atStart => exact ⟨0, by omega, rfl, hAll.out, hE8.out⟩
      case round =>
        clear hAll hE8
        obtain ⟨j, hj, rfl, hA, hxw⟩ := hrel
        by_cases hlt : j < 6
        rotate_left
        · obtain rfl : gk = 0 := by omega
          have hd1 : decide ((j : Int) < 6) = false := decide_eq_false (by omega)
          have hi1 : ¬ (j : Int) < 6 := by omega
          replace hA := hid hA
          replace hxw := hid hxw
          go_wp2_with fail
          rw [hpost.out]
          exact ⟨rfl, hxw.out⟩
        · obtain ⟨c, rfl⟩ : ∃ c, gk = c + 1 := ⟨gk - 1, by omega⟩
          have hd1 : decide ((j : Int) < 6) = true := decide_eq_true (by omega)
          have hi1 : (j : Int) < 6 := by omega
          have hi0 : (0 : Int) ≤ (j : Int) := by omega
          obtain ⟨pa, pn, pc, P, hcell, hnp, hsP, hbP⟩ := hA.get hLn.out hLb.out j hlt
          replace hsP := hid hsP
          have hP := hid (Print_pq _ P wr (hg.out.ext hxw) hnp (fun _ h => h) hsP.out)
          have hQ := hid (fun w1 (hx : Ext wr w1) => rPrint_any _ P w1 (hnp.up hx) hbP)
          replace hnp := hid hnp
          replace hbP := hid hbP
          replace hA := hid hA
          replace hxw := hid hxw
          obtain ⟨S, hS⟩ : ∃ S : ByteArray, S = ⟨(pq P).1.toArray⟩ := ⟨_, rfl⟩
          obtain ⟨E, hE⟩ : ∃ E : Int, E = (pq P).2 := ⟨_, rfl⟩
          rw [← hS, ← hE] at hP
          simp only [← hS, ← hE] at hQ
          have hSS : (S != S) = false := by simp
          have hEE : (E != E) = false := by simp
          clear hS hE
          go_wp2_with fail
          refine hP.out.mono ?_
          rintro e w4 ⟨rfl, hx4⟩
          have hQ4 := hid (hQ.out w4 hx4)
          replace hx4 := hid hx4
          clear hP hQ hcell
          go_wp2_with fail
          refine hQ4.out.mono ?_
          rintro e w5 ⟨rfl, hx5⟩
          have hx5 := hid (hx4.out.trans hx5)
          have hA5 := hid (hA.out.ext hx5.out)
          have hn5 := hid (hnp.out.up hx5.out)
          have hx5 := hid (hxw.out.trans hx5.out)
          clear hQ4 hx4 hA hnp hxw hd1 hi1 hi0
          go_wp2_with fail
          go_loopg [68] 6 (fun g iv wr => ∃ k : Nat, k + g = 6 ∧ iv = .int .i64 k ∧ AllAt wr Z L ∧ NodesAt (Lo wr) wr (.slice pa pn pc) P ∧ Ext w wr)
          case atStart => exact ⟨0, by omega, rfl, hA5.out, hn5.out, hx5.out⟩
          case round =>
            clear hA5 hn5 hx5
            obtain ⟨k, hk, rfl, hA, hnp, hxw⟩ := hrel
            by_cases hkt : k < 6
            rotate_left
            · obtain rfl : gk = 0 := by omega
              have hd1 : decide ((k : Int) < 6) = false := decide_eq_false (by omega)
              have hi1 : ¬ (k : Int) < 6 := by omega
              replace hA := hid hA
              replace hnp := hid hnp
              replace hxw := hid hxw
              go_wp2_with fail
              go_roundg c
              case measure => omega
              case rel => exact ⟨j + 1, by omega, by go_num, hA.out, hxw.out⟩
            · obtain ⟨d, rfl⟩ : ∃ d, gk = d + 1 := ⟨gk - 1, by omega⟩
              have hd1 : decide ((k : Int) < 6) = true := decide_eq_true (by omega)
              have hi1 : (k : Int) < 6 := by omega
              have hi0 : (0 : Int) ≤ (k : Int) := by omega
              obtain ⟨qa, qn, qc, Q, hcell, hnq, hsQ, hbQ⟩ := hA.get hLn.out hLb.out k hkt
              clear hbQ
              have hR := hid (Same_any _ _ P Q wr hnp hnq (fun _ h => h) hsP.out hsQ)
              have hT := hid (fun w1 (hx : Ext wr w1) => refSame_any _ _ P Q w1 (hnp.up hx) (hnq.up hx) (fun _ h => h) hsP.out hsQ)
              replace hA := hid hA
              replace hnp := hid hnp
              replace hxw := hid hxw
              clear hnq hsQ
              obtain ⟨B, hB⟩ : ∃ B : Bool, B = eqL P Q := ⟨_, rfl⟩
              rw [← hB] at hR
              simp only [← hB] at hT
              have hBB : (B != B) = false := by simp
              clear hB
              go_wp2_with fail
              refine hR.out.mono ?_
              rintro e w6 ⟨rfl, hx6⟩
              have hT6 := hid (hT.out w6 hx6)
              replace hx6 := hid hx6
              clear hR hT hcell
              go_wp2_with fail
              refine hT6.out.mono ?_
              rintro e w7 ⟨rfl, hx7⟩
              have hx7 := hid (hx6.out.trans hx7)
              have hA7 := hid (hA.out.ext hx7.out)
              have hn7 := hid (hnp.out.up hx7.out)
              have hx7 := hid (hxw.out.trans hx7.out)
              clear hT6 hx6 hA hnp hxw hd1 hi1 hi0
              go_wp2_with fail
              go_roundg d
              case measure => omega
              case rel => exact ⟨k + 1, by omega, by go_num, hA7.out, hn7.out, hx7.out⟩
    · refine wpN_c (by rfl) (fun Kc hKc => ?_)
      refine wp_mk ncC _ _ _ rfl Tryz.underlying26 el42 20 rfl _ rfl rfl (by decide) (base := y1.heap.size) (Nat.le_refl _) (fun v9 y9 H9 => ?_)
      obtain ⟨ho9, hm9⟩ := H9.out
      clear H9
      have hmk9 := NF.make (ov := v9) hm9 (fun k e => (ho9.block k e).1)
      have na9 := hid ((na1.out.mod hm9 (fun _ _ h => h)).mono hmk9)
      have nb9 := hid ((nb1.out.mod hm9 (fun _ _ h => h)).mono hmk9)
      have ra9 := hid ((ra1.out.mod hm9 (fun _ _ h => h)).mono hmk9)
      have rb9 := hid ((rb1.out.mod hm9 (fun _ _ h => h)).mono hmk9)
      have ia9 := hid (ia1.out.ext hm9)
      have ib9 := hid (ib1.out.ext hm9)
      have sp9 := hid ((sp1.out.mod hm9 (fun _ _ h => h)).mono hmk9)
      have hE9 := hid (hE1.out.trans hm9)
      have hsz9 := hE1.out.size
      have ob9 : ∀ k, v9.ownBlock = some k → k < y9.heap.size := fun k e => (ho9.block k e).2
      have ho9 := hid (ho9.weaken (base' := w.heap.size) hsz9)
      clear hm9 hmk9 hsz9
      refine hKc.out _ _ trivial ?_
      clear hKc Kc
      try simp only [Act.put, List.setIfInBounds_toArray, List.set_cons_zero, List.set_cons_succ]
      refine wpTr_c1 _ (by simp only [List.getD_cons_succ, List.getD_cons_zero]; rfl) ?_
      refine wpN_c (by rfl) (fun Kc hKc => ?_)
      go_simp
      refine (glued_anyF (F := NF (v9) y9) y9 a2 a3 n2 n3 c2 c3 A B na9.out nb9.out (by omega) (by omega) tA.out tB.out).mono ?_
      rintro e y10 ⟨v10, rfl, hs10, hm10⟩
      obtain ⟨ga, gn, gc, rfl⟩ := hs10.slice
      have gl10 := hid (hs10.mono (NF.or hm10 ob9))
      have na10 := hid (na9.out.nfE hm10)
      have nb10 := hid (nb9.out.nfE hm10)
      have ra10 := hid (ra9.out.nfE hm10)
      have rb10 := hid (rb9.out.nfE hm10)
      have ia10 := hid (ia9.out.ext hm10)
      have ib10 := hid (ib9.out.ext hm10)
      have sp10 := hid (sp9.out.nfE hm10)
      have hE10 := hid (hE9.out.trans hm10)
      have ho10 := hid (ho9.out.ext hm10)
      have ob10 : ∀ k, (v9).ownBlock = some k → k < y10.heap.size := fun k e => (ho10.out.block k e).2
      clear hs10 hm10
      refine hKc.out _ _ trivial ?_
      clear hKc Kc
      try simp only [Act.put, List.setIfInBounds_toArray, List.set_cons_zero, List.set_cons_succ]
      refine wpTr_c1 _ (by simp only [List.getD_cons_succ, List.getD_cons_zero]; rfl) ?_
      refine wpN_c (by rfl) (fun Kc hKc => ?_)
      refine wp_app2 _ _ _ rfl Tryz.underlying26 el42 rfl ho10.out _ _ _ rfl rA hrA.out.symm ia10.out ncC_len one_a.out (by simp only [List.length_nil, List.nil_append]; have := hrA.out; have := hrB.out; omega) hE10.out.size hqA.out (fun v11 y11 H11 => ?_)
      obtain ⟨ho11, hm11, hw11⟩ := H11.out
      clear H11
      have na11 := hid (na10.out.nfA hm11 hw11)
      have nb11 := hid (nb10.out.nfA hm11 hw11)
      have ra11 := hid (ra10.out.nfA hm11 hw11)
      have rb11 := hid (rb10.out.nfA hm11 hw11)
      have sp11 := hid (sp10.out.nfA hm11 hw11)
      have gl11 := hid (gl10.out.nfA hm11 hw11)
      have ia11 := hid (ia10.out.mod hm11 (fun b off e e' => nf_row na10.out b off e e'))
      have ib11 := hid (ib10.out.mod hm11 (fun b off e e' => nf_row nb10.out b off e e'))
      have hE11 := hid (Ext.grow hE10.out ho10.out hm11)
      have ob11 : ∀ k, v11.ownBlock = some k → k < y11.heap.size := fun k e => (ho11.block k e).2
      have ho11 := hid ho11
      clear hm11 hw11
      refine hKc.out _ _ trivial ?_
      clear hKc Kc
      try simp only [Act.put, List.setIfInBounds_toArray, List.set_cons_zero, List.set_cons_succ]
      refine wpTr_c1 _ (by simp only [List.getD_cons_succ, List.getD_cons_zero]; rfl) ?_
      refine wpN_c (by rfl) (fun Kc hKc => ?_)
      refine wp_app2 _ _ _ rfl Tryz.underlying26 el42 rfl ho11.out _ _ _ rfl rB hrB.out.symm ib11.out ncC_len one_b.out (by simp only [List.length_nil, List.nil_append]; have := hrA.out; have := hrB.out; omega) hE11.out.size hqB.out (fun v12 y12 H12 => ?_)
      obtain ⟨ho12, hm12, hw12⟩ := H12.out
      clear H12
      have na12 := hid (na11.out.nfA hm12 hw12)
      have nb12 := hid (nb11.out.nfA hm12 hw12)
      have ra12 := hid (ra11.out.nfA hm12 hw12)
      have rb12 := hid (rb11.out.nfA hm12 hw12)
      have sp12 := hid (sp11.out.nfA hm12 hw12)
      have gl12 := hid (gl11.out.nfA hm12 hw12)
      have ia12 := hid (ia11.out.mod hm12 (fun b off e e' => nf_row na11.out b off e e'))
      have ib12 := hid (ib11.out.mod hm12 (fun b off e e' => nf_row nb11.out b off e e'))
      have hE12 := hid (Ext.grow hE11.out ho11.out hm12)
      have ob12 : ∀ k, v12.ownBlock = some k → k < y12.heap.size := fun k e => (ho12.block k e).2
      have ho12 := hid ho12
      clear hm12 hw12
      refine hKc.out _ _ trivial ?_
      clear hKc Kc
      try simp only [Act.put, List.setIfInBounds_toArray, List.set_cons_zero, List.set_cons_succ]
      refine wpTr_c1 _ (by simp only [List.getD_cons_succ, List.getD_cons_zero]; rfl) ?_
      refine wpN_c (by rfl) (fun Kc hKc => ?_)
      go_simp
      refine (spoil_any (F := NF (v12) y12) y12 none 0 0 [] bad (NodesAt.nil _ _) (fun k h => h.1) (by omega) hb1 hb2).mono ?_
      rintro e y13 ⟨v13, rfl, hs13, hm13⟩
      obtain ⟨na9, nn9, nc9, rfl⟩ := hs13.slice
      have nl13 := hid (hs13.mono (NF.or hm13 ob12))
      have na13 := hid (na12.out.nfE hm13)
      have nb13 := hid (nb12.out.nfE hm13)
      have ra13 := hid (ra12.out.nfE hm13)
      have rb13 := hid (rb12.out.nfE hm13)
      have ia13 := hid (ia12.out.ext hm13)
      have ib13 := hid (ib12.out.ext hm13)
      have sp13 := hid (sp12.out.nfE hm13)
      have gl13 := hid (gl12.out.nfE hm13)
      have hE13 := hid (hE12.out.trans hm13)
      have ho13 := hid (ho12.out.ext hm13)
      have ob13 : ∀ k, (v12).ownBlock = some k → k < y13.heap.size := fun k e => (ho13.out.block k e).2
      clear hs13 hm13
      refine hKc.out _ _ trivial ?_
      clear hKc Kc
      try simp only [Act.put, List.setIfInBounds_toArray, List.set_cons_zero, List.set_cons_succ]
      refine wpTr_q _ (by simp only [List.getD_cons_succ, List.getD_cons_zero]; rfl) (by rfl) ?_ (fun w' hC => ?_) ?_; rotate_left; (go_simp; try with_reducible rfl); try simp only [Act.put, List.setIfInBounds_toArray, List.set_cons_zero, List.set_cons_succ]
      refine wpTr_c1 _ (by simp only [List.getD_cons_succ, List.getD_cons_zero]; rfl) ?_
      refine wpN_c (by rfl) (fun Kc hKc => ?_)
      go_simp
      have hm14 := Mod.alloc (Mod.refl (fun _ => False) y13) (.cells #[.int .i64 4, .string ⟨#[]⟩, .string ⟨#[97]⟩, .string ⟨#[]⟩, .int .i64 0, .slice none 0 0, .slice none 0 0, .slice na9 nn9 nc9] 36)
      have if14 : NodesAt (Lo (y13.alloc (.cells #[.int .i64 4, .string ⟨#[]⟩, .string ⟨#[97]⟩, .string ⟨#[]⟩, .int .i64 0, .slice none 0 0, .slice none 0 0, .slice na9 nn9 nc9] 36))) (y13.alloc (.cells #[.int .i64 4, .string ⟨#[]⟩, .string ⟨#[97]⟩, .string ⟨#[]⟩, .int .i64 0, .slice none 0 0, .slice none 0 0, .slice na9 nn9 nc9] 36)) (.slice (some ⟨y13.heap.size, 0, none⟩) 1 1) [.mk 4 [] [97] [] 0 [] [] (spoilS [] bad)] := NodesAt.made (w := y13) [⟨4, [], [97], [], 0, .slice none 0 0, .slice none 0 0, .slice na9 nn9 nc9⟩] _ [.int .i64 4, .string ⟨#[]⟩, .string ⟨#[97]⟩, .string ⟨#[]⟩, .int .i64 0, .slice none 0 0, .slice none 0 0, .slice na9 nn9 nc9] 1 _ rfl rfl rfl (.cons _ _ _ _ (.mk _ [] [] (spoilS [] bad) (StrsAt.nil _ _) (NodesAt.nil _ _) (nl13.out.mono (fun k h => h.1))) .nil)
      generalize y13.heap.size = I14 at if14 ⊢
      generalize (y13.alloc (.cells #[.int .i64 4, .string ⟨#[]⟩, .string ⟨#[97]⟩, .string ⟨#[]⟩, .int .i64 0, .slice none 0 0, .slice none 0 0, .slice na9 nn9 nc9] 36)) = y14 at hm14 if14 ⊢
      have na14 := hid (na13.out.nfE hm14)
      have nb14 := hid (nb13.out.nfE hm14)
      have ra14 := hid (ra13.out.nfE hm14)
      have rb14 := hid (rb13.out.nfE hm14)
      have ia14 := hid (ia13.out.ext hm14)
      have ib14 := hid (ib13.out.ext hm14)
      have sp14 := hid (sp13.out.nfE hm14)
      have gl14 := hid (gl13.out.nfE hm14)
      have nl14 := hid (nl13.out.nfE hm14)
      have hE14 := hid (hE13.out.trans hm14)
      have ho14 := hid (ho13.out.ext hm14)
      have ob14 : ∀ k, (v12).ownBlock = some k → k < y14.heap.size := fun k e => (ho14.out.block k e).2
      replace if14 := hid if14
      clear hm14
      refine hKc.out _ _ trivial ?_
      clear hKc Kc
      try simp only [Act.put, List.setIfInBounds_toArray, List.set_cons_zero, List.set_cons_succ]
      refine wpTr_c1 _ (by simp only [List.getD_cons_succ, List.getD_cons_zero]; rfl) ?_
      refine wpN_c (by rfl) (fun Kc hKc => ?_)
      obtain ⟨oa, oc, rfl, -, -⟩ := ho14.out.row
      go_simp
      have hm15 := Mod.alloc (Mod.refl (fun _ => False) y14) (.cells #[.slice a2 n2 c2, .slice a3 n3 c3, .slice sa sn sc, .slice ga gn gc, .slice oa (rA.length + rB.length) oc, .slice (some ⟨I14, 0, none⟩) 1 1] 26)
      have hZ := heap_alloc_new y14 (.cells #[.slice a2 n2 c2, .slice a3 n3 c3, .slice sa sn sc, .slice ga gn gc, .slice oa (rA.length + rB.length) oc, .slice (some ⟨I14, 0, none⟩) 1 1] 26)
      generalize y14.heap.size = Z at hZ ⊢
      generalize (y14.alloc (.cells #[.slice a2 n2 c2, .slice a3 n3 c3, .slice sa sn sc, .slice ga gn gc, .slice oa (rA.length + rB.length) oc, .slice (some ⟨I14, 0, none⟩) 1 1] 26)) = y15 at hm15 hZ ⊢
      have hE15 := hid (hE14.out.trans hm15)
      have hAll : Hid (AllAt y15 Z L) := hid (by
        rw [hL.out]
        have ab := Own.nodes ho14.out ((ra14.out.mono (F' := Lo y14) (fun k h => h.1)).app (rb14.out.mono (fun k h => h.1))) (fun k h => h)
        rw [List.nil_append, List.length_append] at ab
        intro i hi
        match i, hi with
        | 0, _ => exact ⟨_, _, _, cell_of' hZ 0, NodesAt.up (na14.out.mono (F' := Lo y14) (fun k h => h.1)) hm15⟩
        | 1, _ => exact ⟨_, _, _, cell_of' hZ 1, NodesAt.up (nb14.out.mono (F' := Lo y14) (fun k h => h.1)) hm15⟩
        | 2, _ => exact ⟨_, _, _, cell_of' hZ 2, NodesAt.up (sp14.out.mono (F' := Lo y14) (fun k h => h.1)) hm15⟩
        | 3, _ => exact ⟨_, _, _, cell_of' hZ 3, NodesAt.up (gl14.out.mono (F' := Lo y14) (fun k h => h.1)) hm15⟩
        | 4, _ => exact ⟨_, _, _, cell_of' hZ 4, NodesAt.up ab hm15⟩
        | 5, _ => exact ⟨_, _, _, cell_of' hZ 5, NodesAt.up if14.out hm15⟩
        )
      replace hZ := hid hZ
      clear hm15
      refine hKc.out _ _ trivial ?_
      clear hKc Kc
      try simp only [Act.put, List.setIfInBounds_toArray, List.set_cons_zero, List.set_cons_succ]
      refine wpTr_q _ (by simp only [List.getD_cons_succ, List.getD_cons_zero]; rfl) (by rfl) ?_ (fun w' hC => ?_) ?_; rotate_left; (go_simp; try with_reducible rfl); try simp only [Act.put, List.setIfInBounds_toArray, List.set_cons_zero, List.set_cons_succ]
      refine wpTr_done ?_
      clear na14 nb14 ra14 rb14 ia14 ib14
      go_wp2_with fail
      go_loopg [44] 6 (fun g iv wr => ∃ j : Nat, j + g = 6 ∧ iv = .int .i64 j ∧ AllAt wr Z L ∧ Ext w wr)
      case atStart => exact ⟨0, by omega, rfl, hAll.out, hE15.out⟩
      case round =>
        clear hAll hE15
        obtain ⟨j, hj, rfl, hA, hxw⟩ := hrel
        by_cases hlt : j < 6
        rotate_left
        · obtain rfl : gk = 0 := by omega
          have hd1 : decide ((j : Int) < 6) = false := decide_eq_false (by omega)
          have hi1 : ¬ (j : Int) < 6 := by omega
          replace hA := hid hA
          replace hxw := hid hxw
          go_wp2_with fail
          rw [hpost.out]
          exact ⟨rfl, hxw.out⟩
        · obtain ⟨c, rfl⟩ : ∃ c, gk = c + 1 := ⟨gk - 1, by omega⟩
          have hd1 : decide ((j : Int) < 6) = true := decide_eq_true (by omega)
          have hi1 : (j : Int) < 6 := by omega
          have hi0 : (0 : Int) ≤ (j : Int) := by omega
          obtain ⟨pa, pn, pc, P, hcell, hnp, hsP, hbP⟩ := hA.get hLn.out hLb.out j hlt
          replace hsP := hid hsP
          have hP := hid (Print_pq _ P wr (hg.out.ext hxw) hnp (fun _ h => h) hsP.out)
          have hQ := hid (fun w1 (hx : Ext wr w1) => rPrint_any _ P w1 (hnp.up hx) hbP)
          replace hnp := hid hnp
          replace hbP := hid hbP
          replace hA := hid hA
          replace hxw := hid hxw
          obtain ⟨S, hS⟩ : ∃ S : ByteArray, S = ⟨(pq P).1.toArray⟩ := ⟨_, rfl⟩
          obtain ⟨E, hE⟩ : ∃ E : Int, E = (pq P).2 := ⟨_, rfl⟩
          rw [← hS, ← hE] at hP
          simp only [← hS, ← hE] at hQ
          have hSS : (S != S) = false := by simp
          have hEE : (E != E) = false := by simp
          clear hS hE
          go_wp2_with fail
          refine hP.out.mono ?_
          rintro e w4 ⟨rfl, hx4⟩
          have hQ4 := hid (hQ.out w4 hx4)
          replace hx4 := hid hx4
          clear hP hQ hcell
          go_wp2_with fail
          refine hQ4.out.mono ?_
          rintro e w5 ⟨rfl, hx5⟩
          have hx5 := hid (hx4.out.trans hx5)
          have hA5 := hid (hA.out.ext hx5.out)
          have hn5 := hid (hnp.out.up hx5.out)
          have hx5 := hid (hxw.out.trans hx5.out)
          clear hQ4 hx4 hA hnp hxw hd1 hi1 hi0
          go_wp2_with fail
          go_loopg [68] 6 (fun g iv wr => ∃ k : Nat, k + g = 6 ∧ iv = .int .i64 k ∧ AllAt wr Z L ∧ NodesAt (Lo wr) wr (.slice pa pn pc) P ∧ Ext w wr)
          case atStart => exact ⟨0, by omega, rfl, hA5.out, hn5.out, hx5.out⟩
          case round =>
            clear hA5 hn5 hx5
            obtain ⟨k, hk, rfl, hA, hnp, hxw⟩ := hrel
            by_cases hkt : k < 6
            rotate_left
            · obtain rfl : gk = 0 := by omega
              have hd1 : decide ((k : Int) < 6) = false := decide_eq_false (by omega)
              have hi1 : ¬ (k : Int) < 6 := by omega
              replace hA := hid hA
              replace hnp := hid hnp
              replace hxw := hid hxw
              go_wp2_with fail
              go_roundg c
              case measure => omega
              case rel => exact ⟨j + 1, by omega, by go_num, hA.out, hxw.out⟩
            · obtain ⟨d, rfl⟩ : ∃ d, gk = d + 1 := ⟨gk - 1, by omega⟩
              have hd1 : decide ((k : Int) < 6) = true := decide_eq_true (by omega)
              have hi1 : (k : Int) < 6 := by omega
              have hi0 : (0 : Int) ≤ (k : Int) := by omega
              obtain ⟨qa, qn, qc, Q, hcell, hnq, hsQ, hbQ⟩ := hA.get hLn.out hLb.out k hkt
              clear hbQ
              have hR := hid (Same_any _ _ P Q wr hnp hnq (fun _ h => h) hsP.out hsQ)
              have hT := hid (fun w1 (hx : Ext wr w1) => refSame_any _ _ P Q w1 (hnp.up hx) (hnq.up hx) (fun _ h => h) hsP.out hsQ)
              replace hA := hid hA
              replace hnp := hid hnp
              replace hxw := hid hxw
              clear hnq hsQ
              obtain ⟨B, hB⟩ : ∃ B : Bool, B = eqL P Q := ⟨_, rfl⟩
              rw [← hB] at hR
              simp only [← hB] at hT
              have hBB : (B != B) = false := by simp
              clear hB
              go_wp2_with fail
              refine hR.out.mono ?_
              rintro e w6 ⟨rfl, hx6⟩
              have hT6 := hid (hT.out w6 hx6)
              replace hx6 := hid hx6
              clear hR hT hcell
              go_wp2_with fail
              refine hT6.out.mono ?_
              rintro e w7 ⟨rfl, hx7⟩
              have hx7 := hid (hx6.out.trans hx7)
              have hA7 := hid (hA.out.ext hx7.out)
              have hn7 := hid (hnp.out.up hx7.out)
              have hx7 := hid (hxw.out.trans hx7.out)
              clear hT6 hx6 hA hnp hxw hd1 hi1 hi0
              go_wp2_with fail
              go_roundg d
              case measure => omega
              case rel => exact ⟨k + 1, by omega, by go_num, hA7.out, hn7.out, hx7.out⟩
  · refine wpN_c (by rfl) (fun Kc hKc => ?_)
    refine wp_mk ncC _ _ _ rfl Tryz.underlying26 el42 20 rfl _ rfl rfl (by decide) (base := y0.heap.size) (Nat.le_refl _) (fun v16 y16 H16 => ?_)
    obtain ⟨ho16, hm16⟩ := H16.out
    clear H16
    have hmk16 := NF.make (ov := v16) hm16 (fun k e => (ho16.block k e).1)
    have na16 := hid ((na0.out.mod hm16 (fun _ _ h => h)).mono hmk16)
    have nb16 := hid ((nb0.out.mod hm16 (fun _ _ h => h)).mono hmk16)
    have ra16 := hid ((ra0.out.mod hm16 (fun _ _ h => h)).mono hmk16)
    have rb16 := hid ((rb0.out.mod hm16 (fun _ _ h => h)).mono hmk16)
    have ia16 := hid (ia0.out.ext hm16)
    have ib16 := hid (ib0.out.ext hm16)
    have hE16 := hid (hE0.out.trans hm16)
    have hsz16 := hE0.out.size
    have ob16 : ∀ k, v16.ownBlock = some k → k < y16.heap.size := fun k e => (ho16.block k e).2
    have ho16 := hid (ho16.weaken (base' := w.heap.size) hsz16)
    clear hm16 hmk16 hsz16
    refine hKc.out _ _ trivial ?_
    clear hKc Kc
    try simp only [Act.put, List.setIfInBounds_toArray, List.set_cons_zero, List.set_cons_succ]
    refine wpTr_c1 _ (by simp only [List.getD_cons_succ, List.getD_cons_zero]; rfl) ?_
    refine wpN_c (by rfl) (fun Kc hKc => ?_)
    go_simp
    refine (spoil_any (F := NF (v16) y16) y16 a2 n2 c2 A bad na16.out (fun k h => h.1) (by omega) hb1 hb2).mono ?_
    rintro e y17 ⟨v17, rfl, hs17, hm17⟩
    obtain ⟨sa, sn, sc, rfl⟩ := hs17.slice
    have sp17 := hid (hs17.mono (NF.or hm17 ob16))
    have na17 := hid (na16.out.nfE hm17)
    have nb17 := hid (nb16.out.nfE hm17)
    have ra17 := hid (ra16.out.nfE hm17)
    have rb17 := hid (rb16.out.nfE hm17)
    have ia17 := hid (ia16.out.ext hm17)
    have ib17 := hid (ib16.out.ext hm17)
    have hE17 := hid (hE16.out.trans hm17)
    have ho17 := hid (ho16.out.ext hm17)
    have ob17 : ∀ k, (v16).ownBlock = some k → k < y17.heap.size := fun k e => (ho17.out.block k e).2
    clear hs17 hm17
    refine hKc.out _ _ trivial ?_
    clear hKc Kc
    try simp only [Act.put, List.setIfInBounds_toArray, List.set_cons_zero, List.set_cons_succ]
    refine wpTr_c1 _ (by simp only [List.getD_cons_succ, List.getD_cons_zero]; rfl) ?_
    refine wpN_c (by rfl) (fun Kc hKc => ?_)
    go_simp
    refine (glued_anyF (F := NF (v16) y17) y17 a2 a3 n2 n3 c2 c3 A B na17.out nb17.out (by omega) (by omega) tA.out tB.out).mono ?_
    rintro e y18 ⟨v18, rfl, hs18, hm18⟩
    obtain ⟨ga, gn, gc, rfl⟩ := hs18.slice
    have gl18 := hid (hs18.mono (NF.or hm18 ob17))
    have na18 := hid (na17.out.nfE hm18)
    have nb18 := hid (nb17.out.nfE hm18)
    have ra18 := hid (ra17.out.nfE hm18)
    have rb18 := hid (rb17.out.nfE hm18)
    have ia18 := hid (ia17.out.ext hm18)
    have ib18 := hid (ib17.out.ext hm18)
    have sp18 := hid (sp17.out.nfE hm18)
    have hE18 := hid (hE17.out.trans hm18)
    have ho18 := hid (ho17.out.ext hm18)
    have ob18 : ∀ k, (v16).ownBlock = some k → k < y18.heap.size := fun k e => (ho18.out.block k e).2
    clear hs18 hm18
    refine hKc.out _ _ trivial ?_
    clear hKc Kc
    try simp only [Act.put, List.setIfInBounds_toArray, List.set_cons_zero, List.set_cons_succ]
    refine wpTr_c1 _ (by simp only [List.getD_cons_succ, List.getD_cons_zero]; rfl) ?_
    refine wpN_c (by rfl) (fun Kc hKc => ?_)
    refine wp_app2 _ _ _ rfl Tryz.underlying26 el42 rfl ho18.out _ _ _ rfl rA hrA.out.symm ia18.out ncC_len one_a.out (by simp only [List.length_nil, List.nil_append]; have := hrA.out; have := hrB.out; omega) hE18.out.size hqA.out (fun v19 y19 H19 => ?_)
    obtain ⟨ho19, hm19, hw19⟩ := H19.out
    clear H19
    have na19 := hid (na18.out.nfA hm19 hw19)
    have nb19 := hid (nb18.out.nfA hm19 hw19)
    have ra19 := hid (ra18.out.nfA hm19 hw19)
    have rb19 := hid (rb18.out.nfA hm19 hw19)
    have sp19 := hid (sp18.out.nfA hm19 hw19)
    have gl19 := hid (gl18.out.nfA hm19 hw19)
    have ia19 := hid (ia18.out.mod hm19 (fun b off e e' => nf_row na18.out b off e e'))
    have ib19 := hid (ib18.out.mod hm19 (fun b off e e' => nf_row nb18.out b off e e'))
    have hE19 := hid (Ext.grow hE18.out ho18.out hm19)
    have ob19 : ∀ k, v19.ownBlock = some k → k < y19.heap.size := fun k e => (ho19.block k e).2
    have ho19 := hid ho19
    clear hm19 hw19
    refine hKc.out _ _ trivial ?_
    clear hKc Kc
    try simp only [Act.put, List.setIfInBounds_toArray, List.set_cons_zero, List.set_cons_succ]
    refine wpTr_c1 _ (by simp only [List.getD_cons_succ, List.getD_cons_zero]; rfl) ?_
    refine wpN_c (by rfl) (fun Kc hKc => ?_)
    refine wp_app2 _ _ _ rfl Tryz.underlying26 el42 rfl ho19.out _ _ _ rfl rB hrB.out.symm ib19.out ncC_len one_b.out (by simp only [List.length_nil, List.nil_append]; have := hrA.out; have := hrB.out; omega) hE19.out.size hqB.out (fun v20 y20 H20 => ?_)
    obtain ⟨ho20, hm20, hw20⟩ := H20.out
    clear H20
    have na20 := hid (na19.out.nfA hm20 hw20)
    have nb20 := hid (nb19.out.nfA hm20 hw20)
    have ra20 := hid (ra19.out.nfA hm20 hw20)
    have rb20 := hid (rb19.out.nfA hm20 hw20)
    have sp20 := hid (sp19.out.nfA hm20 hw20)
    have gl20 := hid (gl19.out.nfA hm20 hw20)
    have ia20 := hid (ia19.out.mod hm20 (fun b off e e' => nf_row na19.out b off e e'))
    have ib20 := hid (ib19.out.mod hm20 (fun b off e e' => nf_row nb19.out b off e e'))
    have hE20 := hid (Ext.grow hE19.out ho19.out hm20)
    have ob20 : ∀ k, v20.ownBlock = some k → k < y20.heap.size := fun k e => (ho20.block k e).2
    have ho20 := hid ho20
    clear hm20 hw20
    refine hKc.out _ _ trivial ?_
    clear hKc Kc
    try simp only [Act.put, List.setIfInBounds_toArray, List.set_cons_zero, List.set_cons_succ]
    refine wpTr_c1 _ (by simp only [List.getD_cons_succ, List.getD_cons_zero]; rfl) ?_
    refine wpN_c (by rfl) (fun Kc hKc => ?_)
    go_simp
    refine (spoil_any (F := NF (v20) y20) y20 none 0 0 [] bad (NodesAt.nil _ _) (fun k h => h.1) (by omega) hb1 hb2).mono ?_
    rintro e y21 ⟨v21, rfl, hs21, hm21⟩
    obtain ⟨na9, nn9, nc9, rfl⟩ := hs21.slice
    have nl21 := hid (hs21.mono (NF.or hm21 ob20))
    have na21 := hid (na20.out.nfE hm21)
    have nb21 := hid (nb20.out.nfE hm21)
    have ra21 := hid (ra20.out.nfE hm21)
    have rb21 := hid (rb20.out.nfE hm21)
    have ia21 := hid (ia20.out.ext hm21)
    have ib21 := hid (ib20.out.ext hm21)
    have sp21 := hid (sp20.out.nfE hm21)
    have gl21 := hid (gl20.out.nfE hm21)
    have hE21 := hid (hE20.out.trans hm21)
    have ho21 := hid (ho20.out.ext hm21)
    have ob21 : ∀ k, (v20).ownBlock = some k → k < y21.heap.size := fun k e => (ho21.out.block k e).2
    clear hs21 hm21
    refine hKc.out _ _ trivial ?_
    clear hKc Kc
    try simp only [Act.put, List.setIfInBounds_toArray, List.set_cons_zero, List.set_cons_succ]
    refine wpTr_q _ (by simp only [List.getD_cons_succ, List.getD_cons_zero]; rfl) (by rfl) ?_ (fun w' hC => ?_) ?_; rotate_left; (go_simp; try with_reducible rfl); try simp only [Act.put, List.setIfInBounds_toArray, List.set_cons_zero, List.set_cons_succ]
    refine wpTr_c1 _ (by simp only [List.getD_cons_succ, List.getD_cons_zero]; rfl) ?_
    refine wpN_c (by rfl) (fun Kc hKc => ?_)
    go_simp
    have hm22 := Mod.alloc (Mod.refl (fun _ => False) y21) (.cells #[.int .i64 4, .string ⟨#[]⟩, .string ⟨#[97]⟩, .string ⟨#[]⟩, .int .i64 0, .slice none 0 0, .slice none 0 0, .slice na9 nn9 nc9] 36)
    have if22 : NodesAt (Lo (y21.alloc (.cells #[.int .i64 4, .string ⟨#[]⟩, .string ⟨#[97]⟩, .string ⟨#[]⟩, .int .i64 0, .slice none 0 0, .slice none 0 0, .slice na9 nn9 nc9] 36))) (y21.alloc (.cells #[.int .i64 4, .string ⟨#[]⟩, .string ⟨#[97]⟩, .string ⟨#[]⟩, .int .i64 0, .slice none 0 0, .slice none 0 0, .slice na9 nn9 nc9] 36)) (.slice (some ⟨y21.heap.size, 0, none⟩) 1 1) [.mk 4 [] [97] [] 0 [] [] (spoilS [] bad)] := NodesAt.made (w := y21) [⟨4, [], [97], [], 0, .slice none 0 0, .slice none 0 0, .slice na9 nn9 nc9⟩] _ [.int .i64 4, .string ⟨#[]⟩, .string ⟨#[97]⟩, .string ⟨#[]⟩, .int .i64 0, .slice none 0 0, .slice none 0 0, .slice na9 nn9 nc9] 1 _ rfl rfl rfl (.cons _ _ _ _ (.mk _ [] [] (spoilS [] bad) (StrsAt.nil _ _) (NodesAt.nil _ _) (nl21.out.mono (fun k h => h.1))) .nil)
    generalize y21.heap.size = I22 at if22 ⊢
    generalize (y21.alloc (.cells #[.int .i64 4, .string ⟨#[]⟩, .string ⟨#[97]⟩, .string ⟨#[]⟩, .int .i64 0, .slice none 0 0, .slice none 0 0, .slice na9 nn9 nc9] 36)) = y22 at hm22 if22 ⊢
    have na22 := hid (na21.out.nfE hm22)
    have nb22 := hid (nb21.out.nfE hm22)
    have ra22 := hid (ra21.out.nfE hm22)
    have rb22 := hid (rb21.out.nfE hm22)
    have ia22 := hid (ia21.out.ext hm22)
    have ib22 := hid (ib21.out.ext hm22)
    have sp22 := hid (sp21.out.nfE hm22)
    have gl22 := hid (gl21.out.nfE hm22)
    have nl22 := hid (nl21.out.nfE hm22)
    have hE22 := hid (hE21.out.trans hm22)
    have ho22 := hid (ho21.out.ext hm22)
    have ob22 : ∀ k, (v20).ownBlock = some k → k < y22.heap.size := fun k e => (ho22.out.block k e).2
    replace if22 := hid if22
    clear hm22
    refine hKc.out _ _ trivial ?_
    clear hKc Kc
    try simp only [Act.put, List.setIfInBounds_toArray, List.set_cons_zero, List.set_cons_succ]
    refine wpTr_c1 _ (by simp only [List.getD_cons_succ, List.getD_cons_zero]; rfl) ?_
    refine wpN_c (by rfl) (fun Kc hKc => ?_)
    obtain ⟨oa, oc, rfl, -, -⟩ := ho22.out.row
    go_simp
    have hm23 := Mod.alloc (Mod.refl (fun _ => False) y22) (.cells #[.slice a2 n2 c2, .slice a3 n3 c3, .slice sa sn sc, .slice ga gn gc, .slice oa (rA.length + rB.length) oc, .slice (some ⟨I22, 0, none⟩) 1 1] 26)
    have hZ := heap_alloc_new y22 (.cells #[.slice a2 n2 c2, .slice a3 n3 c3, .slice sa sn sc, .slice ga gn gc, .slice oa (rA.length + rB.length) oc, .slice (some ⟨I22, 0, none⟩) 1 1] 26)
    generalize y22.heap.size = Z at hZ ⊢
    generalize (y22.alloc (.cells #[.slice a2 n2 c2, .slice a3 n3 c3, .slice sa sn sc, .slice ga gn gc, .slice oa (rA.length + rB.length) oc, .slice (some ⟨I22, 0, none⟩) 1 1] 26)) = y23 at hm23 hZ ⊢
    have hE23 := hid (hE22.out.trans hm23)
    have hAll : Hid (AllAt y23 Z L) := hid (by
      rw [hL.out]
      have ab := Own.nodes ho22.out ((ra22.out.mono (F' := Lo y22) (fun k h => h.1)).app (rb22.out.mono (fun k h => h.1))) (fun k h => h)
      rw [List.nil_append, List.length_append] at ab
      intro i hi
      match i, hi with
      | 0, _ => exact ⟨_, _, _, cell_of' hZ 0, NodesAt.up (na22.out.mono (F' := Lo y22) (fun k h => h.1)) hm23⟩
      | 1, _ => exact ⟨_, _, _, cell_of' hZ 1, NodesAt.up (nb22.out.mono (F' := Lo y22) (fun k h => h.1)) hm23⟩
      | 2, _ => exact ⟨_, _, _, cell_of' hZ 2, NodesAt.up (sp22.out.mono (F' := Lo y22) (fun k h => h.1)) hm23⟩
      | 3, _ => exact ⟨_, _, _, cell_of' hZ 3, NodesAt.up (gl22.out.mono (F' := Lo y22) (fun k h => h.1)) hm23⟩
      | 4, _ => exact ⟨_, _, _, cell_of' hZ 4, NodesAt.up ab hm23⟩
      | 5, _ => exact ⟨_, _, _, cell_of' hZ 5, NodesAt.up if22.out hm23⟩
      )
    replace hZ := hid hZ
    clear hm23
    refine hKc.out _ _ trivial ?_
    clear hKc Kc
    try simp only [Act.put, List.setIfInBounds_toArray, List.set_cons_zero, List.set_cons_succ]
    refine wpTr_q _ (by simp only [List.getD_cons_succ, List.getD_cons_zero]; rfl) (by rfl) ?_ (fun w' hC => ?_) ?_; rotate_left; (go_simp; try with_reducible rfl); try simp only [Act.put, List.setIfInBounds_toArray, List.set_cons_zero, List.set_cons_succ]
    refine wpTr_done ?_
    clear na22 nb22 ra22 rb22 ia22 ib22
    go_wp2_with fail
    go_loopg [44] 6 (fun g iv wr => ∃ j : Nat, j + g = 6 ∧ iv = .int .i64 j ∧ AllAt wr Z L ∧ Ext w wr)
    case atStart => exact ⟨0, by omega, rfl, hAll.out, hE23.out⟩
    case round =>
      clear hAll hE23
      obtain ⟨j, hj, rfl, hA, hxw⟩ := hrel
      by_cases hlt : j < 6
      rotate_left
      · obtain rfl : gk = 0 := by omega
        have hd1 : decide ((j : Int) < 6) = false := decide_eq_false (by omega)
        have hi1 : ¬ (j : Int) < 6 := by omega
        replace hA := hid hA
        replace hxw := hid hxw
        go_wp2_with fail
        rw [hpost.out]
        exact ⟨rfl, hxw.out⟩
      · obtain ⟨c, rfl⟩ : ∃ c, gk = c + 1 := ⟨gk - 1, by omega⟩
        have hd1 : decide ((j : Int) < 6) = true := decide_eq_true (by omega)
        have hi1 : (j : Int) < 6 := by omega
        have hi0 : (0 : Int) ≤ (j : Int) := by omega
        obtain ⟨pa, pn, pc, P, hcell, hnp, hsP, hbP⟩ := hA.get hLn.out hLb.out j hlt
        replace hsP := hid hsP
        have hP := hid (Print_pq _ P wr (hg.out.ext hxw) hnp (fun _ h => h) hsP.out)
        have hQ := hid (fun w1 (hx : Ext wr w1) => rPrint_any _ P w1 (hnp.up hx) hbP)
        replace hnp := hid hnp
        replace hbP := hid hbP
        replace hA := hid hA
        replace hxw := hid hxw
        obtain ⟨S, hS⟩ : ∃ S : ByteArray, S = ⟨(pq P).1.toArray⟩ := ⟨_, rfl⟩
        obtain ⟨E, hE⟩ : ∃ E : Int, E = (pq P).2 := ⟨_, rfl⟩
        rw [← hS, ← hE] at hP
        simp only [← hS, ← hE] at hQ
        have hSS : (S != S) = false := by simp
        have hEE : (E != E) = false := by simp
        clear hS hE
        go_wp2_with fail
        refine hP.out.mono ?_
        rintro e w4 ⟨rfl, hx4⟩
        have hQ4 := hid (hQ.out w4 hx4)
        replace hx4 := hid hx4
        clear hP hQ hcell
        go_wp2_with fail
        refine hQ4.out.mono ?_
        rintro e w5 ⟨rfl, hx5⟩
        have hx5 := hid (hx4.out.trans hx5)
        have hA5 := hid (hA.out.ext hx5.out)
        have hn5 := hid (hnp.out.up hx5.out)
        have hx5 := hid (hxw.out.trans hx5.out)
        clear hQ4 hx4 hA hnp hxw hd1 hi1 hi0
        go_wp2_with fail
        go_loopg [68] 6 (fun g iv wr => ∃ k : Nat, k + g = 6 ∧ iv = .int .i64 k ∧ AllAt wr Z L ∧ NodesAt (Lo wr) wr (.slice pa pn pc) P ∧ Ext w wr)
        case atStart => exact ⟨0, by omega, rfl, hA5.out, hn5.out, hx5.out⟩
        case round =>
          clear hA5 hn5 hx5
          obtain ⟨k, hk, rfl, hA, hnp, hxw⟩ := hrel
          by_cases hkt : k < 6
          rotate_left
          · obtain rfl : gk = 0 := by omega
            have hd1 : decide ((k : Int) < 6) = false := decide_eq_false (by omega)
            have hi1 : ¬ (k : Int) < 6 := by omega
            replace hA := hid hA
            replace hnp := hid hnp
            replace hxw := hid hxw
            go_wp2_with fail
            go_roundg c
            case measure => omega
            case rel => exact ⟨j + 1, by omega, by go_num, hA.out, hxw.out⟩
          · obtain ⟨d, rfl⟩ : ∃ d, gk = d + 1 := ⟨gk - 1, by omega⟩
            have hd1 : decide ((k : Int) < 6) = true := decide_eq_true (by omega)
            have hi1 : (k : Int) < 6 := by omega
            have hi0 : (0 : Int) ≤ (k : Int) := by omega
            obtain ⟨qa, qn, qc, Q, hcell, hnq, hsQ, hbQ⟩ := hA.get hLn.out hLb.out k hkt
            clear hbQ
            have hR := hid (Same_any _ _ P Q wr hnp hnq (fun _ h => h) hsP.out hsQ)
            have hT := hid (fun w1 (hx : Ext wr w1) => refSame_any _ _ P Q w1 (hnp.up hx) (hnq.up hx) (fun _ h => h) hsP.out hsQ)
            replace hA := hid hA
            replace hnp := hid hnp
            replace hxw := hid hxw
            clear hnq hsQ
            obtain ⟨B, hB⟩ : ∃ B : Bool, B = eqL P Q := ⟨_, rfl⟩
            rw [← hB] at hR
            simp only [← hB] at hT
            have hBB : (B != B) = false := by simp
            clear hB
            go_wp2_with fail
            refine hR.out.mono ?_
            rintro e w6 ⟨rfl, hx6⟩
            have hT6 := hid (hT.out w6 hx6)
            replace hx6 := hid hx6
            clear hR hT hcell
            go_wp2_with fail
            refine hT6.out.mono ?_
            rintro e w7 ⟨rfl, hx7⟩
            have hx7 := hid (hx6.out.trans hx7)
            have hA7 := hid (hA.out.ext hx7.out)
            have hn7 := hid (hnp.out.up hx7.out)
            have hx7 := hid (hxw.out.trans hx7.out)
            clear hT6 hx6 hA hnp hxw hd1 hi1 hi0
            go_wp2_with fail
            go_roundg d
            case measure => omega
            case rel => exact ⟨k + 1, by omega, by go_num, hA7.out, hn7.out, hx7.out⟩
end Go.Proofs.YtpgniljgaknlpaaGreatDoor
