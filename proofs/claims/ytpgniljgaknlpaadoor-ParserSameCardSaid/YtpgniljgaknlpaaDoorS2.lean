import Derived.Test.YtpgniljgaknlpaaDoorS1
import Derived.Test.YtpgniljgaknlpaaDoorK37
import Derived.Test.YtpgniljgaknlpaaDoorLibAll
/-
  The law of Same: the walk.
-/
namespace Go.Proofs.YtpgniljgaknlpaaDoor
open Go.RowKit Cdk Tpl

/-- 'make([]T, 0, n)', as an operation. -/
theorem wp_mk {α : Type} {P : Program} (f : α → List Value) {base : Nat} {e : TypeId} {z : Value} {size bytes : Nat} {w : World} {o : Oper} {a : Act} {K : Act → World → Prop} {Q : Exit → Act → World → Prop} (l c : Operand) (t : TypeId)
    (ho : o.op = Op.makeSlice t l c) (ht : P.underlying t = some (.slice e)) (el : El P e z size bytes) (n : Nat) (hl : a.eval l = .int .i64 0) (C : Int) (hc : a.eval c = .int .i64 C) (hC : C = (n : Int)) (hn : n ≤ 137438953472) (hbase : base ≤ w.heap.size)
    (hK : ∀ v w', Hid (Cdk.Own w' base e size f v ([] : List α) ∧ Ext w w') → K (a.put o.dst v) w') : o.wp P a w K Q := by
  obtain ⟨i0, hi, hz0, hz1, hz2⟩ := info_parts el.row
  obtain ⟨w', hrun, r1, r2⟩ := run_make_own (P := P) w base t e i0 z size ht hi hz0 hz1 .i64 .i64 n (by rw [hz2]; have := el.small; exact Nat.le_trans (Nat.mul_le_mul this hn) (by decide)) (Nat.le_trans hn (by decide)) hbase
  subst hC
  unfold Oper.wp
  simp [execOp, ho, hl, hc, hrun, Result.andThen]
  exact hK _ w' ⟨r1, Mod.ofGrown r2 (fun k hk => by cases hk)⟩

/-- What is small in a node of the feed's. -/
def smN (x : Nd) : Prop := x.text.length ≤ 20 ∧ x.name.length ≤ 20 ∧ x.arg.length ≤ 20 ∧ 0 ≤ x.count ∧ x.count ≤ 999999 ∧ x.kind ≤ 5
theorem pickL_len {L : List Bs} {i m : Nat} (h : ∀ x ∈ L, x.length ≤ m) : (L.getD i []).length ≤ m := by
  rw [List.getD_eq_getElem?_getD]
  cases hx : L[i]? with
  | none => simp
  | some x => exact h x (List.mem_of_getElem? hx)
theorem headS_sm (xs : List Int) (a : Nat) : smN (headS xs a).1 := by
  unfold headS
  have hT : ∀ i, (fTexts.getD i []).length ≤ 20 := fun i => pickL_len (by decide)
  have hN : ∀ i, (fNames.getD i []).length ≤ 20 := fun i => pickL_len (by decide)
  have hA : ∀ i, (fArgs.getD i []).length ≤ 20 := fun i => pickL_len (by decide)
  have hW : ∀ i, (wordS xs i).length ≤ 20 := fun i => by
    unfold wordS
    exact pickL_len (by decide)
  have hC : ∀ i, 0 ≤ fCounts.getD i 0 ∧ fCounts.getD i 0 ≤ 999999 := fun i => by
    rw [List.getD_eq_getElem?_getD]
    cases hx : fCounts[i]? with
    | none => simp
    | some x =>
      have : x ∈ fCounts := List.mem_of_getElem? hx
      simp only [fCounts, List.mem_cons, List.not_mem_nil, or_false] at this
      rcases this with rfl | rfl | rfl <;> simp
  split
  · exact ⟨hT _, by simp [Nd.name], by simp [Nd.arg], by simp [Nd.count], by simp [Nd.count], by simp [Nd.kind]⟩
  · split
    · exact ⟨by simp [Nd.text], hN _, by simp [Nd.arg], by simp [Nd.count], by simp [Nd.count], by simp [Nd.kind]⟩
    · split
      · exact ⟨by simp [Nd.text], hW _, hA _, (hC _).1, (hC _).2, by simp [Nd.kind]⟩
      · split
        · exact ⟨by simp [Nd.text], hW _, by simp [Nd.arg], by simp [Nd.count], by simp [Nd.count], by simp [Nd.kind]⟩
        · exact ⟨by simp [Nd.text], hW _, by simp [Nd.arg], by simp [Nd.count], by simp [Nd.count], by simp [Nd.kind]⟩
theorem setKids_sm {x : Nd} (h : smN x) (ks es : List Nd) : smN (setKids x ks es) := by
  cases x; exact h
theorem loopF_sm (xs : List Int) (rec : Nat → List Nd × Nat) (last : Bool) : ∀ (c a : Nat) (acc : List Nd), (∀ x ∈ acc, smN x) → ∀ x ∈ (loopF xs rec last c a acc).1, smN x
  | 0, _, _, h => h
  | c + 1, a, acc, h => by
    have hs := headS_sm xs a
    have app : ∀ y, smN y → ∀ x ∈ acc ++ [y], smN x := fun y hy x hx => by
      rcases List.mem_append.1 hx with h1 | h1
      · exact h x h1
      · rw [List.mem_singleton] at h1; rw [h1]; exact hy
    rw [loopF]
    split
    · exact loopF_sm xs rec last c _ _ h
    · split
      · exact loopF_sm xs rec last c _ _ (app _ (setKids_sm hs _ _))
      · split
        · exact loopF_sm xs rec last c _ _ (app _ (setKids_sm hs _ _))
        · exact loopF_sm xs rec last c _ _ (app _ hs)
theorem nodesS_sm (xs : List Int) : ∀ x ∈ nodesS xs, smN x := loopF_sm _ _ _ _ _ _ (fun _ h => by simp at h)

theorem eqL_set {l : List Nd} {j : Nat} {x y : Nd} (hx : l[j]? = some x) (hne : y ≠ x) : eqL l (l.set j y) = false ∧ eqL (l.set j y) l = false := by
  have hj : j < l.length := (List.getElem?_eq_some_iff.1 hx).1
  have key : l.set j y ≠ l := fun h => by
    have := congrArg (fun m => m[j]?) h
    simp only [List.getElem?_set_self hj] at this
    rw [hx] at this
    exact hne (Option.some.inj this)
  constructor
  · rw [Bool.eq_false_iff]; intro h; exact key ((eqL_iff _ _).1 h).symm
  · rw [Bool.eq_false_iff]; intro h; exact key ((eqL_iff _ _).1 h)
theorem eqL_app {l m : List Nd} (h : 0 < m.length) : eqL l (l ++ m) = false := by
  rw [Bool.eq_false_iff]; intro h1
  have := congrArg List.length ((eqL_iff _ _).1 h1)
  rw [List.length_append] at this; omega
theorem spoil_ne (l : List Nd) (n : Int) : spoilS l n ≠ l := fun h => by
  have := congrArg List.length h
  unfold spoilS at this
  rw [List.length_append, List.length_singleton] at this; omega

theorem badN_sz (n : Int) : szN (badN.getD (pickS n 26) (.mk 0 [] [] [] 0 [] [] [])) ≤ 100 := by
  have h := pickS_lt n (n := 26) (by omega)
  generalize pickS n 26 = i at h
  have key : ∀ i : Nat, i < 26 → szN (badN.getD i (.mk 0 [] [] [] 0 [] [] [])) ≤ 100 := by decide +kernel
  exact key i h
theorem spoil_sz (l : List Nd) (n : Int) : szL (spoilS l n) ≤ szL l + 100 := by
  have := badN_sz n
  unfold spoilS
  rw [szL_app]
  simp only [szL]
  omega
theorem szL_set : ∀ {l : List Nd} {j : Nat} {x : Nd} (y : Nd), l[j]? = some x → szL (l.set j y) + szN x = szL l + szN y
  | [], j, x, y, h => by simp at h
  | a :: r, 0, x, y, h => by
    simp only [List.getElem?_cons_zero, Option.some.injEq] at h
    subst h
    simp only [List.set_cons_zero, szL]; omega
  | a :: r, j + 1, x, y, h => by
    simp only [List.getElem?_cons_succ] at h
    have := szL_set (l := r) y h
    simp only [List.set_cons_succ, szL]; omega
theorem nodesS_sz2 (xs : List Int) : szL (nodesS xs) ≤ 900000000 := by
  have := (flistS_bd xs 8 0).2.2
  have h : sizeF 8 ≤ 900000000 := by decide
  unfold nodesS
  omega

theorem NodeAt.partsS {F : Nat → Prop} {w : World} {c : NC} {n : Nd} (h : NodeAt F w c n) : ∃ fl ks es, n = .mk c.kd c.tx c.nm c.ar c.ct fl ks es ∧ StrsAt F w c.fl fl ∧ NodesAt F w c.ks ks ∧ NodesAt F w c.es es := by
  cases h with
  | mk _ fl ks es h1 h2 h3 => exact ⟨fl, ks, es, rfl, h1, h2, h3⟩

/-- The node at j of an own list is another. -/
theorem Acc.set {R g cap j : Nat} {wk w' : World} {rows : List NC} {l : List Nd} {c c' : NC} {nd' : Nd} (h : Acc R wk (.slice (some ⟨g, 0, none⟩) rows.length cap) rows l) (f : Nat) (u : Value) (hw : w' = wk.setCell ⟨g, j * 8 + f, none⟩ u) (hc : rows[j]? = some c) (hf : f < 8) (hy : ncC c' = (ncC c).set f u)
    (hn : NodeAt (fun k => k ≠ g ∧ k < wk.heap.size) wk c' nd') : NodesAt (Lo w') w' (.slice (some ⟨g, 0, none⟩) rows.length cap) (l.set j nd') := by
  subst hw
  have ho := Own.put (g := g) (u := u) h.own ncC_len rfl hc hf hy
  have hm : Mod (Eq g) wk (wk.setCell ⟨g, j * 8 + f, none⟩ u) := (Mod.refl (Eq g) wk).setCell (fun _ => rfl) u
  have hsz : (wk.setCell ⟨g, j * 8 + f, none⟩ u).heap.size = wk.heap.size := by simp [World.setCell]
  have hr := (h.at_.mod hm (fun k hk e => hk.2.2 (by have : g = k := e; rw [this]; rfl))).mono (F' := fun k => k < wk.heap.size) (fun k hk => hk.2.1)
  have hn2 := (hn.mod hm (fun k hk e => hk.1 (by have : g = k := e; exact this.symm))).mono (F' := fun k => k < wk.heap.size) (fun k hk => hk.2)
  exact Own.nodes ho (hr.set hn2) (fun k hk => by rw [hsz]; exact hk)


set_option maxRecDepth 100000 in
set_option maxHeartbeats 16000000 in
theorem SameLaw_any (xs : List Int) (ao : Option Addr) (cap : Nat) (which field : Int) (w : World) (hg : Gl w) (hrow : RowIs w ao (xs.flatMap intC)) (hv : ∀ z ∈ xs, -9223372036854775808 ≤ z ∧ z ≤ 9223372036854775807) (hl : xs.length ≤ 9223372036854775807)
    (hw1 : -9223372036854775808 ≤ which) (hw2 : which ≤ 9223372036854775807) (hf1 : -9223372036854775808 ≤ field) (hf2 : field ≤ 9223372036854775807) :
    Calls Tryd.prog 6 #[.slice ao xs.length cap, .int .i64 which, .int .i64 field] w fun e w' => e = .returned (.bool true) ∧ Ext w w' := by
  obtain ⟨post, hpost⟩ : ∃ post : Ending → World → Prop, post = fun e w' => e = .returned (.bool true) ∧ Ext w w' := ⟨_, rfl⟩
  rw [← hpost]
  have hsane := hid (sane_any w hg)
  have hN := hid (fun w (h : RowIs w ao (xs.flatMap intC)) => Nodes_any xs ao cap w h hv hl)
  have hsz := nodesS_sz2 xs
  have hsm := nodesS_sm xs
  obtain ⟨l, hll⟩ : ∃ l, l = nodesS xs := ⟨_, rfl⟩
  rw [← hll] at hN hsz hsm
  obtain ⟨n, hn⟩ : ∃ n, n = xs.length := ⟨_, rfl⟩
  rw [← hn] at hN hl ⊢
  clear hll hv
  have heq : eqL l l = true := (eqL_iff l l).2 rfl
  replace heq := hid heq
  replace hsm := hid hsm
  replace hsz := hid hsz
  replace hn := hid hn
  replace hpost := hid hpost
  replace hg := hid hg
  replace hrow := hid hrow
  go_enter Tryd.func6, Tryd.ntmps6
  go_wp2_with fail
  refine hsane.out.mono ?_
  rintro e w1 ⟨rfl, hx1⟩
  clear hsane
  replace hx1 := hid hx1
  go_wp2_with fail
  refine (hN.out w1 (hrow.out.ext hx1.out)).mono ?_
  rintro e w2 ⟨a2, n2, c2, rfl, hn2, hx2, -⟩
  have hxw := hid (hx1.out.trans hx2)
  have hn2 := hid (hn2.mono (F' := Lo w2) (fun k hk => hk.2))
  clear hx1 hx2
  go_wp2_with fail
  refine (hN.out w2 (hrow.out.ext hxw.out)).mono ?_
  rintro e w3 ⟨a3, n3, c3, rfl, hn3, hx3, rows, R, rfl, hR, hacc⟩
  have hn2 := hid (hn2.out.mod hx3 (fun _ _ h => h))
  have hn3 := hid (hn3.mono (F' := Lo w3) (fun k hk => hk.2))
  have hxw2 := hxw
  have hxw := hid (hxw.out.trans hx3)
  have hs23 := hx3.size
  replace hacc := hid hacc
  clear hN hx3 hrow
  have hS := hid (Same_ok (F := Lo w3) _ _ l l w3 (r := true) heq.out (hn2.out.mono (fun k hk => Nat.lt_of_lt_of_le hk hs23)) hn3.out (fun _ h => h) (by have := hsz.out; omega) (by have := hsz.out; omega))
  go_wp2_with fail
  refine hS.out.mono ?_
  rintro e w4 ⟨rfl, hx4⟩
  have hn2 := hid (hn2.out.mod hx4 (fun _ _ h => h))
  have hn3 := hid (hn3.out.up hx4)
  have hacc := hid (hacc.out.mod hx4 (fun _ h => h.elim))
  have hs34 := hx4.size
  have hxw := hid (hxw.out.trans hx4)
  have hS := hid (Same_ok (F := Lo w4) _ _ l l w4 (r := true) heq.out hn3.out (hn2.out.mono (fun k hk => Nat.lt_of_lt_of_le hk (Nat.le_trans hs23 hs34))) (fun _ h => h) (by have := hsz.out; omega) (by have := hsz.out; omega))
  clear hx4
  go_wp2_with fail
  refine hS.out.mono ?_
  rintro e w5 ⟨rfl, hx5⟩
  clear hS
  go_wp2_with fail
  have hxE := hx5.alloc (.cells #[] 42)
  have hnE : NodesAt (Lo (w5.alloc (.cells #[] 42))) (w5.alloc (.cells #[] 42)) (.slice (some ⟨w5.heap.size, 0, none⟩) 0 0) [] := .mk _ 0 [] [] (fun j u hu => by simp at hu) (fun b off e => by injection e with e; injection e with e _ _; subst e; show w5.heap.size < _; rw [World.size_alloc]; omega) .nil (.some _ _)
  have hS := Same_ok (F := Lo (w5.alloc (.cells #[] 42))) (.slice none 0 0) _ [] [] _ (r := true) rfl (NodesAt.nil _ _) hnE (fun _ h => h) (by decide) (by decide)
  refine hS.mono ?_
  rintro e w6 ⟨rfl, hx6⟩
  have hx6 := hxE.trans hx6
  have hn2 := hid (hn2.out.mod hx6 (fun _ _ h => h))
  have hn3 := hid (hn3.out.up hx6)
  have hacc := hid (hacc.out.mod hx6 (fun _ h => h.elim))
  have hs26 := Nat.le_trans (Nat.le_trans hs23 hs34) hx6.size
  have hxw := hid (hxw.out.trans hx6)
  clear hS hx5 hxE hnE hx6 hs23 hs34
  have hcount := hn3.out.count
  by_cases h0 : rows.length = 0
  · have d1 : ((rows.length : Int) == 0) = true := by rw [beq_iff_eq]; omega
    have hsp := hid (spoil_any (F := Lo w2) w6 a2 n2 c2 l which hn2.out (fun k hk => Nat.lt_of_lt_of_le hk hs26) (by have := hn2.out.count; omega) hw1 hw2)
    go_wp2_with fail
    refine hsp.out.mono ?_
    rintro e w7 ⟨v, rfl, hnv, hx7⟩
    obtain ⟨av, nv, cv, rfl⟩ := hnv.slice
    have hn2 := hn2.out.mod hx7 (fun _ _ h => h)
    have hne : eqL l (spoilS l which) = false := eqL_app (by simp)
    have hS := hid (Same_ok (F := Lo w7) _ _ l (spoilS l which) w7 (r := false) hne (hn2.mono (fun k hk => Nat.lt_of_lt_of_le hk (Nat.le_trans hs26 hx7.size))) (hnv.mono (fun k hk => hk.elim (fun h => Nat.lt_of_lt_of_le h (Nat.le_trans hs26 hx7.size)) (fun h => h.2))) (fun _ h => h) (by have := hsz.out; omega) (by have := spoil_sz l which; have := hsz.out; omega))
    have hxw := hid (hxw.out.trans hx7)
    clear hsp hnv hx7 hn2 hne
    go_wp2_with fail
    refine hS.out.mono ?_
    rintro e w8 ⟨rfl, hx8⟩
    have hxw := hid (hxw.out.trans hx8)
    clear hS hx8
    go_wp2_with fail
    rw [hpost.out]
    exact ⟨rfl, hxw.out⟩
  · have d1 : ((rows.length : Int) == 0) = false := by rw [beq_eq_false_iff_ne]; omega
    have hrl : 0 < rows.length := by omega
    have hll := RowsAt.len hacc.out.at_
    obtain ⟨g, cap3, cur, ha3, hRg, hgh⟩ := Own.slice hacc.out.own hrl
    injection ha3 with ha3 _ hc3
    subst ha3; subst hc3
    have hrm : rows.length ≤ 1000000000 := by have := szL_len l; have := hsz.out; omega
    have hpk := hid (pick_any which rows.length w6 hw1 hw2 hrl (by omega))
    obtain ⟨j, hj⟩ : ∃ j, j = pickS which rows.length := ⟨_, rfl⟩
    have hjl := pickS_lt which (n := rows.length) hrl
    rw [← hj] at hpk hjl
    have j1 : (j : Int) < (rows.length : Int) := by omega
    have j0 : (0 : Int) ≤ (j : Int) := by omega
    have hpf := hid (pick_any field 8 w6 hf1 hf2 (by omega) (by omega))
    obtain ⟨q, hq⟩ : ∃ q, q = pickS field 8 := ⟨_, rfl⟩
    have hq8 := pickS_lt field (n := 8) (by omega)
    rw [← hq] at hpf hq8
    replace hj := hid hj
    replace hq := hid hq
    have hlj : l[j]? = some (l[j]'(by omega)) := List.getElem?_eq_getElem _
    have hrj : rows[j]? = some (rows[j]'(by omega)) := List.getElem?_eq_getElem _
    have hsj := hsm.out _ (List.mem_of_getElem? hlj)
    obtain ⟨_, hNj⟩ := RowsAt.get (j := j) (by omega) hacc.out.at_
    generalize l[j]'_ = nd at hlj hsj hNj
    have hcell := fun (f : Nat) (hf : f < 8) => Own.cell hacc.out.own (i := j) (j := f) hrj ncC_len hf
    generalize rows[j]'_ = c at hrj hNj hcell
    obtain ⟨kd, tx, nm, ar, ct, b1, m1, c1, b2, m2, c2', b3, m3, c3', rfl⟩ := hNj.form
    obtain ⟨fl, ks, es, rfl, hfl, hks, hes⟩ := hNj.partsS
    simp only [smN, Nd.text, Nd.name, Nd.arg, Nd.count, Nd.kind] at hsj
    obtain ⟨s1, s2, s3, s4, s5, s6⟩ := hsj
    have hF : ∀ k, (R ≤ k ∧ k < w6.heap.size ∧ (Value.slice (some ⟨g, 0, none⟩) rows.length c3).ownBlock ≠ some k) → k ≠ g ∧ k < w6.heap.size := fun k hk => ⟨fun e => hk.2.2 (by rw [e]; rfl), hk.2.1⟩
    replace hfl := hid (hfl.mono hF)
    replace hks := hid (hks.mono hF)
    replace hes := hid (hes.mono hF)
    have zg := free_of' hgh
    have hsj9 : szN (.mk kd tx nm ar ct fl ks es) ≤ szL l := by
      have := szL_drop (l := l) (j := j) (by omega)
      have e2 : l[j]'(by omega) = .mk kd tx nm ar ct fl ks es := by
        have := hlj; rw [List.getElem?_eq_getElem (by omega)] at this; exact Option.some.inj this
      rw [e2] at this
      have h3 : szL (l.drop j) ≤ szL l := by
        have h4 := szL_app (l.take j) (l.drop j)
        rw [List.take_append_drop] at h4; omega
      omega
    replace hlj := hid hlj
    replace hrj := hid hrj
    replace hsj9 := hid hsj9
    replace hNj := hid hNj
    replace hgh := hid hgh
    replace hF := hid hF
    replace hcell := hid hcell
    replace hll := hid hll
    replace hcount := hid hcount
    clear hrm
    go_wp2_with fail
    refine hpk.out.mono ?_
    rintro e w' ⟨rfl, rfl⟩
    clear hpk
    go_wp2_with fail
    refine hpf.out.mono ?_
    rintro e w' ⟨rfl, rfl⟩
    clear hpf
    have hqc : q = 0 ∨ q = 1 ∨ q = 2 ∨ q = 3 ∨ q = 4 ∨ q = 5 ∨ q = 6 ∨ q = 7 := by omega
    clear hq8
    rcases hqc with hqc | hqc | hqc | hqc | hqc | hqc | hqc | hqc
    · have q0 := hcell.out 0 (by omega)
      replace q0 : w6.cell? ⟨g, j * 8, none⟩ = some (.int .i64 kd) := q0.trans rfl
      skip
      subst hqc
      go_upto_region 24 with fail

      have hnz := Acc.set (w' := w6.setCell ⟨g, j * 8, none⟩ (.int .i64 ((kd : Int) + 1))) hacc.out 0 (.int .i64 ((kd : Int) + 1)) rfl hrj.out (by omega) (c' := ⟨kd + 1, tx, nm, ar, ct, .slice b1 m1 c1, .slice b2 m2 c2', .slice b3 m3 c3'⟩) (nd' := (.mk (kd + 1) tx nm ar ct fl ks es)) rfl (.mk ⟨kd + 1, tx, nm, ar, ct, .slice b1 m1 c1, .slice b2 m2 c2', .slice b3 m3 c3'⟩ fl ks es hfl.out hks.out hes.out)
      have hmz : Mod (Eq g) w6 (w6.setCell ⟨g, j * 8, none⟩ (.int .i64 ((kd : Int) + 1))) := (Mod.refl (Eq g) w6).setCell (fun _ => rfl) _
      generalize (w6.setCell ⟨g, j * 8, none⟩ (.int .i64 ((kd : Int) + 1))) = wz at hnz hmz ⊢

      have hne := eqL_set hlj.out (y := (.mk (kd + 1) tx nm ar ct fl ks es)) (fun h => by injection h; omega)
      have hszz := szL_set (.mk (kd + 1) tx nm ar ct fl ks es) hlj.out
      have hxz : Ext w wz := ((hxw.out.mono (T := fun k => w.heap.size ≤ k) (fun _ h => h.elim)).trans (hmz.mono (fun k e => by have : g = k := e; have := hxw2.out.size; omega))).mono' (fun k hk e => by omega)
      have hn2z := (hn2.out.mod hmz (fun k hk e => by have : g = k := e; have : k < w2.heap.size := hk; omega)).mono (F' := Lo wz) (fun k hk => Nat.lt_of_lt_of_le hk (Nat.le_trans hs26 hmz.size))
      have hbz : szL (l.set j (.mk (kd + 1) tx nm ar ct fl ks es)) ≤ 1000000000 := by
        simp only [szN] at hszz
        have := hsz.out
        omega
      have hA := Same_ok (F := Lo wz) _ _ l (l.set j (.mk (kd + 1) tx nm ar ct fl ks es)) wz (r := false) hne.1 hn2z hnz (fun _ h => h) (by have := hsz.out; omega) hbz
      replace hA := hid hA
      replace hxz := hid hxz
      replace hn2z := hid hn2z
      replace hnz := hid hnz
      replace hne := hid hne
      replace hbz := hid hbz
      clear hszz hmz
      go_wp2_with fail
      refine hA.out.mono ?_
      rintro e wy ⟨rfl, hxy⟩
      have hB := Same_ok (F := Lo wy) _ _ (l.set j (.mk (kd + 1) tx nm ar ct fl ks es)) l wy (r := false) hne.out.2 (hnz.out.up hxy) (hn2z.out.up hxy) (fun _ h => h) hbz.out (by have := hsz.out; omega)
      have hxy := hid (hxz.out.trans hxy)
      replace hB := hid hB
      clear hA
      go_wp2_with fail
      refine hB.out.mono ?_
      rintro e wx ⟨rfl, hxx⟩
      have hxx := hid (hxy.out.trans hxx)
      go_wp2_with fail
      rw [hpost.out]
      exact ⟨rfl, hxx.out⟩
    · have q0 := hcell.out 1 (by omega)
      replace q0 : w6.cell? ⟨g, j * 8 + 1, none⟩ = some (.string ⟨tx.toArray⟩) := q0.trans rfl
      have k1 : ¬ 9223372036854775807 < tx.length + 1 := by omega
      subst hqc
      go_upto_region 24 with fail
      have ebs : (⟨tx.toArray⟩ ++ ⟨#[120]⟩ : ByteArray) = ⟨(tx ++ [120]).toArray⟩ := ByteArray.ext (by simp)
      rw [ebs]
      clear ebs

      have hnz := Acc.set (w' := w6.setCell ⟨g, j * 8 + 1, none⟩ (.string ⟨(tx ++ [120]).toArray⟩)) hacc.out 1 (.string ⟨(tx ++ [120]).toArray⟩) rfl hrj.out (by omega) (c' := ⟨kd, tx ++ [120], nm, ar, ct, .slice b1 m1 c1, .slice b2 m2 c2', .slice b3 m3 c3'⟩) (nd' := (.mk kd (tx ++ [120]) nm ar ct fl ks es)) rfl (.mk ⟨kd, tx ++ [120], nm, ar, ct, .slice b1 m1 c1, .slice b2 m2 c2', .slice b3 m3 c3'⟩ fl ks es hfl.out hks.out hes.out)
      have hmz : Mod (Eq g) w6 (w6.setCell ⟨g, j * 8 + 1, none⟩ (.string ⟨(tx ++ [120]).toArray⟩)) := (Mod.refl (Eq g) w6).setCell (fun _ => rfl) _
      generalize (w6.setCell ⟨g, j * 8 + 1, none⟩ (.string ⟨(tx ++ [120]).toArray⟩)) = wz at hnz hmz ⊢

      have hne := eqL_set hlj.out (y := (.mk kd (tx ++ [120]) nm ar ct fl ks es)) (fun h => by injection h; rename_i h1 h2 h3 h4 h5 h6 h7 h8; have := congrArg List.length h2; rw [List.length_append, List.length_singleton] at this; omega)
      have hszz := szL_set (.mk kd (tx ++ [120]) nm ar ct fl ks es) hlj.out
      have hxz : Ext w wz := ((hxw.out.mono (T := fun k => w.heap.size ≤ k) (fun _ h => h.elim)).trans (hmz.mono (fun k e => by have : g = k := e; have := hxw2.out.size; omega))).mono' (fun k hk e => by omega)
      have hn2z := (hn2.out.mod hmz (fun k hk e => by have : g = k := e; have : k < w2.heap.size := hk; omega)).mono (F' := Lo wz) (fun k hk => Nat.lt_of_lt_of_le hk (Nat.le_trans hs26 hmz.size))
      have hbz : szL (l.set j (.mk kd (tx ++ [120]) nm ar ct fl ks es)) ≤ 1000000000 := by
        simp only [szN] at hszz
        have := hsz.out
        omega
      have hA := Same_ok (F := Lo wz) _ _ l (l.set j (.mk kd (tx ++ [120]) nm ar ct fl ks es)) wz (r := false) hne.1 hn2z hnz (fun _ h => h) (by have := hsz.out; omega) hbz
      replace hA := hid hA
      replace hxz := hid hxz
      replace hn2z := hid hn2z
      replace hnz := hid hnz
      replace hne := hid hne
      replace hbz := hid hbz
      clear hszz hmz
      go_wp2_with fail
      refine hA.out.mono ?_
      rintro e wy ⟨rfl, hxy⟩
      have hB := Same_ok (F := Lo wy) _ _ (l.set j (.mk kd (tx ++ [120]) nm ar ct fl ks es)) l wy (r := false) hne.out.2 (hnz.out.up hxy) (hn2z.out.up hxy) (fun _ h => h) hbz.out (by have := hsz.out; omega)
      have hxy := hid (hxz.out.trans hxy)
      replace hB := hid hB
      clear hA
      go_wp2_with fail
      refine hB.out.mono ?_
      rintro e wx ⟨rfl, hxx⟩
      have hxx := hid (hxy.out.trans hxx)
      go_wp2_with fail
      rw [hpost.out]
      exact ⟨rfl, hxx.out⟩
    · have q0 := hcell.out 2 (by omega)
      replace q0 : w6.cell? ⟨g, j * 8 + 2, none⟩ = some (.string ⟨nm.toArray⟩) := q0.trans rfl
      have k1 : ¬ 9223372036854775807 < nm.length + 1 := by omega
      subst hqc
      go_upto_region 24 with fail
      have ebs : (⟨nm.toArray⟩ ++ ⟨#[120]⟩ : ByteArray) = ⟨(nm ++ [120]).toArray⟩ := ByteArray.ext (by simp)
      rw [ebs]
      clear ebs

      have hnz := Acc.set (w' := w6.setCell ⟨g, j * 8 + 2, none⟩ (.string ⟨(nm ++ [120]).toArray⟩)) hacc.out 2 (.string ⟨(nm ++ [120]).toArray⟩) rfl hrj.out (by omega) (c' := ⟨kd, tx, nm ++ [120], ar, ct, .slice b1 m1 c1, .slice b2 m2 c2', .slice b3 m3 c3'⟩) (nd' := (.mk kd tx (nm ++ [120]) ar ct fl ks es)) rfl (.mk ⟨kd, tx, nm ++ [120], ar, ct, .slice b1 m1 c1, .slice b2 m2 c2', .slice b3 m3 c3'⟩ fl ks es hfl.out hks.out hes.out)
      have hmz : Mod (Eq g) w6 (w6.setCell ⟨g, j * 8 + 2, none⟩ (.string ⟨(nm ++ [120]).toArray⟩)) := (Mod.refl (Eq g) w6).setCell (fun _ => rfl) _
      generalize (w6.setCell ⟨g, j * 8 + 2, none⟩ (.string ⟨(nm ++ [120]).toArray⟩)) = wz at hnz hmz ⊢

      have hne := eqL_set hlj.out (y := (.mk kd tx (nm ++ [120]) ar ct fl ks es)) (fun h => by injection h; rename_i h1 h2 h3 h4 h5 h6 h7 h8; have := congrArg List.length h3; rw [List.length_append, List.length_singleton] at this; omega)
      have hszz := szL_set (.mk kd tx (nm ++ [120]) ar ct fl ks es) hlj.out
      have hxz : Ext w wz := ((hxw.out.mono (T := fun k => w.heap.size ≤ k) (fun _ h => h.elim)).trans (hmz.mono (fun k e => by have : g = k := e; have := hxw2.out.size; omega))).mono' (fun k hk e => by omega)
      have hn2z := (hn2.out.mod hmz (fun k hk e => by have : g = k := e; have : k < w2.heap.size := hk; omega)).mono (F' := Lo wz) (fun k hk => Nat.lt_of_lt_of_le hk (Nat.le_trans hs26 hmz.size))
      have hbz : szL (l.set j (.mk kd tx (nm ++ [120]) ar ct fl ks es)) ≤ 1000000000 := by
        simp only [szN] at hszz
        have := hsz.out
        omega
      have hA := Same_ok (F := Lo wz) _ _ l (l.set j (.mk kd tx (nm ++ [120]) ar ct fl ks es)) wz (r := false) hne.1 hn2z hnz (fun _ h => h) (by have := hsz.out; omega) hbz
      replace hA := hid hA
      replace hxz := hid hxz
      replace hn2z := hid hn2z
      replace hnz := hid hnz
      replace hne := hid hne
      replace hbz := hid hbz
      clear hszz hmz
      go_wp2_with fail
      refine hA.out.mono ?_
      rintro e wy ⟨rfl, hxy⟩
      have hB := Same_ok (F := Lo wy) _ _ (l.set j (.mk kd tx (nm ++ [120]) ar ct fl ks es)) l wy (r := false) hne.out.2 (hnz.out.up hxy) (hn2z.out.up hxy) (fun _ h => h) hbz.out (by have := hsz.out; omega)
      have hxy := hid (hxz.out.trans hxy)
      replace hB := hid hB
      clear hA
      go_wp2_with fail
      refine hB.out.mono ?_
      rintro e wx ⟨rfl, hxx⟩
      have hxx := hid (hxy.out.trans hxx)
      go_wp2_with fail
      rw [hpost.out]
      exact ⟨rfl, hxx.out⟩
    · have q0 := hcell.out 3 (by omega)
      replace q0 : w6.cell? ⟨g, j * 8 + 3, none⟩ = some (.string ⟨ar.toArray⟩) := q0.trans rfl
      have k1 : ¬ 9223372036854775807 < ar.length + 1 := by omega
      subst hqc
      go_upto_region 24 with fail
      have ebs : (⟨ar.toArray⟩ ++ ⟨#[120]⟩ : ByteArray) = ⟨(ar ++ [120]).toArray⟩ := ByteArray.ext (by simp)
      rw [ebs]
      clear ebs

      have hnz := Acc.set (w' := w6.setCell ⟨g, j * 8 + 3, none⟩ (.string ⟨(ar ++ [120]).toArray⟩)) hacc.out 3 (.string ⟨(ar ++ [120]).toArray⟩) rfl hrj.out (by omega) (c' := ⟨kd, tx, nm, ar ++ [120], ct, .slice b1 m1 c1, .slice b2 m2 c2', .slice b3 m3 c3'⟩) (nd' := (.mk kd tx nm (ar ++ [120]) ct fl ks es)) rfl (.mk ⟨kd, tx, nm, ar ++ [120], ct, .slice b1 m1 c1, .slice b2 m2 c2', .slice b3 m3 c3'⟩ fl ks es hfl.out hks.out hes.out)
      have hmz : Mod (Eq g) w6 (w6.setCell ⟨g, j * 8 + 3, none⟩ (.string ⟨(ar ++ [120]).toArray⟩)) := (Mod.refl (Eq g) w6).setCell (fun _ => rfl) _
      generalize (w6.setCell ⟨g, j * 8 + 3, none⟩ (.string ⟨(ar ++ [120]).toArray⟩)) = wz at hnz hmz ⊢

      have hne := eqL_set hlj.out (y := (.mk kd tx nm (ar ++ [120]) ct fl ks es)) (fun h => by injection h; rename_i h1 h2 h3 h4 h5 h6 h7 h8; have := congrArg List.length h4; rw [List.length_append, List.length_singleton] at this; omega)
      have hszz := szL_set (.mk kd tx nm (ar ++ [120]) ct fl ks es) hlj.out
      have hxz : Ext w wz := ((hxw.out.mono (T := fun k => w.heap.size ≤ k) (fun _ h => h.elim)).trans (hmz.mono (fun k e => by have : g = k := e; have := hxw2.out.size; omega))).mono' (fun k hk e => by omega)
      have hn2z := (hn2.out.mod hmz (fun k hk e => by have : g = k := e; have : k < w2.heap.size := hk; omega)).mono (F' := Lo wz) (fun k hk => Nat.lt_of_lt_of_le hk (Nat.le_trans hs26 hmz.size))
      have hbz : szL (l.set j (.mk kd tx nm (ar ++ [120]) ct fl ks es)) ≤ 1000000000 := by
        simp only [szN] at hszz
        have := hsz.out
        omega
      have hA := Same_ok (F := Lo wz) _ _ l (l.set j (.mk kd tx nm (ar ++ [120]) ct fl ks es)) wz (r := false) hne.1 hn2z hnz (fun _ h => h) (by have := hsz.out; omega) hbz
      replace hA := hid hA
      replace hxz := hid hxz
      replace hn2z := hid hn2z
      replace hnz := hid hnz
      replace hne := hid hne
      replace hbz := hid hbz
      clear hszz hmz
      go_wp2_with fail
      refine hA.out.mono ?_
      rintro e wy ⟨rfl, hxy⟩
      have hB := Same_ok (F := Lo wy) _ _ (l.set j (.mk kd tx nm (ar ++ [120]) ct fl ks es)) l wy (r := false) hne.out.2 (hnz.out.up hxy) (hn2z.out.up hxy) (fun _ h => h) hbz.out (by have := hsz.out; omega)
      have hxy := hid (hxz.out.trans hxy)
      replace hB := hid hB
      clear hA
      go_wp2_with fail
      refine hB.out.mono ?_
      rintro e wx ⟨rfl, hxx⟩
      have hxx := hid (hxy.out.trans hxx)
      go_wp2_with fail
      rw [hpost.out]
      exact ⟨rfl, hxx.out⟩
    · have q0 := hcell.out 4 (by omega)
      replace q0 : w6.cell? ⟨g, j * 8 + 4, none⟩ = some (.int .i64 ct) := q0.trans rfl
      skip
      subst hqc
      go_upto_region 24 with fail

      have hnz := Acc.set (w' := w6.setCell ⟨g, j * 8 + 4, none⟩ (.int .i64 (ct + 1))) hacc.out 4 (.int .i64 (ct + 1)) rfl hrj.out (by omega) (c' := ⟨kd, tx, nm, ar, ct + 1, .slice b1 m1 c1, .slice b2 m2 c2', .slice b3 m3 c3'⟩) (nd' := (.mk kd tx nm ar (ct + 1) fl ks es)) rfl (.mk ⟨kd, tx, nm, ar, ct + 1, .slice b1 m1 c1, .slice b2 m2 c2', .slice b3 m3 c3'⟩ fl ks es hfl.out hks.out hes.out)
      have hmz : Mod (Eq g) w6 (w6.setCell ⟨g, j * 8 + 4, none⟩ (.int .i64 (ct + 1))) := (Mod.refl (Eq g) w6).setCell (fun _ => rfl) _
      generalize (w6.setCell ⟨g, j * 8 + 4, none⟩ (.int .i64 (ct + 1))) = wz at hnz hmz ⊢

      have hne := eqL_set hlj.out (y := (.mk kd tx nm ar (ct + 1) fl ks es)) (fun h => by injection h; omega)
      have hszz := szL_set (.mk kd tx nm ar (ct + 1) fl ks es) hlj.out
      have hxz : Ext w wz := ((hxw.out.mono (T := fun k => w.heap.size ≤ k) (fun _ h => h.elim)).trans (hmz.mono (fun k e => by have : g = k := e; have := hxw2.out.size; omega))).mono' (fun k hk e => by omega)
      have hn2z := (hn2.out.mod hmz (fun k hk e => by have : g = k := e; have : k < w2.heap.size := hk; omega)).mono (F' := Lo wz) (fun k hk => Nat.lt_of_lt_of_le hk (Nat.le_trans hs26 hmz.size))
      have hbz : szL (l.set j (.mk kd tx nm ar (ct + 1) fl ks es)) ≤ 1000000000 := by
        simp only [szN] at hszz
        have := hsz.out
        omega
      have hA := Same_ok (F := Lo wz) _ _ l (l.set j (.mk kd tx nm ar (ct + 1) fl ks es)) wz (r := false) hne.1 hn2z hnz (fun _ h => h) (by have := hsz.out; omega) hbz
      replace hA := hid hA
      replace hxz := hid hxz
      replace hn2z := hid hn2z
      replace hnz := hid hnz
      replace hne := hid hne
      replace hbz := hid hbz
      clear hszz hmz
      go_wp2_with fail
      refine hA.out.mono ?_
      rintro e wy ⟨rfl, hxy⟩
      have hB := Same_ok (F := Lo wy) _ _ (l.set j (.mk kd tx nm ar (ct + 1) fl ks es)) l wy (r := false) hne.out.2 (hnz.out.up hxy) (hn2z.out.up hxy) (fun _ h => h) hbz.out (by have := hsz.out; omega)
      have hxy := hid (hxz.out.trans hxy)
      replace hB := hid hB
      clear hA
      go_wp2_with fail
      refine hB.out.mono ?_
      rintro e wx ⟨rfl, hxx⟩
      have hxx := hid (hxy.out.trans hxx)
      go_wp2_with fail
      rw [hpost.out]
      exact ⟨rfl, hxx.out⟩
    · have q0 := hcell.out 5 (by omega)
      replace q0 : w6.cell? ⟨g, j * 8 + 5, none⟩ = some (.slice b1 m1 c1) := q0.trans rfl
      have hflv := hfl.out
      obtain ⟨aof, cpf, hfe, hflr, -, hcapf⟩ := hflv
      injection hfe with hfe1 hfe2 hfe3
      subst hfe1; subst hfe3
      have hflc : Hid (fl.length = m1) := hid hfe2.symm
      have hfln : Hid (b1 = none → c1 = 0) := hid hcapf.1
      have hflo : Hid (∀ y ∈ fl, ∀ u ∈ strC y, u.oneCell' = true) := hid (fun y _ u hu => by simp [strC] at hu; subst hu; rfl)
      have hfs : fl.length ≤ 900000000 := by have := hsj9.out; simp only [szN] at this; have := hsz.out; omega
      replace hflr := hid hflr
      clear hfe2 hcapf
      have hE0 : Ext w6 w6.drew := Mod.drew0 _ _
      subst hqc
      go_upto_region 21 with fail
      refine wp_region_tree (.q 0 (.q 2 (.q 3 (.q 4 (.c3 1 (.c2 5 (.c2 6 (.c1 7 (.c1 8 (.q 9 (.q 10 (.c1 11 .done))))) 7 (.c1 6 (.c1 8 (.q 9 (.q 10 (.c1 11 .done)))))) 7 (.c1 5 (.c1 6 (.c1 8 (.q 9 (.q 10 (.c1 11 .done))))))) 5 (.c2 1 (.c2 6 (.c1 7 (.c1 8 (.q 9 (.q 10 (.c1 11 .done))))) 7 (.c1 6 (.c1 8 (.q 9 (.q 10 (.c1 11 .done)))))) 7 (.c1 1 (.c1 6 (.c1 8 (.q 9 (.q 10 (.c1 11 .done))))))) 7 (.c2 1 (.c1 5 (.c1 6 (.c1 8 (.q 9 (.q 10 (.c1 11 .done)))))) 5 (.c1 1 (.c1 6 (.c1 8 (.q 9 (.q 10 (.c1 11 .done)))))))))))) (by as_aux_lemma => kernel_rfl) (by as_aux_lemma => kernel_rfl) (by as_aux_lemma => kernel_rfl) (by decide) ?_
      generalize w6.drew = y0 at hE0 ⊢
      refine wpTr_q _ (by simp only [List.getD_cons_succ, List.getD_cons_zero]; rfl) (by rfl) ?_ (fun w' hC => ?_) ?_; rotate_left; (go_simp; try with_reducible rfl); try simp only [Act.put, List.setIfInBounds_toArray, List.set_cons_zero, List.set_cons_succ]
      refine wpTr_q _ (by simp only [List.getD_cons_succ, List.getD_cons_zero]; rfl) (by rfl) ?_ (fun w' hC => ?_) ?_; rotate_left; (go_simp; try with_reducible rfl); try simp only [Act.put, List.setIfInBounds_toArray, List.set_cons_zero, List.set_cons_succ]
      refine wpTr_q _ (by simp only [List.getD_cons_succ, List.getD_cons_zero]; rfl) (by rfl) ?_ (fun w' hC => ?_) ?_; rotate_left; (go_simp; try with_reducible rfl); try simp only [Act.put, List.setIfInBounds_toArray, List.set_cons_zero, List.set_cons_succ]
      refine wpTr_q _ (by simp only [List.getD_cons_succ, List.getD_cons_zero]; rfl) (by rfl) ?_ (fun w' hC => ?_) ?_; rotate_left; (go_simp; try with_reducible rfl); try simp only [Act.put, List.setIfInBounds_toArray, List.set_cons_zero, List.set_cons_succ]
      refine wpTr_c3 _ _ _ (by simp only [List.getD_cons_succ, List.getD_cons_zero]; rfl) (by simp only [List.getD_cons_succ, List.getD_cons_zero]; rfl) (by simp only [List.getD_cons_succ, List.getD_cons_zero]; rfl) ?_ ?_ ?_
      · refine wpN_c (by rfl) (fun Kc hKc => ?_)
        have hEs1 := hE0.size
        refine wp_mk strC _ _ _ rfl Tryd.underlying25 el9 9 rfl _ rfl rfl (by decide) (base := y0.heap.size) (Nat.le_refl _) (fun v1 y1 H1 => ?_)
        obtain ⟨hq1, hm1⟩ := H1.out
        clear H1
        have ho1 := hq1.weaken (base' := w6.heap.size) (by omega)
        have hE1 := hE0.trans hm1
        refine hKc.out _ _ trivial ?_
        clear hKc Kc
        try simp only [Act.put, List.setIfInBounds_toArray, List.set_cons_zero, List.set_cons_succ]
        refine wpTr_c2 _ _ (by simp only [List.getD_cons_succ, List.getD_cons_zero]; rfl) (by simp only [List.getD_cons_succ, List.getD_cons_zero]; rfl) ?_ ?_
        · refine wpN_c (by rfl) (fun Kc hKc => ?_)
          have q102 := hE1.cell q0 (fun h => h)
          go_simp
          refine hKc.out _ _ trivial ?_
          clear hKc Kc
          try simp only [Act.put, List.setIfInBounds_toArray, List.set_cons_zero, List.set_cons_succ]
          refine wpTr_c2 _ _ (by simp only [List.getD_cons_succ, List.getD_cons_zero]; rfl) (by simp only [List.getD_cons_succ, List.getD_cons_zero]; rfl) ?_ ?_
          · refine wpN_c (by rfl) (fun Kc hKc => ?_)
            refine wp_app _ _ _ rfl Tryd.underlying25 el9 rfl ho1 _ _ _ rfl fl hflc.out (hflr.out.ext hE1) strC_len hflo.out (by simp only [List.length_nil]; omega) (by have := hE1.size; omega) hfln.out (fun v3 y3 H3 => ?_)
            obtain ⟨ho3, hm3⟩ := H3.out
            clear H3
            have hE3 := Ext.grow hE1 ho1 hm3
            rw [List.nil_append] at ho3
            refine hKc.out _ _ trivial ?_
            clear hKc Kc
            try simp only [Act.put, List.setIfInBounds_toArray, List.set_cons_zero, List.set_cons_succ]
            refine wpTr_c1 _ (by simp only [List.getD_cons_succ, List.getD_cons_zero]; rfl) ?_
            refine wpN_c (by rfl) (fun Kc hKc => ?_)
            go_simp
            have hm4 := Mod.alloc (Mod.refl (fun _ => False) y3) (.cells #[.string ⟨#[120]⟩] 9)
            have hx4 : RowIs (y3.alloc (.cells #[.string ⟨#[120]⟩] 9)) (some ⟨y3.heap.size, 0, none⟩) (([[120]] : List Bs).flatMap strC) := RowIs.new y3 _ _
            have hss4 : (y3.alloc (.cells #[.string ⟨#[120]⟩] 9)).heap.size = y3.heap.size + 1 := World.size_alloc _ _
            generalize hX4 : y3.heap.size = X4 at hx4 hss4 ⊢
            generalize (y3.alloc (.cells #[.string ⟨#[120]⟩] 9)) = y4 at hm4 hx4 hss4 ⊢
            have hE4 := hE3.trans hm4
            have hne : ∀ b, v3.ownBlock = some b → b ≠ X4 := fun b e => by have := (ho3.block b e).2; omega
            have ho4 := ho3.ext hm4
            replace hX4 := hid hss4
            refine hKc.out _ _ trivial ?_
            clear hKc Kc
            try simp only [Act.put, List.setIfInBounds_toArray, List.set_cons_zero, List.set_cons_succ]
            refine wpTr_c1 _ (by simp only [List.getD_cons_succ, List.getD_cons_zero]; rfl) ?_
            refine wpN_c (by rfl) (fun Kc hKc => ?_)
            refine wp_app _ _ _ rfl Tryd.underlying25 el9 rfl ho4 _ 1 1 rfl [[120]] rfl hx4 strC_len (fun z hz u hu => by simp only [List.mem_singleton] at hz; subst hz; simp [strC] at hu; subst hu; rfl) (by simp only [List.length_singleton]; omega) (by have := hE4.size; omega) (by simp) (fun v5 y5 H5 => ?_)
            obtain ⟨ho5, hm5⟩ := H5.out
            clear H5
            have hE5 := Ext.grow hE4 ho4 hm5
            refine hKc.out _ _ trivial ?_
            clear hKc Kc
            try simp only [Act.put, List.setIfInBounds_toArray, List.set_cons_zero, List.set_cons_succ]
            refine wpTr_q _ (by simp only [List.getD_cons_succ, List.getD_cons_zero]; rfl) (by rfl) ?_ (fun w' hC => ?_) ?_; rotate_left; (go_simp; try with_reducible rfl); try simp only [Act.put, List.setIfInBounds_toArray, List.set_cons_zero, List.set_cons_succ]
            refine wpTr_q _ (by simp only [List.getD_cons_succ, List.getD_cons_zero]; rfl) (by rfl) ?_ (fun w' hC => ?_) ?_; rotate_left; (go_simp; try with_reducible rfl); try simp only [Act.put, List.setIfInBounds_toArray, List.set_cons_zero, List.set_cons_succ]
            obtain ⟨aoz, capz, rfl, hrz, hbz⟩ := ho5.row
            have hcz := Own.capOk ho5
            have hzst : StrsAt (fun k => k ≠ g ∧ k < y5.heap.size) y5 (.slice aoz (fl.length + 1) capz) (fl ++ [[120]]) := ⟨aoz, capz, by rw [List.length_append, List.length_singleton], hrz, fun b off e => ⟨by have := (ho5.block b (hbz b off e)).1; have := lt_of_at hgh.out; omega, (ho5.block b (hbz b off e)).2⟩, hcz⟩
            have hK9 : ∀ k, (k ≠ g ∧ k < w6.heap.size) → k ≠ g ∧ k < y5.heap.size := fun k hk => ⟨hk.1, Nat.lt_of_lt_of_le hk.2 hE5.size⟩
            have q9 := hE5.cell q0 (fun h => h)
            have z9 := free_of' (hE5.at hgh.out (fun h => h))
            have hacc9 := hid (hacc.out.mod hE5 (fun _ h => h.elim))
            have hN9 : Hid (NodeAt (fun k => k ≠ g ∧ k < y5.heap.size) y5 ⟨kd, tx, nm, ar, ct, .slice aoz (fl.length + 1) capz, .slice b2 m2 c2', .slice b3 m3 c3'⟩ (.mk kd tx nm ar ct (fl ++ [[120]]) ks es)) := hid (.mk ⟨kd, tx, nm, ar, ct, .slice aoz (fl.length + 1) capz, .slice b2 m2 c2', .slice b3 m3 c3'⟩ (fl ++ [[120]]) ks es hzst (hks.out.mod hE5 (fun _ _ h => h) |>.mono hK9) (hes.out.mod hE5 (fun _ _ h => h) |>.mono hK9))
            have hn29 := hid (hn2.out.mod hE5 (fun _ _ h => h))
            have hs269 := Nat.le_trans hs26 hE5.size
            have hxw9 := hid (hxw.out.trans hE5)
            replace hzst := hid hzst
            clear hrz hbz hcz
            refine wpTr_c1 _ (by simp only [List.getD_cons_succ, List.getD_cons_zero]; rfl) (wpN_c (by rfl) (fun Kc hKc => ?_))
            go_simp
            refine hKc.out _ _ trivial (wpTr_done ?_)
            clear hKc Kc
            go_upto_region 24 with fail

            have hnz := Acc.set (w' := y5.setCell ⟨g, j * 8 + 5, none⟩ (.slice aoz (fl.length + 1) capz)) hacc9.out 5 (.slice aoz (fl.length + 1) capz) rfl hrj.out (by omega) (c' := ⟨kd, tx, nm, ar, ct, .slice aoz (fl.length + 1) capz, .slice b2 m2 c2', .slice b3 m3 c3'⟩) (nd' := (.mk kd tx nm ar ct (fl ++ [[120]]) ks es)) rfl hN9.out
            have hmz : Mod (Eq g) y5 (y5.setCell ⟨g, j * 8 + 5, none⟩ (.slice aoz (fl.length + 1) capz)) := (Mod.refl (Eq g) y5).setCell (fun _ => rfl) _
            generalize (y5.setCell ⟨g, j * 8 + 5, none⟩ (.slice aoz (fl.length + 1) capz)) = wz at hnz hmz ⊢
            replace hxw := hxw9
            replace hn2 := hn29
            replace hs26 := hs269
            clear hxw9 hn29 hs269 hacc9 hN9 q9 z9

            have hne := eqL_set hlj.out (y := (.mk kd tx nm ar ct (fl ++ [[120]]) ks es)) (fun h => by injection h; rename_i h1 h2 h3 h4 h5 h6 h7 h8; have := congrArg List.length h6; rw [List.length_append, List.length_singleton] at this; omega)
            have hszz := szL_set (.mk kd tx nm ar ct (fl ++ [[120]]) ks es) hlj.out
            have hxz : Ext w wz := ((hxw.out.mono (T := fun k => w.heap.size ≤ k) (fun _ h => h.elim)).trans (hmz.mono (fun k e => by have : g = k := e; have := hxw2.out.size; omega))).mono' (fun k hk e => by omega)
            have hn2z := (hn2.out.mod hmz (fun k hk e => by have : g = k := e; have : k < w2.heap.size := hk; omega)).mono (F' := Lo wz) (fun k hk => Nat.lt_of_lt_of_le hk (Nat.le_trans hs26 hmz.size))
            have hbz : szL (l.set j (.mk kd tx nm ar ct (fl ++ [[120]]) ks es)) ≤ 1000000000 := by
              simp only [szN, List.length_append, List.length_singleton] at hszz
              have := hsz.out
              omega
            have hA := Same_ok (F := Lo wz) _ _ l (l.set j (.mk kd tx nm ar ct (fl ++ [[120]]) ks es)) wz (r := false) hne.1 hn2z hnz (fun _ h => h) (by have := hsz.out; omega) hbz
            replace hA := hid hA
            replace hxz := hid hxz
            replace hn2z := hid hn2z
            replace hnz := hid hnz
            replace hne := hid hne
            replace hbz := hid hbz
            clear hszz hmz
            go_wp2_with fail
            refine hA.out.mono ?_
            rintro e wy ⟨rfl, hxy⟩
            have hB := Same_ok (F := Lo wy) _ _ (l.set j (.mk kd tx nm ar ct (fl ++ [[120]]) ks es)) l wy (r := false) hne.out.2 (hnz.out.up hxy) (hn2z.out.up hxy) (fun _ h => h) hbz.out (by have := hsz.out; omega)
            have hxy := hid (hxz.out.trans hxy)
            replace hB := hid hB
            clear hA
            go_wp2_with fail
            refine hB.out.mono ?_
            rintro e wx ⟨rfl, hxx⟩
            have hxx := hid (hxy.out.trans hxx)
            go_wp2_with fail
            rw [hpost.out]
            exact ⟨rfl, hxx.out⟩
          · refine wpN_c (by rfl) (fun Kc hKc => ?_)
            go_simp
            have hm6 := Mod.alloc (Mod.refl (fun _ => False) y1) (.cells #[.string ⟨#[120]⟩] 9)
            have hx6 : RowIs (y1.alloc (.cells #[.string ⟨#[120]⟩] 9)) (some ⟨y1.heap.size, 0, none⟩) (([[120]] : List Bs).flatMap strC) := RowIs.new y1 _ _
            have hss6 : (y1.alloc (.cells #[.string ⟨#[120]⟩] 9)).heap.size = y1.heap.size + 1 := World.size_alloc _ _
            generalize hX6 : y1.heap.size = X6 at hx6 hss6 ⊢
            generalize (y1.alloc (.cells #[.string ⟨#[120]⟩] 9)) = y6 at hm6 hx6 hss6 ⊢
            have hE6 := hE1.trans hm6
            have hne : ∀ b, v1.ownBlock = some b → b ≠ X6 := fun b e => by have := (ho1.block b e).2; omega
            have ho6 := ho1.ext hm6
            replace hX6 := hid hss6
            refine hKc.out _ _ trivial ?_
            clear hKc Kc
            try simp only [Act.put, List.setIfInBounds_toArray, List.set_cons_zero, List.set_cons_succ]
            refine wpTr_c1 _ (by simp only [List.getD_cons_succ, List.getD_cons_zero]; rfl) ?_
            refine wpN_c (by rfl) (fun Kc hKc => ?_)
            refine wp_app _ _ _ rfl Tryd.underlying25 el9 rfl ho6 _ _ _ rfl fl hflc.out (hflr.out.ext hE6) strC_len hflo.out (by simp only [List.length_nil]; omega) (by have := hE6.size; omega) hfln.out (fun v7 y7 H7 => ?_)
            obtain ⟨ho7, hm7⟩ := H7.out
            clear H7
            have hE7 := Ext.grow hE6 ho6 hm7
            rw [List.nil_append] at ho7
            have hx7 := hx6.mod hm7 (fun b off e e' => by injection e with e; injection e with e _ _; exact hne b e' e.symm)
            refine hKc.out _ _ trivial ?_
            clear hKc Kc
            try simp only [Act.put, List.setIfInBounds_toArray, List.set_cons_zero, List.set_cons_succ]
            refine wpTr_c1 _ (by simp only [List.getD_cons_succ, List.getD_cons_zero]; rfl) ?_
            refine wpN_c (by rfl) (fun Kc hKc => ?_)
            refine wp_app _ _ _ rfl Tryd.underlying25 el9 rfl ho7 _ 1 1 rfl [[120]] rfl hx7 strC_len (fun z hz u hu => by simp only [List.mem_singleton] at hz; subst hz; simp [strC] at hu; subst hu; rfl) (by simp only [List.length_singleton]; omega) (by have := hE7.size; omega) (by simp) (fun v8 y8 H8 => ?_)
            obtain ⟨ho8, hm8⟩ := H8.out
            clear H8
            have hE8 := Ext.grow hE7 ho7 hm8
            refine hKc.out _ _ trivial ?_
            clear hKc Kc
            try simp only [Act.put, List.setIfInBounds_toArray, List.set_cons_zero, List.set_cons_succ]
            refine wpTr_q _ (by simp only [List.getD_cons_succ, List.getD_cons_zero]; rfl) (by rfl) ?_ (fun w' hC => ?_) ?_; rotate_left; (go_simp; try with_reducible rfl); try simp only [Act.put, List.setIfInBounds_toArray, List.set_cons_zero, List.set_cons_succ]
            refine wpTr_q _ (by simp only [List.getD_cons_succ, List.getD_cons_zero]; rfl) (by rfl) ?_ (fun w' hC => ?_) ?_; rotate_left; (go_simp; try with_reducible rfl); try simp only [Act.put, List.setIfInBounds_toArray, List.set_cons_zero, List.set_cons_succ]
            obtain ⟨aoz, capz, rfl, hrz, hbz⟩ := ho8.row
            have hcz := Own.capOk ho8
            have hzst : StrsAt (fun k => k ≠ g ∧ k < y8.heap.size) y8 (.slice aoz (fl.length + 1) capz) (fl ++ [[120]]) := ⟨aoz, capz, by rw [List.length_append, List.length_singleton], hrz, fun b off e => ⟨by have := (ho8.block b (hbz b off e)).1; have := lt_of_at hgh.out; omega, (ho8.block b (hbz b off e)).2⟩, hcz⟩
            have hK9 : ∀ k, (k ≠ g ∧ k < w6.heap.size) → k ≠ g ∧ k < y8.heap.size := fun k hk => ⟨hk.1, Nat.lt_of_lt_of_le hk.2 hE8.size⟩
            have q9 := hE8.cell q0 (fun h => h)
            have z9 := free_of' (hE8.at hgh.out (fun h => h))
            have hacc9 := hid (hacc.out.mod hE8 (fun _ h => h.elim))
            have hN9 : Hid (NodeAt (fun k => k ≠ g ∧ k < y8.heap.size) y8 ⟨kd, tx, nm, ar, ct, .slice aoz (fl.length + 1) capz, .slice b2 m2 c2', .slice b3 m3 c3'⟩ (.mk kd tx nm ar ct (fl ++ [[120]]) ks es)) := hid (.mk ⟨kd, tx, nm, ar, ct, .slice aoz (fl.length + 1) capz, .slice b2 m2 c2', .slice b3 m3 c3'⟩ (fl ++ [[120]]) ks es hzst (hks.out.mod hE8 (fun _ _ h => h) |>.mono hK9) (hes.out.mod hE8 (fun _ _ h => h) |>.mono hK9))
            have hn29 := hid (hn2.out.mod hE8 (fun _ _ h => h))
            have hs269 := Nat.le_trans hs26 hE8.size
            have hxw9 := hid (hxw.out.trans hE8)
            replace hzst := hid hzst
            clear hrz hbz hcz
            refine wpTr_c1 _ (by simp only [List.getD_cons_succ, List.getD_cons_zero]; rfl) (wpN_c (by rfl) (fun Kc hKc => ?_))
            go_simp
            refine hKc.out _ _ trivial (wpTr_done ?_)
            clear hKc Kc
            go_upto_region 24 with fail

            have hnz := Acc.set (w' := y8.setCell ⟨g, j * 8 + 5, none⟩ (.slice aoz (fl.length + 1) capz)) hacc9.out 5 (.slice aoz (fl.length + 1) capz) rfl hrj.out (by omega) (c' := ⟨kd, tx, nm, ar, ct, .slice aoz (fl.length + 1) capz, .slice b2 m2 c2', .slice b3 m3 c3'⟩) (nd' := (.mk kd tx nm ar ct (fl ++ [[120]]) ks es)) rfl hN9.out
            have hmz : Mod (Eq g) y8 (y8.setCell ⟨g, j * 8 + 5, none⟩ (.slice aoz (fl.length + 1) capz)) := (Mod.refl (Eq g) y8).setCell (fun _ => rfl) _
            generalize (y8.setCell ⟨g, j * 8 + 5, none⟩ (.slice aoz (fl.length + 1) capz)) = wz at hnz hmz ⊢
            replace hxw := hxw9
            replace hn2 := hn29
            replace hs26 := hs269
            clear hxw9 hn29 hs269 hacc9 hN9 q9 z9

            have hne := eqL_set hlj.out (y := (.mk kd tx nm ar ct (fl ++ [[120]]) ks es)) (fun h => by injection h; rename_i h1 h2 h3 h4 h5 h6 h7 h8; have := congrArg List.length h6; rw [List.length_append, List.length_singleton] at this; omega)
            have hszz := szL_set (.mk kd tx nm ar ct (fl ++ [[120]]) ks es) hlj.out
            have hxz : Ext w wz := ((hxw.out.mono (T := fun k => w.heap.size ≤ k) (fun _ h => h.elim)).trans (hmz.mono (fun k e => by have : g = k := e; have := hxw2.out.size; omega))).mono' (fun k hk e => by omega)
            have hn2z := (hn2.out.mod hmz (fun k hk e => by have : g = k := e; have : k < w2.heap.size := hk; omega)).mono (F' := Lo wz) (fun k hk => Nat.lt_of_lt_of_le hk (Nat.le_trans hs26 hmz.size))
            have hbz : szL (l.set j (.mk kd tx nm ar ct (fl ++ [[120]]) ks es)) ≤ 1000000000 := by
              simp only [szN, List.length_append, List.length_singleton] at hszz
              have := hsz.out
              omega
            have hA := Same_ok (F := Lo wz) _ _ l (l.set j (.mk kd tx nm ar ct (fl ++ [[120]]) ks es)) wz (r := false) hne.1 hn2z hnz (fun _ h => h) (by have := hsz.out; omega) hbz
            replace hA := hid hA
            replace hxz := hid hxz
            replace hn2z := hid hn2z
            replace hnz := hid hnz
            replace hne := hid hne
            replace hbz := hid hbz
            clear hszz hmz
            go_wp2_with fail
            refine hA.out.mono ?_
            rintro e wy ⟨rfl, hxy⟩
            have hB := Same_ok (F := Lo wy) _ _ (l.set j (.mk kd tx nm ar ct (fl ++ [[120]]) ks es)) l wy (r := false) hne.out.2 (hnz.out.up hxy) (hn2z.out.up hxy) (fun _ h => h) hbz.out (by have := hsz.out; omega)
            have hxy := hid (hxz.out.trans hxy)
            replace hB := hid hB
            clear hA
            go_wp2_with fail
            refine hB.out.mono ?_
            rintro e wx ⟨rfl, hxx⟩
            have hxx := hid (hxy.out.trans hxx)
            go_wp2_with fail
            rw [hpost.out]
            exact ⟨rfl, hxx.out⟩
        · refine wpN_c (by rfl) (fun Kc hKc => ?_)
          go_simp
          have hm9 := Mod.alloc (Mod.refl (fun _ => False) y1) (.cells #[.string ⟨#[120]⟩] 9)
          have hx9 : RowIs (y1.alloc (.cells #[.string ⟨#[120]⟩] 9)) (some ⟨y1.heap.size, 0, none⟩) (([[120]] : List Bs).flatMap strC) := RowIs.new y1 _ _
          have hss9 : (y1.alloc (.cells #[.string ⟨#[120]⟩] 9)).heap.size = y1.heap.size + 1 := World.size_alloc _ _
          generalize hX9 : y1.heap.size = X9 at hx9 hss9 ⊢
          generalize (y1.alloc (.cells #[.string ⟨#[120]⟩] 9)) = y9 at hm9 hx9 hss9 ⊢
          have hE9 := hE1.trans hm9
          have hne : ∀ b, v1.ownBlock = some b → b ≠ X9 := fun b e => by have := (ho1.block b e).2; omega
          have ho9 := ho1.ext hm9
          replace hX9 := hid hss9
          refine hKc.out _ _ trivial ?_
          clear hKc Kc
          try simp only [Act.put, List.setIfInBounds_toArray, List.set_cons_zero, List.set_cons_succ]
          refine wpTr_c1 _ (by simp only [List.getD_cons_succ, List.getD_cons_zero]; rfl) ?_
          refine wpN_c (by rfl) (fun Kc hKc => ?_)
          have q110 := hE9.cell q0 (fun h => h)
          go_simp
          refine hKc.out _ _ trivial ?_
          clear hKc Kc
          try simp only [Act.put, List.setIfInBounds_toArray, List.set_cons_zero, List.set_cons_succ]
          refine wpTr_c1 _ (by simp only [List.getD_cons_succ, List.getD_cons_zero]; rfl) ?_
          refine wpN_c (by rfl) (fun Kc hKc => ?_)
          refine wp_app _ _ _ rfl Tryd.underlying25 el9 rfl ho9 _ _ _ rfl fl hflc.out (hflr.out.ext hE9) strC_len hflo.out (by simp only [List.length_nil]; omega) (by have := hE9.size; omega) hfln.out (fun v11 y11 H11 => ?_)
          obtain ⟨ho11, hm11⟩ := H11.out
          clear H11
          have hE11 := Ext.grow hE9 ho9 hm11
          rw [List.nil_append] at ho11
          have hx11 := hx9.mod hm11 (fun b off e e' => by injection e with e; injection e with e _ _; exact hne b e' e.symm)
          refine hKc.out _ _ trivial ?_
          clear hKc Kc
          try simp only [Act.put, List.setIfInBounds_toArray, List.set_cons_zero, List.set_cons_succ]
          refine wpTr_c1 _ (by simp only [List.getD_cons_succ, List.getD_cons_zero]; rfl) ?_
          refine wpN_c (by rfl) (fun Kc hKc => ?_)
          refine wp_app _ _ _ rfl Tryd.underlying25 el9 rfl ho11 _ 1 1 rfl [[120]] rfl hx11 strC_len (fun z hz u hu => by simp only [List.mem_singleton] at hz; subst hz; simp [strC] at hu; subst hu; rfl) (by simp only [List.length_singleton]; omega) (by have := hE11.size; omega) (by simp) (fun v12 y12 H12 => ?_)
          obtain ⟨ho12, hm12⟩ := H12.out
          clear H12
          have hE12 := Ext.grow hE11 ho11 hm12
          refine hKc.out _ _ trivial ?_
          clear hKc Kc
          try simp only [Act.put, List.setIfInBounds_toArray, List.set_cons_zero, List.set_cons_succ]
          refine wpTr_q _ (by simp only [List.getD_cons_succ, List.getD_cons_zero]; rfl) (by rfl) ?_ (fun w' hC => ?_) ?_; rotate_left; (go_simp; try with_reducible rfl); try simp only [Act.put, List.setIfInBounds_toArray, List.set_cons_zero, List.set_cons_succ]
          refine wpTr_q _ (by simp only [List.getD_cons_succ, List.getD_cons_zero]; rfl) (by rfl) ?_ (fun w' hC => ?_) ?_; rotate_left; (go_simp; try with_reducible rfl); try simp only [Act.put, List.setIfInBounds_toArray, List.set_cons_zero, List.set_cons_succ]
          obtain ⟨aoz, capz, rfl, hrz, hbz⟩ := ho12.row
          have hcz := Own.capOk ho12
          have hzst : StrsAt (fun k => k ≠ g ∧ k < y12.heap.size) y12 (.slice aoz (fl.length + 1) capz) (fl ++ [[120]]) := ⟨aoz, capz, by rw [List.length_append, List.length_singleton], hrz, fun b off e => ⟨by have := (ho12.block b (hbz b off e)).1; have := lt_of_at hgh.out; omega, (ho12.block b (hbz b off e)).2⟩, hcz⟩
          have hK9 : ∀ k, (k ≠ g ∧ k < w6.heap.size) → k ≠ g ∧ k < y12.heap.size := fun k hk => ⟨hk.1, Nat.lt_of_lt_of_le hk.2 hE12.size⟩
          have q9 := hE12.cell q0 (fun h => h)
          have z9 := free_of' (hE12.at hgh.out (fun h => h))
          have hacc9 := hid (hacc.out.mod hE12 (fun _ h => h.elim))
          have hN9 : Hid (NodeAt (fun k => k ≠ g ∧ k < y12.heap.size) y12 ⟨kd, tx, nm, ar, ct, .slice aoz (fl.length + 1) capz, .slice b2 m2 c2', .slice b3 m3 c3'⟩ (.mk kd tx nm ar ct (fl ++ [[120]]) ks es)) := hid (.mk ⟨kd, tx, nm, ar, ct, .slice aoz (fl.length + 1) capz, .slice b2 m2 c2', .slice b3 m3 c3'⟩ (fl ++ [[120]]) ks es hzst (hks.out.mod hE12 (fun _ _ h => h) |>.mono hK9) (hes.out.mod hE12 (fun _ _ h => h) |>.mono hK9))
          have hn29 := hid (hn2.out.mod hE12 (fun _ _ h => h))
          have hs269 := Nat.le_trans hs26 hE12.size
          have hxw9 := hid (hxw.out.trans hE12)
          replace hzst := hid hzst
          clear hrz hbz hcz
          refine wpTr_c1 _ (by simp only [List.getD_cons_succ, List.getD_cons_zero]; rfl) (wpN_c (by rfl) (fun Kc hKc => ?_))
          go_simp
          refine hKc.out _ _ trivial (wpTr_done ?_)
          clear hKc Kc
          go_upto_region 24 with fail

          have hnz := Acc.set (w' := y12.setCell ⟨g, j * 8 + 5, none⟩ (.slice aoz (fl.length + 1) capz)) hacc9.out 5 (.slice aoz (fl.length + 1) capz) rfl hrj.out (by omega) (c' := ⟨kd, tx, nm, ar, ct, .slice aoz (fl.length + 1) capz, .slice b2 m2 c2', .slice b3 m3 c3'⟩) (nd' := (.mk kd tx nm ar ct (fl ++ [[120]]) ks es)) rfl hN9.out
          have hmz : Mod (Eq g) y12 (y12.setCell ⟨g, j * 8 + 5, none⟩ (.slice aoz (fl.length + 1) capz)) := (Mod.refl (Eq g) y12).setCell (fun _ => rfl) _
          generalize (y12.setCell ⟨g, j * 8 + 5, none⟩ (.slice aoz (fl.length + 1) capz)) = wz at hnz hmz ⊢
          replace hxw := hxw9
          replace hn2 := hn29
          replace hs26 := hs269
          clear hxw9 hn29 hs269 hacc9 hN9 q9 z9

          have hne := eqL_set hlj.out (y := (.mk kd tx nm ar ct (fl ++ [[120]]) ks es)) (fun h => by injection h; rename_i h1 h2 h3 h4 h5 h6 h7 h8; have := congrArg List.length h6; rw [List.length_append, List.length_singleton] at this; omega)
          have hszz := szL_set (.mk kd tx nm ar ct (fl ++ [[120]]) ks es) hlj.out
          have hxz : Ext w wz := ((hxw.out.mono (T := fun k => w.heap.size ≤ k) (fun _ h => h.elim)).trans (hmz.mono (fun k e => by have : g = k := e; have := hxw2.out.size; omega))).mono' (fun k hk e => by omega)
          have hn2z := (hn2.out.mod hmz (fun k hk e => by have : g = k := e; have : k < w2.heap.size := hk; omega)).mono (F' := Lo wz) (fun k hk => Nat.lt_of_lt_of_le hk (Nat.le_trans hs26 hmz.size))
          have hbz : szL (l.set j (.mk kd tx nm ar ct (fl ++ [[120]]) ks es)) ≤ 1000000000 := by
            simp only [szN, List.length_append, List.length_singleton] at hszz
            have := hsz.out
            omega
          have hA := Same_ok (F := Lo wz) _ _ l (l.set j (.mk kd tx nm ar ct (fl ++ [[120]]) ks es)) wz (r := false) hne.1 hn2z hnz (fun _ h => h) (by have := hsz.out; omega) hbz
          replace hA := hid hA
          replace hxz := hid hxz
          replace hn2z := hid hn2z
          replace hnz := hid hnz
          replace hne := hid hne
          replace hbz := hid hbz
          clear hszz hmz
          go_wp2_with fail
          refine hA.out.mono ?_
          rintro e wy ⟨rfl, hxy⟩
          have hB := Same_ok (F := Lo wy) _ _ (l.set j (.mk kd tx nm ar ct (fl ++ [[120]]) ks es)) l wy (r := false) hne.out.2 (hnz.out.up hxy) (hn2z.out.up hxy) (fun _ h => h) hbz.out (by have := hsz.out; omega)
          have hxy := hid (hxz.out.trans hxy)
          replace hB := hid hB
          clear hA
          go_wp2_with fail
          refine hB.out.mono ?_
          rintro e wx ⟨rfl, hxx⟩
          have hxx := hid (hxy.out.trans hxx)
          go_wp2_with fail
          rw [hpost.out]
          exact ⟨rfl, hxx.out⟩
      · refine wpN_c (by rfl) (fun Kc hKc => ?_)
        have q113 := hE0.cell q0 (fun h => h)
        go_simp
        refine hKc.out _ _ trivial ?_
        clear hKc Kc
        try simp only [Act.put, List.setIfInBounds_toArray, List.set_cons_zero, List.set_cons_succ]
        refine wpTr_c2 _ _ (by simp only [List.getD_cons_succ, List.getD_cons_zero]; rfl) (by simp only [List.getD_cons_succ, List.getD_cons_zero]; rfl) ?_ ?_
        · refine wpN_c (by rfl) (fun Kc hKc => ?_)
          have hEs14 := hE0.size
          refine wp_mk strC _ _ _ rfl Tryd.underlying25 el9 9 rfl _ rfl rfl (by decide) (base := y0.heap.size) (Nat.le_refl _) (fun v14 y14 H14 => ?_)
          obtain ⟨hq14, hm14⟩ := H14.out
          clear H14
          have ho14 := hq14.weaken (base' := w6.heap.size) (by omega)
          have hE14 := hE0.trans hm14
          refine hKc.out _ _ trivial ?_
          clear hKc Kc
          try simp only [Act.put, List.setIfInBounds_toArray, List.set_cons_zero, List.set_cons_succ]
          refine wpTr_c2 _ _ (by simp only [List.getD_cons_succ, List.getD_cons_zero]; rfl) (by simp only [List.getD_cons_succ, List.getD_cons_zero]; rfl) ?_ ?_
          · refine wpN_c (by rfl) (fun Kc hKc => ?_)
            refine wp_app _ _ _ rfl Tryd.underlying25 el9 rfl ho14 _ _ _ rfl fl hflc.out (hflr.out.ext hE14) strC_len hflo.out (by simp only [List.length_nil]; omega) (by have := hE14.size; omega) hfln.out (fun v15 y15 H15 => ?_)
            obtain ⟨ho15, hm15⟩ := H15.out
            clear H15
            have hE15 := Ext.grow hE14 ho14 hm15
            rw [List.nil_append] at ho15
            refine hKc.out _ _ trivial ?_
            clear hKc Kc
            try simp only [Act.put, List.setIfInBounds_toArray, List.set_cons_zero, List.set_cons_succ]
            refine wpTr_c1 _ (by simp only [List.getD_cons_succ, List.getD_cons_zero]; rfl) ?_
            refine wpN_c (by rfl) (fun Kc hKc => ?_)
            go_simp
            have hm16 := Mod.alloc (Mod.refl (fun _ => False) y15) (.cells #[.string ⟨#[120]⟩] 9)
            have hx16 : RowIs (y15.alloc (.cells #[.string ⟨#[120]⟩] 9)) (some ⟨y15.heap.size, 0, none⟩) (([[120]] : List Bs).flatMap strC) := RowIs.new y15 _ _
            have hss16 : (y15.alloc (.cells #[.string ⟨#[120]⟩] 9)).heap.size = y15.heap.size + 1 := World.size_alloc _ _
            generalize hX16 : y15.heap.size = X16 at hx16 hss16 ⊢
            generalize (y15.alloc (.cells #[.string ⟨#[120]⟩] 9)) = y16 at hm16 hx16 hss16 ⊢
            have hE16 := hE15.trans hm16
            have hne : ∀ b, v15.ownBlock = some b → b ≠ X16 := fun b e => by have := (ho15.block b e).2; omega
            have ho16 := ho15.ext hm16
            replace hX16 := hid hss16
            refine hKc.out _ _ trivial ?_
            clear hKc Kc
            try simp only [Act.put, List.setIfInBounds_toArray, List.set_cons_zero, List.set_cons_succ]
            refine wpTr_c1 _ (by simp only [List.getD_cons_succ, List.getD_cons_zero]; rfl) ?_
            refine wpN_c (by rfl) (fun Kc hKc => ?_)
            refine wp_app _ _ _ rfl Tryd.underlying25 el9 rfl ho16 _ 1 1 rfl [[120]] rfl hx16 strC_len (fun z hz u hu => by simp only [List.mem_singleton] at hz; subst hz; simp [strC] at hu; subst hu; rfl) (by simp only [List.length_singleton]; omega) (by have := hE16.size; omega) (by simp) (fun v17 y17 H17 => ?_)
            obtain ⟨ho17, hm17⟩ := H17.out
            clear H17
            have hE17 := Ext.grow hE16 ho16 hm17
            refine hKc.out _ _ trivial ?_
            clear hKc Kc
            try simp only [Act.put, List.setIfInBounds_toArray, List.set_cons_zero, List.set_cons_succ]
            refine wpTr_q _ (by simp only [List.getD_cons_succ, List.getD_cons_zero]; rfl) (by rfl) ?_ (fun w' hC => ?_) ?_; rotate_left; (go_simp; try with_reducible rfl); try simp only [Act.put, List.setIfInBounds_toArray, List.set_cons_zero, List.set_cons_succ]
            refine wpTr_q _ (by simp only [List.getD_cons_succ, List.getD_cons_zero]; rfl) (by rfl) ?_ (fun w' hC => ?_) ?_; rotate_left; (go_simp; try with_reducible rfl); try simp only [Act.put, List.setIfInBounds_toArray, List.set_cons_zero, List.set_cons_succ]
            obtain ⟨aoz, capz, rfl, hrz, hbz⟩ := ho17.row
            have hcz := Own.capOk ho17
            have hzst : StrsAt (fun k => k ≠ g ∧ k < y17.heap.size) y17 (.slice aoz (fl.length + 1) capz) (fl ++ [[120]]) := ⟨aoz, capz, by rw [List.length_append, List.length_singleton], hrz, fun b off e => ⟨by have := (ho17.block b (hbz b off e)).1; have := lt_of_at hgh.out; omega, (ho17.block b (hbz b off e)).2⟩, hcz⟩
            have hK9 : ∀ k, (k ≠ g ∧ k < w6.heap.size) → k ≠ g ∧ k < y17.heap.size := fun k hk => ⟨hk.1, Nat.lt_of_lt_of_le hk.2 hE17.size⟩
            have q9 := hE17.cell q0 (fun h => h)
            have z9 := free_of' (hE17.at hgh.out (fun h => h))
            have hacc9 := hid (hacc.out.mod hE17 (fun _ h => h.elim))
            have hN9 : Hid (NodeAt (fun k => k ≠ g ∧ k < y17.heap.size) y17 ⟨kd, tx, nm, ar, ct, .slice aoz (fl.length + 1) capz, .slice b2 m2 c2', .slice b3 m3 c3'⟩ (.mk kd tx nm ar ct (fl ++ [[120]]) ks es)) := hid (.mk ⟨kd, tx, nm, ar, ct, .slice aoz (fl.length + 1) capz, .slice b2 m2 c2', .slice b3 m3 c3'⟩ (fl ++ [[120]]) ks es hzst (hks.out.mod hE17 (fun _ _ h => h) |>.mono hK9) (hes.out.mod hE17 (fun _ _ h => h) |>.mono hK9))
            have hn29 := hid (hn2.out.mod hE17 (fun _ _ h => h))
            have hs269 := Nat.le_trans hs26 hE17.size
            have hxw9 := hid (hxw.out.trans hE17)
            replace hzst := hid hzst
            clear hrz hbz hcz
            refine wpTr_c1 _ (by simp only [List.getD_cons_succ, List.getD_cons_zero]; rfl) (wpN_c (by rfl) (fun Kc hKc => ?_))
            go_simp
            refine hKc.out _ _ trivial (wpTr_done ?_)
            clear hKc Kc
            go_upto_region 24 with fail

            have hnz := Acc.set (w' := y17.setCell ⟨g, j * 8 + 5, none⟩ (.slice aoz (fl.length + 1) capz)) hacc9.out 5 (.slice aoz (fl.length + 1) capz) rfl hrj.out (by omega) (c' := ⟨kd, tx, nm, ar, ct, .slice aoz (fl.length + 1) capz, .slice b2 m2 c2', .slice b3 m3 c3'⟩) (nd' := (.mk kd tx nm ar ct (fl ++ [[120]]) ks es)) rfl hN9.out
            have hmz : Mod (Eq g) y17 (y17.setCell ⟨g, j * 8 + 5, none⟩ (.slice aoz (fl.length + 1) capz)) := (Mod.refl (Eq g) y17).setCell (fun _ => rfl) _
            generalize (y17.setCell ⟨g, j * 8 + 5, none⟩ (.slice aoz (fl.length + 1) capz)) = wz at hnz hmz ⊢
            replace hxw := hxw9
            replace hn2 := hn29
            replace hs26 := hs269
            clear hxw9 hn29 hs269 hacc9 hN9 q9 z9

            have hne := eqL_set hlj.out (y := (.mk kd tx nm ar ct (fl ++ [[120]]) ks es)) (fun h => by injection h; rename_i h1 h2 h3 h4 h5 h6 h7 h8; have := congrArg List.length h6; rw [List.length_append, List.length_singleton] at this; omega)
            have hszz := szL_set (.mk kd tx nm ar ct (fl ++ [[120]]) ks es) hlj.out
            have hxz : Ext w wz := ((hxw.out.mono (T := fun k => w.heap.size ≤ k) (fun _ h => h.elim)).trans (hmz.mono (fun k e => by have : g = k := e; have := hxw2.out.size; omega))).mono' (fun k hk e => by omega)
            have hn2z := (hn2.out.mod hmz (fun k hk e => by have : g = k := e; have : k < w2.heap.size := hk; omega)).mono (F' := Lo wz) (fun k hk => Nat.lt_of_lt_of_le hk (Nat.le_trans hs26 hmz.size))
            have hbz : szL (l.set j (.mk kd tx nm ar ct (fl ++ [[120]]) ks es)) ≤ 1000000000 := by
              simp only [szN, List.length_append, List.length_singleton] at hszz
              have := hsz.out
              omega
            have hA := Same_ok (F := Lo wz) _ _ l (l.set j (.mk kd tx nm ar ct (fl ++ [[120]]) ks es)) wz (r := false) hne.1 hn2z hnz (fun _ h => h) (by have := hsz.out; omega) hbz
            replace hA := hid hA
            replace hxz := hid hxz
            replace hn2z := hid hn2z
            replace hnz := hid hnz
            replace hne := hid hne
            replace hbz := hid hbz
            clear hszz hmz
            go_wp2_with fail
            refine hA.out.mono ?_
            rintro e wy ⟨rfl, hxy⟩
            have hB := Same_ok (F := Lo wy) _ _ (l.set j (.mk kd tx nm ar ct (fl ++ [[120]]) ks es)) l wy (r := false) hne.out.2 (hnz.out.up hxy) (hn2z.out.up hxy) (fun _ h => h) hbz.out (by have := hsz.out; omega)
            have hxy := hid (hxz.out.trans hxy)
            replace hB := hid hB
            clear hA
            go_wp2_with fail
            refine hB.out.mono ?_
            rintro e wx ⟨rfl, hxx⟩
            have hxx := hid (hxy.out.trans hxx)
            go_wp2_with fail
            rw [hpost.out]
            exact ⟨rfl, hxx.out⟩
          · refine wpN_c (by rfl) (fun Kc hKc => ?_)
            go_simp
            have hm18 := Mod.alloc (Mod.refl (fun _ => False) y14) (.cells #[.string ⟨#[120]⟩] 9)
            have hx18 : RowIs (y14.alloc (.cells #[.string ⟨#[120]⟩] 9)) (some ⟨y14.heap.size, 0, none⟩) (([[120]] : List Bs).flatMap strC) := RowIs.new y14 _ _
            have hss18 : (y14.alloc (.cells #[.string ⟨#[120]⟩] 9)).heap.size = y14.heap.size + 1 := World.size_alloc _ _
            generalize hX18 : y14.heap.size = X18 at hx18 hss18 ⊢
            generalize (y14.alloc (.cells #[.string ⟨#[120]⟩] 9)) = y18 at hm18 hx18 hss18 ⊢
            have hE18 := hE14.trans hm18
            have hne : ∀ b, v14.ownBlock = some b → b ≠ X18 := fun b e => by have := (ho14.block b e).2; omega
            have ho18 := ho14.ext hm18
            replace hX18 := hid hss18
            refine hKc.out _ _ trivial ?_
            clear hKc Kc
            try simp only [Act.put, List.setIfInBounds_toArray, List.set_cons_zero, List.set_cons_succ]
            refine wpTr_c1 _ (by simp only [List.getD_cons_succ, List.getD_cons_zero]; rfl) ?_
            refine wpN_c (by rfl) (fun Kc hKc => ?_)
            refine wp_app _ _ _ rfl Tryd.underlying25 el9 rfl ho18 _ _ _ rfl fl hflc.out (hflr.out.ext hE18) strC_len hflo.out (by simp only [List.length_nil]; omega) (by have := hE18.size; omega) hfln.out (fun v19 y19 H19 => ?_)
            obtain ⟨ho19, hm19⟩ := H19.out
            clear H19
            have hE19 := Ext.grow hE18 ho18 hm19
            rw [List.nil_append] at ho19
            have hx19 := hx18.mod hm19 (fun b off e e' => by injection e with e; injection e with e _ _; exact hne b e' e.symm)
            refine hKc.out _ _ trivial ?_
            clear hKc Kc
            try simp only [Act.put, List.setIfInBounds_toArray, List.set_cons_zero, List.set_cons_succ]
            refine wpTr_c1 _ (by simp only [List.getD_cons_succ, List.getD_cons_zero]; rfl) ?_
            refine wpN_c (by rfl) (fun Kc hKc => ?_)
            refine wp_app _ _ _ rfl Tryd.underlying25 el9 rfl ho19 _ 1 1 rfl [[120]] rfl hx19 strC_len (fun z hz u hu => by simp only [List.mem_singleton] at hz; subst hz; simp [strC] at hu; subst hu; rfl) (by simp only [List.length_singleton]; omega) (by have := hE19.size; omega) (by simp) (fun v20 y20 H20 => ?_)
            obtain ⟨ho20, hm20⟩ := H20.out
            clear H20
            have hE20 := Ext.grow hE19 ho19 hm20
            refine hKc.out _ _ trivial ?_
            clear hKc Kc
            try simp only [Act.put, List.setIfInBounds_toArray, List.set_cons_zero, List.set_cons_succ]
            refine wpTr_q _ (by simp only [List.getD_cons_succ, List.getD_cons_zero]; rfl) (by rfl) ?_ (fun w' hC => ?_) ?_; rotate_left; (go_simp; try with_reducible rfl); try simp only [Act.put, List.setIfInBounds_toArray, List.set_cons_zero, List.set_cons_succ]
            refine wpTr_q _ (by simp only [List.getD_cons_succ, List.getD_cons_zero]; rfl) (by rfl) ?_ (fun w' hC => ?_) ?_; rotate_left; (go_simp; try with_reducible rfl); try simp only [Act.put, List.setIfInBounds_toArray, List.set_cons_zero, List.set_cons_succ]
            obtain ⟨aoz, capz, rfl, hrz, hbz⟩ := ho20.row
            have hcz := Own.capOk ho20
            have hzst : StrsAt (fun k => k ≠ g ∧ k < y20.heap.size) y20 (.slice aoz (fl.length + 1) capz) (fl ++ [[120]]) := ⟨aoz, capz, by rw [List.length_append, List.length_singleton], hrz, fun b off e => ⟨by have := (ho20.block b (hbz b off e)).1; have := lt_of_at hgh.out; omega, (ho20.block b (hbz b off e)).2⟩, hcz⟩
            have hK9 : ∀ k, (k ≠ g ∧ k < w6.heap.size) → k ≠ g ∧ k < y20.heap.size := fun k hk => ⟨hk.1, Nat.lt_of_lt_of_le hk.2 hE20.size⟩
            have q9 := hE20.cell q0 (fun h => h)
            have z9 := free_of' (hE20.at hgh.out (fun h => h))
            have hacc9 := hid (hacc.out.mod hE20 (fun _ h => h.elim))
            have hN9 : Hid (NodeAt (fun k => k ≠ g ∧ k < y20.heap.size) y20 ⟨kd, tx, nm, ar, ct, .slice aoz (fl.length + 1) capz, .slice b2 m2 c2', .slice b3 m3 c3'⟩ (.mk kd tx nm ar ct (fl ++ [[120]]) ks es)) := hid (.mk ⟨kd, tx, nm, ar, ct, .slice aoz (fl.length + 1) capz, .slice b2 m2 c2', .slice b3 m3 c3'⟩ (fl ++ [[120]]) ks es hzst (hks.out.mod hE20 (fun _ _ h => h) |>.mono hK9) (hes.out.mod hE20 (fun _ _ h => h) |>.mono hK9))
            have hn29 := hid (hn2.out.mod hE20 (fun _ _ h => h))
            have hs269 := Nat.le_trans hs26 hE20.size
            have hxw9 := hid (hxw.out.trans hE20)
            replace hzst := hid hzst
            clear hrz hbz hcz
            refine wpTr_c1 _ (by simp only [List.getD_cons_succ, List.getD_cons_zero]; rfl) (wpN_c (by rfl) (fun Kc hKc => ?_))
            go_simp
            refine hKc.out _ _ trivial (wpTr_done ?_)
            clear hKc Kc
            go_upto_region 24 with fail

            have hnz := Acc.set (w' := y20.setCell ⟨g, j * 8 + 5, none⟩ (.slice aoz (fl.length + 1) capz)) hacc9.out 5 (.slice aoz (fl.length + 1) capz) rfl hrj.out (by omega) (c' := ⟨kd, tx, nm, ar, ct, .slice aoz (fl.length + 1) capz, .slice b2 m2 c2', .slice b3 m3 c3'⟩) (nd' := (.mk kd tx nm ar ct (fl ++ [[120]]) ks es)) rfl hN9.out
            have hmz : Mod (Eq g) y20 (y20.setCell ⟨g, j * 8 + 5, none⟩ (.slice aoz (fl.length + 1) capz)) := (Mod.refl (Eq g) y20).setCell (fun _ => rfl) _
            generalize (y20.setCell ⟨g, j * 8 + 5, none⟩ (.slice aoz (fl.length + 1) capz)) = wz at hnz hmz ⊢
            replace hxw := hxw9
            replace hn2 := hn29
            replace hs26 := hs269
            clear hxw9 hn29 hs269 hacc9 hN9 q9 z9

            have hne := eqL_set hlj.out (y := (.mk kd tx nm ar ct (fl ++ [[120]]) ks es)) (fun h => by injection h; rename_i h1 h2 h3 h4 h5 h6 h7 h8; have := congrArg List.length h6; rw [List.length_append, List.length_singleton] at this; omega)
            have hszz := szL_set (.mk kd tx nm ar ct (fl ++ [[120]]) ks es) hlj.out
            have hxz : Ext w wz := ((hxw.out.mono (T := fun k => w.heap.size ≤ k) (fun _ h => h.elim)).trans (hmz.mono (fun k e => by have : g = k := e; have := hxw2.out.size; omega))).mono' (fun k hk e => by omega)
            have hn2z := (hn2.out.mod hmz (fun k hk e => by have : g = k := e; have : k < w2.heap.size := hk; omega)).mono (F' := Lo wz) (fun k hk => Nat.lt_of_lt_of_le hk (Nat.le_trans hs26 hmz.size))
            have hbz : szL (l.set j (.mk kd tx nm ar ct (fl ++ [[120]]) ks es)) ≤ 1000000000 := by
              simp only [szN, List.length_append, List.length_singleton] at hszz
              have := hsz.out
              omega
            have hA := Same_ok (F := Lo wz) _ _ l (l.set j (.mk kd tx nm ar ct (fl ++ [[120]]) ks es)) wz (r := false) hne.1 hn2z hnz (fun _ h => h) (by have := hsz.out; omega) hbz
            replace hA := hid hA
            replace hxz := hid hxz
            replace hn2z := hid hn2z
            replace hnz := hid hnz
            replace hne := hid hne
            replace hbz := hid hbz
            clear hszz hmz
            go_wp2_with fail
            refine hA.out.mono ?_
            rintro e wy ⟨rfl, hxy⟩
            have hB := Same_ok (F := Lo wy) _ _ (l.set j (.mk kd tx nm ar ct (fl ++ [[120]]) ks es)) l wy (r := false) hne.out.2 (hnz.out.up hxy) (hn2z.out.up hxy) (fun _ h => h) hbz.out (by have := hsz.out; omega)
            have hxy := hid (hxz.out.trans hxy)
            replace hB := hid hB
            clear hA
            go_wp2_with fail
            refine hB.out.mono ?_
            rintro e wx ⟨rfl, hxx⟩
            have hxx := hid (hxy.out.trans hxx)
            go_wp2_with fail
            rw [hpost.out]
            exact ⟨rfl, hxx.out⟩
        · refine wpN_c (by rfl) (fun Kc hKc => ?_)
          go_simp
          have hm21 := Mod.alloc (Mod.refl (fun _ => False) y0) (.cells #[.string ⟨#[120]⟩] 9)
          have hx21 : RowIs (y0.alloc (.cells #[.string ⟨#[120]⟩] 9)) (some ⟨y0.heap.size, 0, none⟩) (([[120]] : List Bs).flatMap strC) := RowIs.new y0 _ _
          have hss21 : (y0.alloc (.cells #[.string ⟨#[120]⟩] 9)).heap.size = y0.heap.size + 1 := World.size_alloc _ _
          generalize hX21 : y0.heap.size = X21 at hx21 hss21 ⊢
          generalize (y0.alloc (.cells #[.string ⟨#[120]⟩] 9)) = y21 at hm21 hx21 hss21 ⊢
          have hE21 := hE0.trans hm21
          replace hX21 := hid hss21
          refine hKc.out _ _ trivial ?_
          clear hKc Kc
          try simp only [Act.put, List.setIfInBounds_toArray, List.set_cons_zero, List.set_cons_succ]
          refine wpTr_c1 _ (by simp only [List.getD_cons_succ, List.getD_cons_zero]; rfl) ?_
          refine wpN_c (by rfl) (fun Kc hKc => ?_)
          have hEs22 := hE21.size
          refine wp_mk strC _ _ _ rfl Tryd.underlying25 el9 9 rfl _ rfl rfl (by decide) (base := y21.heap.size) (Nat.le_refl _) (fun v22 y22 H22 => ?_)
          obtain ⟨hq22, hm22⟩ := H22.out
          clear H22
          have hne : ∀ b, v22.ownBlock = some b → b ≠ X21 := fun b e => by have := (hq22.block b e).1; have := hX21.out; omega
          have hx22 := hx21.ext hm22
          have ho22 := hq22.weaken (base' := w6.heap.size) (by omega)
          have hE22 := hE21.trans hm22
          refine hKc.out _ _ trivial ?_
          clear hKc Kc
          try simp only [Act.put, List.setIfInBounds_toArray, List.set_cons_zero, List.set_cons_succ]
          refine wpTr_c1 _ (by simp only [List.getD_cons_succ, List.getD_cons_zero]; rfl) ?_
          refine wpN_c (by rfl) (fun Kc hKc => ?_)
          refine wp_app _ _ _ rfl Tryd.underlying25 el9 rfl ho22 _ _ _ rfl fl hflc.out (hflr.out.ext hE22) strC_len hflo.out (by simp only [List.length_nil]; omega) (by have := hE22.size; omega) hfln.out (fun v23 y23 H23 => ?_)
          obtain ⟨ho23, hm23⟩ := H23.out
          clear H23
          have hE23 := Ext.grow hE22 ho22 hm23
          rw [List.nil_append] at ho23
          have hx23 := hx22.mod hm23 (fun b off e e' => by injection e with e; injection e with e _ _; exact hne b e' e.symm)
          refine hKc.out _ _ trivial ?_
          clear hKc Kc
          try simp only [Act.put, List.setIfInBounds_toArray, List.set_cons_zero, List.set_cons_succ]
          refine wpTr_c1 _ (by simp only [List.getD_cons_succ, List.getD_cons_zero]; rfl) ?_
          refine wpN_c (by rfl) (fun Kc hKc => ?_)
          refine wp_app _ _ _ rfl Tryd.underlying25 el9 rfl ho23 _ 1 1 rfl [[120]] rfl hx23 strC_len (fun z hz u hu => by simp only [List.mem_singleton] at hz; subst hz; simp [strC] at hu; subst hu; rfl) (by simp only [List.length_singleton]; omega) (by have := hE23.size; omega) (by simp) (fun v24 y24 H24 => ?_)
          obtain ⟨ho24, hm24⟩ := H24.out
          clear H24
          have hE24 := Ext.grow hE23 ho23 hm24
          refine hKc.out _ _ trivial ?_
          clear hKc Kc
          try simp only [Act.put, List.setIfInBounds_toArray, List.set_cons_zero, List.set_cons_succ]
          refine wpTr_q _ (by simp only [List.getD_cons_succ, List.getD_cons_zero]; rfl) (by rfl) ?_ (fun w' hC => ?_) ?_; rotate_left; (go_simp; try with_reducible rfl); try simp only [Act.put, List.setIfInBounds_toArray, List.set_cons_zero, List.set_cons_succ]
          refine wpTr_q _ (by simp only [List.getD_cons_succ, List.getD_cons_zero]; rfl) (by rfl) ?_ (fun w' hC => ?_) ?_; rotate_left; (go_simp; try with_reducible rfl); try simp only [Act.put, List.setIfInBounds_toArray, List.set_cons_zero, List.set_cons_succ]
          obtain ⟨aoz, capz, rfl, hrz, hbz⟩ := ho24.row
          have hcz := Own.capOk ho24
          have hzst : StrsAt (fun k => k ≠ g ∧ k < y24.heap.size) y24 (.slice aoz (fl.length + 1) capz) (fl ++ [[120]]) := ⟨aoz, capz, by rw [List.length_append, List.length_singleton], hrz, fun b off e => ⟨by have := (ho24.block b (hbz b off e)).1; have := lt_of_at hgh.out; omega, (ho24.block b (hbz b off e)).2⟩, hcz⟩
          have hK9 : ∀ k, (k ≠ g ∧ k < w6.heap.size) → k ≠ g ∧ k < y24.heap.size := fun k hk => ⟨hk.1, Nat.lt_of_lt_of_le hk.2 hE24.size⟩
          have q9 := hE24.cell q0 (fun h => h)
          have z9 := free_of' (hE24.at hgh.out (fun h => h))
          have hacc9 := hid (hacc.out.mod hE24 (fun _ h => h.elim))
          have hN9 : Hid (NodeAt (fun k => k ≠ g ∧ k < y24.heap.size) y24 ⟨kd, tx, nm, ar, ct, .slice aoz (fl.length + 1) capz, .slice b2 m2 c2', .slice b3 m3 c3'⟩ (.mk kd tx nm ar ct (fl ++ [[120]]) ks es)) := hid (.mk ⟨kd, tx, nm, ar, ct, .slice aoz (fl.length + 1) capz, .slice b2 m2 c2', .slice b3 m3 c3'⟩ (fl ++ [[120]]) ks es hzst (hks.out.mod hE24 (fun _ _ h => h) |>.mono hK9) (hes.out.mod hE24 (fun _ _ h => h) |>.mono hK9))
          have hn29 := hid (hn2.out.mod hE24 (fun _ _ h => h))
          have hs269 := Nat.le_trans hs26 hE24.size
          have hxw9 := hid (hxw.out.trans hE24)
          replace hzst := hid hzst
          clear hrz hbz hcz
          refine wpTr_c1 _ (by simp only [List.getD_cons_succ, List.getD_cons_zero]; rfl) (wpN_c (by rfl) (fun Kc hKc => ?_))
          go_simp
          refine hKc.out _ _ trivial (wpTr_done ?_)
          clear hKc Kc
          go_upto_region 24 with fail

          have hnz := Acc.set (w' := y24.setCell ⟨g, j * 8 + 5, none⟩ (.slice aoz (fl.length + 1) capz)) hacc9.out 5 (.slice aoz (fl.length + 1) capz) rfl hrj.out (by omega) (c' := ⟨kd, tx, nm, ar, ct, .slice aoz (fl.length + 1) capz, .slice b2 m2 c2', .slice b3 m3 c3'⟩) (nd' := (.mk kd tx nm ar ct (fl ++ [[120]]) ks es)) rfl hN9.out
          have hmz : Mod (Eq g) y24 (y24.setCell ⟨g, j * 8 + 5, none⟩ (.slice aoz (fl.length + 1) capz)) := (Mod.refl (Eq g) y24).setCell (fun _ => rfl) _
          generalize (y24.setCell ⟨g, j * 8 + 5, none⟩ (.slice aoz (fl.length + 1) capz)) = wz at hnz hmz ⊢
          replace hxw := hxw9
          replace hn2 := hn29
          replace hs26 := hs269
          clear hxw9 hn29 hs269 hacc9 hN9 q9 z9

          have hne := eqL_set hlj.out (y := (.mk kd tx nm ar ct (fl ++ [[120]]) ks es)) (fun h => by injection h; rename_i h1 h2 h3 h4 h5 h6 h7 h8; have := congrArg List.length h6; rw [List.length_append, List.length_singleton] at this; omega)
          have hszz := szL_set (.mk kd tx nm ar ct (fl ++ [[120]]) ks es) hlj.out
          have hxz : Ext w wz := ((hxw.out.mono (T := fun k => w.heap.size ≤ k) (fun _ h => h.elim)).trans (hmz.mono (fun k e => by have : g = k := e; have := hxw2.out.size; omega))).mono' (fun k hk e => by omega)
          have hn2z := (hn2.out.mod hmz (fun k hk e => by have : g = k := e; have : k < w2.heap.size := hk; omega)).mono (F' := Lo wz) (fun k hk => Nat.lt_of_lt_of_le hk (Nat.le_trans hs26 hmz.size))
          have hbz : szL (l.set j (.mk kd tx nm ar ct (fl ++ [[120]]) ks es)) ≤ 1000000000 := by
            simp only [szN, List.length_append, List.length_singleton] at hszz
            have := hsz.out
            omega
          have hA := Same_ok (F := Lo wz) _ _ l (l.set j (.mk kd tx nm ar ct (fl ++ [[120]]) ks es)) wz (r := false) hne.1 hn2z hnz (fun _ h => h) (by have := hsz.out; omega) hbz
          replace hA := hid hA
          replace hxz := hid hxz
          replace hn2z := hid hn2z
          replace hnz := hid hnz
          replace hne := hid hne
          replace hbz := hid hbz
          clear hszz hmz
          go_wp2_with fail
          refine hA.out.mono ?_
          rintro e wy ⟨rfl, hxy⟩
          have hB := Same_ok (F := Lo wy) _ _ (l.set j (.mk kd tx nm ar ct (fl ++ [[120]]) ks es)) l wy (r := false) hne.out.2 (hnz.out.up hxy) (hn2z.out.up hxy) (fun _ h => h) hbz.out (by have := hsz.out; omega)
          have hxy := hid (hxz.out.trans hxy)
          replace hB := hid hB
          clear hA
          go_wp2_with fail
          refine hB.out.mono ?_
          rintro e wx ⟨rfl, hxx⟩
          have hxx := hid (hxy.out.trans hxx)
          go_wp2_with fail
          rw [hpost.out]
          exact ⟨rfl, hxx.out⟩
      · refine wpN_c (by rfl) (fun Kc hKc => ?_)
        go_simp
        have hm25 := Mod.alloc (Mod.refl (fun _ => False) y0) (.cells #[.string ⟨#[120]⟩] 9)
        have hx25 : RowIs (y0.alloc (.cells #[.string ⟨#[120]⟩] 9)) (some ⟨y0.heap.size, 0, none⟩) (([[120]] : List Bs).flatMap strC) := RowIs.new y0 _ _
        have hss25 : (y0.alloc (.cells #[.string ⟨#[120]⟩] 9)).heap.size = y0.heap.size + 1 := World.size_alloc _ _
        generalize hX25 : y0.heap.size = X25 at hx25 hss25 ⊢
        generalize (y0.alloc (.cells #[.string ⟨#[120]⟩] 9)) = y25 at hm25 hx25 hss25 ⊢
        have hE25 := hE0.trans hm25
        replace hX25 := hid hss25
        refine hKc.out _ _ trivial ?_
        clear hKc Kc
        try simp only [Act.put, List.setIfInBounds_toArray, List.set_cons_zero, List.set_cons_succ]
        refine wpTr_c2 _ _ (by simp only [List.getD_cons_succ, List.getD_cons_zero]; rfl) (by simp only [List.getD_cons_succ, List.getD_cons_zero]; rfl) ?_ ?_
        · refine wpN_c (by rfl) (fun Kc hKc => ?_)
          have hEs26 := hE25.size
          refine wp_mk strC _ _ _ rfl Tryd.underlying25 el9 9 rfl _ rfl rfl (by decide) (base := y25.heap.size) (Nat.le_refl _) (fun v26 y26 H26 => ?_)
          obtain ⟨hq26, hm26⟩ := H26.out
          clear H26
          have hne : ∀ b, v26.ownBlock = some b → b ≠ X25 := fun b e => by have := (hq26.block b e).1; have := hX25.out; omega
          have hx26 := hx25.ext hm26
          have ho26 := hq26.weaken (base' := w6.heap.size) (by omega)
          have hE26 := hE25.trans hm26
          refine hKc.out _ _ trivial ?_
          clear hKc Kc
          try simp only [Act.put, List.setIfInBounds_toArray, List.set_cons_zero, List.set_cons_succ]
          refine wpTr_c1 _ (by simp only [List.getD_cons_succ, List.getD_cons_zero]; rfl) ?_
          refine wpN_c (by rfl) (fun Kc hKc => ?_)
          have q127 := hE26.cell q0 (fun h => h)
          go_simp
          refine hKc.out _ _ trivial ?_
          clear hKc Kc
          try simp only [Act.put, List.setIfInBounds_toArray, List.set_cons_zero, List.set_cons_succ]
          refine wpTr_c1 _ (by simp only [List.getD_cons_succ, List.getD_cons_zero]; rfl) ?_
          refine wpN_c (by rfl) (fun Kc hKc => ?_)
          refine wp_app _ _ _ rfl Tryd.underlying25 el9 rfl ho26 _ _ _ rfl fl hflc.out (hflr.out.ext hE26) strC_len hflo.out (by simp only [List.length_nil]; omega) (by have := hE26.size; omega) hfln.out (fun v28 y28 H28 => ?_)
          obtain ⟨ho28, hm28⟩ := H28.out
          clear H28
          have hE28 := Ext.grow hE26 ho26 hm28
          rw [List.nil_append] at ho28
          have hx28 := hx26.mod hm28 (fun b off e e' => by injection e with e; injection e with e _ _; exact hne b e' e.symm)
          refine hKc.out _ _ trivial ?_
          clear hKc Kc
          try simp only [Act.put, List.setIfInBounds_toArray, List.set_cons_zero, List.set_cons_succ]
          refine wpTr_c1 _ (by simp only [List.getD_cons_succ, List.getD_cons_zero]; rfl) ?_
          refine wpN_c (by rfl) (fun Kc hKc => ?_)
          refine wp_app _ _ _ rfl Tryd.underlying25 el9 rfl ho28 _ 1 1 rfl [[120]] rfl hx28 strC_len (fun z hz u hu => by simp only [List.mem_singleton] at hz; subst hz; simp [strC] at hu; subst hu; rfl) (by simp only [List.length_singleton]; omega) (by have := hE28.size; omega) (by simp) (fun v29 y29 H29 => ?_)
          obtain ⟨ho29, hm29⟩ := H29.out
          clear H29
          have hE29 := Ext.grow hE28 ho28 hm29
          refine hKc.out _ _ trivial ?_
          clear hKc Kc
          try simp only [Act.put, List.setIfInBounds_toArray, List.set_cons_zero, List.set_cons_succ]
          refine wpTr_q _ (by simp only [List.getD_cons_succ, List.getD_cons_zero]; rfl) (by rfl) ?_ (fun w' hC => ?_) ?_; rotate_left; (go_simp; try with_reducible rfl); try simp only [Act.put, List.setIfInBounds_toArray, List.set_cons_zero, List.set_cons_succ]
          refine wpTr_q _ (by simp only [List.getD_cons_succ, List.getD_cons_zero]; rfl) (by rfl) ?_ (fun w' hC => ?_) ?_; rotate_left; (go_simp; try with_reducible rfl); try simp only [Act.put, List.setIfInBounds_toArray, List.set_cons_zero, List.set_cons_succ]
          obtain ⟨aoz, capz, rfl, hrz, hbz⟩ := ho29.row
          have hcz := Own.capOk ho29
          have hzst : StrsAt (fun k => k ≠ g ∧ k < y29.heap.size) y29 (.slice aoz (fl.length + 1) capz) (fl ++ [[120]]) := ⟨aoz, capz, by rw [List.length_append, List.length_singleton], hrz, fun b off e => ⟨by have := (ho29.block b (hbz b off e)).1; have := lt_of_at hgh.out; omega, (ho29.block b (hbz b off e)).2⟩, hcz⟩
          have hK9 : ∀ k, (k ≠ g ∧ k < w6.heap.size) → k ≠ g ∧ k < y29.heap.size := fun k hk => ⟨hk.1, Nat.lt_of_lt_of_le hk.2 hE29.size⟩
          have q9 := hE29.cell q0 (fun h => h)
          have z9 := free_of' (hE29.at hgh.out (fun h => h))
          have hacc9 := hid (hacc.out.mod hE29 (fun _ h => h.elim))
          have hN9 : Hid (NodeAt (fun k => k ≠ g ∧ k < y29.heap.size) y29 ⟨kd, tx, nm, ar, ct, .slice aoz (fl.length + 1) capz, .slice b2 m2 c2', .slice b3 m3 c3'⟩ (.mk kd tx nm ar ct (fl ++ [[120]]) ks es)) := hid (.mk ⟨kd, tx, nm, ar, ct, .slice aoz (fl.length + 1) capz, .slice b2 m2 c2', .slice b3 m3 c3'⟩ (fl ++ [[120]]) ks es hzst (hks.out.mod hE29 (fun _ _ h => h) |>.mono hK9) (hes.out.mod hE29 (fun _ _ h => h) |>.mono hK9))
          have hn29 := hid (hn2.out.mod hE29 (fun _ _ h => h))
          have hs269 := Nat.le_trans hs26 hE29.size
          have hxw9 := hid (hxw.out.trans hE29)
          replace hzst := hid hzst
          clear hrz hbz hcz
          refine wpTr_c1 _ (by simp only [List.getD_cons_succ, List.getD_cons_zero]; rfl) (wpN_c (by rfl) (fun Kc hKc => ?_))
          go_simp
          refine hKc.out _ _ trivial (wpTr_done ?_)
          clear hKc Kc
          go_upto_region 24 with fail

          have hnz := Acc.set (w' := y29.setCell ⟨g, j * 8 + 5, none⟩ (.slice aoz (fl.length + 1) capz)) hacc9.out 5 (.slice aoz (fl.length + 1) capz) rfl hrj.out (by omega) (c' := ⟨kd, tx, nm, ar, ct, .slice aoz (fl.length + 1) capz, .slice b2 m2 c2', .slice b3 m3 c3'⟩) (nd' := (.mk kd tx nm ar ct (fl ++ [[120]]) ks es)) rfl hN9.out
          have hmz : Mod (Eq g) y29 (y29.setCell ⟨g, j * 8 + 5, none⟩ (.slice aoz (fl.length + 1) capz)) := (Mod.refl (Eq g) y29).setCell (fun _ => rfl) _
          generalize (y29.setCell ⟨g, j * 8 + 5, none⟩ (.slice aoz (fl.length + 1) capz)) = wz at hnz hmz ⊢
          replace hxw := hxw9
          replace hn2 := hn29
          replace hs26 := hs269
          clear hxw9 hn29 hs269 hacc9 hN9 q9 z9

          have hne := eqL_set hlj.out (y := (.mk kd tx nm ar ct (fl ++ [[120]]) ks es)) (fun h => by injection h; rename_i h1 h2 h3 h4 h5 h6 h7 h8; have := congrArg List.length h6; rw [List.length_append, List.length_singleton] at this; omega)
          have hszz := szL_set (.mk kd tx nm ar ct (fl ++ [[120]]) ks es) hlj.out
          have hxz : Ext w wz := ((hxw.out.mono (T := fun k => w.heap.size ≤ k) (fun _ h => h.elim)).trans (hmz.mono (fun k e => by have : g = k := e; have := hxw2.out.size; omega))).mono' (fun k hk e => by omega)
          have hn2z := (hn2.out.mod hmz (fun k hk e => by have : g = k := e; have : k < w2.heap.size := hk; omega)).mono (F' := Lo wz) (fun k hk => Nat.lt_of_lt_of_le hk (Nat.le_trans hs26 hmz.size))
          have hbz : szL (l.set j (.mk kd tx nm ar ct (fl ++ [[120]]) ks es)) ≤ 1000000000 := by
            simp only [szN, List.length_append, List.length_singleton] at hszz
            have := hsz.out
            omega
          have hA := Same_ok (F := Lo wz) _ _ l (l.set j (.mk kd tx nm ar ct (fl ++ [[120]]) ks es)) wz (r := false) hne.1 hn2z hnz (fun _ h => h) (by have := hsz.out; omega) hbz
          replace hA := hid hA
          replace hxz := hid hxz
          replace hn2z := hid hn2z
          replace hnz := hid hnz
          replace hne := hid hne
          replace hbz := hid hbz
          clear hszz hmz
          go_wp2_with fail
          refine hA.out.mono ?_
          rintro e wy ⟨rfl, hxy⟩
          have hB := Same_ok (F := Lo wy) _ _ (l.set j (.mk kd tx nm ar ct (fl ++ [[120]]) ks es)) l wy (r := false) hne.out.2 (hnz.out.up hxy) (hn2z.out.up hxy) (fun _ h => h) hbz.out (by have := hsz.out; omega)
          have hxy := hid (hxz.out.trans hxy)
          replace hB := hid hB
          clear hA
          go_wp2_with fail
          refine hB.out.mono ?_
          rintro e wx ⟨rfl, hxx⟩
          have hxx := hid (hxy.out.trans hxx)
          go_wp2_with fail
          rw [hpost.out]
          exact ⟨rfl, hxx.out⟩
        · refine wpN_c (by rfl) (fun Kc hKc => ?_)
          have q130 := hE25.cell q0 (fun h => h)
          go_simp
          refine hKc.out _ _ trivial ?_
          clear hKc Kc
          try simp only [Act.put, List.setIfInBounds_toArray, List.set_cons_zero, List.set_cons_succ]
          refine wpTr_c1 _ (by simp only [List.getD_cons_succ, List.getD_cons_zero]; rfl) ?_
          refine wpN_c (by rfl) (fun Kc hKc => ?_)
          have hEs31 := hE25.size
          refine wp_mk strC _ _ _ rfl Tryd.underlying25 el9 9 rfl _ rfl rfl (by decide) (base := y25.heap.size) (Nat.le_refl _) (fun v31 y31 H31 => ?_)
          obtain ⟨hq31, hm31⟩ := H31.out
          clear H31
          have hne : ∀ b, v31.ownBlock = some b → b ≠ X25 := fun b e => by have := (hq31.block b e).1; have := hX25.out; omega
          have hx31 := hx25.ext hm31
          have ho31 := hq31.weaken (base' := w6.heap.size) (by omega)
          have hE31 := hE25.trans hm31
          refine hKc.out _ _ trivial ?_
          clear hKc Kc
          try simp only [Act.put, List.setIfInBounds_toArray, List.set_cons_zero, List.set_cons_succ]
          refine wpTr_c1 _ (by simp only [List.getD_cons_succ, List.getD_cons_zero]; rfl) ?_
          refine wpN_c (by rfl) (fun Kc hKc => ?_)
          refine wp_app _ _ _ rfl Tryd.underlying25 el9 rfl ho31 _ _ _ rfl fl hflc.out (hflr.out.ext hE31) strC_len hflo.out (by simp only [List.length_nil]; omega) (by have := hE31.size; omega) hfln.out (fun v32 y32 H32 => ?_)
          obtain ⟨ho32, hm32⟩ := H32.out
          clear H32
          have hE32 := Ext.grow hE31 ho31 hm32
          rw [List.nil_append] at ho32
          have hx32 := hx31.mod hm32 (fun b off e e' => by injection e with e; injection e with e _ _; exact hne b e' e.symm)
          refine hKc.out _ _ trivial ?_
          clear hKc Kc
          try simp only [Act.put, List.setIfInBounds_toArray, List.set_cons_zero, List.set_cons_succ]
          refine wpTr_c1 _ (by simp only [List.getD_cons_succ, List.getD_cons_zero]; rfl) ?_
          refine wpN_c (by rfl) (fun Kc hKc => ?_)
          refine wp_app _ _ _ rfl Tryd.underlying25 el9 rfl ho32 _ 1 1 rfl [[120]] rfl hx32 strC_len (fun z hz u hu => by simp only [List.mem_singleton] at hz; subst hz; simp [strC] at hu; subst hu; rfl) (by simp only [List.length_singleton]; omega) (by have := hE32.size; omega) (by simp) (fun v33 y33 H33 => ?_)
          obtain ⟨ho33, hm33⟩ := H33.out
          clear H33
          have hE33 := Ext.grow hE32 ho32 hm33
          refine hKc.out _ _ trivial ?_
          clear hKc Kc
          try simp only [Act.put, List.setIfInBounds_toArray, List.set_cons_zero, List.set_cons_succ]
          refine wpTr_q _ (by simp only [List.getD_cons_succ, List.getD_cons_zero]; rfl) (by rfl) ?_ (fun w' hC => ?_) ?_; rotate_left; (go_simp; try with_reducible rfl); try simp only [Act.put, List.setIfInBounds_toArray, List.set_cons_zero, List.set_cons_succ]
          refine wpTr_q _ (by simp only [List.getD_cons_succ, List.getD_cons_zero]; rfl) (by rfl) ?_ (fun w' hC => ?_) ?_; rotate_left; (go_simp; try with_reducible rfl); try simp only [Act.put, List.setIfInBounds_toArray, List.set_cons_zero, List.set_cons_succ]
          obtain ⟨aoz, capz, rfl, hrz, hbz⟩ := ho33.row
          have hcz := Own.capOk ho33
          have hzst : StrsAt (fun k => k ≠ g ∧ k < y33.heap.size) y33 (.slice aoz (fl.length + 1) capz) (fl ++ [[120]]) := ⟨aoz, capz, by rw [List.length_append, List.length_singleton], hrz, fun b off e => ⟨by have := (ho33.block b (hbz b off e)).1; have := lt_of_at hgh.out; omega, (ho33.block b (hbz b off e)).2⟩, hcz⟩
          have hK9 : ∀ k, (k ≠ g ∧ k < w6.heap.size) → k ≠ g ∧ k < y33.heap.size := fun k hk => ⟨hk.1, Nat.lt_of_lt_of_le hk.2 hE33.size⟩
          have q9 := hE33.cell q0 (fun h => h)
          have z9 := free_of' (hE33.at hgh.out (fun h => h))
          have hacc9 := hid (hacc.out.mod hE33 (fun _ h => h.elim))
          have hN9 : Hid (NodeAt (fun k => k ≠ g ∧ k < y33.heap.size) y33 ⟨kd, tx, nm, ar, ct, .slice aoz (fl.length + 1) capz, .slice b2 m2 c2', .slice b3 m3 c3'⟩ (.mk kd tx nm ar ct (fl ++ [[120]]) ks es)) := hid (.mk ⟨kd, tx, nm, ar, ct, .slice aoz (fl.length + 1) capz, .slice b2 m2 c2', .slice b3 m3 c3'⟩ (fl ++ [[120]]) ks es hzst (hks.out.mod hE33 (fun _ _ h => h) |>.mono hK9) (hes.out.mod hE33 (fun _ _ h => h) |>.mono hK9))
          have hn29 := hid (hn2.out.mod hE33 (fun _ _ h => h))
          have hs269 := Nat.le_trans hs26 hE33.size
          have hxw9 := hid (hxw.out.trans hE33)
          replace hzst := hid hzst
          clear hrz hbz hcz
          refine wpTr_c1 _ (by simp only [List.getD_cons_succ, List.getD_cons_zero]; rfl) (wpN_c (by rfl) (fun Kc hKc => ?_))
          go_simp
          refine hKc.out _ _ trivial (wpTr_done ?_)
          clear hKc Kc
          go_upto_region 24 with fail

          have hnz := Acc.set (w' := y33.setCell ⟨g, j * 8 + 5, none⟩ (.slice aoz (fl.length + 1) capz)) hacc9.out 5 (.slice aoz (fl.length + 1) capz) rfl hrj.out (by omega) (c' := ⟨kd, tx, nm, ar, ct, .slice aoz (fl.length + 1) capz, .slice b2 m2 c2', .slice b3 m3 c3'⟩) (nd' := (.mk kd tx nm ar ct (fl ++ [[120]]) ks es)) rfl hN9.out
          have hmz : Mod (Eq g) y33 (y33.setCell ⟨g, j * 8 + 5, none⟩ (.slice aoz (fl.length + 1) capz)) := (Mod.refl (Eq g) y33).setCell (fun _ => rfl) _
          generalize (y33.setCell ⟨g, j * 8 + 5, none⟩ (.slice aoz (fl.length + 1) capz)) = wz at hnz hmz ⊢
          replace hxw := hxw9
          replace hn2 := hn29
          replace hs26 := hs269
          clear hxw9 hn29 hs269 hacc9 hN9 q9 z9

          have hne := eqL_set hlj.out (y := (.mk kd tx nm ar ct (fl ++ [[120]]) ks es)) (fun h => by injection h; rename_i h1 h2 h3 h4 h5 h6 h7 h8; have := congrArg List.length h6; rw [List.length_append, List.length_singleton] at this; omega)
          have hszz := szL_set (.mk kd tx nm ar ct (fl ++ [[120]]) ks es) hlj.out
          have hxz : Ext w wz := ((hxw.out.mono (T := fun k => w.heap.size ≤ k) (fun _ h => h.elim)).trans (hmz.mono (fun k e => by have : g = k := e; have := hxw2.out.size; omega))).mono' (fun k hk e => by omega)
          have hn2z := (hn2.out.mod hmz (fun k hk e => by have : g = k := e; have : k < w2.heap.size := hk; omega)).mono (F' := Lo wz) (fun k hk => Nat.lt_of_lt_of_le hk (Nat.le_trans hs26 hmz.size))
          have hbz : szL (l.set j (.mk kd tx nm ar ct (fl ++ [[120]]) ks es)) ≤ 1000000000 := by
            simp only [szN, List.length_append, List.length_singleton] at hszz
            have := hsz.out
            omega
          have hA := Same_ok (F := Lo wz) _ _ l (l.set j (.mk kd tx nm ar ct (fl ++ [[120]]) ks es)) wz (r := false) hne.1 hn2z hnz (fun _ h => h) (by have := hsz.out; omega) hbz
          replace hA := hid hA
          replace hxz := hid hxz
          replace hn2z := hid hn2z
          replace hnz := hid hnz
          replace hne := hid hne
          replace hbz := hid hbz
          clear hszz hmz
          go_wp2_with fail
          refine hA.out.mono ?_
          rintro e wy ⟨rfl, hxy⟩
          have hB := Same_ok (F := Lo wy) _ _ (l.set j (.mk kd tx nm ar ct (fl ++ [[120]]) ks es)) l wy (r := false) hne.out.2 (hnz.out.up hxy) (hn2z.out.up hxy) (fun _ h => h) hbz.out (by have := hsz.out; omega)
          have hxy := hid (hxz.out.trans hxy)
          replace hB := hid hB
          clear hA
          go_wp2_with fail
          refine hB.out.mono ?_
          rintro e wx ⟨rfl, hxx⟩
          have hxx := hid (hxy.out.trans hxx)
          go_wp2_with fail
          rw [hpost.out]
          exact ⟨rfl, hxx.out⟩
    · have q0 := hcell.out 6 (by omega)
      replace q0 : w6.cell? ⟨g, j * 8 + 6, none⟩ = some (.slice b2 m2 c2') := q0.trans rfl
      have hcnt := hks.out.count
      have hsp := hid (spoil_any (F := fun k => k ≠ g ∧ k < w6.heap.size) w6 _ _ _ ks which hks.out (fun _ h => h.2) (by have := szL_len ks; have := hsj9.out; simp only [szN] at this; have := hsz.out; omega) hw1 hw2)
      subst hqc
      replace hcnt := hid hcnt
      go_wp2_with fail
      refine hsp.out.mono ?_
      rintro e w7 ⟨v, rfl, hnv, hx7⟩
      obtain ⟨av, nv, cv, rfl⟩ := hnv.slice
      have hgw : g < w6.heap.size := lt_of_at hgh.out
      have hK : ∀ k, (k ≠ g ∧ k < w6.heap.size) → k ≠ g ∧ k < w7.heap.size := fun k hk => ⟨hk.1, Nat.lt_of_lt_of_le hk.2 hx7.size⟩
      have hnw := hnv.mono (F' := fun k => k ≠ g ∧ k < w7.heap.size) (fun k hk => hk.elim (fun h => hK k h) (fun h => ⟨by have := h.1; omega, h.2⟩))
      have q0 := hx7.cell q0 (fun h => h)
      have z7 := free_of' (hx7.at hgh.out (fun h => h))
      have hacc := hid (hacc.out.mod hx7 (fun _ h => h.elim))
      have hN7 : Hid (NodeAt (fun k => k ≠ g ∧ k < w7.heap.size) w7 ⟨kd, tx, nm, ar, ct, .slice b1 m1 c1, .slice av nv cv, .slice b3 m3 c3'⟩ (.mk kd tx nm ar ct fl (spoilS ks which) es)) := hid (.mk ⟨kd, tx, nm, ar, ct, .slice b1 m1 c1, .slice av nv cv, .slice b3 m3 c3'⟩ fl (spoilS ks which) es (hfl.out.mod hx7 (fun _ _ h => h) |>.mono hK) hnw (hes.out.mod hx7 (fun _ _ h => h) |>.mono hK))
      have hn2 := hid (hn2.out.mod hx7 (fun _ _ h => h))
      have hs26 := Nat.le_trans hs26 hx7.size
      have hxw := hid (hxw.out.trans hx7)
      clear hsp hnv hx7 hnw hK zg
      go_upto_region 24 with fail
      have hnz := Acc.set (w' := w7.setCell ⟨g, j * 8 + 6, none⟩ (.slice av nv cv)) hacc.out 6 (.slice av nv cv) rfl hrj.out (by omega) (c' := ⟨kd, tx, nm, ar, ct, .slice b1 m1 c1, .slice av nv cv, .slice b3 m3 c3'⟩) (nd' := (.mk kd tx nm ar ct fl (spoilS ks which) es)) rfl hN7.out
      have hmz : Mod (Eq g) w7 (w7.setCell ⟨g, j * 8 + 6, none⟩ (.slice av nv cv)) := (Mod.refl (Eq g) w7).setCell (fun _ => rfl) _
      generalize (w7.setCell ⟨g, j * 8 + 6, none⟩ (.slice av nv cv)) = wz at hnz hmz ⊢

      have hne := eqL_set hlj.out (y := (.mk kd tx nm ar ct fl (spoilS ks which) es)) (fun h => by injection h; rename_i h1 h2 h3 h4 h5 h6 h7 h8; exact spoil_ne _ _ h7)
      have hszz := szL_set (.mk kd tx nm ar ct fl (spoilS ks which) es) hlj.out
      have hxz : Ext w wz := ((hxw.out.mono (T := fun k => w.heap.size ≤ k) (fun _ h => h.elim)).trans (hmz.mono (fun k e => by have : g = k := e; have := hxw2.out.size; omega))).mono' (fun k hk e => by omega)
      have hn2z := (hn2.out.mod hmz (fun k hk e => by have : g = k := e; have : k < w2.heap.size := hk; omega)).mono (F' := Lo wz) (fun k hk => Nat.lt_of_lt_of_le hk (Nat.le_trans hs26 hmz.size))
      have hbz : szL (l.set j (.mk kd tx nm ar ct fl (spoilS ks which) es)) ≤ 1000000000 := by
        have := spoil_sz ks which
        simp only [szN] at hszz
        have := hsz.out
        omega
      have hA := Same_ok (F := Lo wz) _ _ l (l.set j (.mk kd tx nm ar ct fl (spoilS ks which) es)) wz (r := false) hne.1 hn2z hnz (fun _ h => h) (by have := hsz.out; omega) hbz
      replace hA := hid hA
      replace hxz := hid hxz
      replace hn2z := hid hn2z
      replace hnz := hid hnz
      replace hne := hid hne
      replace hbz := hid hbz
      clear hszz hmz
      go_wp2_with fail
      refine hA.out.mono ?_
      rintro e wy ⟨rfl, hxy⟩
      have hB := Same_ok (F := Lo wy) _ _ (l.set j (.mk kd tx nm ar ct fl (spoilS ks which) es)) l wy (r := false) hne.out.2 (hnz.out.up hxy) (hn2z.out.up hxy) (fun _ h => h) hbz.out (by have := hsz.out; omega)
      have hxy := hid (hxz.out.trans hxy)
      replace hB := hid hB
      clear hA
      go_wp2_with fail
      refine hB.out.mono ?_
      rintro e wx ⟨rfl, hxx⟩
      have hxx := hid (hxy.out.trans hxx)
      go_wp2_with fail
      rw [hpost.out]
      exact ⟨rfl, hxx.out⟩
    · have q0 := hcell.out 7 (by omega)
      replace q0 : w6.cell? ⟨g, j * 8 + 7, none⟩ = some (.slice b3 m3 c3') := q0.trans rfl
      have hcnt := hes.out.count
      have hsp := hid (spoil_any (F := fun k => k ≠ g ∧ k < w6.heap.size) w6 _ _ _ es which hes.out (fun _ h => h.2) (by have := szL_len es; have := hsj9.out; simp only [szN] at this; have := hsz.out; omega) hw1 hw2)
      subst hqc
      replace hcnt := hid hcnt
      go_wp2_with fail
      refine hsp.out.mono ?_
      rintro e w7 ⟨v, rfl, hnv, hx7⟩
      obtain ⟨av, nv, cv, rfl⟩ := hnv.slice
      have hgw : g < w6.heap.size := lt_of_at hgh.out
      have hK : ∀ k, (k ≠ g ∧ k < w6.heap.size) → k ≠ g ∧ k < w7.heap.size := fun k hk => ⟨hk.1, Nat.lt_of_lt_of_le hk.2 hx7.size⟩
      have hnw := hnv.mono (F' := fun k => k ≠ g ∧ k < w7.heap.size) (fun k hk => hk.elim (fun h => hK k h) (fun h => ⟨by have := h.1; omega, h.2⟩))
      have q0 := hx7.cell q0 (fun h => h)
      have z7 := free_of' (hx7.at hgh.out (fun h => h))
      have hacc := hid (hacc.out.mod hx7 (fun _ h => h.elim))
      have hN7 : Hid (NodeAt (fun k => k ≠ g ∧ k < w7.heap.size) w7 ⟨kd, tx, nm, ar, ct, .slice b1 m1 c1, .slice b2 m2 c2', .slice av nv cv⟩ (.mk kd tx nm ar ct fl ks (spoilS es which))) := hid (.mk ⟨kd, tx, nm, ar, ct, .slice b1 m1 c1, .slice b2 m2 c2', .slice av nv cv⟩ fl ks (spoilS es which) (hfl.out.mod hx7 (fun _ _ h => h) |>.mono hK) (hks.out.mod hx7 (fun _ _ h => h) |>.mono hK) hnw)
      have hn2 := hid (hn2.out.mod hx7 (fun _ _ h => h))
      have hs26 := Nat.le_trans hs26 hx7.size
      have hxw := hid (hxw.out.trans hx7)
      clear hsp hnv hx7 hnw hK zg
      go_upto_region 24 with fail
      have hnz := Acc.set (w' := w7.setCell ⟨g, j * 8 + 7, none⟩ (.slice av nv cv)) hacc.out 7 (.slice av nv cv) rfl hrj.out (by omega) (c' := ⟨kd, tx, nm, ar, ct, .slice b1 m1 c1, .slice b2 m2 c2', .slice av nv cv⟩) (nd' := (.mk kd tx nm ar ct fl ks (spoilS es which))) rfl hN7.out
      have hmz : Mod (Eq g) w7 (w7.setCell ⟨g, j * 8 + 7, none⟩ (.slice av nv cv)) := (Mod.refl (Eq g) w7).setCell (fun _ => rfl) _
      generalize (w7.setCell ⟨g, j * 8 + 7, none⟩ (.slice av nv cv)) = wz at hnz hmz ⊢

      have hne := eqL_set hlj.out (y := (.mk kd tx nm ar ct fl ks (spoilS es which))) (fun h => by injection h; rename_i h1 h2 h3 h4 h5 h6 h7 h8; exact spoil_ne _ _ h8)
      have hszz := szL_set (.mk kd tx nm ar ct fl ks (spoilS es which)) hlj.out
      have hxz : Ext w wz := ((hxw.out.mono (T := fun k => w.heap.size ≤ k) (fun _ h => h.elim)).trans (hmz.mono (fun k e => by have : g = k := e; have := hxw2.out.size; omega))).mono' (fun k hk e => by omega)
      have hn2z := (hn2.out.mod hmz (fun k hk e => by have : g = k := e; have : k < w2.heap.size := hk; omega)).mono (F' := Lo wz) (fun k hk => Nat.lt_of_lt_of_le hk (Nat.le_trans hs26 hmz.size))
      have hbz : szL (l.set j (.mk kd tx nm ar ct fl ks (spoilS es which))) ≤ 1000000000 := by
        have := spoil_sz es which
        simp only [szN] at hszz
        have := hsz.out
        omega
      have hA := Same_ok (F := Lo wz) _ _ l (l.set j (.mk kd tx nm ar ct fl ks (spoilS es which))) wz (r := false) hne.1 hn2z hnz (fun _ h => h) (by have := hsz.out; omega) hbz
      replace hA := hid hA
      replace hxz := hid hxz
      replace hn2z := hid hn2z
      replace hnz := hid hnz
      replace hne := hid hne
      replace hbz := hid hbz
      clear hszz hmz
      go_wp2_with fail
      refine hA.out.mono ?_
      rintro e wy ⟨rfl, hxy⟩
      have hB := Same_ok (F := Lo wy) _ _ (l.set j (.mk kd tx nm ar ct fl ks (spoilS es which))) l wy (r := false) hne.out.2 (hnz.out.up hxy) (hn2z.out.up hxy) (fun _ h => h) hbz.out (by have := hsz.out; omega)
      have hxy := hid (hxz.out.trans hxy)
      replace hB := hid hB
      clear hA
      go_wp2_with fail
      refine hB.out.mono ?_
      rintro e wx ⟨rfl, hxx⟩
      have hxx := hid (hxy.out.trans hxx)
      go_wp2_with fail
      rw [hpost.out]
      exact ⟨rfl, hxx.out⟩
end Go.Proofs.YtpgniljgaknlpaaDoor
