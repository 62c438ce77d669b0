import Derived.Test.YtncmhcfhbogjnaaR5
import Derived.Test.YtncmhcfhbogjnaaR0
/-
  The reference publishes: what its memory comes to, in plain laws.
-/
namespace Go.Proofs.Ytncmhcfhbogjnaa
open Go.RowKit Cdk

def strip (e : Sess) : Int × Int × Int × List Pg := (e.1, e.2.1, e.2.2.1, e.2.2.2.2)
def stripC (e : Shot) : Int × List Pg := (e.1, e.2.2)
def leftL (l old : List Pg) : List Pg := old.filterMap (fun p => l.find? (fun q => decide (q.1 = p.1)))
def purgeS (c : Int) (l : List Pg) (e : Int × Int × Int × List Pg) : Int × Int × Int × List Pg := if e.2.1 = c then (e.1, e.2.1, e.2.2.1, leftL l e.2.2.2) else e

theorem RefAt.setMade {w : World} {B r : Nat} {R : RefSt} (h : RefAt w B r R) (m : Int) : RefAt (w.setCell ⟨r, 3, none⟩ (.int .i64 m)) B r { R with made := m } := by
  have hx : Mod (Eq r) w (w.setCell ⟨r, 3, none⟩ (.int .i64 m)) := (Mod.refl (Eq r) w).setCell (fun _ => rfl) _
  obtain ⟨-, h2, h3, h4⟩ := h.other h.top hx
  exact ⟨setCell_heap (j := 3) h.top _, h.base, h2 (by decide), h3 (by decide), fun e he => h4 (by decide) _ _ (h.rowc e he), fun e he => h4 (by decide) _ _ (h.rowo e he), h.four, h.few⟩

theorem RefAt.setCur {w : World} {B r : Nat} {R : RefSt} (h : RefAt w B r R) {b : Nat} (hb : R.cv.ownBlock = some b) {j : Nat} (hj : j < 4) (m : Int) {x : Value} {ps : List Pg} (hx : PgRow w x ps) :
    RefAt ((w.setCell ⟨b, j * 2, none⟩ (.int .i64 m)).setCell ⟨b, j * 2 + 1, none⟩ x) B r { R with cur := R.cur.set j (m, x, ps) } := by
  obtain ⟨c, hc⟩ := h.cur.cells hb
  have hx1 : Mod (Eq b) w ((w.setCell ⟨b, j * 2, none⟩ (.int .i64 m)).setCell ⟨b, j * 2 + 1, none⟩ x) := ((Mod.refl (Eq b) w).setCell (fun _ => rfl) _).setCell (fun _ => rfl) _
  obtain ⟨h1, -, h3, h4⟩ := h.other hc hx1
  have hjl : j < R.cur.length := by have := h.four; omega
  have a1 := h.cur.set1 shotC_len hb hjl (j := 0) (by omega) (x' := (m, R.cur[j].2)) (u := .int .i64 m) rfl
  have a2 := a1.set1 shotC_len hb (k := j) (j := 1) (by simpa using hjl) (by omega) (x' := (m, x, ps)) (u := x) (by simp [shotC])
  rw [List.set_set] at a2
  refine ⟨h1 (by decide), h.base, a2, h3 (by decide), fun e he => ?_, fun e he => h4 (by decide) _ _ (h.rowo e he), by rw [List.length_set]; exact h.four, h.few⟩
  rcases List.mem_or_eq_of_mem_set he with he | rfl
  · exact h4 (by decide) _ _ (h.rowc e he)
  · exact h4 (by decide) _ _ hx

theorem RefAt.setPages {w : World} {B r : Nat} {R : RefSt} (h : RefAt w B r R) {b : Nat} (hb : R.ov.ownBlock = some b) {k : Nat} (hk : k < R.opn.length) {x : Value} {ps : List Pg} (hx : PgRow w x ps) :
    RefAt (w.setCell ⟨b, k * 4 + 3, none⟩ x) B r { R with opn := R.opn.set k (R.opn[k].1, R.opn[k].2.1, R.opn[k].2.2.1, x, ps) } := by
  obtain ⟨c, hc⟩ := h.opn.cells hb
  have hx1 : Mod (Eq b) w (w.setCell ⟨b, k * 4 + 3, none⟩ x) := (Mod.refl (Eq b) w).setCell (fun _ => rfl) _
  obtain ⟨h1, h2, -, h4⟩ := h.other hc hx1
  have a1 := h.opn.set1 sessC_len hb hk (j := 3) (by omega) (x' := (R.opn[k].1, R.opn[k].2.1, R.opn[k].2.2.1, x, ps)) (u := x) rfl
  refine ⟨h1 (by decide), h.base, h2 (by decide), a1, fun e he => h4 (by decide) _ _ (h.rowc e he), fun e he => ?_, h.four, by rw [List.length_set]; exact h.few⟩
  rcases List.mem_or_eq_of_mem_set he with he | rfl
  · exact h4 (by decide) _ _ (h.rowo e he)
  · exact h4 (by decide) _ _ hx

theorem findI_find (l : List Pg) (a : ByteArray) : (findI l a = -1 ∧ l.find? (fun q => decide (q.1 = a)) = none) ∨ ∃ k, ∃ h : k < l.length, findI l a = (k : Int) ∧ l.find? (fun q => decide (q.1 = a)) = some l[k] := by
  unfold findI
  cases hf : l.findIdx? (fun p => decide (p.1 = a)) with
  | none =>
    left
    refine ⟨rfl, ?_⟩
    rw [List.findIdx?_eq_none_iff] at hf
    rw [List.find?_eq_none]
    intro p hp
    simpa using hf p hp
  | some k =>
    right
    rw [List.findIdx?_eq_some_iff_getElem] at hf
    obtain ⟨hk, h1, h2⟩ := hf
    refine ⟨k, hk, rfl, ?_⟩
    rw [List.find?_eq_some_iff_getElem]
    exact ⟨h1, k, hk, rfl, fun j hj => by simpa using h2 j hj⟩

theorem findI_nodup {l : List Pg} (hn : (l.map (·.1)).Nodup) {k : Nat} (hk : k < l.length) : findI l l[k].1 = (k : Int) := by
  refine findI_some hk (fun j hj p hp e => ?_) rfl
  have hjl : j < l.length := by omega
  rw [List.getElem?_eq_getElem hjl] at hp
  have hp := Option.some.inj hp
  have h1 := List.pairwise_iff_getElem.1 hn j k (by simpa using hjl) (by simpa using hk) hj
  simp only [List.getElem_map] at h1
  exact h1 (by rw [hp]; exact e)

theorem leftL_succ (l old : List Pg) {q : Nat} (hq : q < old.length) : leftL l (old.take (q + 1)) = leftL l (old.take q) ++ ((l.find? (fun x => decide (x.1 = old[q].1))).toList) := by
  unfold leftL
  rw [take_succ' hq, List.filterMap_append]
  congr 1

theorem leftL_len (l old : List Pg) : (leftL l old).length ≤ old.length := List.length_filterMap_le _ _

theorem step_list {β : Type} (f : β → β) {A T : List β} {k : Nat} (hA : A = (T.take k).map f ++ T.drop k) (hk : k < T.length) :
    A.set k (f T[k]) = (T.take (k + 1)).map f ++ T.drop (k + 1) ∧ A[k]? = some T[k] ∧ A.length = T.length := by
  subst hA
  have hl : ((T.take k).map f).length = k := by rw [List.length_map, List.length_take]; omega
  have hd : T.drop k = T[k] :: T.drop (k + 1) := List.drop_eq_getElem_cons hk
  refine ⟨?_, ?_, ?_⟩
  · rw [List.set_append_right _ _ (by omega), hl, Nat.sub_self, hd, List.set_cons_zero, take_succ' hk, List.map_append]
    simp
  · rw [List.getElem?_append_right (by omega), hl, Nat.sub_self, hd]; rfl
  · rw [List.length_append, hl, List.length_drop]; omega

theorem wp_appS {α : Type} {P : Program} {f : α → List Value} {base : Nat} {e : TypeId} {z : Value} {size bytes : Nat} {w : World} {v : Value} {xs : List α}
    {o : Oper} {a : Act} {K : Act → World → Prop} {Q : Exit → Act → World → Prop} (s x : Operand) (t : TypeId)
    (ho : o.op = .call { callee := .builtin .append, args := #[s, x], argTypes := #[t, t] }) (ht : P.underlying t = some (.slice e)) (el : El P e z size bytes)
    (hs : a.eval s = v) (hown : Own w base e size f v xs) (ao : Option Addr) (m c : Nat) (hx : a.eval x = .slice ao m c) (ys : List α) (hm : ys.length = m) (hrow : RowIs w ao (ys.flatMap f))
    (hf : ∀ y, (f y).length = size) (h1 : ∀ y ∈ ys, ∀ u ∈ f y, u.oneCell' = true) (hlen : xs.length + ys.length ≤ 1099511627776) (hbase : base ≤ w.heap.size) (hc : ao = none → c = 0)
    (n : Nat) (hn : xs.length + m = n)
    (hK : ∀ ao' cap' w', Hid (Own w' base e size f (.slice ao' n cap') (xs ++ ys) ∧ Mod (fun k => v.ownBlock = some k) w w') → K (a.put o.dst (.slice ao' n cap')) w') : o.wp P a w K Q := by
  refine wp_app s x t ho ht el hs hown ao m c hx ys hm hrow hf h1 hlen hbase hc (fun v' w' H => ?_)
  obtain ⟨ao', cap', hv, -, -⟩ := H.out.1.row
  rw [List.length_append, hm, hn] at hv
  subst hv
  exact hK ao' cap' w' H

theorem RPublish_bad {w : World} {r : Nat} (c : Int) (x : Value) (pg : Bool) (hbad : isClassB c = false) :
    Calls Try.prog 15 #[.pointer (some ⟨r, 0, none⟩), .int .i64 c, x, .bool pg] w fun e w' => e = .returned (.int .i64 250) ∧ w = w' := by
  have hrc := rclass_any c w
  rw [hbad] at hrc
  replace hrc := hid hrc
  clear hbad
  go_enter Try.func15, Try.ntmps15
  go_wp2_with fail
  refine hrc.out.mono ?_; rintro e w' ⟨rfl, rfl⟩
  go_wp2_with fail
  go_ret
  exact ⟨rfl, rfl⟩
end Go.Proofs.Ytncmhcfhbogjnaa
