import Derived.Test.YtpgniljgaknlpaaGreatDoorK22
/-
  'Same': what is read, and the stack of what remains to be compared.
-/
namespace Go.Proofs.YtpgniljgaknlpaaGreatDoor
open Go.RowKit Cdk Tpl

mutual
/-- The size of a node. -/
def szN : Nd → Nat
  | .mk _ _ _ _ _ f ks es => 3 + f.length + szL ks + szL es
def szL : List Nd → Nat
  | [] => 0
  | x :: r => szN x + szL r
end

theorem szL_len : ∀ (l : List Nd), 3 * l.length ≤ szL l
  | [] => by simp [szL]
  | .mk k t n a c f ks es :: r => by
    have := szL_len r
    simp only [List.length_cons, szL, szN]; omega

mutual
theorem bdN_sz : ∀ (x : Nd), szN x ≤ 1000000000 → bdN x
  | .mk k t n a c f ks es, h => by
    simp only [szN] at h
    have h1 := szL_len ks
    have h2 := szL_len es
    exact ⟨by omega, ⟨by omega, bdL_sz ks (by omega)⟩, ⟨by omega, bdL_sz es (by omega)⟩⟩
theorem bdL_sz : ∀ (l : List Nd), szL l ≤ 1000000000 → bdL l
  | [], _ => trivial
  | x :: r, h => by
    simp only [szL] at h
    exact ⟨bdN_sz x (by omega), bdL_sz r (by omega)⟩
end

theorem szL_drop {l : List Nd} {j : Nat} (hj : j < l.length) : szL (l.drop j) = szN l[j] + szL (l.drop (j + 1)) := by
  rw [List.drop_eq_getElem_cons hj, szL]

/-- 'Print', with one bound alone. -/
theorem Print_sz {F : Nat → Prop} (v : Value) (l : List Nd) (w : World) (hg : Gl w) (hn : NodesAt F w v l) (hF : ∀ k, F k → k < w.heap.size) (hs : szL l ≤ 1000000000) : Calls Tryz.prog 17 #[v] w (PrintP w l) :=
  Print_any v l w hg hn hF (by have := szL_len l; omega) (bdL_sz l hs)

/-- slices.Equal of strings. -/
theorem Equal_any {F : Nat → Prop} (v1 v2 : Value) (l1 l2 : List Bs) (w : World) (h1 : StrsAt F w v1 l1) (h2 : StrsAt F w v2 l2) (hb1 : l1.length ≤ 1000000000) (hb2 : l2.length ≤ 1000000000) :
    Calls Tryz.prog 32 #[v1, v2] w fun e w' => e = .returned (.bool (decide (l1 = l2))) ∧ Ext w w' := by
  obtain ⟨a1, c1, rfl, r1, -⟩ := h1
  obtain ⟨a2, c2, rfl, r2, -⟩ := h2
  by_cases h0 : l1.length = 0
  · have e1 : l1 = [] := List.eq_nil_of_length_eq_zero h0
    subst e1
    refine (Tryz.slices_Equal_string_empty a1 a2 c1 l2.length c2 w (by omega)).mono ?_
    rintro e w' ⟨rfl, rfl⟩
    refine ⟨?_, Mod.refl _ _⟩
    congr 2
    cases l2 <;> simp
  · by_cases hne : l1.length = l2.length
    · obtain ⟨b1, o1, rfl, f1⟩ := r1.at (by rw [flat_length _ 1 strC_len]; omega)
      obtain ⟨b2, o2, rfl, f2⟩ := r2.at (by rw [flat_length _ 1 strC_len]; omega)
      have cell : ∀ (l : List Bs) (b o : Nat), (∀ (j : Nat) (u : Value), (l.flatMap strC)[j]? = some u → w.cell? ⟨b, o + j, none⟩ = some u) → ∀ j, j < (l.map (fun s => (⟨s.toArray⟩ : ByteArray))).length → w.cell? ⟨b, o + j, none⟩ = some (.string ((l.map (fun s => (⟨s.toArray⟩ : ByteArray))).getD j ByteArray.empty)) := by
        intro l b o f j hj
        rw [List.length_map] at hj
        have := f _ _ ((flat_get strC 1 strC_len l j 0 l[j] (List.getElem?_eq_getElem hj) (by omega)).trans rfl)
        simp only [Nat.mul_one, Nat.add_zero, strV] at this
        rw [this]
        simp [hj]
      refine (Tryz.slices_Equal_string b1 o1 l1.length c1 b2 o2 l2.length c2 (l1.map (fun s => (⟨s.toArray⟩ : ByteArray))) (l2.map (fun s => (⟨s.toArray⟩ : ByteArray))) w (by simp) (by simp) (by omega) (by omega) (cell l1 b1 o1 f1) (cell l2 b2 o2 f2)).mono ?_
      rintro e w' ⟨rfl, q, rfl⟩
      refine ⟨?_, (Mod.refl _ _).ofDrewN q⟩
      congr 2
      rw [Bool.eq_iff_iff, decide_eq_true_eq, decide_eq_true_eq, List.take_of_length_le (by simp), List.take_of_length_le (by simp)]
      refine ⟨fun h => ?_, fun h => by rw [h]⟩
      have hinj : Function.Injective (fun s : Bs => (⟨s.toArray⟩ : ByteArray)) := fun a b h => strV_inj h
      exact (List.map_inj_right hinj).1 h
    · refine (Tryz.slices_Equal_string_lens a1 a2 l1.length c1 l2.length c2 w hne).mono ?_
      rintro e w' ⟨rfl, rfl⟩
      refine ⟨?_, Mod.refl _ _⟩
      congr 2
      rw [eq_comm, decide_eq_false_iff_not]
      exact fun h => hne (by rw [h])

/-- A pair's cells. -/
def pairC (p : Value × Value) : List Value := [p.1, p.2]
theorem pairC_len (p : Value × Value) : (pairC p).length = 2 := rfl

/-- What the pairs on the stack hold. -/
inductive PairsAt (F : Nat → Prop) (w : World) : List (Value × Value) → List (List Nd × List Nd) → Prop
  | nil : PairsAt F w [] []
  | snoc (xs : List (Value × Value)) (ps : List (List Nd × List Nd)) (u1 u2 : Value) (a b : List Nd) : PairsAt F w xs ps → NodesAt F w u1 a → NodesAt F w u2 b → PairsAt F w (xs ++ [(u1, u2)]) (ps ++ [(a, b)])

theorem PairsAt.mod {F S : Nat → Prop} {w w' : World} (hm : Mod S w w') (hS : ∀ k, F k → ¬ S k) : ∀ {xs : List (Value × Value)} {ps : List (List Nd × List Nd)}, PairsAt F w xs ps → PairsAt F w' xs ps
  | _, _, .nil => .nil
  | _, _, .snoc xs ps u1 u2 a b h h1 h2 => .snoc xs ps u1 u2 a b (PairsAt.mod hm hS h) (h1.mod hm hS) (h2.mod hm hS)

theorem PairsAt.one {F : Nat → Prop} {w : World} {u1 u2 : Value} {a b : List Nd} (h1 : NodesAt F w u1 a) (h2 : NodesAt F w u2 b) : PairsAt F w [(u1, u2)] [(a, b)] := .snoc [] [] u1 u2 a b .nil h1 h2

theorem PairsAt.len {F : Nat → Prop} {w : World} : ∀ {xs : List (Value × Value)} {ps : List (List Nd × List Nd)}, PairsAt F w xs ps → xs.length = ps.length
  | _, _, .nil => rfl
  | _, _, .snoc xs ps u1 u2 a b h h1 h2 => by simp [PairsAt.len h]

theorem PairsAt.pop {F : Nat → Prop} {w : World} {xs : List (Value × Value)} {ps : List (List Nd × List Nd)} (h : PairsAt F w xs ps) (hp : 0 < xs.length) : ∃ xs' ps' u1 u2 a b, xs = xs' ++ [(u1, u2)] ∧ ps = ps' ++ [(a, b)] ∧ PairsAt F w xs' ps' ∧ NodesAt F w u1 a ∧ NodesAt F w u2 b := by
  cases h with
  | nil => simp at hp
  | snoc xs ps u1 u2 a b h h1 h2 => exact ⟨xs, ps, u1, u2, a, b, rfl, rfl, h, h1, h2⟩

/-- Are all the pairs equal? -/
def allEq (ps : List (List Nd × List Nd)) : Bool := ps.all fun p => eqL p.1 p.2
theorem allEq_snoc (ps : List (List Nd × List Nd)) (a b : List Nd) : allEq (ps ++ [(a, b)]) = (allEq ps && eqL a b) := by simp [allEq]
/-- What remains to be done. -/
def szP : List (List Nd × List Nd) → Nat
  | [] => 0
  | p :: r => 1 + szL p.1 + szP r
theorem szP_snoc (ps : List (List Nd × List Nd)) (a b : List Nd) : szP (ps ++ [(a, b)]) = szP ps + 1 + szL a := by
  induction ps with
  | nil => simp [szP]
  | cons p r ih => simp only [List.cons_append, szP, ih]; omega
theorem szP_len : ∀ (ps : List (List Nd × List Nd)), ps.length ≤ szP ps
  | [] => by simp [szP]
  | p :: r => by have := szP_len r; simp only [List.length_cons, szP]; omega

theorem eqL_len {a b : List Nd} (h : a.length ≠ b.length) : eqL a b = false := by
  rw [Bool.eq_false_iff]
  intro e
  exact h (by rw [(eqL_iff a b).1 e])
theorem eqL_drop {a b : List Nd} {j : Nat} (h1 : j < a.length) (h2 : j < b.length) : eqL (a.drop j) (b.drop j) = (eqN a[j] b[j] && eqL (a.drop (j + 1)) (b.drop (j + 1))) := by
  rw [List.drop_eq_getElem_cons h1, List.drop_eq_getElem_cons h2, eqL]

theorem own_one {w : World} {base : Nat} {e : TypeId} (p : Value × Value) (h : base ≤ w.heap.size) : Cdk.Own (w.alloc (.cells #[p.1, p.2] e)) base e 2 pairC (.slice (some ⟨w.heap.size, 0, none⟩) 1 1) [p] :=
  ⟨rfl, .inr ⟨w.heap.size, 1, #[p.1, p.2], rfl, h, heap_alloc_new w _, Nat.le_refl _, by decide, rfl, rfl⟩⟩

theorem own_pop {w : World} {base : Nat} {e : TypeId} {ao : Option Addr} {n cap : Nat} {xs : List (Value × Value)} {p : Value × Value} (h : Cdk.Own w base e 2 pairC (.slice ao (n + 1) cap) (xs ++ [p])) (hn : xs.length = n) : Cdk.Own w base e 2 pairC (.slice ao n cap) xs := by
  subst hn
  refine ⟨flat_length pairC 2 pairC_len xs, ?_⟩
  rcases h.2 with ⟨h2, -⟩ | ⟨g, cap', cur, h2, h3, h4, h5, h6, h7, h8⟩
  · injection h2 with _ h2 _; simp at h2
  · injection h2 with e1 e2 e3
    subst e1; subst e3
    refine .inr ⟨g, cap, cur, rfl, h3, h4, by omega, h6, h7, ?_⟩
    have h9 := congrArg (List.take (xs.length * 2)) h8
    rw [List.take_take, List.flatMap_append, List.take_left' (by rw [flat_length pairC 2 pairC_len])] at h9
    rw [← h9]
    congr 1
    simp only [List.length_append, List.length_singleton]; omega

theorem el63 : El Tryz.prog 71 (.agg #[.slice none 0 0, .slice none 0 0]) 2 48 := ⟨by kernel_rfl, rfl, by decide, by decide⟩
end Go.Proofs.YtpgniljgaknlpaaGreatDoor
