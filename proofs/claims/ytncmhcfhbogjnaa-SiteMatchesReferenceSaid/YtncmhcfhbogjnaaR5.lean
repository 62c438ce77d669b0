import Derived.Test.YtncmhcfhbogjnaaR4
/-
  The reference closes a session.
-/
namespace Go.Proofs.Ytncmhcfhbogjnaa
open Go.RowKit Cdk

theorem RClose_none {w : World} {B r : Nat} {R : RefSt} (h : RefAt w B r R) (n : Int) (hn : R.opn.find? (fun p => decide (p.1 = n)) = none) :
    Calls Try.prog 19 #[.pointer (some ⟨r, 0, none⟩), .int .i64 n] w fun e w' => e = .returned (.int .i64 250) ∧ w = w' := by
  have hat := at_any h n
  rcases atI_cases R.opn n with ⟨h1, -⟩ | ⟨k, hk, -, h2, -⟩
  · rw [h1] at hat
    replace hat := hid hat
    clear h1 hn h
    go_enter Try.func19, Try.ntmps19
    go_wp2_with fail
    refine hat.out.mono ?_; rintro e w' ⟨rfl, rfl⟩
    go_wp2_with fail
    go_ret
    exact ⟨rfl, rfl⟩
  · rw [hn] at h2; cases h2

theorem wpList_appS {α : Type} {P : Program} {f : α → List Value} {base : Nat} {e : TypeId} {z : Value} {size bytes : Nat} {w : World} {v : Value} {xs : List α}
    {ops : Array Oper} {rest : List Oper} {o : Oper} {a : Act} {Q : Exit → Act → World → Prop} (hg : o.guard = none) (s x : Operand) (t : TypeId)
    (ho : o.op = .call { callee := .builtin .append, args := #[s, x], argTypes := #[t, t] }) (ht : P.underlying t = some (.slice e)) (el : El P e z size bytes)
    (hs : a.eval s = v) (hown : Own w base e size f v xs) (ao : Option Addr) (m c : Nat) (hx : a.eval x = .slice ao m c) (ys : List α) (hm : ys.length = m) (hrow : RowIs w ao (ys.flatMap f))
    (hf : ∀ y, (f y).length = size) (h1 : ∀ y ∈ ys, ∀ u ∈ f y, u.oneCell' = true) (hlen : xs.length + ys.length ≤ 1099511627776) (hbase : base ≤ w.heap.size) (hc : ao = none → c = 0)
    (n : Nat) (hn : xs.length + m = n)
    (hK : ∀ ao' cap' w', Hid (Own w' base e size f (.slice ao' n cap') (xs ++ ys) ∧ Mod (fun k => v.ownBlock = some k) w w') → wpList P ops Q rest (a.put o.dst (.slice ao' n cap')) w') : wpList P ops Q (o :: rest) a w := by
  refine wpList_app hg s x t ho ht el hs hown ao m c hx ys hm hrow hf h1 hlen hbase hc (fun v' w' H => ?_)
  obtain ⟨ao', cap', hv, -, -⟩ := H.out.1.row
  rw [List.length_append, hm, hn] at hv
  subst hv
  exact hK ao' cap' w' H

theorem RClose_done {w w2 : World} {B r k : Nat} {R : RefSt} {v : Value} (h : RefAt w B r R) (hx : Ext w w2) (hv : Own w2 B 71 4 sessC v (R.opn.take k ++ R.opn.drop (k + 1))) :
    Mod (R.foot r) w (w2.setCell ⟨r, 1, none⟩ v) ∧ RefAt (w2.setCell ⟨r, 1, none⟩ v) B r { R with ov := v, opn := R.opn.take k ++ R.opn.drop (k + 1) } := by
  have h2 := h.ext hx
  have hx7 : Mod (Eq r) w2 (w2.setCell ⟨r, 1, none⟩ v) := (Mod.refl (Eq r) w2).setCell (fun _ => rfl) _
  obtain ⟨-, q2, q3, q4⟩ := h2.other h2.top hx7
  have hvr : ∀ k', v.ownBlock = some k' → ¬ r = k' := fun k' hk' e => by
    obtain ⟨c, hc⟩ := hv.cells hk'
    rw [← e, h2.top] at hc; injection hc with hc; injection hc with _ hc; cases hc
  have hsub : ∀ e ∈ R.opn.take k ++ R.opn.drop (k + 1), e ∈ R.opn := fun e he => by
    rcases List.mem_append.1 he with he | he
    · exact List.mem_of_mem_take he
    · exact List.mem_of_mem_drop he
  refine ⟨(hx.mono (fun _ h => h.elim)).then hx7 (fun k' _ e => .inl e.symm), setCell_heap (j := 1) h2.top _, h.base, q2 (by decide), hv.mod hx7 hvr, fun e he => q4 (by decide) _ _ (h2.rowc e he), fun e he => q4 (by decide) _ _ (h2.rowo e (hsub e he)), h.four, ?_⟩
  have := h.few
  simp only [List.length_append, List.length_take, List.length_drop]
  omega

def RClosePost (w : World) (B r : Nat) (R : RefSt) (k : Nat) (e : Ending) (w' : World) : Prop :=
  ∃ ov, e = .returned (.int .i64 0) ∧ Mod (R.foot r) w w' ∧ RefAt w' B r { R with ov := ov, opn := R.opn.take k ++ R.opn.drop (k + 1) }

set_option maxRecDepth 100000 in
set_option maxHeartbeats 4000000 in
theorem RClose_ok {w : World} {B r : Nat} {R : RefSt} (h : RefAt w B r R) (n : Int) (k : Nat) (hk : k < R.opn.length) (hat0 : atI R.opn n = (k : Int)) (hB : B ≤ w.heap.size) :
    Calls Try.prog 19 #[.pointer (some ⟨r, 0, none⟩), .int .i64 n] w (RClosePost w B r R k) := by
  have hat := at_any h n
  rw [hat0] at hat
  replace hat := hid hat
  have hK : ∀ (ov : Value) (e : Ending) (w' : World), e = .returned (.int .i64 0) → Mod (R.foot r) w w' →
      RefAt w' B r { R with ov := ov, opn := R.opn.take k ++ R.opn.drop (k + 1) } → RClosePost w B r R k e w' := fun ov e w' a b d => ⟨ov, a, b, d⟩
  generalize RClosePost w B r R k = Post at hK ⊢
  replace hK := hid hK
  obtain ⟨-, c1, -, -, fz⟩ := h.cells
  obtain ⟨ao1, cap1, hv1, hrow1, -⟩ := h.opn.row
  obtain ⟨b, off, rfl, -⟩ := sess_at hrow1 hk
  have hcap : R.opn.length ≤ cap1 := by
    rcases h.opn.2 with ⟨hv, hn⟩ | ⟨g, cap, cur, hv, _, _, hle, _⟩
    · omega
    · rw [hv1] at hv; injection hv with _ _ hv; omega
  have hcap2 : cap1 ≤ 9223372036854775807 := by
    rcases h.opn.2 with ⟨hv, hn⟩ | ⟨g, cap, cur, hv, _, _, hle, hm, _⟩
    · omega
    · rw [hv1] at hv; injection hv with _ _ hv; simp only [maxLen] at hm; omega
  have hf := h.few
  obtain ⟨l, hl⟩ : ∃ l, l = R.opn := ⟨_, rfl⟩
  rw [← hl] at hrow1 hk hf hcap hK hv1
  rw [hv1] at c1
  have hRT : RowIs w (some ⟨b, off, none⟩) ((l.take k).flatMap sessC) := by
    intro j u hu
    refine hrow1 j u ?_
    rw [← List.take_append_drop k l, List.flatMap_append]
    rw [List.getElem?_append_left (List.getElem?_eq_some_iff.1 hu).1]; exact hu
  have hRD : RowIs w (some ⟨b, off + (k + 1) * 4, none⟩) ((l.drop (k + 1)).flatMap sessC) := by
    intro j u hu
    obtain ⟨b', off', e, hc⟩ := hrow1 ((k + 1) * 4 + j) u (by
      rw [← List.take_append_drop (k + 1) l, List.flatMap_append]
      rw [List.getElem?_append_right (by rw [flat_length _ 4 sessC_len, List.length_take]; omega)]
      rw [flat_length _ 4 sessC_len, List.length_take, Nat.min_eq_left (by omega), Nat.add_sub_cancel_left]; exact hu)
    injection e with e; injection e with e1 e2 e3
    subst e1 e2
    exact ⟨_, _, rfl, by rw [Nat.add_assoc]; exact hc⟩
  have hrl := lt_of_at h.top
  replace hRT := hid hRT
  replace hRD := hid hRD
  replace hl := hid hl
  replace h := hid h
  replace hv1 := hid hv1
  obtain ⟨N, hN⟩ : ∃ N, N = l.length := ⟨_, rfl⟩
  rw [← hN] at hk hf hcap c1
  replace hN := hid hN
  clear hrow1 hat0
  go_enter Try.func19, Try.ntmps19
  go_wp2_with fail
  refine hat.out.mono ?_; rintro e w' ⟨rfl, rfl⟩
  have hone : ∀ z ∈ l, ∀ u ∈ sessC z, u.oneCell' = true := fun z hz u hu => by
    have hpr := PgRow.one (h.out.rowo z (by rw [← hl.out]; exact hz))
    simp [sessC] at hu
    rcases hu with rfl | rfl | rfl | rfl
    · rfl
    · rfl
    · rfl
    · exact hpr
  replace hone := hid hone
  have hlt : Hid ((l.take k).length = k) := hid (by rw [List.length_take]; have := hN.out; omega)
  have hld : Hid ((l.drop (k + 1)).length = N - (k + 1)) := hid (by rw [List.length_drop, hN.out])
  go_upto_region 6 with (first | (at_builtin; refine wpList_app rfl _ _ _ rfl Try.underlying43 el71 rfl (Own.nil w w.heap.size 71 4 sessC) _ k cap1 rfl (l.take k) hlt.out hRT.out sessC_len (fun z hz u hu => hone.out z (List.mem_of_mem_take hz) u hu) (by have := hlt.out; simp only [List.length_nil]; omega) (Nat.le_refl _) (by simp) (fun v1 w1 H1 => ?_); go_frame))
  have hx1 : Ext w w1 := H1.out.2.mono (fun k' e => by cases e)
  have hw1 : Own w1 w.heap.size 71 4 sessC v1 (l.take k) := H1.out.1
  have c1' := hx1.cell c1 (fun h => h)
  have hB1 : w.heap.size ≤ w1.heap.size := hx1.size
  have hRD1 : Hid (RowIs w1 (some ⟨b, off + (k + 1) * 4, none⟩) ((l.drop (k + 1)).flatMap sessC)) := hid (fun j u hu => by
    obtain ⟨b', off', e, hc⟩ := hRD.out j u hu
    exact ⟨b', off', e, hx1.cell hc (fun h => h)⟩)
  have fz1 := free_of (hx1.at h.out.top (fun h => h))
  have hwk : IntKind.i64.wrap ((k : Int) + 1) = ((k + 1 : Nat) : Int) := by rw [Go.IntWalk.i64_in _ (by omega)]; omega
  replace hx1 := hid hx1
  replace hw1 := hid hw1
  clear H1 c1
  by_cases hcc : cap1 = k + 1
  · obtain rfl : N = k + 1 := by omega
    subst hcc
    have hde : l.drop (k + 1) = [] := List.eq_nil_of_length_eq_zero (by have := hld.out; omega)
    replace hde := hid hde
    go_wp2_with (at_builtin; refine wpList_appS rfl _ _ _ rfl Try.underlying43 el71 rfl hw1.out (some ⟨b, off, none⟩) 0 0 rfl [] rfl (RowIs.nil _ _) sessC_len (fun z hz u hu => by cases hz) (by have := hlt.out; simp only [List.length_nil]; omega) hB1 (by simp) k (by have := hlt.out; omega) (fun ao2 cap2 w2 H2 => ?_); have hx2 : Ext w w2 := hx1.out.then H2.out.2 (fun k' hk' e => by have := (hw1.out.block k' e).1; omega); have htop2 := hx2.at h.out.top (fun h => h); have fz2 := free_of htop2; have c12 : w2.cell? ⟨r, 1, none⟩ = some R.ov := (cell_of htop2 1).trans rfl; replace htop2 := hid htop2; replace hx2 := hid hx2; go_frame)
    have hd := hid (RClose_done h.out hx2.out (v := .slice ao2 k cap2) (k := k) (by
      have := H2.out.1.weaken hB
      rw [← hl.out]
      rw [hde.out]; exact this))
    exact hK.out _ _ _ rfl hd.out.1 (by rw [hl.out]; exact hd.out.2)
  · go_wp2_with (at_builtin; (refine wpList_appS rfl _ _ _ rfl Try.underlying43 el71 rfl hw1.out _ (N - (k + 1)) (cap1 - (k + 1)) rfl (l.drop (k + 1)) hld.out hRD1.out sessC_len (fun z hz u hu => hone.out z (List.mem_of_mem_drop hz) u hu) (by have := hld.out; have := hlt.out; omega) hB1 (by simp) (N - 1) (by have := hlt.out; omega) (fun ao2 cap2 w2 H2 => ?_); have hx2 : Ext w w2 := hx1.out.then H2.out.2 (fun k' hk' e => by have := (hw1.out.block k' e).1; omega); have htop2 := hx2.at h.out.top (fun h => h); have fz2 := free_of htop2; have c12 : w2.cell? ⟨r, 1, none⟩ = some R.ov := (cell_of htop2 1).trans rfl; replace htop2 := hid htop2; replace hx2 := hid hx2; go_frame))
    have hd := hid (RClose_done h.out hx2.out (v := .slice ao2 (N - 1) cap2) (k := k) (by
      have := H2.out.1.weaken hB
      rw [← hl.out]
      exact this))
    exact hK.out _ _ _ rfl hd.out.1 (by rw [hl.out]; exact hd.out.2)
end Go.Proofs.Ytncmhcfhbogjnaa
