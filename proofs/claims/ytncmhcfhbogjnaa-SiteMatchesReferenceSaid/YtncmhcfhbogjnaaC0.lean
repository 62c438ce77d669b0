import Derived.Test.YtncmhcfhbogjnaaL5
namespace Go.Proofs.Ytncmhcfhbogjnaa
open Go.RowKit Cdk

/-! Each snapshot is one class's. -/

def SiteSt.cls (st : SiteSt) : Prop := ∃ f : Nat → Int, (∀ c : Nat, c < 4 → f (st.cur c) = c) ∧ ∀ q ∈ st.ses, f q.2.2 = q.2.1

theorem newSt_cls (B : Nat) : (newSt B).cls :=
  ⟨fun p => ((p - B - 3) / 2 : Nat), fun c hc => by simp only [newSt]; congr 1; omega, fun q hq => by cases hq⟩

theorem purgedSt_cls {st : SiteSt} (h : st.cls) (c : Int) (d : Txt) (l : List Int) : (purgedSt st c d l).cls := h

theorem pubSt_cls {st : SiteSt} (h : st.cls) {j N tb : Nat} {d : Txt} (hj : j < 4) (hN : ∀ p, st.live p → p ≠ N) : (pubSt st j N tb d).cls := by
  obtain ⟨f, h1, h2⟩ := h
  refine ⟨fun p => if p = N then j else f p, fun c hc => ?_, fun q hq => ?_⟩
  · simp only [pubSt]
    by_cases e : c = j
    · simp [e]
    · simp only [e, if_false]
      rw [if_neg (hN _ (.inl ⟨c, hc, rfl⟩))]
      exact h1 c hc
  · simp only
    rw [if_neg (hN _ (.inr ⟨q, hq, rfl⟩))]
    exact h2 q hq

theorem purged_live {st : SiteSt} {c : Int} {d : Txt} {l : List Int} {p : Nat} : (purgedSt st c d l).live p ↔ st.live p := Iff.rfl

theorem pubAll_cls {st : SiteSt} (h : st.cls) {c : Int} {pg : Bool} {N tb : Nat} {l : List Pg} (hc : isClassB c = true) (hN : ∀ p, st.live p → p ≠ N) : (pubAll st c pg N tb l).cls := by
  have := isClassB_iff.1 hc
  unfold pubAll
  cases pg with
  | false => exact pubSt_cls h (by omega) hN
  | true => exact pubSt_cls (purgedSt_cls h _ _ _) (by omega) hN

theorem SiteAt.fresh {w : World} {F : Nat → Prop} {s : Nat} {st : SiteSt} (h : SiteAt w F s st) {N : Nat} (hN : w.heap.size ≤ N) : ∀ p, st.live p → p ≠ N :=
  fun p hp e => by have := h.lt p (h.shot p hp).1; omega

theorem Did.keeps_cls {B : Nat} {st st' : SiteSt} {o : OpI} {v opened n e : Int} (h : Did B st o v opened n e st') (hc : st.cls) (hf : ∀ N, B ≤ N → ∀ p, st.live p → p ≠ N) : st'.cls := by
  cases h with
  | pub pg hk hcc N tb hN => exact pubAll_cls hc hcc (hf N hN)
  | bad => exact hc
  | opn hk hcc hl =>
    obtain ⟨f, h1, h2⟩ := hc
    refine ⟨f, h1, fun q hq => ?_⟩
    rcases List.mem_append.1 hq with hq | hq
    · exact h2 q hq
    · simp at hq; subst hq
      have := isClassB_iff.1 hcc
      have := h1 (classI o.cls).toNat (by omega)
      show f (st.cur (classI o.cls).toNat) = classI o.cls
      omega
  | full => exact hc
  | cls =>
    obtain ⟨f, h1, h2⟩ := hc
    exact ⟨f, h1, fun q hq => h2 q (List.mem_filter.1 hq).1⟩

/-- A publication for one class is not seen by readers of another. -/
theorem GetR_other {st : SiteSt} (h : st.cls) {c : Int} {pg : Bool} {N tb : Nat} {l : List Pg} (hc : isClassB c = true) (hN : ∀ p, st.live p → p ≠ N) {i : Int} (hi : i ≠ c) (a : ByteArray) :
    GetR (pubAll st c pg N tb l) i a = GetR st i a := by
  obtain ⟨f, h1, h2⟩ := h
  unfold GetR
  cases hic : isClassB i with
  | false => simp
  | true =>
    have b1 := isClassB_iff.1 hic
    have b2 := isClassB_iff.1 hc
    have hne : i.toNat ≠ c.toNat := by omega
    have hlv : st.cur i.toNat ≠ N := hN _ (.inl ⟨i.toNat, by omega, rfl⟩)
    simp only [if_true]
    congr 1
    unfold pubAll
    cases pg with
    | false => simp only [pubSt, hne, if_false, Bool.false_eq_true, hlv]
    | true =>
      simp only [pubSt, hne, if_false, if_true, purgedSt, hlv]
      rw [if_neg]
      intro hx
      obtain ⟨q, hq, hq2⟩ := List.any_eq_true.1 hx
      simp only [Bool.and_eq_true, decide_eq_true_eq] at hq2
      have e1 := h2 q hq
      have e2 := h1 i.toNat (by omega)
      rw [hq2.2] at e1
      omega

theorem viewGs_len (st : SiteSt) : (viewGs st).length = 30 := by
  unfold viewGs; rw [flat_len _ 5 (fun k => by simp [viewG, addrs_len])]
theorem viewL_len (st : SiteSt) (n : Nat) : (viewL st n).length = 30 + (n + 2) * 5 := by
  unfold viewL viewRs; rw [List.length_append, viewGs_len, flat_len _ 5 (fun k => by simp [viewR, addrs_len])]

theorem flat_at {α : Type} (f : Nat → List α) (c : Nat) (hf : ∀ k, (f k).length = c) : ∀ (n i j : Nat), i < n → j < c → ((List.range n).flatMap f)[i * c + j]? = (f i)[j]?
  | 0, _, _, h, _ => by omega
  | n + 1, i, j, hi, hj => by
    rw [flat_succ]
    have hl := flat_len f c hf n
    by_cases hin : i < n
    · have : i * c + j < n * c := by
        have : (i + 1) * c ≤ n * c := Nat.mul_le_mul_right c hin
        rw [Nat.add_mul] at this; omega
      rw [List.getElem?_append_left (by omega)]
      exact flat_at f c hf n i j hin hj
    · obtain rfl : i = n := by omega
      rw [List.getElem?_append_right (by omega), hl]
      congr 1; omega

theorem viewL_get (st : SiteSt) (n t : Nat) (ht : t < 30) : (viewL st n)[t]? = some (entR (GetR st ((t / 5 : Nat) - 1 : Int) (addrs.getD (t % 5) .empty))) := by
  unfold viewL
  rw [List.getElem?_append_left (by rw [viewGs_len]; exact ht)]
  unfold viewGs
  have := flat_at (fun (k : Nat) => viewG st ((k : Int) - 1)) 5 (fun k => by simp [viewG, addrs_len]) 6 (t / 5) (t % 5) (by omega) (by omega)
  rw [show t / 5 * 5 + t % 5 = t by omega] at this
  rw [this]
  unfold viewG
  rw [List.getElem?_map, List.getD_eq_getElem?_getD]
  have hl : t % 5 < addrs.length := by rw [addrs_len]; omega
  rw [List.getElem?_eq_getElem hl]
  rfl

theorem viewL_read (st : SiteSt) (n t : Nat) (h30 : 30 ≤ t) (ht : t < 30 + (n + 2) * 5) : (viewL st n)[t]? = some (entR (ReadR st (((t - 30) / 5 : Nat) : Int) (addrs.getD ((t - 30) % 5) .empty))) := by
  unfold viewL
  rw [List.getElem?_append_right (by rw [viewGs_len]; exact h30), viewGs_len]
  unfold viewRs
  have := flat_at (fun (k : Nat) => viewR st (k : Int)) 5 (fun k => by simp [viewR, addrs_len]) (n + 2) ((t - 30) / 5) ((t - 30) % 5) (by omega) (by omega)
  rw [show (t - 30) / 5 * 5 + (t - 30) % 5 = t - 30 by omega] at this
  rw [this]
  unfold viewR
  rw [List.getElem?_map, List.getD_eq_getElem?_getD]
  have hl : (t - 30) % 5 < addrs.length := by rw [addrs_len]; omega
  rw [List.getElem?_eq_getElem hl]
  rfl

theorem view_same {st : SiteSt} (h : st.cls) {c : Int} {pg : Bool} {N tb : Nat} {l : List Pg} (hc : isClassB c = true) (hN : ∀ p, st.live p → p ≠ N) {n t : Nat} (ht : t < 30) (hne : ((t / 5 : Nat) : Int) - 1 ≠ c) :
    (viewL (pubAll st c pg N tb l) n)[t]? = (viewL st n)[t]? := by
  rw [viewL_get _ _ _ ht, viewL_get _ _ _ ht, GetR_other h hc hN hne]
end Go.Proofs.Ytncmhcfhbogjnaa
