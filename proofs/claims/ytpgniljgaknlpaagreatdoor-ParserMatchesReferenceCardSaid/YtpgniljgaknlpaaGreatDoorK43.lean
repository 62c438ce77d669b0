import Derived.Test.YtpgniljgaknlpaaGreatDoorK23
import Derived.Test.YtpgniljgaknlpaaGreatDoorThAll
/-
  The size of the nodes of an accepted source.
-/
namespace Go.Proofs.YtpgniljgaknlpaaGreatDoor
open Go.RowKit Cdk Tpl

theorem PNs_sz {d : Nat} {k : List KT} {l : List Nd} (h : PNs d k l) : szL l ≤ 3 * k.length := by
  induction h with
  | nil => simp [szL]
  | text _ ih => simp only [szL, szN, List.length_cons, List.length_nil]; omega
  | field _ _ _ hf _ ih =>
    have := hf.len
    simp only [szL, szN, List.length_cons, List.length_append]; omega
  | incl _ ih => simp only [szL, szN, List.length_cons, List.length_nil]; omega
  | loop _ _ _ _ _ ih1 ih => simp only [szL, szN, List.length_cons, List.length_append, List.length_nil]; omega
  | cond _ _ _ ih1 ih => simp only [szL, szN, List.length_cons, List.length_append, List.length_nil]; omega
  | conde _ _ _ _ ih1 ih2 ih => simp only [szL, szN, List.length_cons, List.length_append, List.length_nil]; omega

theorem ktLen_pos {x : KT} (h : ktOk x = true) : 1 ≤ ktLen x := by
  obtain ⟨k, t⟩ := x
  unfold ktOk tkOk at h
  unfold ktLen tkLen
  simp only at h ⊢
  split
  · rename_i h1
    rw [if_pos h1] at h
    simp only [txOk, Bool.and_eq_true, Bool.not_eq_true', List.isEmpty_eq_false_iff] at h
    have := Tpl.esc_len t
    have := List.length_pos_iff.2 h.1
    omega
  · rename_i h1
    rw [if_neg h1] at h
    split
    · rename_i h2
      rcases h2 with rfl | rfl
      · simp only [if_true] at h
        obtain ⟨c, r, rfl, -⟩ := nameOk_head h
        simp
      · rw [if_neg (by omega), if_pos rfl] at h
        exact (numOk_num h).2.2.2
    · split <;> omega

theorem wt_len : ∀ (k : List KT) (p : Nat), (∀ x ∈ k, ktOk x = true) → k.length ≤ wt p k
  | [], _, _ => by simp [wt]
  | x :: k, p, h => by
    simp only [List.forall_mem_cons] at h
    have := wt_len k x.1 h.2
    have := ktLen_pos h.1
    simp only [List.length_cons, wt]
    omega

theorem parse_szl {s : Bs} {l : List Nd} (h : parse s = .ok l) : szL l ≤ 3000 := by
  obtain ⟨h1, h2⟩ := parse_inv h
  have := PNs_sz h2
  have h3 := lexS_good (s := s) (fun t ht => h2.ne (kt t) (List.mem_map_of_mem ht))
  have := wt_len _ 0 h3.1
  omega
end Go.Proofs.YtpgniljgaknlpaaGreatDoor
