import Derived.Test.YtncmhcfhbogjnaaS2
namespace Go.Proofs.Ytncmhcfhbogjnaa
open Go.RowKit Cdk

def newSt (B : Nat) : SiteSt := { cur := fun k => B + 3 + 2 * k, ses := [], last := 0, m := B, tm := fun p => p - 1, txt := fun _ => [] }

def newObjs (B : Nat) : List Obj := [.map #[] 0,
  .cells #[snapV (B + 1 + 1 + 1), snapV (B + 1 + 1 + 1 + 1 + 1), snapV (B + 1 + 1 + 1 + 1 + 1 + 1 + 1), snapV (B + 1 + 1 + 1 + 1 + 1 + 1 + 1 + 1 + 1), .map (some B), .int .i64 0] 62,
  .map #[] 0, .cells #[.map (some (B + 1 + 1))] 65, .map #[] 0, .cells #[.map (some (B + 1 + 1 + 1 + 1))] 65, .map #[] 0, .cells #[.map (some (B + 1 + 1 + 1 + 1 + 1 + 1))] 65, .map #[] 0, .cells #[.map (some (B + 1 + 1 + 1 + 1 + 1 + 1 + 1 + 1))] 65]

theorem new_at (w : World) : Ext w (allocs w (newObjs w.heap.size)) ∧ SiteAt (allocs w (newObjs w.heap.size)) (fun k => w.heap.size ≤ k ∧ k < w.heap.size + 10) (w.heap.size + 1) (newSt w.heap.size) := by
  have hx := allocs_ext (S := fun _ => False) (newObjs w.heap.size) w
  have hget := allocs_get (newObjs w.heap.size) w
  have hsz := allocs_size (newObjs w.heap.size) w
  generalize allocs w _ = W at hx hget hsz ⊢
  have hsz : W.heap.size = w.heap.size + 10 := hsz
  have g0 : W.heap[w.heap.size]? = some (.map #[] 0) := hget 0 (by simp [newObjs])
  have g1 : W.heap[w.heap.size + 1]? = some (.cells #[snapV (w.heap.size + 3), snapV (w.heap.size + 5), snapV (w.heap.size + 7), snapV (w.heap.size + 9), .map (some w.heap.size), .int .i64 0] 62) := hget 1 (by simp [newObjs])
  have gm : ∀ j, j < 4 → W.heap[w.heap.size + 2 + 2 * j]? = some (.map #[] 0) := by
    intro j hj
    match j, hj with
    | 0, _ => exact hget 2 (by simp [newObjs])
    | 1, _ => exact hget 4 (by simp [newObjs])
    | 2, _ => exact hget 6 (by simp [newObjs])
    | 3, _ => exact hget 8 (by simp [newObjs])
    | j + 4, hj => omega
  have gp : ∀ j, j < 4 → W.heap[w.heap.size + 3 + 2 * j]? = some (.cells #[.map (some (w.heap.size + 2 + 2 * j))] 65) := by
    intro j hj
    match j, hj with
    | 0, _ => exact hget 3 (by simp [newObjs])
    | 1, _ => exact hget 5 (by simp [newObjs])
    | 2, _ => exact hget 7 (by simp [newObjs])
    | 3, _ => exact hget 9 (by simp [newObjs])
    | j + 4, hj => omega
  refine ⟨hx, ?_⟩
  have hlive : ∀ p, (newSt w.heap.size).live p → ∃ j, j < 4 ∧ p = w.heap.size + 3 + 2 * j := by
    rintro p (⟨c, hc, rfl⟩ | ⟨q, hq, _⟩)
    · exact ⟨c, hc, rfl⟩
    · cases hq
  constructor
  · intro k hk; omega
  · exact ⟨by omega, by simp [newSt]⟩
  · simpa [newSt] using g1
  · exact ⟨#[], 0, g0, by simp [newSt], by simp [newSt], by simp, by simp⟩
  · intro p hp
    obtain ⟨j, hj, rfl⟩ := hlive p hp
    have e : (newSt w.heap.size).tm (w.heap.size + 3 + 2 * j) = w.heap.size + 2 + 2 * j := by show _ - 1 = _; omega
    rw [e]
    exact ⟨by omega, by omega, by simp [newSt]; omega, gp j hj, ⟨#[], 0, gm j hj, by simp [newSt], by simp [newSt], by simp, by simp⟩⟩
  · intro p q hp hq h
    obtain ⟨j, hj, rfl⟩ := hlive p hp
    obtain ⟨i, hi, rfl⟩ := hlive q hq
    simp only [newSt] at h
    omega

set_option maxHeartbeats 1000000 in
theorem New_any (w : World) :
    Calls Try.prog 10 #[] w fun e w' => e = .returned (snapV (w.heap.size + 1)) ∧ Ext w w' ∧ SiteAt w' (fun k => w.heap.size ≤ k ∧ k < w.heap.size + 10) (w.heap.size + 1) (newSt w.heap.size) := by
  have hmm := @run_makeMap Try.prog
  go_enter Try.func10, Try.ntmps10
  go_wp2
  refine wp_loop_rounds 5 ?_
  rw [rounds_succ]; go_wp2
  rw [rounds_succ]; go_wp2
  rw [rounds_succ]; go_wp2
  rw [rounds_succ]; go_wp2
  rw [rounds_succ]; go_wp2
  go_ret
  exact ⟨rfl, new_at w⟩
end Go.Proofs.Ytncmhcfhbogjnaa
