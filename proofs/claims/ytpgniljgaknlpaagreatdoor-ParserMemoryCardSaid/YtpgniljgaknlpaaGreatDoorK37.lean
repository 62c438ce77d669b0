import Derived.Test.YtpgniljgaknlpaaGreatDoorK28
/-
  'Nodes'.
-/
namespace Go.Proofs.YtpgniljgaknlpaaGreatDoor
open Go.RowKit Cdk Tpl

theorem flist_any : ∀ k : Nat, FListC k
  | 0 => flist_step 0 (fun _ h => by omega)
  | k + 1 => flist_step (k + 1) (fun k' h => by
    have : k' = k := by omega
    subst this
    exact flist_any k')

theorem useF8 : useF 8 ≤ 1000000000000 := by decide

set_option maxRecDepth 100000 in
set_option maxHeartbeats 4000000 in
theorem Nodes_any (xs : List Int) (ao : Option Addr) (cap : Nat) (w : World) (hrow : RowIs w ao (xs.flatMap intC)) (hv : ∀ z ∈ xs, -9223372036854775808 ≤ z ∧ z ≤ 9223372036854775807) (hl : xs.length ≤ 9223372036854775807) :
    Calls Tryz.prog 14 #[.slice ao xs.length cap] w fun e w' => ∃ a n c, e = .returned (.slice a n c) ∧ NodesAt (Since w w') w' (.slice a n c) (nodesS xs) ∧ Ext w w' ∧ ∃ rows R, n = rows.length ∧ w.heap.size ≤ R ∧ Acc R w' (.slice a n c) rows (nodesS xs) := by
  have hx := Mod.alloc (Mod.refl (fun _ => False) w) (.cells #[.slice ao xs.length cap, .int .i64 0] 62)
  have hK := heap_alloc_new w (.cells #[.slice ao xs.length cap, .int .i64 0] 62)
  have hs : (w.alloc (.cells #[.slice ao xs.length cap, .int .i64 0] 62)).heap.size = w.heap.size + 1 := World.size_alloc _ _
  have hlow : xs ≠ [] → ∀ b off, ao = some ⟨b, off, none⟩ → b < w.heap.size := by
    intro hne b off e
    obtain ⟨b', off', e', hc⟩ := hrow.at (by rw [flat_length _ 1 intC_len]; have := List.length_pos_iff.2 hne; omega)
    have hc0 := hc 0 _ ((flat_get intC 1 intC_len xs 0 0 (xs[0]'(List.length_pos_iff.2 hne)) (List.getElem?_eq_getElem (List.length_pos_iff.2 hne)) (by omega)).trans rfl)
    have := World.block_lt_of_cell? w _ hc0
    rw [e] at e'
    injection e' with e'
    injection e' with e' _ _
    simp only at this
    omega
  have hfe : Fe (w.heap.size + 1) w.heap.size xs 0 (w.alloc (.cells #[.slice ao xs.length cap, .int .i64 0] 62)) :=
    ⟨⟨ao, cap, hK, hrow.ext hx, fun hne b off e => by have := hlow hne b off e; omega⟩, by omega, hv, hl, by omega⟩
  have hC := hid (flist_any 8 (w.heap.size + 1) w.heap.size xs 0 0 _ rfl hfe (by omega) (by have := useF8; omega))
  obtain ⟨n, hn⟩ : ∃ n, n = xs.length := ⟨_, rfl⟩
  rw [← hn] at hC hx hs hl ⊢
  replace hx := hid hx
  replace hs := hid hs
  clear hK hfe hlow
  replace hn := hid hn
  replace hrow := hid hrow
  replace hv := hid hv
  go_enter Tryz.func14, Tryz.ntmps14
  go_wp2_with fail
  refine hC.out.mono ?_
  rintro e w' ⟨a, m, c, rfl, hN, -, hm, rows, R, hr, hR, hacc⟩
  have hsz := hs.out
  have hxw : Ext w w' := (hx.out.mono (T := fun k => w.heap.size ≤ k) (fun _ h => h.elim)).trans (hm.mono (T := fun k => w.heap.size ≤ k) (fun k e => by have : w.heap.size = k := e; omega)) |>.mono' (fun k hk e => by omega)
  have hNw : NodesAt (Since w w') w' (.slice a m c) (nodesS xs) := hN.mono (fun j hj => ⟨by have := hj.1; omega, hj.2⟩)
  replace hxw := hid hxw
  replace hNw := hid hNw
  have hA : Hid (∃ rows R, m = rows.length ∧ w.heap.size ≤ R ∧ Acc R w' (.slice a m c) rows (nodesS xs)) := hid ⟨rows, R, hr, by omega, hacc⟩
  clear hr hR hacc
  clear hN hm hC
  go_wp2_with fail
  go_ret
  exact ⟨a, m, c, rfl, hNw.out, hxw.out, hA.out⟩
end Go.Proofs.YtpgniljgaknlpaaGreatDoor
