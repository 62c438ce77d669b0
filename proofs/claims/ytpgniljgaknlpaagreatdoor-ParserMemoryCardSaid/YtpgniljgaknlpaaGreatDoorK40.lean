import Derived.Test.YtpgniljgaknlpaaGreatDoorK37
import Derived.Test.YtpgniljgaknlpaaGreatDoorK33
import Derived.Test.YtpgniljgaknlpaaGreatDoorThAll
/-
  The law of the round trip: the walk.
-/
namespace Go.Proofs.YtpgniljgaknlpaaGreatDoor
open Go.RowKit Cdk Tpl

theorem print_none {l : List Nd} {w : World} {v : Value} {F : Nat → Prop} (h : Tpl.print l = none) (hg : Gl w) (hn : NodesAt F w v l) (hF : ∀ k, F k → k < w.heap.size) (hs : szL l ≤ 1000000000) : Calls Tryz.prog 17 #[v] w fun e w' => e = .returned (.tuple #[.string ⟨#[]⟩, .int .i64 100]) ∧ Ext w w' :=
  (Print_sz v l w hg hn hF hs).mono fun e w' ⟨hx, h1⟩ => by
    rw [h] at h1
    exact ⟨h1, hx⟩
theorem print_some {l : List Nd} {s : Bs} (h : Tpl.print l = some s) : valL l 0 false = true ∧ s = formL l ∧ s.length ≤ 1000 := by
  unfold Tpl.print at h
  split at h
  · rename_i hc
    simp only [Bool.and_eq_true, decide_eq_true_eq] at hc
    injection h with h
    subst h
    exact ⟨hc.1, rfl, hc.2⟩
  · simp at h
theorem print_parse {l : List Nd} {s : Bs} (h : Tpl.print l = some s) : parse s = .ok l := by
  obtain ⟨h1, h2, h3⟩ := print_some h
  rw [h2] at h3 ⊢
  exact parse_form h1 h3

set_option maxRecDepth 100000 in
set_option maxHeartbeats 16000000 in
theorem RoundTrip_any (xs : List Int) (ao : Option Addr) (cap : Nat) (w : World) (hg : Gl w) (hrow : RowIs w ao (xs.flatMap intC)) (hv : ∀ z ∈ xs, -9223372036854775808 ≤ z ∧ z ≤ 9223372036854775807) (hl : xs.length ≤ 9223372036854775807) :
    Calls Tryz.prog 5 #[.slice ao xs.length cap] w fun e w' => e = .returned (.bool true) ∧ Ext w w' := by
  obtain ⟨post, hpost⟩ : ∃ post : Ending → World → Prop, post = fun e w' => e = .returned (.bool true) ∧ Ext w w' := ⟨_, rfl⟩
  rw [← hpost]
  have hsane := hid (sane_any w hg)
  have hN := hid (fun w (h : RowIs w ao (xs.flatMap intC)) => Nodes_any xs ao cap w h hv hl)
  have hsz := hid (nodesS_sz xs)
  obtain ⟨l, hll⟩ : ∃ l, l = nodesS xs := ⟨_, rfl⟩
  rw [← hll] at hN hsz
  obtain ⟨n, hn⟩ : ∃ n, n = xs.length := ⟨_, rfl⟩
  rw [← hn] at hN hl ⊢
  clear hll
  replace hn := hid hn
  replace hpost := hid hpost
  replace hg := hid hg
  replace hrow := hid hrow
  clear hv
  go_enter Tryz.func5, Tryz.ntmps5
  go_wp2_with fail
  refine hsane.out.mono ?_
  rintro e w1 ⟨rfl, hx1⟩
  clear hsane
  replace hx1 := hid hx1
  go_wp2_with fail
  refine (hN.out w1 (hrow.out.ext hx1.out)).mono ?_
  rintro e w2 ⟨a2, n2, c2, rfl, hn2, hx2, -⟩
  have hxw := hid (hx1.out.trans hx2)
  have hgw := hid (hg.out.ext hxw.out)
  have hn2 := hid (hn2.mono (F' := Lo w2) (fun k hk => hk.2))
  clear hN hx1 hx2 hrow
  cases hp : Tpl.print l with
  | none =>
    have hP := hid (print_none (F := Lo w2) hp hgw.out hn2.out (fun _ h => h) hsz.out)
    go_wp2_with fail
    refine hP.out.mono ?_
    rintro e w3 ⟨rfl, hx3⟩
    replace hx3 := hid hx3
    go_wp2_with fail
    rw [hpost.out]
    exact ⟨rfl, hxw.out.trans hx3.out⟩
  | some s =>
    have hP := hid (Print_ok (F := Lo w2) _ l w2 hp hgw.out hn2.out (fun _ h => h) hsz.out)
    obtain ⟨p1, p2, p3⟩ := print_some hp
    have hQ := hid (fun w => Parse_ok ⟨s.toArray⟩ w (l := l) (print_parse hp))
    clear p1 p2
    replace hp := hid hp
    have d1 : decide ((s.length : Int) ≤ 1000) = true := decide_eq_true (by omega)
    have d2 : (s.length : Int) ≤ 1000 := by omega
    go_wp2_with fail
    refine hP.out.mono ?_
    rintro e w3 ⟨rfl, hx3⟩
    have hm3 := hid (hn2.out.up hx3)
    have hx3 := hid (hxw.out.trans hx3)
    clear hP hxw hgw hn2
    go_wp2_with fail
    refine (hQ.out w3).mono ?_
    rintro e w4 ⟨a4, n4, c4, rfl, hn4, hx4⟩
    have hm4 := hid (hm3.out.up hx4)
    have hn4 := hid (hn4.mono (F' := Lo w4) (fun k hk => hk.2))
    have hx4 := hid (hx3.out.trans hx4)
    clear hQ hx3 hm3
    have hR := refSame_any (F := Lo w4) _ _ l l w4 hm4.out hn4.out (fun _ h => h) hsz.out hsz.out
    rw [(eqL_iff l l).2 rfl] at hR
    replace hR := hid hR
    go_wp2_with fail
    refine hR.out.mono ?_
    rintro e w5 ⟨rfl, hx5⟩
    replace hx5 := hid hx5
    go_wp2_with fail
    rw [hpost.out]
    exact ⟨rfl, hx4.out.trans hx5.out⟩
end Go.Proofs.YtpgniljgaknlpaaGreatDoor
