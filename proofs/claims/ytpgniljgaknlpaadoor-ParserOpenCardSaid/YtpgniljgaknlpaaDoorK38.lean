import Derived.Test.YtpgniljgaknlpaaDoorK37
import Derived.Test.YtpgniljgaknlpaaDoorTh8
/-
  The law of what stays open: the walk.
-/
namespace Go.Proofs.YtpgniljgaknlpaaDoor
open Go.RowKit Cdk Tpl

theorem print_none {l : List Nd} {w : World} {v : Value} {F : Nat → Prop} (h : Tpl.print l = none) (hg : Gl w) (hn : NodesAt F w v l) (hF : ∀ k, F k → k < w.heap.size) (hs : szL l ≤ 1000000000) : Calls Tryd.prog 10 #[v] w fun e w' => e = .returned (.tuple #[.string ⟨#[]⟩, .int .i64 100]) ∧ Ext w w' :=
  (Print_sz v l w hg hn hF hs).mono fun e w' ⟨hx, h1⟩ => by
    rw [h] at h1
    exact ⟨h1, hx⟩
theorem print_some {l : List Nd} {s : Bs} (h : Tpl.print l = some s) : valL l 0 false = true ∧ s = formL l ∧ s.length ≤ 1000 := by
  unfold Tpl.print at h
  split at h
  · rename_i hc
    simp only [Bool.and_eq_true, decide_eq_true_eq] at hc
    injection h with h
    subst h
    exact ⟨hc.1, rfl, hc.2⟩
  · simp at h

set_option maxRecDepth 100000 in
set_option maxHeartbeats 16000000 in
theorem Open_any (xs : List Int) (ao : Option Addr) (cap : Nat) (w : World) (hg : Gl w) (hrow : RowIs w ao (xs.flatMap intC)) (hv : ∀ z ∈ xs, -9223372036854775808 ≤ z ∧ z ≤ 9223372036854775807) (hl : xs.length ≤ 9223372036854775807) :
    Calls Tryd.prog 5 #[.slice ao xs.length cap] w fun e w' => e = .returned (.bool true) ∧ Ext w w' := by
  obtain ⟨post, hpost⟩ : ∃ post : Ending → World → Prop, post = fun e w' => e = .returned (.bool true) ∧ Ext w w' := ⟨_, rfl⟩
  rw [← hpost]
  have hsane := hid (sane_any w hg)
  have hN := hid (fun w (h : RowIs w ao (xs.flatMap intC)) => Nodes_any xs ao cap w h hv hl)
  have hsz := hid (nodesS_sz xs)
  obtain ⟨l, hll⟩ : ∃ l, l = nodesS xs := ⟨_, rfl⟩
  rw [← hll] at hN hsz
  obtain ⟨n, hn⟩ : ∃ n, n = xs.length := ⟨_, rfl⟩
  rw [← hn] at hN hl ⊢
  clear hll
  replace hn := hid hn
  replace hpost := hid hpost
  replace hg := hid hg
  replace hrow := hid hrow
  clear hv
  go_enter Tryd.func5, Tryd.ntmps5
  go_wp2_with fail
  refine hsane.out.mono ?_
  rintro e w1 ⟨rfl, hx1⟩
  clear hsane
  replace hx1 := hid hx1
  go_wp2_with fail
  refine (hN.out w1 (hrow.out.ext hx1.out)).mono ?_
  rintro e w2 ⟨a2, n2, c2, rfl, hn2, hx2, -⟩
  have hxw := hid (hx1.out.trans hx2)
  have hgw := hid (hg.out.ext hxw.out)
  have hn2 := hid (hn2.mono (F' := Lo w2) (fun k hk => hk.2))
  clear hN hx1 hx2 hrow
  cases hp : Tpl.print l with
  | none =>
    have hP := hid (print_none (F := Lo w2) hp hgw.out hn2.out (fun _ h => h) hsz.out)
    go_wp2_with fail
    refine hP.out.mono ?_
    rintro e w3 ⟨rfl, hx3⟩
    replace hx3 := hid hx3
    go_wp2_with fail
    rw [hpost.out]
    exact ⟨rfl, hxw.out.trans hx3.out⟩
  | some s =>
    have hP := hid (Print_ok (F := Lo w2) _ l w2 hp hgw.out hn2.out (fun _ h => h) hsz.out)
    obtain ⟨p1, p2, p3⟩ := print_some hp
    replace p2 := hid p2
    replace p1 := hid p1
    replace hp := hid hp
    by_cases h9 : 900 < s.length
    · have d1 : decide ((900 : Int) < (s.length : Int)) = true := decide_eq_true (by omega)
      have d2 : (900 : Int) < (s.length : Int) := by omega
      go_wp2_with fail
      refine hP.out.mono ?_
      rintro e w3 ⟨rfl, hx3⟩
      replace hx3 := hid hx3
      go_wp2_with fail
      rw [hpost.out]
      exact ⟨rfl, hxw.out.trans hx3.out⟩
    · have d1 : decide ((900 : Int) < (s.length : Int)) = false := decide_eq_false (by omega)
      have d2 : ¬ (900 : Int) < (s.length : Int) := by omega
      go_wp2_with fail
      refine hP.out.mono ?_
      rintro e w3 ⟨rfl, hx3⟩
      have hx3 := hid (hxw.out.trans hx3)
      clear hP hxw hgw hn2 hg
      go_wp2_with fail
      have hT := heap_alloc_new w3 (.cells (opL.map strV).toArray 9)
      have hxT := hx3.out.alloc (.cells (opL.map strV).toArray 9)
      obtain ⟨T0, hT0⟩ : ∃ T0, T0 = w3.heap.size := ⟨_, rfl⟩
      rw [← hT0] at hT ⊢
      replace hT0 := hid hT0
      have h9' : s.length ≤ 900 := by omega
      clear d1 d2 h9 hx3
      replace hT := hid hT
      replace hxT := hid hxT
      go_loopg [3, 33] 4 (fun g okv iv wr => ∃ j : Nat, j + g = 4 ∧ iv = .int .i64 j ∧ okv = .bool true ∧ wr.heap[T0]? = some (.cells (opL.map strV).toArray 9) ∧ Ext w wr)
      case atStart => exact ⟨0, by omega, rfl, rfl, hT.out, hxT.out⟩
      case round =>
        clear hT hxT
        obtain ⟨j, hj, rfl, rfl, hT, hxw⟩ := hrel
        by_cases hlt : j < 4
        · obtain ⟨c, rfl⟩ : ∃ c, gk = c + 1 := ⟨gk - 1, by omega⟩
          have hd1 : decide ((j : Int) < 4) = true := decide_eq_true (by omega)
          have hi1 : (j : Int) < 4 := by omega
          have hi0 : (0 : Int) ≤ (j : Int) := by omega
          have g1 := str_pick hT (Mod.refl _ wr) (show j < opL.length from hlt)
          have hmem : opL.getD j [] ∈ opL := by
            match j, hlt with
            | 0, _ => decide
            | 1, _ => decide
            | 2, _ => decide
            | 3, _ => decide
          generalize opL.getD j [] = t at g1 hmem
          have htl := (open_len t hmem).1
          have k1 : ¬ 9223372036854775807 < s.length + t.length := by omega
          have hp := parse_open p1.out (by rw [← p2.out]; exact h9') t hmem
          rw [← p2.out, List.length_append] at hp
          have hP := fun w => Parse_bad ⟨(s ++ t).toArray⟩ w hp
          have e1 : ((⟨s.toArray⟩ ++ ⟨t.toArray⟩ : ByteArray)) = ⟨(s ++ t).toArray⟩ := ByteArray.ext (by simp)
          rw [← e1] at hP
          replace hP := hid hP
          replace hT := hid hT
          replace hxw := hid hxw
          replace hmem := hid hmem
          clear e1 hp
          go_wp2_with fail
          refine (hP.out wr).mono ?_
          rintro e w4 ⟨rfl, hx4⟩
          have hA4 := hid (hx4.at hT.out (fun h => h))
          have hx4 := hid (hxw.out.trans hx4)
          go_wp2_with fail
          go_roundg c
          case measure => omega
          case rel => exact ⟨j + 1, by omega, by go_num, rfl, hA4.out, hx4.out⟩
        · obtain rfl : gk = 0 := by omega
          have hd1 : decide ((j : Int) < 4) = false := decide_eq_false (by omega)
          have hi1 : ¬ (j : Int) < 4 := by omega
          replace hT := hid hT
          replace hxw := hid hxw
          clear hj
          go_wp2_with fail
          have hU := heap_alloc_new wr (.cells (clo.map strV).toArray 9)
          have hxU := hxw.out.alloc (.cells (clo.map strV).toArray 9)
          obtain ⟨U0, hU0⟩ : ∃ U0, U0 = wr.heap.size := ⟨_, rfl⟩
          rw [← hU0] at hU ⊢
          replace hU0 := hid hU0
          clear hi1 hd1 hlt hT hxw
          obtain ⟨wo, rfl⟩ : ∃ wo : World, wo = wr := ⟨_, rfl⟩
          replace hU := hid hU
          replace hxU := hid hxU
          go_loopg [3, 66] 4 (fun g okv iv wr => ∃ j : Nat, j + g = 4 ∧ iv = .int .i64 j ∧ okv = .bool true ∧ wr.heap[U0]? = some (.cells (clo.map strV).toArray 9) ∧ Ext w wr)
          case atStart => exact ⟨0, by omega, rfl, rfl, hU.out, hxU.out⟩
          case round =>
            clear hU hxU
            obtain ⟨i, hi, rfl, rfl, hT, hxw⟩ := hrel
            by_cases hlt : i < 4
            · obtain ⟨c, rfl⟩ : ∃ c, gk = c + 1 := ⟨gk - 1, by omega⟩
              have hd1 : decide ((i : Int) < 4) = true := decide_eq_true (by omega)
              have hi1 : (i : Int) < 4 := by omega
              have hi0 : (0 : Int) ≤ (i : Int) := by omega
              have g1 := str_pick hT (Mod.refl _ wr) (show i < clo.length from hlt)
              have hmem : clo.getD i [] ∈ clo := by
                match i, hlt with
                | 0, _ => decide
                | 1, _ => decide
                | 2, _ => decide
                | 3, _ => decide
              have h3 : clo.getD i [] = clY → i = 3 := by
                intro e
                match i, hlt, e with
                | 0, _, e => exact absurd e (by decide)
                | 1, _, e => exact absurd e (by decide)
                | 2, _, e => exact absurd e (by decide)
                | 3, _, _ => rfl
              generalize clo.getD i [] = t at g1 hmem h3
              have htl := (clo_len t hmem).1
              have k1 : ¬ 9223372036854775807 < s.length + t.length := by omega
              have hp := parse_close p1.out (by rw [← p2.out]; exact h9') t hmem
              rw [← p2.out] at hp
              have e1 : ((⟨s.toArray⟩ ++ ⟨t.toArray⟩ : ByteArray)) = ⟨(s ++ t).toArray⟩ := ByteArray.ext (by simp)
              replace hT := hid hT
              replace hxw := hid hxw
              replace hmem := hid hmem
              by_cases hY : t = clY
              · rw [if_pos hY] at hp
                have hP := fun w => Parse_bad ⟨(s ++ t).toArray⟩ w hp
                rw [← e1] at hP
                replace hP := hid hP
                have hself : ((⟨t.toArray⟩ : ByteArray) == ⟨#[123, 101, 108, 115, 101, 32, 120]⟩) = true := by rw [hY]; decide
                have hself2 : (t == [123, 101, 108, 115, 101, 32, 120]) = true := by rw [hY]; decide
                clear e1 hp h3
                replace hY := hid hY
                go_wp2_with fail
                refine (hP.out wr).mono ?_
                rintro e w4 ⟨rfl, hx4⟩
                have hA4 := hid (hx4.at hT.out (fun h => h))
                have hx4 := hid (hxw.out.trans hx4)
                go_wp2_with fail
                go_roundg c
                case measure => omega
                case rel => exact ⟨i + 1, by omega, by go_num, rfl, hA4.out, hx4.out⟩
              · rw [if_neg hY] at hp
                have hP := fun w => Parse_bad ⟨(s ++ t).toArray⟩ w hp
                rw [← e1] at hP
                replace hP := hid hP
                clear e1 hp h3
                replace hY := hid hY
                go_wp2_with fail
                refine (hP.out wr).mono ?_
                rintro e w4 ⟨rfl, hx4⟩
                have hA4 := hid (hx4.at hT.out (fun h => h))
                have hx4 := hid (hxw.out.trans hx4)
                go_wp2_with fail
                go_roundg c
                case measure => omega
                case rel => exact ⟨i + 1, by omega, by go_num, rfl, hA4.out, hx4.out⟩
            · obtain rfl : gk = 0 := by omega
              have hd1 : decide ((i : Int) < 4) = false := decide_eq_false (by omega)
              have hi1 : ¬ (i : Int) < 4 := by omega
              replace hT := hid hT
              replace hxw := hid hxw
              go_wp2_with fail
              rw [hpost.out]
              exact ⟨rfl, hxw.out⟩
end Go.Proofs.YtpgniljgaknlpaaDoor
