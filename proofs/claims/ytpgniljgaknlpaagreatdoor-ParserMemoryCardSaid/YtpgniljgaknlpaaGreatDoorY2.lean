import Derived.Test.YtpgniljgaknlpaaGreatDoorK40
import Derived.Test.YtpgniljgaknlpaaGreatDoorY1
/-
  ParserMemory's walk.
-/
namespace Go.Proofs.YtpgniljgaknlpaaGreatDoor
open Go.RowKit Cdk Tpl

theorem StrsAt.cellAt {F : Nat → Prop} {w : World} {a : Option Addr} {m c : Nat} {fl : List Bs} (h : StrsAt F w (.slice a m c) fl) : m = fl.length ∧ ∀ k, k < m → ∃ b o s, a = some ⟨b, o, none⟩ ∧ w.cell? ⟨b, o + k, none⟩ = some (.string s) ∧ F b ∧ Thaw w b := by
  obtain ⟨ao, cap, e, hr, hb, hc⟩ := h
  injection e with e1 e2 e3
  subst e1
  subst e3
  refine ⟨e2, fun k hk => ?_⟩
  have hlen : (fl.flatMap strC).length = fl.length := by rw [flat_length _ 1 (fun _ => rfl)]; omega
  obtain ⟨b, o, rfl, hcl⟩ := hr.at (by omega)
  have hu := flat_get strC 1 (fun _ => rfl) fl k 0 _ (List.getElem?_eq_getElem (by omega)) (by omega)
  have := hcl _ _ (hu.trans rfl)
  rw [Nat.mul_one, Nat.add_zero] at this
  exact ⟨b, o, _, rfl, this, hb b o rfl, hc.2.2 b o rfl⟩

theorem NodesAt.thaw {F : Nat → Prop} {w : World} {b o m c : Nat} {l : List Nd} (h : NodesAt F w (.slice (some ⟨b, o, none⟩) m c) l) : Thaw w b := by
  cases h with
  | mk _ _ _ _ _ _ _ h4 => exact h4.2.2 b o rfl

set_option maxRecDepth 100000 in
set_option maxHeartbeats 16000000 in
theorem Memory_any (xs : List Int) (ao : Option Addr) (cap : Nat) (w : World) (hg : Gl w) (hrow : RowIs w ao (xs.flatMap intC)) (hv : ∀ z ∈ xs, -9223372036854775808 ≤ z ∧ z ≤ 9223372036854775807) (hl : xs.length ≤ 9223372036854775807) :
    Calls Tryz.prog 8 #[.slice ao xs.length cap] w fun e w' => e = .returned (.bool true) ∧ Ext w w' := by
  obtain ⟨post, hpost⟩ : ∃ post : Ending → World → Prop, post = fun e w' => e = .returned (.bool true) ∧ Ext w w' := ⟨_, rfl⟩
  rw [← hpost]
  have hsane := hid (sane_any w hg)
  have hN := hid (fun w (h : RowIs w ao (xs.flatMap intC)) => Nodes_any xs ao cap w h hv hl)
  have hsz := hid (nodesS_sz xs)
  obtain ⟨l, hll⟩ : ∃ l, l = nodesS xs := ⟨_, rfl⟩
  rw [← hll] at hN hsz
  obtain ⟨n, hn⟩ : ∃ n, n = xs.length := ⟨_, rfl⟩
  rw [← hn] at hN hl ⊢
  have hee : eqL l l = true := (eqL_iff l l).2 rfl
  clear hll
  replace hn := hid hn
  replace hpost := hid hpost
  replace hg := hid hg
  replace hrow := hid hrow
  replace hee := hid hee
  clear hv
  go_enter Tryz.func8, Tryz.ntmps8
  go_wp2_with fail
  refine hsane.out.mono ?_
  rintro e w1 ⟨rfl, hx1⟩
  clear hsane
  replace hx1 := hid hx1
  go_wp2_with fail
  refine (hN.out w1 (hrow.out.ext hx1.out)).mono ?_
  rintro e w2 ⟨a2, n2, c2, rfl, hn2, hx2, -⟩
  have hxw := hid (hx1.out.trans hx2)
  have hgw := hid (hg.out.ext hxw.out)
  have hn2 := hid (hn2.mono (F' := Lo w2) (fun k hk => hk.2))
  clear hx1 hx2
  cases hp : Tpl.print l with
  | none =>
    have hP := hid (print_none (F := Lo w2) hp hgw.out hn2.out (fun _ h => h) hsz.out)
    replace hp := hid hp
    go_wp2_with fail
    refine hP.out.mono ?_
    rintro e w3 ⟨rfl, hx3⟩
    have hn3 := hid (hn2.out.up hx3)
    have hx3 := hid (hxw.out.trans hx3)
    have hS := hid (Same_ok (F := Lo w3) _ _ l l w3 hee.out hn3.out hn3.out (fun _ h => h) hsz.out hsz.out)
    clear hP hn2
    go_wp2_with fail
    refine hS.out.mono ?_
    rintro e w4 ⟨rfl, hx4⟩
    have hn4 := hid (hn3.out.up hx4)
    have hx4 := hid (hx3.out.trans hx4)
    have hM := hid (hN.out w4 (hrow.out.ext hx4.out))
    clear hS hn3
    go_wp2_with fail
    refine hM.out.mono ?_
    rintro e w5 ⟨a5, n5, c5, rfl, hn5, hx5, -⟩
    have hn4 := hid (hn4.out.up hx5)
    have hn5 := hid (hn5.mono (F' := Lo w5) (fun k hk => hk.2))
    have hx5 := hid (hx4.out.trans hx5)
    have hR := refSame_any (F := Lo w5) _ _ l l w5 hn4.out hn5.out (fun _ h => h) hsz.out hsz.out
    rw [hee.out] at hR
    replace hR := hid hR
    clear hM
    go_wp2_with fail
    refine hR.out.mono ?_
    rintro e w6 ⟨rfl, hx6⟩
    have hx6 := hid (hx5.out.trans hx6)
    clear hR
    go_wp2_with fail
    rw [hpost.out]
    exact ⟨rfl, hx6.out⟩
  | some s =>
    have hP := hid (Print_ok (F := Lo w2) _ l w2 hp hgw.out hn2.out (fun _ h => h) hsz.out)
    have hQ := hid (fun w => Parse_ok ⟨s.toArray⟩ w (l := l) (print_parse hp))
    replace hp := hid hp
    go_wp2_with fail
    refine hP.out.mono ?_
    rintro e w3 ⟨rfl, hx3⟩
    have hn3 := hid (hn2.out.up hx3)
    have hx3 := hid (hxw.out.trans hx3)
    have hS := hid (Same_ok (F := Lo w3) _ _ l l w3 hee.out hn3.out hn3.out (fun _ h => h) hsz.out hsz.out)
    clear hP hn2
    go_wp2_with fail
    refine hS.out.mono ?_
    rintro e w4 ⟨rfl, hx4⟩
    have hn4 := hid (hn3.out.up hx4)
    have hx4 := hid (hx3.out.trans hx4)
    have hM := hid (hN.out w4 (hrow.out.ext hx4.out))
    clear hS hn3
    go_wp2_with fail
    refine hM.out.mono ?_
    rintro e w5 ⟨a5, n5, c5, rfl, hn5, hx5, -⟩
    have hn4 := hid (hn4.out.up hx5)
    have hn5 := hid (hn5.mono (F' := Lo w5) (fun k hk => hk.2))
    have hx5 := hid (hx4.out.trans hx5)
    have hR := refSame_any (F := Lo w5) _ _ l l w5 hn4.out hn5.out (fun _ h => h) hsz.out hsz.out
    rw [hee.out] at hR
    replace hR := hid hR
    clear hM
    go_wp2_with fail
    refine hR.out.mono ?_
    rintro e w6 ⟨rfl, hx6⟩
    have hx6 := hid (hx5.out.trans hx6)
    clear hR hn4 hn5 hx3 hx4 hx5
    have hQ6 := hid (hQ.out w6)
    go_wp2_with fail
    refine hQ6.out.mono ?_
    rintro e W0 ⟨a7, n7, c7, rfl, hn7, hx7⟩
    have hc7 : n7 ≤ 1000000000 := by have := hn7.count; have := szL_len l; have := hsz.out; omega
    have hc8 := hid hn7.count
    have hk0 := KR.refl w6.heap.size W0
    replace hx7 := hid hx7
    replace hn7 := hid hn7
    clear hQ6
    go_wp2_with fail
    go_loopg [10] n7 (fun g iv wr => ∃ j : Nat, j + g = n7 ∧ iv = .int .i64 j ∧ KR w6.heap.size W0 wr)
    case atStart => exact ⟨0, by omega, rfl, hk0⟩
    case round =>
      clear hk0
      obtain ⟨j, hj, rfl, hkr⟩ := hrel
      by_cases hlt : j < n7
      rotate_left
      · obtain rfl : gk = 0 := by omega
        have hd1 : decide ((j : Int) < (n7 : Int)) = false := decide_eq_false (by omega)
        have hi1 : ¬ (j : Int) < (n7 : Int) := by omega
        replace hkr := hid hkr
        have hQ8 := hid (hQ.out wr)
        have hm0 : Ext w6 wr := (hx7.out.then hkr.out.mod (fun k hk h => by omega))
        have hx8 := hid (hx6.out.trans hm0)
        clear hm0
        go_wp2_with fail
        refine hQ8.out.mono ?_
        rintro e w9 ⟨a9, n9, c9, rfl, hn9, hx9⟩
        have hn9 := hid (hn9.mono (F' := Lo w9) (fun k hk => hk.2))
        have hx9 := hid (hx8.out.trans hx9)
        have hM := hid (hN.out w9 (hrow.out.ext hx9.out))
        clear hQ8
        go_wp2_with fail
        refine hM.out.mono ?_
        rintro e wA ⟨aA, nA, cA, rfl, hnA, hxA, -⟩
        have hn9 := hid (hn9.out.up hxA)
        have hnA := hid (hnA.mono (F' := Lo wA) (fun k hk => hk.2))
        have hxA := hid (hx9.out.trans hxA)
        have hR := refSame_any (F := Lo wA) _ _ l l wA hn9.out hnA.out (fun _ h => h) hsz.out hsz.out
        rw [hee.out] at hR
        replace hR := hid hR
        clear hM
        go_wp2_with fail
        refine hR.out.mono ?_
        rintro e wB ⟨rfl, hxB⟩
        have hxB := hid (hxA.out.trans hxB)
        clear hR
        go_wp2_with fail
        rw [hpost.out]
        exact ⟨rfl, hxB.out⟩
      · obtain ⟨c, rfl⟩ : ∃ c, gk = c + 1 := ⟨gk - 1, by omega⟩
        have hd1 : decide ((j : Int) < (n7 : Int)) = true := decide_eq_true (by omega)
        have hi1 : (j : Int) < (n7 : Int) := by omega
        have hi0 : (0 : Int) ≤ (j : Int) := by omega
        have hja : j < l.length := by have := hc8.out; omega
        have hszj : szN l[j] ≤ szL l := by
          have h9 : szL l = szL (l.take j) + szL (l.drop j) := by conv => lhs; rw [← List.take_append_drop j l, szL_app]
          rw [szL_drop hja] at h9
          omega
        obtain ⟨b1, o1, kd, tx, nm, ar, ct, a1, m1, x1, a2, m2, x2, a3, m3, x3, fl, ks, es, hao1, hFb1, hx1, hF1, hK1, hE1, g0, g1, g2, g3, g4, g5, g6, g7⟩ := hn7.out.node hja
        subst hao1
        have hT1 := hid hn7.out.thaw
        have hb1 : w6.heap.size ≤ b1 := hFb1.1
        rw [hx1] at hszj
        simp only [szN] at hszj
        have hm1 : m1 ≤ 1000000000 := by have := hF1.cellAt.1; have := hsz.out; omega
        have hm2 : m2 ≤ 1000000000 := by have := hK1.count; have := szL_len ks; have := hsz.out; omega
        clear hx1 hFb1 hE1 g0 g1 g3 g4 g7 hszj
        replace hF1 := hid hF1
        replace hK1 := hid hK1
        obtain ⟨s2, q2⟩ := hkr.str g2
        have z1 := (hkr.thaw b1 hT1.out).free
        have hkA := hid (hkr.set g2 (u := .string ⟨#[99, 104, 97, 110, 103, 101, 100]⟩) ⟨_, rfl⟩ hb1)
        replace hkr := hid hkr
        replace g2 := hid g2
        replace g5 := hid g5
        replace g6 := hid g6
        go_wp2_with fail
        clear q2 z1 hkr hd1 hi1
        generalize wr.setCell ⟨b1, o1 + j * 8 + 2, none⟩ (.string ⟨#[99, 104, 97, 110, 103, 101, 100]⟩) = wy at hkA ⊢
        go_loopg [11] m1 (fun g iv wr => ∃ k : Nat, k + g = m1 ∧ iv = .int .i64 k ∧ KR w6.heap.size W0 wr)
        case atStart => exact ⟨0, by omega, rfl, hkA.out⟩
        case round =>
          clear hkA
          obtain ⟨k, hk, rfl, hkr⟩ := hrel
          obtain ⟨y, q, z, h5, hq⟩ : ∃ y q z, wr.cell? ⟨b1, o1 + j * 8 + 5, none⟩ = some (.slice y q z) ∧ (y = a1 ∧ q = m1 ∧ z = x1 ∨ q = 0) := by
            rcases hkr.sl g5.out with h | h
            · exact ⟨_, _, _, h, .inl ⟨rfl, rfl, rfl⟩⟩
            · exact ⟨_, _, _, h, .inr rfl⟩
          have hi1 : (j : Int) < (n7 : Int) := by omega
          by_cases hkt : k < q
          rotate_left
          · have hd1 : decide ((k : Int) < (q : Int)) = false := decide_eq_false (by omega)
            have hi2 : ¬ (k : Int) < (q : Int) := by omega
            replace hkr := hid hkr
            replace hq := hid hq
            go_wp2_with fail
            clear h5 hd1 hi2
            go_loopg [12] m2 (fun g iv wr => ∃ k : Nat, k + g = m2 ∧ iv = .int .i64 k ∧ KR w6.heap.size W0 wr)
            case atStart => exact ⟨0, by omega, rfl, hkr.out⟩
            case round =>
              clear hkr
              obtain ⟨k2, hk2, rfl, hkr⟩ := hrel
              obtain ⟨y2, r2, z2, h6, hr2⟩ : ∃ y r z, wr.cell? ⟨b1, o1 + j * 8 + 6, none⟩ = some (.slice y r z) ∧ (y = a2 ∧ r = m2 ∧ z = x2 ∨ r = 0) := by
                rcases hkr.sl g6.out with h | h
                · exact ⟨_, _, _, h, .inl ⟨rfl, rfl, rfl⟩⟩
                · exact ⟨_, _, _, h, .inr rfl⟩
              by_cases hkt2 : k2 < r2
              rotate_left
              · have hd1 : decide ((k2 : Int) < (r2 : Int)) = false := decide_eq_false (by omega)
                have hi2 : ¬ (k2 : Int) < (r2 : Int) := by omega
                replace hkr := hid hkr
                replace hr2 := hid hr2
                go_wp2_with fail
                go_roundg c
                case measure => omega
                case rel => exact ⟨j + 1, by omega, by go_num, hkr.out⟩
              · obtain ⟨e1, e2, e3⟩ : y2 = a2 ∧ r2 = m2 ∧ z2 = x2 := hr2.resolve_right (by omega)
                subst e1
                subst e2
                subst e3
                clear hr2
                obtain ⟨d, rfl⟩ : ∃ d, gk = d + 1 := ⟨gk - 1, by omega⟩
                obtain ⟨b3, o3, kd3, tx3, nm3, ar3, ct3, p1, u1, v1, p2, u2, v2, p3, u3, v3, fl3, ks3, es3, e, hF3, -, -, -, -, f0, f1, f2, f3, f4, f5, f6, f7⟩ := hK1.out.node (j := k2) (by have := hK1.out.count; omega)
                subst e
                have hT3 := hK1.out.thaw
                have kr0 := hkr
                obtain ⟨_, q0, -⟩ := kr0.cells _ _ f0
                have zz0 := (kr0.thaw b3 hT3).free
                have kr1 := kr0.set (u := .int .i64 0) f0 ⟨_, rfl⟩ hF3.1
                obtain ⟨_, q1, -⟩ := kr1.cells _ _ f1
                have zz1 := (kr1.thaw b3 hT3).free
                have kr2 := kr1.set (u := .string ⟨#[]⟩) f1 ⟨_, rfl⟩ hF3.1
                obtain ⟨_, q2, -⟩ := kr2.cells _ _ f2
                have zz2 := (kr2.thaw b3 hT3).free
                have kr3 := kr2.set (u := .string ⟨#[]⟩) f2 ⟨_, rfl⟩ hF3.1
                obtain ⟨_, q3, -⟩ := kr3.cells _ _ f3
                have zz3 := (kr3.thaw b3 hT3).free
                have kr4 := kr3.set (u := .string ⟨#[]⟩) f3 ⟨_, rfl⟩ hF3.1
                obtain ⟨_, q4, -⟩ := kr4.cells _ _ f4
                have zz4 := (kr4.thaw b3 hT3).free
                have kr5 := kr4.set (u := .int .i64 0) f4 ⟨_, rfl⟩ hF3.1
                obtain ⟨_, q5, -⟩ := kr5.cells _ _ f5
                have zz5 := (kr5.thaw b3 hT3).free
                have kr6 := kr5.set (u := .slice none 0 0) f5 (.inr rfl) hF3.1
                obtain ⟨_, q6, -⟩ := kr6.cells _ _ f6
                have zz6 := (kr6.thaw b3 hT3).free
                have kr7 := kr6.set (u := .slice none 0 0) f6 (.inr rfl) hF3.1
                obtain ⟨_, q7, -⟩ := kr7.cells _ _ f7
                have zz7 := (kr7.thaw b3 hT3).free
                have kr8 := kr7.set (u := .slice none 0 0) f7 (.inr rfl) hF3.1
                have hd1 : decide ((k2 : Int) < (r2 : Int)) = true := decide_eq_true (by omega)
                have hi2 : (k2 : Int) < (r2 : Int) := by omega
                have hi3 : (0 : Int) ≤ (k2 : Int) := by omega
                clear kr0 kr1 kr2 kr3 kr4 kr5 kr6 kr7 f0 f1 f2 f3 f4 f5 f6 f7 hF3 hT3
                replace kr8 := hid kr8
                replace hkr := hid hkr
                go_wp2_with fail
                go_roundg d
                case measure => omega
                case rel => exact ⟨k2 + 1, by omega, by go_num, kr8.out⟩
          · obtain ⟨e1, e2, e3⟩ : y = a1 ∧ q = m1 ∧ z = x1 := hq.resolve_right (by omega)
            subst e1
            subst e2
            subst e3
            clear hq
            obtain ⟨d, rfl⟩ : ∃ d, gk = d + 1 := ⟨gk - 1, by omega⟩
            obtain ⟨b3, o3, s3, e, f3, hF3, hT3⟩ := hF1.out.cellAt.2 k hkt
            subst e
            obtain ⟨s4, q4⟩ := hkr.str f3
            have z4 := (hkr.thaw b3 hT3).free
            have hkB := hid (hkr.set f3 (u := .string ⟨#[99, 104, 97, 110, 103, 101, 100]⟩) ⟨_, rfl⟩ hF3.1)
            have hd1 : decide ((k : Int) < (q : Int)) = true := decide_eq_true (by omega)
            have hi2 : (k : Int) < (q : Int) := by omega
            have hi3 : (0 : Int) ≤ (k : Int) := by omega
            clear f3 hF3 hT3
            replace hkr := hid hkr
            go_wp2_with fail
            go_roundg d
            case measure => omega
            case rel => exact ⟨k + 1, by omega, by go_num, hkB.out⟩
end Go.Proofs.YtpgniljgaknlpaaGreatDoor
