import Derived.Test.YtpgniljgaknlpaaGreatDoorK40
import Derived.Test.YtpgniljgaknlpaaGreatDoorK43
import Derived.Test.YtpgniljgaknlpaaGreatDoorThAll
/-
  The law of the nest: the walk.
-/
namespace Go.Proofs.YtpgniljgaknlpaaGreatDoor
open Go.RowKit Cdk Tpl

theorem row_take {w : World} {ao : Option Addr} {xs : List Int} (h : RowIs w ao (xs.flatMap intC)) (m : Nat) : RowIs w ao ((xs.take m).flatMap intC) := by
  intro j u hu
  refine h j u ?_
  have e : xs.flatMap intC = (xs.take m).flatMap intC ++ (xs.drop m).flatMap intC := by rw [← List.flatMap_append, List.take_append_drop]
  rw [e, List.getElem?_append_left (List.getElem?_eq_some_iff.1 hu).1]
  exact hu

theorem nest_bytes (s t : Bs) : ((((⟨#[123, 102, 111, 114, 32, 108, 105, 115, 116, 32, 34, 97, 114, 103, 34, 32, 55, 125, 123, 105, 102, 32, 99, 125]⟩ ++ ⟨s.toArray⟩) ++ ⟨#[123, 101, 108, 115, 101, 125]⟩) ++ ⟨t.toArray⟩) ++ ⟨#[123, 101, 110, 100, 125, 123, 101, 110, 100, 125]⟩ : ByteArray) = ⟨(nestS s t).toArray⟩ :=
  ByteArray.ext (by simp [nestS, preN, wElse, wEnd])

theorem nest_szL (a b : List Nd) : szL (nestN a b) = 6 + szL a + szL b := by
  simp only [nestN, szL, szN, List.length_nil]; omega

set_option maxRecDepth 100000 in
set_option maxHeartbeats 16000000 in
theorem Nest_any (xs ys : List Int) (ao bo : Option Addr) (cap dap : Nat) (w : World) (hg : Gl w) (hrow : RowIs w ao (xs.flatMap intC)) (hv : ∀ z ∈ xs, -9223372036854775808 ≤ z ∧ z ≤ 9223372036854775807) (hl : xs.length ≤ cap) (hc : cap ≤ 9223372036854775807)
    (hrow2 : RowIs w bo (ys.flatMap intC)) (hv2 : ∀ z ∈ ys, -9223372036854775808 ≤ z ∧ z ≤ 9223372036854775807) (hl2 : ys.length ≤ dap) (hc2 : dap ≤ 9223372036854775807) :
    Calls Tryz.prog 7 #[.slice ao xs.length cap, .slice bo ys.length dap] w fun e w' => e = .returned (.bool true) ∧ Ext w w' := by
  obtain ⟨post, hpost⟩ : ∃ post : Ending → World → Prop, post = fun e w' => e = .returned (.bool true) ∧ Ext w w' := ⟨_, rfl⟩
  rw [← hpost]
  have hsane := hid (sane_any w hg)
  have hN := hid (fun w (h : RowIs w ao (xs.flatMap intC)) => Nodes_any (xs.take 12) ao cap w (row_take h 12) (fun z hz => hv z (List.mem_of_mem_take hz)) (by rw [List.length_take]; omega))
  have hM := hid (fun w (h : RowIs w bo (ys.flatMap intC)) => Nodes_any (ys.take 12) bo dap w (row_take h 12) (fun z hz => hv2 z (List.mem_of_mem_take hz)) (by rw [List.length_take]; omega))
  have hsz := hid (nodesS_sz (xs.take 12))
  have hsz2 := hid (nodesS_sz (ys.take 12))
  have hz1 := hid (szL_len (nodesS (xs.take 12)))
  obtain ⟨a, hall⟩ : ∃ a, a = nodesS (xs.take 12) := ⟨_, rfl⟩
  obtain ⟨b, hbll⟩ : ∃ b, b = nodesS (ys.take 12) := ⟨_, rfl⟩
  rw [← hall] at hN hsz hz1
  rw [← hbll] at hM hsz2
  obtain ⟨n, hn⟩ : ∃ n, n = xs.length := ⟨_, rfl⟩
  obtain ⟨m, hm⟩ : ∃ m, m = ys.length := ⟨_, rfl⟩
  rw [List.length_take, ← hn] at hN
  rw [List.length_take, ← hm] at hM
  rw [← hn] at hl ⊢
  rw [← hm] at hl2 ⊢
  obtain ⟨n1, hn1⟩ : ∃ n1, n1 = min 12 n := ⟨_, rfl⟩
  obtain ⟨m1, hm1⟩ : ∃ m1, m1 = min 12 m := ⟨_, rfl⟩
  rw [← hn1] at hN
  rw [← hm1] at hM
  clear hall hbll hv hv2 hz1
  have i1 : min (n : Int) 12 = (n1 : Int) := by omega
  have i2 : min (m : Int) 12 = (m1 : Int) := by omega
  have i3 : (n1 : Int) ≤ (cap : Int) := by omega
  have i4 : (m1 : Int) ≤ (dap : Int) := by omega
  have i5 : (0 : Int) ≤ (n1 : Int) := by omega
  have i6 : (0 : Int) ≤ (m1 : Int) := by omega
  have i7 : IntKind.i64.wrap (n1 : Int) = (n1 : Int) := IntWalk.i64_in _ (by omega)
  have i8 : IntKind.i64.wrap (m1 : Int) = (m1 : Int) := IntWalk.i64_in _ (by omega)
  replace hn1 := hid hn1
  replace hm1 := hid hm1
  replace hn := hid hn
  replace hm := hid hm
  replace hpost := hid hpost
  replace hg := hid hg
  replace hrow := hid hrow
  replace hrow2 := hid hrow2
  go_enter Tryz.func7, Tryz.ntmps7
  go_wp2_with fail
  refine hsane.out.mono ?_
  rintro e w1 ⟨rfl, hx1⟩
  clear hsane
  replace hx1 := hid hx1
  go_wp2_with fail
  refine (hN.out w1 (hrow.out.ext hx1.out)).mono ?_
  rintro e w2 ⟨a2, n2, c2, rfl, hn2, hx2, -⟩
  have hxw := hid (hx1.out.trans hx2)
  have hn2 := hid (hn2.mono (F' := Lo w2) (fun k hk => hk.2))
  clear hN hx1 hx2 hrow
  go_wp2_with fail
  refine (hM.out w2 (hrow2.out.ext hxw.out)).mono ?_
  rintro e w3 ⟨a3, n3, c3, rfl, hn3, hx3, -⟩
  have hn2 := hid (hn2.out.up hx3)
  have hn3 := hid (hn3.mono (F' := Lo w3) (fun k hk => hk.2))
  have hxw := hid (hxw.out.trans hx3)
  have hgw := hid (hg.out.ext hxw.out)
  clear hM hx3 hrow2
  cases hpa : Tpl.print a with
  | none =>
    have hP := hid (print_none (F := Lo w3) hpa hgw.out hn2.out (fun _ h => h) hsz.out)
    have hQ := hid (fun w (hg : Gl w) (hn : NodesAt (Lo w) w (.slice a3 n3 c3) b) => Print_sz (F := Lo w) _ b w hg hn (fun _ h => h) hsz2.out)
    go_wp2_with fail
    refine hP.out.mono ?_
    rintro e w4 ⟨rfl, hx4⟩
    have hn3 := hid (hn3.out.up hx4)
    have hgw := hid (hgw.out.ext hx4)
    have hxw := hid (hxw.out.trans hx4)
    clear hP hx4 hn2
    go_wp2_with fail
    cases hpb : Tpl.print b with
    | none =>
      have hP := hid (print_none (F := Lo w4) hpb hgw.out hn3.out (fun _ h => h) hsz2.out)
      refine hP.out.mono ?_
      rintro e w5 ⟨rfl, hx5⟩
      have hxw := hid (hxw.out.trans hx5)
      go_wp2_with fail
      rw [hpost.out]
      exact ⟨rfl, hxw.out⟩
    | some t =>
      have hP := hid (Print_ok (F := Lo w4) _ b w4 hpb hgw.out hn3.out (fun _ h => h) hsz2.out)
      refine hP.out.mono ?_
      rintro e w5 ⟨rfl, hx5⟩
      have hxw := hid (hxw.out.trans hx5)
      replace hpb := hid hpb
      go_wp2_with fail
      rw [hpost.out]
      exact ⟨rfl, hxw.out⟩
  | some s =>
    have hP := hid (Print_ok (F := Lo w3) _ a w3 hpa hgw.out hn2.out (fun _ h => h) hsz.out)
    go_wp2_with fail
    refine hP.out.mono ?_
    rintro e w4 ⟨rfl, hx4⟩
    have hn2 := hid (hn2.out.up hx4)
    have hn3 := hid (hn3.out.up hx4)
    have hgw := hid (hgw.out.ext hx4)
    have hxw := hid (hxw.out.trans hx4)
    clear hP hx4
    obtain ⟨p1, p2, p3⟩ := print_some hpa
    replace hpa := hid hpa
    replace p2 := hid p2
    replace p1 := hid p1
    go_wp2_with fail
    cases hpb : Tpl.print b with
    | none =>
      have hP := hid (print_none (F := Lo w4) hpb hgw.out hn3.out (fun _ h => h) hsz2.out)
      refine hP.out.mono ?_
      rintro e w5 ⟨rfl, hx5⟩
      have hxw := hid (hxw.out.trans hx5)
      go_wp2_with fail
      rw [hpost.out]
      exact ⟨rfl, hxw.out⟩
    | some t =>
      have hP := hid (Print_ok (F := Lo w4) _ b w4 hpb hgw.out hn3.out (fun _ h => h) hsz2.out)
      refine hP.out.mono ?_
      rintro e w5 ⟨rfl, hx5⟩
      have hn2 := hid (hn2.out.up hx5)
      have hn3 := hid (hn3.out.up hx5)
      have hgw := hid (hgw.out.ext hx5)
      have hxw := hid (hxw.out.trans hx5)
      clear hP hx5
      obtain ⟨q1, q2, q3⟩ := print_some hpb
      replace hpb := hid hpb
      replace q2 := hid q2
      replace q1 := hid q1
      have hlu : (nestS s t).length = s.length + t.length + 40 := nestS_len s t
      have k1 : ¬ 9223372036854775807 < 24 + s.length := by omega
      have k2 : ¬ 9223372036854775807 < 24 + s.length + 6 := by omega
      have k3 : ¬ 9223372036854775807 < 24 + s.length + 6 + t.length := by omega
      have k4 : ¬ 9223372036854775807 < 24 + s.length + 6 + t.length + 10 := by omega
      by_cases h1 : 1000 < s.length + t.length + 40
      · have d1 : decide ((1000 : Int) < (24 : Int) + (s.length : Int) + 6 + (t.length : Int) + 10) = true := decide_eq_true (by omega)
        have d2 : (1000 : Int) < (24 : Int) + (s.length : Int) + 6 + (t.length : Int) + 10 := by omega
        replace hlu := hid hlu
        go_wp2_with fail
        rw [hpost.out]
        exact ⟨rfl, hxw.out⟩
      · have d1 : decide ((1000 : Int) < (24 : Int) + (s.length : Int) + 6 + (t.length : Int) + 10) = false := decide_eq_false (by omega)
        have d2 : ¬ (1000 : Int) < (24 : Int) + (s.length : Int) + 6 + (t.length : Int) + 10 := by omega
        have hlen : (nestS (formL a) (formL b)).length ≤ 1000 := by rw [← p2.out, ← q2.out]; omega
        replace hlen := hid hlen
        replace hlu := hid hlu
        have hpn := print_nest (a := a) (b := b) hlen.out
        have hszm := hid (show szL (nestN a b) ≤ 1000000000 by rw [nest_szL]; have := parse_szl (print_parse hpa.out); have := parse_szl (print_parse hpb.out); omega)
        have e1 := nest_bytes s t
        cases hb : (valL a 2 false && valL b 2 false) with
        | true =>
          rw [hb, if_pos rfl] at hpn
          simp only [Bool.and_eq_true] at hb
          have hpok := nest_ok hb.1 hb.2 p1.out q1.out hlen.out
          rw [← p2.out, ← q2.out] at hpok
          have hQ := fun w => Parse_ok ⟨(nestS s t).toArray⟩ w (l := nestN a b) hpok
          rw [← e1] at hQ
          replace hQ := hid hQ
          clear hpok hb e1
          replace hpn := hid hpn
          go_wp2_with fail
          refine (hQ.out w5).mono ?_
          rintro e w6 ⟨a6, n6, c6, rfl, hn6, hx6⟩
          have hn6 := hid (hn6.mono (F' := Lo w6) (fun k hk => hk.2))
          have hn2 := hid (hn2.out.up hx6)
          have hn3 := hid (hn3.out.up hx6)
          have hgw := hid (hgw.out.ext hx6)
          have hxw := hid (hxw.out.trans hx6)
          clear hQ hx6
          go_wp2_with fail
          have hxA := Mod.alloc (Mod.refl (fun _ => False) w6) (.cells #[.int .i64 4, .string ⟨#[]⟩, .string ⟨#[99]⟩, .string ⟨#[]⟩, .int .i64 0, .slice none 0 0, .slice a2 n2 c2, .slice a3 n3 c3] 36)
          have hm1 := NodesAt.made (w := w6) [⟨4, [], [99], [], 0, .slice none 0 0, .slice a2 n2 c2, .slice a3 n3 c3⟩] [.mk 4 [] [99] [] 0 [] a b] [.int .i64 4, .string ⟨#[]⟩, .string ⟨#[99]⟩, .string ⟨#[]⟩, .int .i64 0, .slice none 0 0, .slice a2 n2 c2, .slice a3 n3 c3] 1 w6.heap.size rfl rfl rfl (.cons _ _ _ _ (.mk _ [] a b (StrsAt.nil _ _) hn2.out hn3.out) .nil)
          have hxB := hxA.alloc (.cells #[.int .i64 3, .string ⟨#[]⟩, .string ⟨#[108, 105, 115, 116]⟩, .string ⟨#[97, 114, 103]⟩, .int .i64 7, .slice none 0 0, .slice (some ⟨w6.heap.size, 0, none⟩) 1 1, .slice none 0 0] 36)
          have hm2 := NodesAt.made (w := (w6.alloc (.cells #[.int .i64 4, .string ⟨#[]⟩, .string ⟨#[99]⟩, .string ⟨#[]⟩, .int .i64 0, .slice none 0 0, .slice a2 n2 c2, .slice a3 n3 c3] 36))) [⟨3, [], [108, 105, 115, 116], [97, 114, 103], 7, .slice none 0 0, .slice (some ⟨w6.heap.size, 0, none⟩) 1 1, .slice none 0 0⟩] (nestN a b) [.int .i64 3, .string ⟨#[]⟩, .string ⟨#[108, 105, 115, 116]⟩, .string ⟨#[97, 114, 103]⟩, .int .i64 7, .slice none 0 0, .slice (some ⟨w6.heap.size, 0, none⟩) 1 1, .slice none 0 0] 1 (w6.heap.size + 1) rfl rfl (by simp) (.cons _ _ _ _ (.mk _ [] _ [] (StrsAt.nil _ _) hm1 (NodesAt.nil _ _)) .nil)
          have hn6B := hid (hn6.out.up hxB)
          have hP := Print_ok (F := Lo _) _ (nestN a b) _ hpn.out (hgw.out.ext hxB) hm2 (fun _ h => h) hszm.out
          have hxw := hid (hxw.out.trans hxB)
          clear hxA hxB hm1
          replace hm2 := hid hm2
          refine hP.mono ?_
          rintro e w7 ⟨rfl, hx7⟩
          have hm7 := hid (hm2.out.up hx7)
          have hn7 := hid (hn6B.out.up hx7)
          have hxw := hid (hxw.out.trans hx7)
          clear hP hx7
          go_wp2_with fail
          have hR := refSame_any (F := Lo w7) _ _ (nestN a b) (nestN a b) w7 hn7.out hm7.out (fun _ h => h) hszm.out hszm.out
          rw [(eqL_iff _ _).2 rfl] at hR
          refine hR.mono ?_
          rintro e w8 ⟨rfl, hx8⟩
          have hxw := hid (hxw.out.trans hx8)
          clear hR hx8
          go_wp2_with fail
          rw [hpost.out]
          exact ⟨rfl, hxw.out⟩
        | false =>
          rw [hb, if_neg (by decide)] at hpn
          obtain ⟨o, ho⟩ := nest_bad (by rw [hb]; decide) p1.out q1.out (by rw [← p2.out]; exact p3) (by rw [← q2.out]; exact q3) hlen.out
          rw [← p2.out, ← q2.out] at ho
          have hQ := fun w => Parse_bad ⟨(nestS s t).toArray⟩ w ho
          rw [← e1] at hQ
          replace hQ := hid hQ
          clear ho hb e1
          replace hpn := hid hpn
          go_wp2_with fail
          refine (hQ.out w5).mono ?_
          rintro e w6 ⟨rfl, hx6⟩
          have hn2 := hid (hn2.out.up hx6)
          have hn3 := hid (hn3.out.up hx6)
          have hgw := hid (hgw.out.ext hx6)
          have hxw := hid (hxw.out.trans hx6)
          clear hQ hx6
          go_wp2_with fail
          have hxA := Mod.alloc (Mod.refl (fun _ => False) w6) (.cells #[.int .i64 4, .string ⟨#[]⟩, .string ⟨#[99]⟩, .string ⟨#[]⟩, .int .i64 0, .slice none 0 0, .slice a2 n2 c2, .slice a3 n3 c3] 36)
          have hm1 := NodesAt.made (w := w6) [⟨4, [], [99], [], 0, .slice none 0 0, .slice a2 n2 c2, .slice a3 n3 c3⟩] [.mk 4 [] [99] [] 0 [] a b] [.int .i64 4, .string ⟨#[]⟩, .string ⟨#[99]⟩, .string ⟨#[]⟩, .int .i64 0, .slice none 0 0, .slice a2 n2 c2, .slice a3 n3 c3] 1 w6.heap.size rfl rfl rfl (.cons _ _ _ _ (.mk _ [] a b (StrsAt.nil _ _) hn2.out hn3.out) .nil)
          have hxB := hxA.alloc (.cells #[.int .i64 3, .string ⟨#[]⟩, .string ⟨#[108, 105, 115, 116]⟩, .string ⟨#[97, 114, 103]⟩, .int .i64 7, .slice none 0 0, .slice (some ⟨w6.heap.size, 0, none⟩) 1 1, .slice none 0 0] 36)
          have hm2 := NodesAt.made (w := (w6.alloc (.cells #[.int .i64 4, .string ⟨#[]⟩, .string ⟨#[99]⟩, .string ⟨#[]⟩, .int .i64 0, .slice none 0 0, .slice a2 n2 c2, .slice a3 n3 c3] 36))) [⟨3, [], [108, 105, 115, 116], [97, 114, 103], 7, .slice none 0 0, .slice (some ⟨w6.heap.size, 0, none⟩) 1 1, .slice none 0 0⟩] (nestN a b) [.int .i64 3, .string ⟨#[]⟩, .string ⟨#[108, 105, 115, 116]⟩, .string ⟨#[97, 114, 103]⟩, .int .i64 7, .slice none 0 0, .slice (some ⟨w6.heap.size, 0, none⟩) 1 1, .slice none 0 0] 1 (w6.heap.size + 1) rfl rfl (by simp) (.cons _ _ _ _ (.mk _ [] _ [] (StrsAt.nil _ _) hm1 (NodesAt.nil _ _)) .nil)
          have hP := print_none (F := Lo _) hpn.out (hgw.out.ext hxB) hm2 (fun _ h => h) hszm.out
          have hxw := hid (hxw.out.trans hxB)
          clear hxA hxB hm1 hm2
          refine hP.mono ?_
          rintro e w7 ⟨rfl, hx7⟩
          have hxw := hid (hxw.out.trans hx7)
          clear hP hx7
          go_wp2_with fail
          rw [hpost.out]
          exact ⟨rfl, hxw.out⟩
end Go.Proofs.YtpgniljgaknlpaaGreatDoor
