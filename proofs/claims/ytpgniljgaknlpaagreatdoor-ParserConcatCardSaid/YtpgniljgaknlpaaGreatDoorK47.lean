import Derived.Test.YtpgniljgaknlpaaGreatDoorK46
import Derived.Test.YtpgniljgaknlpaaGreatDoorK43
import Derived.Test.YtpgniljgaknlpaaGreatDoorK40
import Derived.Test.YtpgniljgaknlpaaGreatDoorK29
/-
  The law of concatenation: the walk.
-/
namespace Go.Proofs.YtpgniljgaknlpaaGreatDoor
open Go.RowKit Cdk Tpl

def ps (l : List Nd) : Bs × Int := match Tpl.print l with | none => ([], 100) | some s => (s, 0)
theorem Print_ps {F : Nat → Prop} (v : Value) (l : List Nd) (w : World) (hg : Gl w) (hn : NodesAt F w v l) (hF : ∀ k, F k → k < w.heap.size) (hs : szL l ≤ 1000000000) : Calls Tryz.prog 17 #[v] w fun e w' => e = .returned (.tuple #[.string ⟨(ps l).1.toArray⟩, .int .i64 (ps l).2]) ∧ Ext w w' := by
  cases h : Tpl.print l with
  | none => unfold ps; rw [h]; exact print_none h hg hn hF hs
  | some s => unfold ps; rw [h]; exact Print_ok v l w h hg hn hF hs
theorem ps_e (l : List Nd) : (ps l).2 = 0 ∨ (ps l).2 = 100 := by
  unfold ps; split
  · exact .inr rfl
  · exact .inl rfl
theorem ps_len (l : List Nd) : (ps l).1.length ≤ 1000 := by
  unfold ps; split
  · simp
  · rename_i s h
    exact (print_some h).2.2

theorem parse_bad {s : Bs} {a : Nat} {k : Int} (h : parse s = .error (a, k)) : k ≠ 0 := by
  unfold parse at h
  split at h
  · injection h with h; injection h with h1 h2; omega
  · split at h
    · injection h with h; injection h with h1 h2; omega
    · cases h

theorem Parse_two (s : Bs) (w : World) : Calls Tryz.prog 11 #[.string ⟨s.toArray⟩] w fun e w' => (∃ l ao n cap, parse s = .ok l ∧ e = .returned (.tuple #[.slice ao n cap, .int .i64 0, .int .i64 0]) ∧ NodesAt (Lo w') w' (.slice ao n cap) l ∧ Ext w w') ∨ (∃ (a : Nat) (k : Int), k ≠ 0 ∧ e = .returned (.tuple #[.slice none 0 0, .int .i64 (a : Nat), .int .i64 k]) ∧ Ext w w') := by
  cases h : parse s with
  | ok l =>
    refine (Parse_ok ⟨s.toArray⟩ w (l := l) h).mono ?_
    rintro e w' ⟨ao, n, cap, rfl, hn, hx⟩
    exact .inl ⟨l, ao, n, cap, rfl, rfl, hn.mono (fun _ h => h.2), hx⟩
  | error x =>
    obtain ⟨a, k⟩ := x
    refine (Parse_bad ⟨s.toArray⟩ w (a := a) (k := k) h).mono ?_
    rintro e w' ⟨rfl, hx⟩
    exact .inr ⟨a, k, parse_bad h, rfl, hx⟩

theorem text_form : ∀ {l : List Nd} {d : Nat} {p : Bool}, valL l d p = true → ∀ x ∈ l, x.text.length ≤ (formL l).length
  | [], _, _, _, x, hx => by simp at hx
  | y :: r, d, p, h, x, hx => by
    simp only [valL, Bool.and_eq_true] at h
    simp only [formL, List.length_append]
    rcases List.mem_cons.1 hx with rfl | hx
    · obtain ⟨k, t, n, a, c, f, ks, es⟩ := x
      have h2 := h.1.2
      simp only [valN] at h2
      show t.length ≤ _
      by_cases h1 : k = 1
      · subst h1
        have e : formN (.mk 1 t n a c f ks es) = esc t := by simp [formN]
        rw [e]
        have : ∀ u : Bs, u.length ≤ (esc u).length := by
          intro u
          induction u with
          | nil => simp
          | cons c r ih =>
            rw [show esc (c :: r) = (if c.toNat = 123 then [c, c] else [c]) ++ esc r from rfl, List.length_append, List.length_cons]
            split <;> simp only [List.length_cons, List.length_nil] <;> omega
        have := this t
        omega
      · have ht : t = [] := by
          rw [if_neg h1] at h2
          by_cases e2 : k = 2
          · subst e2; simp at h2; exact h2.1.2.1.1.1.1
          · rw [if_neg e2] at h2
            by_cases e3 : k = 3
            · subst e3; simp at h2; exact h2.1.1.2.1.1
            · rw [if_neg e3] at h2
              by_cases e4 : k = 4
              · subst e4; simp at h2; exact h2.1.1.2.1.1.1
              · rw [if_neg e4] at h2; simp at h2; exact h2.2.1.1.1.1.1
        rw [ht]; simp
    · have := text_form h.2 x hx
      omega

theorem parse_text {s : Bs} {l : List Nd} (h : parse s = .ok l) : ∀ x ∈ l, x.text.length ≤ 1000000 := by
  intro x hx
  obtain ⟨h1, h2, h3⟩ := parse_good h
  have h4 := (parse_inv h).1
  have := text_form h1 x hx
  omega
theorem parse_len {s : Bs} {l : List Nd} (h : parse s = .ok l) : l.length ≤ 1000 := by
  have := parse_szl h
  have := szL_len l
  omega

theorem source_len (xs : List Int) : (sourceS xs).length ≤ 630 := by
  unfold sourceS
  have h1 := src_len (xs.take 30)
  rw [List.length_take] at h1
  omega

def prC (p : Bs × Bs) : List Value := [strV p.1, strV p.2]
theorem prC_len (p : Bs × Bs) : (prC p).length = 2 := rfl

set_option maxRecDepth 100000 in
set_option maxHeartbeats 16000000 in
theorem Concat_any (xs ys : List Int) (ao bo : Option Addr) (cap dap : Nat) (w : World) (hg : Gl w) (hrow : RowIs w ao (xs.flatMap intC)) (hv : ∀ z ∈ xs, -9223372036854775808 ≤ z ∧ z ≤ 9223372036854775807) (hl : xs.length ≤ 9223372036854775807)
    (hrow2 : RowIs w bo (ys.flatMap intC)) (hv2 : ∀ z ∈ ys, -9223372036854775808 ≤ z ∧ z ≤ 9223372036854775807) (hl2 : ys.length ≤ 9223372036854775807) :
    Calls Tryz.prog 6 #[.slice ao xs.length cap, .slice bo ys.length dap] w fun e w' => e = .returned (.bool true) ∧ Ext w w' := by
  obtain ⟨post, hpost⟩ : ∃ post : Ending → World → Prop, post = fun e w' => e = .returned (.bool true) ∧ Ext w w' := ⟨_, rfl⟩
  rw [← hpost]
  have hsane := hid (sane_any w hg)
  have hN := hid (fun w (h : RowIs w ao (xs.flatMap intC)) => Nodes_any xs ao cap w h hv hl)
  have hM := hid (fun w (h : RowIs w bo (ys.flatMap intC)) => Nodes_any ys bo dap w h hv2 hl2)
  have hS := hid (fun w (h : RowIs w ao (xs.flatMap intC)) => Source_any xs ao cap w h hv hl)
  have hS2 := hid (fun w (h : RowIs w bo (ys.flatMap intC)) => Source_any ys bo dap w h hv2 hl2)
  have hsl := source_len xs
  have hsl2 := source_len ys
  obtain ⟨sx, hsx⟩ : ∃ sx, sx = sourceS xs := ⟨_, rfl⟩
  obtain ⟨sy, hsy⟩ : ∃ sy, sy = sourceS ys := ⟨_, rfl⟩
  rw [← hsx] at hS hsl
  rw [← hsy] at hS2 hsl2
  have hsz := hid (nodesS_sz xs)
  have hsz2 := hid (nodesS_sz ys)
  obtain ⟨l1, hll⟩ : ∃ l, l = nodesS xs := ⟨_, rfl⟩
  obtain ⟨l2, hll2⟩ : ∃ l, l = nodesS ys := ⟨_, rfl⟩
  rw [← hll] at hN hsz
  rw [← hll2] at hM hsz2
  obtain ⟨n, hn⟩ : ∃ n, n = xs.length := ⟨_, rfl⟩
  obtain ⟨m, hm⟩ : ∃ m, m = ys.length := ⟨_, rfl⟩
  rw [← hn] at hN hS hl ⊢
  rw [← hm] at hM hS2 hl2 ⊢
  clear hll hll2 hv hv2 hsx hsy
  replace hn := hid hn
  replace hm := hid hm
  replace hpost := hid hpost
  replace hg := hid hg
  replace hrow := hid hrow
  replace hrow2 := hid hrow2
  go_enter Tryz.func6, Tryz.ntmps6
  go_wp2_with fail
  refine hsane.out.mono ?_
  rintro e w1 ⟨rfl, hx1⟩
  clear hsane
  replace hx1 := hid hx1
  go_wp2_with fail
  refine (hN.out w1 (hrow.out.ext hx1.out)).mono ?_
  rintro e w2 ⟨a2, n2, c2, rfl, hn2, hx2, -⟩
  have hxw := hid (hx1.out.trans hx2)
  have hgw := hid (hg.out.ext hxw.out)
  have hn2 := hid (hn2.mono (F' := Lo w2) (fun k hk => hk.2))
  have hP := hid (Print_ps (F := Lo w2) _ l1 w2 hgw.out hn2.out (fun _ h => h) hsz.out)
  have he1 := ps_e l1
  have hs1 := ps_len l1
  obtain ⟨e1, hee1⟩ : ∃ e1, e1 = (ps l1).2 := ⟨_, rfl⟩
  obtain ⟨s1, hss1⟩ : ∃ s1, s1 = (ps l1).1 := ⟨_, rfl⟩
  rw [← hee1, ← hss1] at hP
  rw [← hee1] at he1
  rw [← hss1] at hs1
  replace he1 := hid he1
  clear hN hx1 hx2 hee1 hss1
  go_wp2_with fail
  refine hP.out.mono ?_
  rintro e w3 ⟨rfl, hx3⟩
  have hxw := hid (hxw.out.trans hx3)
  clear hP hx3 hn2 hgw
  go_wp2_with fail
  refine (hM.out w3 (hrow2.out.ext hxw.out)).mono ?_
  rintro e w4 ⟨a4, n4, c4, rfl, hn4, hx4, -⟩
  have hxw := hid (hxw.out.trans hx4)
  have hgw := hid (hg.out.ext hxw.out)
  have hn4 := hid (hn4.mono (F' := Lo w4) (fun k hk => hk.2))
  have hP := hid (Print_ps (F := Lo w4) _ l2 w4 hgw.out hn4.out (fun _ h => h) hsz2.out)
  have he2 := ps_e l2
  have hs2 := ps_len l2
  obtain ⟨e2, hee2⟩ : ∃ e2, e2 = (ps l2).2 := ⟨_, rfl⟩
  obtain ⟨s2, hss2⟩ : ∃ s2, s2 = (ps l2).1 := ⟨_, rfl⟩
  rw [← hee2, ← hss2] at hP
  rw [← hee2] at he2
  rw [← hss2] at hs2
  replace he2 := hid he2
  clear hM hx4 hee2 hss2
  go_wp2_with fail
  refine hP.out.mono ?_
  rintro e w5 ⟨rfl, hx5⟩
  have hxw := hid (hxw.out.trans hx5)
  clear hP hx5 hn4 hgw
  go_wp2_with fail
  refine (hS.out w5 (hrow.out.ext hxw.out)).mono ?_
  rintro e w6 ⟨rfl, hx6⟩
  have hxw := hid (hxw.out.trans hx6)
  clear hx6
  go_wp2_with fail
  refine (hS2.out w6 (hrow2.out.ext hxw.out)).mono ?_
  rintro e w7 ⟨rfl, hx7⟩
  have hxw := hid (hxw.out.trans hx7)
  clear hx7
  go_wp2_with fail
  refine (hS2.out w7 (hrow2.out.ext hxw.out)).mono ?_
  rintro e w8 ⟨rfl, hx8⟩
  have hxw := hid (hxw.out.trans hx8)
  clear hx8 hS hS2
  go_wp2_with fail
  have hx9 := Mod.alloc (Mod.refl (fun _ => False) w8) (.cells #[.string ⟨s1.toArray⟩, .string ⟨s2.toArray⟩, .string ⟨sx.toArray⟩, .string ⟨sy.toArray⟩, .string ⟨s1.toArray⟩, .string ⟨sy.toArray⟩] 42)
  have hr9 : RowIs (w8.alloc (.cells #[.string ⟨s1.toArray⟩, .string ⟨s2.toArray⟩, .string ⟨sx.toArray⟩, .string ⟨sy.toArray⟩, .string ⟨s1.toArray⟩, .string ⟨sy.toArray⟩] 42)) (some ⟨w8.heap.size, 0, none⟩) ([(s1, s2), (sx, sy), (s1, sy)].flatMap prC) := RowIs.new w8 [strV s1, strV s2, strV sx, strV sy, strV s1, strV sy] 42
  generalize w8.heap.size = M at hr9 ⊢
  generalize (w8.alloc (.cells #[.string ⟨s1.toArray⟩, .string ⟨s2.toArray⟩, .string ⟨sx.toArray⟩, .string ⟨sy.toArray⟩, .string ⟨s1.toArray⟩, .string ⟨sy.toArray⟩] 42)) = w9 at hx9 hr9 ⊢
  have hxw := hid (hxw.out.trans hx9)
  have hpl : ∀ p ∈ [(s1, s2), (sx, sy), (s1, sy)], p.1.length ≤ 1000 ∧ p.2.length ≤ 1000 := by
    intro p hp
    simp only [List.mem_cons, List.not_mem_nil, or_false] at hp
    rcases hp with rfl | rfl | rfl <;> simp only <;> omega
  obtain ⟨P3, hP3⟩ : ∃ P3, P3 = [(s1, s2), (sx, sy), (s1, sy)] := ⟨_, rfl⟩
  rw [← hP3] at hr9 hpl
  have hPl : P3.length = 3 := by rw [hP3]; rfl
  replace hr9 := hid hr9
  replace hpl := hid hpl
  replace hPl := hid hPl
  clear hx9 hP3 hrow hrow2 hsz hsz2 hsl hsl2 hs1 hs2
  go_loopg [5, 48] 3 (fun g b iv wr => ∃ i : Nat, i + g = 3 ∧ iv = .int .i64 i ∧ b = .bool true ∧ Ext w9 wr)
  case atStart => exact ⟨0, rfl, rfl, rfl, Mod.refl _ _⟩
  case round =>
    obtain ⟨i, hig, rfl, rfl, hxr⟩ := hrel
    replace hxr := hid hxr
    by_cases hpos : 0 < gk
    · obtain ⟨c, rfl⟩ : ∃ c, gk = c + 1 := ⟨gk - 1, by omega⟩
      have hi1 : decide ((i : Int) < 3) = true := decide_eq_true (by omega)
      have hi2 : (i : Int) < 3 := by omega
      have hi0 : (0 : Int) ≤ (i : Int) := by omega
      have hil : i < P3.length := by rw [hPl.out]; omega
      have hpi := hpl.out P3[i] (List.getElem_mem _)
      obtain ⟨b', off', e0, hcl⟩ := (hr9.out.ext hxr.out).at (by rw [flat_length _ 2 prC_len, hPl.out]; omega)
      injection e0 with e0
      injection e0 with e0 e00
      subst e0; subst e00
      have g0 := hcl _ _ ((flat_get prC 2 prC_len P3 i 0 P3[i] (List.getElem?_eq_getElem hil) (by omega)).trans rfl)
      have g1 := hcl _ _ ((flat_get prC 2 prC_len P3 i 1 P3[i] (List.getElem?_eq_getElem hil) (by omega)).trans rfl)
      simp only [strV, Nat.add_zero, Nat.zero_add] at g0 g1
      generalize P3[i] = pq at hpi g0 g1
      obtain ⟨p, q⟩ := pq
      simp only at hpi g0 g1
      obtain ⟨hp1, hq1⟩ := hpi
      clear hcl
      replace hil := hid hil
      go_wp2_with fail
      have hxA := hxr.out.alloc (.cells #[.string ⟨p.toArray⟩, .string ⟨q.toArray⟩] 42)
      have hAA := heap_alloc_new wr (.cells #[.string ⟨p.toArray⟩, .string ⟨q.toArray⟩] 42)
      generalize (wr.alloc (.cells #[.string ⟨p.toArray⟩, .string ⟨q.toArray⟩] 42)) = wA at hxA hAA ⊢
      generalize wr.heap.size = N at hAA ⊢
      clear g0 g1 hxr
      refine (Parse_two p wA).mono ?_
      rintro e wB hR1
      have hxB : Hid (Ext wA wB) := hid (by rcases hR1 with ⟨_, _, _, _, _, _, _, h⟩ | ⟨_, _, _, _, h⟩ <;> exact h)
      have hBB := hxB.out.at hAA (fun h => h)
      have hxB := hid (hxA.trans hxB.out)
      have g1 : wB.cell? ⟨N, 1, none⟩ = some (.string ⟨q.toArray⟩) := cell_of' hBB 1
      replace hBB := hid hBB
      clear hxA hAA
      rcases hR1 with ⟨la, aa, na, ca, hpa, rfl, hna, -⟩ | ⟨ea, ka, hka, rfl, -⟩
      · replace hpa := hid hpa
        replace hna := hid hna
        go_wp2_with fail
        refine (Parse_two q wB).mono ?_
        rintro e wC hR2
        have hxC : Hid (Ext wB wC) := hid (by rcases hR2 with ⟨_, _, _, _, _, _, _, h⟩ | ⟨_, _, _, _, h⟩ <;> exact h)
        have hCC := hxC.out.at hBB.out (fun h => h)
        have hnaC := hid (hna.out.up hxC.out)
        have hxC := hid (hxB.out.trans hxC.out)
        have r0 : wC.cell? ⟨N, 0, none⟩ = some (.string ⟨p.toArray⟩) := cell_of' hCC 0
        have r1 : wC.cell? ⟨N, 1, none⟩ = some (.string ⟨q.toArray⟩) := cell_of' hCC 1
        replace hCC := hid hCC
        clear hBB hxB g1 hna
        rcases hR2 with ⟨lb, ab, nb, cb, hpb, rfl, hnb, -⟩ | ⟨eb, kb, hkb, rfl, -⟩
        · replace hpb := hid hpb
          replace hnb := hid hnb
          have hk0 : ((0 : Int) != 0) = false := rfl
          by_cases hbig : 1000 < p.length + q.length
          · have d1 : decide ((1000 : Int) < (p.length : Int) + (q.length : Int)) = true := decide_eq_true (by omega)
            have d2 : (1000 : Int) < (p.length : Int) + (q.length : Int) := by omega
            replace hbig := hid hbig
            go_wp2_with fail
            go_roundg c
            case measure => omega
            case rel => exact ⟨i + 1, by omega, by go_num, rfl, hxC.out⟩
          · have d1 : decide ((1000 : Int) < (p.length : Int) + (q.length : Int)) = false := decide_eq_false (by omega)
            have d2 : ¬ (1000 : Int) < (p.length : Int) + (q.length : Int) := by omega
            have k1 : ¬ 9223372036854775807 < p.length + q.length := by omega
            have hpc := parse_concat hpa.out hpb.out (by omega)
            replace hbig := hid hbig
            have hQ := fun w => Parse_ok ⟨(p ++ q).toArray⟩ w (l := glued la lb) hpc
            have e1 : ((⟨p.toArray⟩ ++ ⟨q.toArray⟩ : ByteArray)) = ⟨(p ++ q).toArray⟩ := ByteArray.ext (by simp)
            rw [← e1] at hQ
            clear e1
            have hzc := hid (parse_szl hpc)
            replace hQ := hid hQ
            go_wp2_with fail
            refine (hQ.out wC).mono ?_
            rintro e wD ⟨a6, n6, c6, rfl, hn6, hx6⟩
            have hn6 := hn6.mono (F' := Lo wD) (fun k hk => hk.2)
            have hnaD := hnaC.out.up hx6
            have hnbD := hnb.out.up hx6
            have hG := glued_any wD aa ab na nb ca cb la lb hnaD hnbD (by rw [hnaD.count]; have := parse_len hpa.out; omega) (by rw [hnbD.count]; have := parse_len hpb.out; omega) (parse_text hpa.out) (parse_text hpb.out)
            have hxD := hid (hxC.out.trans hx6)
            replace hG := hid hG
            replace hn6 := hid hn6
            clear hQ hx6 hnaD hnbD
            go_wp2_with fail
            refine hG.out.mono ?_
            rintro e wE ⟨v7, rfl, hn7, hx7⟩
            obtain ⟨a7, n7, c7, rfl⟩ := hn7.slice
            have hn6E := hn6.out.up hx7
            have hRS := refSame_any (F := Lo wE) _ _ (glued la lb) (glued la lb) wE hn6E hn7 (fun _ h => h) (by have := hzc.out; omega) (by have := hzc.out; omega)
            rw [(eqL_iff _ _).2 rfl] at hRS
            have hxE := hid (hxD.out.trans hx7)
            replace hRS := hid hRS
            clear hG hx7 hn6E hn7
            go_wp2_with fail
            refine hRS.out.mono ?_
            rintro e wF ⟨rfl, hx8⟩
            have hxF := hid (hxE.out.trans hx8)
            clear hRS hx8
            go_wp2_with fail
            go_roundg c
            case measure => omega
            case rel => exact ⟨i + 1, by omega, by go_num, rfl, hxF.out⟩
        · have hk1 : ((kb : Int) != 0) = true := by rw [bne_iff_ne]; exact hkb
          replace hkb := hid hkb
          go_wp2_with fail
          go_roundg c
          case measure => omega
          case rel => exact ⟨i + 1, by omega, by go_num, rfl, hxC.out⟩
      · have hk1 : ((ka : Int) != 0) = true := by rw [bne_iff_ne]; exact hka
        replace hka := hid hka
        go_wp2_with fail
        refine (Parse_two q wB).mono ?_
        rintro e wC hR2
        have hxC : Hid (Ext wB wC) := hid (by rcases hR2 with ⟨_, _, _, _, _, _, _, h⟩ | ⟨_, _, _, _, h⟩ <;> exact h)
        have hxC := hid (hxB.out.trans hxC.out)
        obtain ⟨v1, v2, v3, v4, v5, rfl⟩ : ∃ v1 v2 v3 v4 v5, e = .returned (.tuple #[.slice v1 v2 v3, .int .i64 v4, .int .i64 v5]) := by
          rcases hR2 with ⟨_, _, _, _, _, h, _, _⟩ | ⟨_, _, _, h, _⟩ <;> exact ⟨_, _, _, _, _, h⟩
        clear hR2
        go_wp2_with fail
        go_roundg c
        case measure => omega
        case rel => exact ⟨i + 1, by omega, by go_num, rfl, hxC.out⟩
    · obtain rfl : gk = 0 := by omega
      obtain rfl : i = 3 := by omega
      have hxz := hid (hxw.out.trans hxr.out)
      rcases he1.out with rfl | rfl <;> rcases he2.out with rfl | rfl
      all_goals
        go_wp2_with fail
        rw [hpost.out]
        exact ⟨rfl, hxz.out⟩
end Go.Proofs.YtpgniljgaknlpaaGreatDoor
