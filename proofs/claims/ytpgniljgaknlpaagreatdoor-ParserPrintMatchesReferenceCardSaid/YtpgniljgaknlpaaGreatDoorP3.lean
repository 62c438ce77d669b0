import Derived.Test.YtpgniljgaknlpaaGreatDoorP2
/-
  The reference printer's 'fields'.
-/
namespace Go.Proofs.YtpgniljgaknlpaaGreatDoor
open Go.RowKit Cdk Tpl

def fldB : Nd → Bool
  | .mk k t n a c f ks es =>
    if k = 1 then txOk t && n.isEmpty && a.isEmpty && (c == 0) && f.isEmpty && ks.isEmpty && es.isEmpty
    else if k = 2 then f.all nameOk && (nameOk n && !isKw n && t.isEmpty && a.isEmpty && (c == 0) && ks.isEmpty && es.isEmpty)
    else if k = 3 then nameOk n && a.all isA && t.isEmpty && decide (0 ≤ c) && decide (c ≤ 999999) && f.isEmpty && es.isEmpty
    else if k = 4 then nameOk n && t.isEmpty && a.isEmpty && (c == 0) && f.isEmpty
    else decide (k = 5) && nameOk n && t.isEmpty && a.isEmpty && (c == 0) && f.isEmpty && ks.isEmpty && es.isEmpty

theorem len_empty {α : Type} {l : List α} {n : Nat} (h : n = l.length) : ((n : Int) == 0) = l.isEmpty := by
  subst h
  cases l with
  | nil => rfl
  | cons a r =>
    rw [List.isEmpty_cons, beq_eq_false_iff_ne]
    simp only [List.length_cons]; omega

theorem NodeAt.parts2 {F : Nat → Prop} {w : World} {c : NC} {n : Nd} (h : NodeAt F w c n) : ∃ fl ks es, n = .mk c.kd c.tx c.nm c.ar c.ct fl ks es ∧ StrsAt F w c.fl fl ∧ NodesAt F w c.ks ks ∧ NodesAt F w c.es es := by
  cases h with
  | mk _ fl ks es h1 h2 h3 => exact ⟨fl, ks, es, rfl, h1, h2, h3⟩
theorem StrsAt.count {F : Nat → Prop} {w : World} {ao : Option Addr} {n cap : Nat} {l : List Bs} (h : StrsAt F w (.slice ao n cap) l) : n = l.length ∧ RowIs w ao (l.flatMap strC) := by
  obtain ⟨ao', cap', e, hr, -⟩ := h
  injection e with e1 e2 e3
  subst e1
  exact ⟨e2, hr⟩
theorem NodesAt.count2 {F : Nat → Prop} {w : World} {ao : Option Addr} {n cap : Nat} {l : List Nd} (h : NodesAt F w (.slice ao n cap) l) : n = l.length := by
  cases h with
  | mk _ _ rows _ _ _ h3 _ => exact RowsAt.len h3

set_option maxRecDepth 100000 in
set_option maxHeartbeats 16000000 in
theorem rfields_any {F : Nat → Prop} (c : NC) (nd : Nd) (w : World) (h : NodeAt F w c nd) (hb : nd.filters.length ≤ 1000000000000 ∧ nd.text.length ≤ 1000000000000 ∧ nd.arg.length ≤ 1000000000000) :
    Calls Tryz.prog 56 #[ncV c] w fun e w' => e = .returned (.bool (fldB nd)) ∧ Ext w w' := by
  obtain ⟨kd, tx, nm, ar, ct, a1, m1, c1, a2, m2, c2, a3, m3, c3, rfl⟩ := h.form
  obtain ⟨fl, ks, es, rfl, hfl, hks, hes⟩ := h.parts2
  obtain ⟨hb1, hb2, hb3⟩ := hb
  simp only [Nd.filters, Nd.text, Nd.arg] at hb1 hb2 hb3
  obtain ⟨hc1, hfr⟩ := hfl.count
  have qf := len_empty hc1
  have qk := len_empty hks.count2
  have qe := len_empty hes.count2
  obtain ⟨r, hr⟩ : ∃ r, r = fldB (.mk kd tx nm ar ct fl ks es) := ⟨_, rfl⟩
  rw [← hr]
  simp only [fldB] at hr
  obtain ⟨post, hpost⟩ : ∃ post : Ending → World → Prop, post = fun e w' => e = .returned (.bool r) ∧ Ext w w' := ⟨_, rfl⟩
  rw [← hpost]
  replace hpost := hid hpost
  simp only [ncV, ncC, strV]
  have hNm := hid (fun w => rName_any ⟨nm.toArray⟩ w)
  have hKw := hid (fun w => rKeyword_any nm w)
  have hTx := hid (fun w => rtext_any ⟨tx.toArray⟩ w (by show tx.toArray.size ≤ _; simpa using hb2))
  have hAr := hid (fun w => rargument_any ⟨ar.toArray⟩ w (by show ar.toArray.size ≤ _; simpa using hb3))
  have en : (⟨nm.toArray⟩ : ByteArray).data.toList = nm := rfl
  have et : (⟨tx.toArray⟩ : ByteArray).data.toList = tx := rfl
  have ea : (⟨ar.toArray⟩ : ByteArray).data.toList = ar := rfl
  rw [en] at hNm
  rw [et] at hTx
  rw [ea] at hAr
  clear en et ea hb2 hb3 hfl hks hes h
  obtain ⟨bT, hbT⟩ : ∃ b, b = txOk tx := ⟨_, rfl⟩
  obtain ⟨bN, hbN⟩ : ∃ b, b = nameOk nm := ⟨_, rfl⟩
  obtain ⟨bK, hbK⟩ : ∃ b, b = isKw nm := ⟨_, rfl⟩
  obtain ⟨bA, hbA⟩ : ∃ b, b = ar.all isA := ⟨_, rfl⟩
  rw [← hbT] at hTx
  rw [← hbN] at hNm
  rw [← hbK] at hKw
  rw [← hbA] at hAr
  rw [← hbT, ← hbN, ← hbK, ← hbA] at hr
  clear hbT hbN hbK hbA
  obtain ⟨n0, qn⟩ : ∃ b, nm.isEmpty = b := ⟨_, rfl⟩
  obtain ⟨t0, qt⟩ : ∃ b, tx.isEmpty = b := ⟨_, rfl⟩
  obtain ⟨a0, qa⟩ : ∃ b, ar.isEmpty = b := ⟨_, rfl⟩
  obtain ⟨c0, qc⟩ : ∃ b, (ct == 0) = b := ⟨_, rfl⟩
  obtain ⟨cg, qg⟩ : ∃ b, decide ((0 : Int) ≤ ct) = b := ⟨_, rfl⟩
  obtain ⟨c9, q9⟩ : ∃ b, decide (ct ≤ 999999) = b := ⟨_, rfl⟩
  obtain ⟨f0, hf0⟩ : ∃ b, fl.isEmpty = b := ⟨_, rfl⟩
  obtain ⟨k0, hk0⟩ : ∃ b, ks.isEmpty = b := ⟨_, rfl⟩
  obtain ⟨e0, he0⟩ : ∃ b, es.isEmpty = b := ⟨_, rfl⟩
  rw [qn, qt, qa, qc, qg, q9, hf0, hk0, he0] at hr
  rw [hf0] at qf
  rw [hk0] at qk
  rw [he0] at qe
  clear hf0 hk0 he0
  replace hr := hid hr
  replace hc1 := hid hc1
  replace hfr := hid hfr
  go_enter Tryz.func56, Tryz.ntmps56
  go_upto_region 1 with fail
  have hx := Mod.alloc (Mod.refl (fun _ => False) w) (.cells #[.int .i64 kd, .string ⟨tx.toArray⟩, .string ⟨nm.toArray⟩, .string ⟨ar.toArray⟩, .int .i64 ct, .slice a1 m1 c1, .slice a2 m2 c2, .slice a3 m3 c3] 36)
  have hQ := heap_alloc_new w (.cells #[.int .i64 kd, .string ⟨tx.toArray⟩, .string ⟨nm.toArray⟩, .string ⟨ar.toArray⟩, .int .i64 ct, .slice a1 m1 c1, .slice a2 m2 c2, .slice a3 m3 c3] 36)
  generalize (w.alloc (.cells #[.int .i64 kd, .string ⟨tx.toArray⟩, .string ⟨nm.toArray⟩, .string ⟨ar.toArray⟩, .int .i64 ct, .slice a1 m1 c1, .slice a2 m2 c2, .slice a3 m3 c3] 36)) = w1 at hx hQ ⊢
  generalize w.heap.size = Q at hQ ⊢
  obtain ⟨g0, g1, g2, g3, g4, g5, g6, g7⟩ := cells8 hQ
  have hfr1 := hid (hfr.out.ext hx)
  replace hQ := hid hQ
  replace hx := hid hx
  clear hfr
  go_wp2_with fail
  refine (hNm.out w1).mono ?_
  rintro e w' ⟨rfl, rfl⟩
  by_cases h1 : kd = 1
  · subst h1
    have hs : Hid (r = (bT && n0 && a0 && c0 && f0 && k0 && e0)) := hid (by rw [hr.out, if_pos rfl])
    clear hr qt qg q9 hKw hAr
    go_wp2_with fail
    refine (hTx.out w1).mono ?_
    rintro e w' ⟨rfl, rfl⟩
    cases bT with
    | false =>
      go_wp2_with fail
      rw [hpost.out]
      exact ⟨by rw [hs.out]; rfl, hx.out⟩
    | true =>
      cases n0 with
      | false =>
        go_wp2_with fail
        rw [hpost.out]
        exact ⟨by rw [hs.out]; rfl, hx.out⟩
      | true =>
        cases a0 with
        | false =>
          go_wp2_with fail
          rw [hpost.out]
          exact ⟨by rw [hs.out]; rfl, hx.out⟩
        | true =>
          cases c0 with
          | false =>
            go_wp2_with fail
            rw [hpost.out]
            exact ⟨by rw [hs.out]; rfl, hx.out⟩
          | true =>
            cases f0 with
            | false =>
              go_wp2_with fail
              rw [hpost.out]
              exact ⟨by rw [hs.out]; rfl, hx.out⟩
            | true =>
              cases k0 with
              | false =>
                go_wp2_with fail
                rw [hpost.out]
                exact ⟨by rw [hs.out]; rfl, hx.out⟩
              | true =>
                cases e0 with
                | false =>
                  go_wp2_with fail
                  rw [hpost.out]
                  exact ⟨by rw [hs.out]; rfl, hx.out⟩
                | true =>
                  go_wp2_with fail
                  rw [hpost.out]
                  exact ⟨by rw [hs.out]; rfl, hx.out⟩
  · have q1 : ((kd : Int) == 1) = false := by rw [beq_eq_false_iff_ne]; omega
    by_cases h2 : kd = 2
    · subst h2
      have hs9 : Hid (r = (fl.all nameOk && (bN && !bK && t0 && a0 && c0 && k0 && e0))) := hid (by rw [hr.out, if_neg (by decide), if_pos rfl])
      clear hr q1 qn qf qg q9 hAr hTx h1
      go_wp2_with fail
      go_loopg [5] m1 (fun g iv wr => ∃ i : Nat, i + g = m1 ∧ iv = .int .i64 i ∧ wr = w1 ∧ Hid (∀ (j : Nat) (h : j < fl.length), j < i → nameOk fl[j] = true))
      case atStart => exact ⟨0, by omega, rfl, rfl, hid (fun j _ h => by omega)⟩
      case round =>
        obtain ⟨i, hi, rfl, rfl, hall⟩ := hrel
        replace hi := hid hi
        by_cases hlt : i < m1
        · have d1 : decide ((i : Int) < (m1 : Int)) = true := decide_eq_true (by omega)
          have d2 : (i : Int) < (m1 : Int) := by omega
          have d3 : (0 : Int) ≤ (i : Int) := by omega
          have hil : i < fl.length := by have := hc1.out; omega
          obtain ⟨b, off, rfl, hcl⟩ := hfr1.out.at (by rw [flat_length _ 1 strC_len]; omega)
          have gi := hcl _ _ ((flat_get strC 1 strC_len fl i 0 fl[i] (List.getElem?_eq_getElem hil) (by omega)).trans rfl)
          simp only [strV, Nat.mul_one, Nat.add_zero] at gi
          have hNi := hid (rName_any ⟨fl[i].toArray⟩ wr)
          have en : (⟨fl[i].toArray⟩ : ByteArray).data.toList = fl[i] := rfl
          rw [en] at hNi
          clear en hcl
          obtain ⟨s, hse⟩ : ∃ s, s = fl[i] := ⟨_, rfl⟩
          rw [← hse] at gi hNi
          replace hse := hid hse
          have hm1 : m1 ≤ 1000000000000 := by have := hc1.out; omega
          go_wp2_with fail
          refine hNi.out.mono ?_
          rintro e w' ⟨rfl, rfl⟩
          cases hok : nameOk s with
          | false =>
            have hno : fl.all nameOk = false := by
              rw [Bool.eq_false_iff]; intro hh
              have := List.all_eq_true.1 hh s (by rw [hse.out]; exact List.getElem_mem _)
              rw [hok] at this; cases this
            replace hno := hid hno
            replace hok := hid hok
            go_wp2_with fail
            rw [hpost.out]
            exact ⟨by rw [hs9.out, hno.out]; rfl, hx.out⟩
          | true =>
            replace hok := hid hok
            go_wp2_with fail
            go_roundg (gk - 1)
            case measure => have := hi.out; omega
            case rel =>
              exact ⟨i + 1, by have := hi.out; omega, by go_num, rfl, hid (fun j hj hji => by
                by_cases e : j < i
                · exact hall.out j hj e
                · obtain rfl : j = i := by omega
                  rw [← hse.out]; exact hok.out)⟩
        · have d1 : decide ((i : Int) < (m1 : Int)) = false := decide_eq_false (by omega)
          have d2 : ¬ (i : Int) < (m1 : Int) := by omega
          have hs : Hid (r = (bN && !bK && t0 && a0 && c0 && k0 && e0)) := hid (by
            have : fl.all nameOk = true := List.all_eq_true.2 (fun x hx => by
              obtain ⟨j, hj, rfl⟩ := List.getElem_of_mem hx
              exact hall.out j hj (by have := hc1.out; omega))
            rw [hs9.out, this]; rfl)
          clear hs9 hall
          go_wp2_with fail
          refine (hKw.out wr).mono ?_
          rintro e w' ⟨rfl, rfl⟩
          cases bN with
          | false =>
            go_wp2_with fail
            rw [hpost.out]
            exact ⟨by rw [hs.out]; rfl, hx.out⟩
          | true =>
            cases bK with
            | true =>
              go_wp2_with fail
              rw [hpost.out]
              exact ⟨by rw [hs.out]; rfl, hx.out⟩
            | false =>
              cases t0 with
              | false =>
                go_wp2_with fail
                rw [hpost.out]
                exact ⟨by rw [hs.out]; rfl, hx.out⟩
              | true =>
                cases a0 with
                | false =>
                  go_wp2_with fail
                  rw [hpost.out]
                  exact ⟨by rw [hs.out]; rfl, hx.out⟩
                | true =>
                  cases c0 with
                  | false =>
                    go_wp2_with fail
                    rw [hpost.out]
                    exact ⟨by rw [hs.out]; rfl, hx.out⟩
                  | true =>
                    cases k0 with
                    | false =>
                      go_wp2_with fail
                      rw [hpost.out]
                      exact ⟨by rw [hs.out]; rfl, hx.out⟩
                    | true =>
                      cases e0 with
                      | false =>
                        go_wp2_with fail
                        rw [hpost.out]
                        exact ⟨by rw [hs.out]; rfl, hx.out⟩
                      | true =>
                        go_wp2_with fail
                        rw [hpost.out]
                        exact ⟨by rw [hs.out]; rfl, hx.out⟩
    · have q2 : ((kd : Int) == 2) = false := by rw [beq_eq_false_iff_ne]; omega
      by_cases h3 : kd = 3
      · subst h3
        have hs : Hid (r = (bN && bA && t0 && cg && c9 && f0 && e0)) := hid (by rw [hr.out, if_neg (by decide), if_neg (by decide), if_pos rfl])
        clear hr q1 q2 qn qa qc qk hTx hKw h1 h2
        go_wp2_with fail
        refine (hAr.out w1).mono ?_
        rintro e w' ⟨rfl, rfl⟩
        cases bN with
        | false =>
          go_wp2_with fail
          rw [hpost.out]
          exact ⟨by rw [hs.out]; rfl, hx.out⟩
        | true =>
          cases bA with
          | false =>
            go_wp2_with fail
            rw [hpost.out]
            exact ⟨by rw [hs.out]; rfl, hx.out⟩
          | true =>
            cases t0 with
            | false =>
              go_wp2_with fail
              rw [hpost.out]
              exact ⟨by rw [hs.out]; rfl, hx.out⟩
            | true =>
              cases cg with
              | false =>
                go_wp2_with fail
                rw [hpost.out]
                exact ⟨by rw [hs.out]; rfl, hx.out⟩
              | true =>
                cases c9 with
                | false =>
                  go_wp2_with fail
                  rw [hpost.out]
                  exact ⟨by rw [hs.out]; rfl, hx.out⟩
                | true =>
                  cases f0 with
                  | false =>
                    go_wp2_with fail
                    rw [hpost.out]
                    exact ⟨by rw [hs.out]; rfl, hx.out⟩
                  | true =>
                    cases e0 with
                    | false =>
                      go_wp2_with fail
                      rw [hpost.out]
                      exact ⟨by rw [hs.out]; rfl, hx.out⟩
                    | true =>
                      go_wp2_with fail
                      rw [hpost.out]
                      exact ⟨by rw [hs.out]; rfl, hx.out⟩
      · have q3 : ((kd : Int) == 3) = false := by rw [beq_eq_false_iff_ne]; omega
        by_cases h4 : kd = 4
        · subst h4
          have hs : Hid (r = (bN && t0 && a0 && c0 && f0)) := hid (by rw [hr.out, if_neg (by decide), if_neg (by decide), if_neg (by decide), if_pos rfl])
          clear hr q1 q2 q3 qn qg q9 qk qe hTx hKw hAr h1 h2 h3
          cases bN with
          | false =>
            go_wp2_with fail
            rw [hpost.out]
            exact ⟨by rw [hs.out]; rfl, hx.out⟩
          | true =>
            cases t0 with
            | false =>
              go_wp2_with fail
              rw [hpost.out]
              exact ⟨by rw [hs.out]; rfl, hx.out⟩
            | true =>
              cases a0 with
              | false =>
                go_wp2_with fail
                rw [hpost.out]
                exact ⟨by rw [hs.out]; rfl, hx.out⟩
              | true =>
                cases c0 with
                | false =>
                  go_wp2_with fail
                  rw [hpost.out]
                  exact ⟨by rw [hs.out]; rfl, hx.out⟩
                | true =>
                  cases f0 with
                  | false =>
                    go_wp2_with fail
                    rw [hpost.out]
                    exact ⟨by rw [hs.out]; rfl, hx.out⟩
                  | true =>
                    go_wp2_with fail
                    rw [hpost.out]
                    exact ⟨by rw [hs.out]; rfl, hx.out⟩
        · have q4 : ((kd : Int) == 4) = false := by rw [beq_eq_false_iff_ne]; omega
          obtain ⟨b5, q5⟩ : ∃ b, ((kd : Int) == 5) = b := ⟨_, rfl⟩
          have hs : Hid (r = (b5 && bN && t0 && a0 && c0 && f0 && k0 && e0)) := hid (by
            rw [hr.out, if_neg h1, if_neg h2, if_neg h3, if_neg h4, ← q5]
            congr 7
            rw [Bool.eq_iff_iff, decide_eq_true_eq, beq_iff_eq]; omega)
          clear hr qn qg q9 hTx hKw hAr
          replace h1 := hid h1
          replace h2 := hid h2
          replace h3 := hid h3
          replace h4 := hid h4
          cases b5 with
          | false =>
            go_wp2_with fail
            rw [hpost.out]
            exact ⟨by rw [hs.out]; rfl, hx.out⟩
          | true =>
            cases bN with
            | false =>
              go_wp2_with fail
              rw [hpost.out]
              exact ⟨by rw [hs.out]; rfl, hx.out⟩
            | true =>
              cases t0 with
              | false =>
                go_wp2_with fail
                rw [hpost.out]
                exact ⟨by rw [hs.out]; rfl, hx.out⟩
              | true =>
                cases a0 with
                | false =>
                  go_wp2_with fail
                  rw [hpost.out]
                  exact ⟨by rw [hs.out]; rfl, hx.out⟩
                | true =>
                  cases c0 with
                  | false =>
                    go_wp2_with fail
                    rw [hpost.out]
                    exact ⟨by rw [hs.out]; rfl, hx.out⟩
                  | true =>
                    cases f0 with
                    | false =>
                      go_wp2_with fail
                      rw [hpost.out]
                      exact ⟨by rw [hs.out]; rfl, hx.out⟩
                    | true =>
                      cases k0 with
                      | false =>
                        go_wp2_with fail
                        rw [hpost.out]
                        exact ⟨by rw [hs.out]; rfl, hx.out⟩
                      | true =>
                        cases e0 with
                        | false =>
                          go_wp2_with fail
                          rw [hpost.out]
                          exact ⟨by rw [hs.out]; rfl, hx.out⟩
                        | true =>
                          go_wp2_with fail
                          rw [hpost.out]
                          exact ⟨by rw [hs.out]; rfl, hx.out⟩
end Go.Proofs.YtpgniljgaknlpaaGreatDoor
