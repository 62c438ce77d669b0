import Derived.Test.YtpgniljgaknlpaaGreatDoorP3
import Derived.Test.YtpgniljgaknlpaaGreatDoorK24
import Derived.Test.YtpgniljgaknlpaaGreatDoorThAll
/-
  The reference printer's 'shape'.
-/
namespace Go.Proofs.YtpgniljgaknlpaaGreatDoor
open Go.RowKit Cdk Tpl

mutual
/-- A bound on a node's printed form, and on its fields. -/
def bN : Nd → Nat
  | .mk _ t n a _ f ks es => 40 + 2 * t.length + n.length + a.length + (f.flatMap (fun x => 124 :: x)).length + bL ks + bL es
def bL : List Nd → Nat
  | [] => 0
  | x :: r => bN x + bL r
end
theorem bL_len : ∀ (l : List Nd), 40 * l.length ≤ bL l
  | [] => by simp [bL]
  | .mk k t n a c f ks es :: r => by
    have := bL_len r
    simp only [List.length_cons, bL, bN]; omega
theorem bL_app : ∀ (a b : List Nd), bL (a ++ b) = bL a + bL b
  | [], b => by simp [bL]
  | x :: r, b => by
    have := bL_app r b
    simp only [List.cons_append, bL]; omega
theorem bL_mem : ∀ {l : List Nd} {x : Nd}, x ∈ l → bN x ≤ bL l
  | y :: r, x, h => by
    simp only [bL]
    rcases List.mem_cons.1 h with rfl | h
    · omega
    · have := bL_mem h; omega
theorem flat_len1 : ∀ (f : List Bs), f.length ≤ (f.flatMap (fun x => 124 :: x)).length
  | [] => by simp
  | x :: r => by
    have := flat_len1 r
    simp only [List.flatMap_cons, List.length_append, List.length_cons]; omega
theorem esc_len2 (u : Bs) : (esc u).length ≤ 2 * u.length := by
  induction u with
  | nil => simp [esc]
  | cons c r ih =>
    rw [show esc (c :: r) = (if c.toNat = 123 then [c, c] else [c]) ++ esc r from rfl, List.length_append, List.length_cons]
    split <;> simp only [List.length_cons, List.length_nil] <;> omega

/-- What is asked of a loop or condition besides. -/
def lp (k : Nat) (b : Bool) : Bool := !(decide (k = 3) || decide (k = 4)) || b
theorem lp3 (b : Bool) : lp 3 b = b := rfl
theorem lp4 (b : Bool) : lp 4 b = b := rfl
theorem lp_no {k : Nat} {b : Bool} (h3 : ¬ k = 3) (h4 : ¬ k = 4) : lp k b = true := by
  unfold lp; rw [decide_eq_false h3, decide_eq_false h4]; rfl

theorem valN_eq (k : Nat) (t n a : Bs) (c : Int) (f : List Bs) (ks es : List Nd) (d : Nat) : valN (.mk k t n a c f ks es) d = (fldB (.mk k t n a c f ks es) && lp k (decide (d < 8) && valL ks (d + 1) false && valL es (d + 1) false)) := by
    have hc : (c == 0) = decide (c = 0) := by rw [Bool.eq_iff_iff, beq_iff_eq, decide_eq_true_eq]
    simp only [valN, fldB, hc]
    by_cases h1 : k = 1
    · subst h1
      rw [if_pos rfl, if_pos rfl, lp_no (by decide) (by decide), Bool.and_true]
      simp only [Bool.and_assoc]
    · rw [if_neg h1, if_neg h1]
      by_cases h2 : k = 2
      · subst h2
        rw [if_pos rfl, if_pos rfl, lp_no (by decide) (by decide), Bool.and_true, Bool.and_comm (f.all nameOk)]
        simp only [Bool.and_assoc]
      · rw [if_neg h2, if_neg h2]
        by_cases h3 : k = 3
        · subst h3
          rw [if_pos rfl, if_pos rfl, lp3]
          generalize nameOk n = b2
          generalize a.all isA = b4
          generalize t.isEmpty = b7
          generalize f.isEmpty = b9
          generalize decide (d < 8) = b12
          generalize decide (0 ≤ c) = b13
          generalize decide (c ≤ 999999) = b14
          generalize valL ks (d + 1) false = b16
          cases es with
          | nil =>
            simp only [valL, List.isEmpty_nil]
            cases b2 <;> cases b4 <;> cases b7 <;> cases b13 <;> cases b14 <;> cases b9 <;> cases b12 <;> cases b16 <;> rfl
          | cons e r =>
            simp only [List.isEmpty_cons]
            generalize valL (e :: r) (d + 1) false = b17
            cases b2 <;> cases b4 <;> cases b7 <;> cases b13 <;> cases b14 <;> cases b9 <;> cases b12 <;> cases b16 <;> rfl
        · rw [if_neg h3, if_neg h3]
          by_cases h4 : k = 4
          · subst h4
            rw [if_pos rfl, if_pos rfl, lp4]
            generalize nameOk n = b2
            generalize a.isEmpty = b6
            generalize t.isEmpty = b7
            generalize decide (c = 0) = b8
            generalize f.isEmpty = b9
            generalize decide (d < 8) = b12
            generalize valL ks (d + 1) false = b16
            generalize valL es (d + 1) false = b17
            cases b2 <;> cases b7 <;> cases b6 <;> cases b8 <;> cases b9 <;> cases b12 <;> cases b16 <;> cases b17 <;> rfl
          · rw [if_neg h4, if_neg h4, lp_no h3 h4, Bool.and_true]
            simp only [Bool.and_assoc]

/-- Is the node before place i a text? -/
def pk (l : List Nd) : Nat → Bool
  | 0 => false
  | j + 1 => match l[j]? with | some x => decide (x.kind = 1) | none => false
theorem pk_at {l : List Nd} {j : Nat} (h : j < l.length) : pk l (j + 1) = decide (l[j].kind = 1) := by
  simp only [pk, List.getElem?_eq_getElem h]
theorem valL_at {l : List Nd} {i d : Nat} {p : Bool} (h : i < l.length) : valL (l.drop i) d p = (!(p && decide (l[i].kind = 1)) && valN l[i] d && valL (l.drop (i + 1)) d (decide (l[i].kind = 1))) := by
  rw [List.drop_eq_getElem_cons h]
  simp only [valL]
theorem shape_false {l : List Nd} {i d : Nat} {V : Bool} (h : i < l.length) (hv : V = valL (l.drop i) d (pk l i)) (hh : (pk l i = true ∧ l[i].kind = 1) ∨ valN l[i] d = false) : V = false := by
  rw [hv, valL_at h]
  rcases hh with ⟨h1, h2⟩ | h1
  · rw [h1, decide_eq_true h2]; rfl
  · rw [h1, Bool.and_false]; rfl
theorem shape_next {l : List Nd} {i d : Nat} {V : Bool} (h : i < l.length) (hv : V = valL (l.drop i) d (pk l i)) (h1 : pk l i = false ∨ l[i].kind ≠ 1) (h2 : valN l[i] d = true) : V = valL (l.drop (i + 1)) d (pk l (i + 1)) := by
  rw [hv, valL_at h, h2, pk_at h]
  have : (pk l i && decide (l[i].kind = 1)) = false := by
    rcases h1 with h1 | h1
    · rw [h1]; rfl
    · rw [decide_eq_false h1, Bool.and_false]
  rw [this]; rfl

/-- 'shape' is right where so many loops may still be opened. -/
def RShapeC (k : Nat) : Prop := ∀ (F : Nat → Prop) (v : Value) (l : List Nd) (d : Nat) (w : World), d + k = 8 → NodesAt F w v l → bL l ≤ 1000000000000 →
  Calls Tryz.prog 30 #[v, .int .i64 d] w fun e w' => e = .returned (.bool (valL l d false)) ∧ Ext w w'


set_option maxRecDepth 100000 in
set_option maxHeartbeats 16000000 in
theorem rshape_step (k : Nat) (ih : ∀ k', k = k' + 1 → RShapeC k') : RShapeC k := by
  intro F v l d w hdk hn hb
  obtain ⟨aa, nn, ca, rfl⟩ := hn.slice
  have hnl := hn.count
  obtain ⟨V, hV⟩ : ∃ V, V = valL l d false := ⟨_, rfl⟩
  rw [← hV]
  obtain ⟨post, hpost⟩ : ∃ post : Ending → World → Prop, post = fun e w' => e = .returned (.bool V) ∧ Ext w w' := ⟨_, rfl⟩
  rw [← hpost]
  have hlen := bL_len l
  have hnb : nn ≤ 1000000000000 := by omega
  replace hlen := hid hlen
  replace hpost := hid hpost
  replace hV := hid hV
  replace hn := hid hn
  replace hnl := hid hnl
  replace hb := hid hb
  replace ih := hid ih
  have hdw : IntKind.i64.wrap ((d : Int) + 1) = (d : Int) + 1 := IntWalk.i64_in _ (by omega)
  go_enter Tryz.func30, Tryz.ntmps30
  go_wp2_with fail
  go_loopg [5] nn (fun g iv wr => ∃ i : Nat, i + g = nn ∧ iv = .int .i64 i ∧ Ext w wr ∧ Hid (V = valL (l.drop i) d (pk l i)))
  case atStart => exact ⟨0, by omega, rfl, Mod.refl _ _, hid hV.out⟩
  case round =>
    obtain ⟨i, hig, rfl, hx, hv⟩ := hrel
    by_cases hlt : i < nn
    rotate_left
    · obtain rfl : gk = 0 := by omega
      obtain rfl : i = nn := by omega
      have d1 : decide ((i : Int) < (i : Int)) = false := decide_eq_false (by omega)
      have d2 : ¬ (i : Int) < (i : Int) := by omega
      have hVt : V = true := by rw [hv.out, List.drop_eq_nil_of_le (by have := hnl.out; omega)]; rfl
      replace hVt := hid hVt
      replace hx := hid hx
      go_wp2_with fail
      rw [hpost.out]
      exact ⟨by rw [hVt.out]; first | done | rfl, hx.out⟩
    · obtain ⟨c, rfl⟩ : ∃ c, gk = c + 1 := ⟨gk - 1, by omega⟩
      have d1 : decide ((i : Int) < (nn : Int)) = true := decide_eq_true (by omega)
      have d2 : (i : Int) < (nn : Int) := by omega
      have d3 : (0 : Int) ≤ (i : Int) := by omega
      have hil : i < l.length := by have := hnl.out; omega
      have hnr := hn.out.mod hx (fun _ _ h => h)
      obtain ⟨b, off, kd, tx, nm, ar, ct, a1, m1, x1, a2, m2, x2, a3, m3, x3, fl, ks, es, hao, -, hxi, hfl, hks, hes, g0, g1, g2, g3, g4, g5, g6, g7⟩ := hnr.node hil
      subst hao
      have hbi := bL_mem (List.getElem_mem hil)
      rw [hxi] at hbi
      simp only [bN] at hbi
      have hfn := flat_len1 fl
      have hb' := hb.out
      have hFl := hid (rfields_any (F := F) ⟨kd, tx, nm, ar, ct, .slice a1 m1 x1, .slice a2 m2 x2, .slice a3 m3 x3⟩ (.mk kd tx nm ar ct fl ks es) wr (.mk ⟨kd, tx, nm, ar, ct, .slice a1 m1 x1, .slice a2 m2 x2, .slice a3 m3 x3⟩ fl ks es hfl hks hes) ⟨by simp only [Nd.filters]; omega, by simp only [Nd.text]; omega, by simp only [Nd.arg]; omega⟩)
      unfold ncV ncC strV at hFl
      have hbk : bL ks ≤ 1000000000000 := by omega
      have hbe : bL es ≤ 1000000000000 := by omega
      clear hbi hfn hb'
      have hvN : valN l[i] d = (fldB (.mk kd tx nm ar ct fl ks es) && lp kd (decide (d < 8) && valL ks (d + 1) false && valL es (d + 1) false)) := by
        rw [hxi]; exact valN_eq _ _ _ _ _ _ _ _ d
      have hki : l[i].kind = kd := by rw [hxi]; rfl
      replace hvN := hid hvN
      replace hki := hid hki
      replace hxi := hid hxi
      replace hfl := hid hfl
      replace hks := hid hks
      replace hes := hid hes
      replace hnr := hid hnr
      replace hbk := hid hbk
      replace hbe := hid hbe
      replace hx := hid hx
      go_wp2_with fail
      refine hFl.out.mono ?_
      rintro e wa ⟨rfl, hxa⟩
      have g0 := hxa.cell g0 (fun h => h)
      have g6 := hxa.cell g6 (fun h => h)
      have g7 := hxa.cell g7 (fun h => h)
      have hks := hid (hks.out.mod hxa (fun _ _ h => h))
      have hes := hid (hes.out.mod hxa (fun _ _ h => h))
      have hnr := hid (hnr.out.mod hxa (fun _ _ h => h))
      have hx := hid (hx.out.trans hxa)
      clear hFl hxa g1 g2 g3 g4 g5 hfl
      cases hF : fldB (.mk kd tx nm ar ct fl ks es) with
      | false =>
        have hVf : V = false := shape_false hil hv.out (.inr (by rw [hvN.out, hF]; rfl))
        replace hVf := hid hVf
        replace hF := hid hF
        go_wp2_with fail
        rw [hpost.out]
        exact ⟨by rw [hVf.out]; first | done | rfl, hx.out⟩
      | true =>
        have hvN2 := hvN.out
        rw [hF, Bool.true_and] at hvN2
        replace hvN := hid hvN2
        clear hvN2
        replace hF := hid hF
        by_cases hi0 : 0 < i
        rotate_left
        · have p1 : decide ((0 : Int) < (i : Int)) = false := decide_eq_false (by omega)
          have p2 : ¬ (0 : Int) < (i : Int) := by omega
          have hpk : Hid (pk l i = false ∨ l[i].kind ≠ 1) := hid (.inl (by
            have : i = 0 := by omega
            subst this; rfl))
          by_cases h3 : kd = 3
          · skip
            subst h3
            by_cases h8 : d < 8
            rotate_left
            · have e1 : decide ((d : Int) < 8) = false := decide_eq_false (by omega)
              have e2 : ¬ (d : Int) < 8 := by omega
              have hVf : V = false := shape_false hil hv.out (.inr (by rw [hvN.out]; rw [lp3, decide_eq_false h8]; rfl))
              replace hVf := hid hVf
              go_wp2_with fail
              rw [hpost.out]
              exact ⟨by rw [hVf.out]; first | done | rfl, hx.out⟩
            · have e1 : decide ((d : Int) < 8) = true := decide_eq_true (by omega)
              have e2 : (d : Int) < 8 := by omega
              obtain ⟨k', hk'⟩ : ∃ k', k = k' + 1 := ⟨k - 1, by omega⟩
              have hC := hid (ih.out k' hk' F _ ks (d + 1) wa (by omega) hks.out hbk.out)
              have hC2 := hid (fun w (h : NodesAt F w (.slice a3 m3 x3) es) => ih.out k' hk' F _ es (d + 1) w (by omega) h hbe.out)
              rw [show ((d + 1 : Nat) : Int) = (d : Int) + 1 by omega] at hC
              rw [show ((d + 1 : Nat) : Int) = (d : Int) + 1 by omega] at hC2
              replace hk' := hid hk'
              go_wp2_with fail
              refine hC.out.mono ?_
              rintro e wb ⟨rfl, hxb⟩
              have g7 := hxb.cell g7 (fun h => h)
              have hes := hid (hes.out.mod hxb (fun _ _ h => h))
              have hx := hid (hx.out.trans hxb)
              clear hC hxb
              cases hvk : valL ks (d + 1) false with
              | false =>
                replace hvk := hid hvk
                have hVf : V = false := shape_false hil hv.out (.inr (by rw [hvN.out]; rw [lp3, hvk.out, Bool.and_false]; rfl))
                replace hVf := hid hVf
                go_wp2_with fail
                rw [hpost.out]
                exact ⟨by rw [hVf.out]; first | done | rfl, hx.out⟩
              | true =>
                replace hvk := hid hvk
                go_wp2_with fail
                refine (hC2.out wb hes.out).mono ?_
                rintro e wc ⟨rfl, hxc⟩
                have hx := hid (hx.out.trans hxc)
                clear hC2 hxc
                cases hve : valL es (d + 1) false with
                | false =>
                  replace hve := hid hve
                  have hVf : V = false := shape_false hil hv.out (.inr (by rw [hvN.out]; rw [lp3, hve.out, Bool.and_false]))
                  replace hVf := hid hVf
                  go_wp2_with fail
                  rw [hpost.out]
                  exact ⟨by rw [hVf.out]; first | done | rfl, hx.out⟩
                | true =>
                  replace hve := hid hve
                  have hvt : valN l[i] d = true := by rw [hvN.out]; rw [lp3, hvk.out, hve.out, decide_eq_true h8]; rfl
                  have hnx := hid (shape_next hil hv.out hpk.out hvt)
                  clear hvt
                  go_wp2_with fail
                  go_roundg c
                  case measure => omega
                  case rel => exact ⟨i + 1, by omega, by go_num, hx.out, hnx⟩
          · have q3 : ((kd : Int) == 3) = false := by rw [beq_eq_false_iff_ne]; omega
            by_cases h4 : kd = 4
            · skip
              subst h4
              by_cases h8 : d < 8
              rotate_left
              · have e1 : decide ((d : Int) < 8) = false := decide_eq_false (by omega)
                have e2 : ¬ (d : Int) < 8 := by omega
                have hVf : V = false := shape_false hil hv.out (.inr (by rw [hvN.out]; rw [lp4, decide_eq_false h8]; rfl))
                replace hVf := hid hVf
                go_wp2_with fail
                rw [hpost.out]
                exact ⟨by rw [hVf.out]; first | done | rfl, hx.out⟩
              · have e1 : decide ((d : Int) < 8) = true := decide_eq_true (by omega)
                have e2 : (d : Int) < 8 := by omega
                obtain ⟨k', hk'⟩ : ∃ k', k = k' + 1 := ⟨k - 1, by omega⟩
                have hC := hid (ih.out k' hk' F _ ks (d + 1) wa (by omega) hks.out hbk.out)
                have hC2 := hid (fun w (h : NodesAt F w (.slice a3 m3 x3) es) => ih.out k' hk' F _ es (d + 1) w (by omega) h hbe.out)
                rw [show ((d + 1 : Nat) : Int) = (d : Int) + 1 by omega] at hC
                rw [show ((d + 1 : Nat) : Int) = (d : Int) + 1 by omega] at hC2
                replace hk' := hid hk'
                go_wp2_with fail
                refine hC.out.mono ?_
                rintro e wb ⟨rfl, hxb⟩
                have g7 := hxb.cell g7 (fun h => h)
                have hes := hid (hes.out.mod hxb (fun _ _ h => h))
                have hx := hid (hx.out.trans hxb)
                clear hC hxb
                cases hvk : valL ks (d + 1) false with
                | false =>
                  replace hvk := hid hvk
                  have hVf : V = false := shape_false hil hv.out (.inr (by rw [hvN.out]; rw [lp4, hvk.out, Bool.and_false]; rfl))
                  replace hVf := hid hVf
                  go_wp2_with fail
                  rw [hpost.out]
                  exact ⟨by rw [hVf.out]; first | done | rfl, hx.out⟩
                | true =>
                  replace hvk := hid hvk
                  go_wp2_with fail
                  refine (hC2.out wb hes.out).mono ?_
                  rintro e wc ⟨rfl, hxc⟩
                  have hx := hid (hx.out.trans hxc)
                  clear hC2 hxc
                  cases hve : valL es (d + 1) false with
                  | false =>
                    replace hve := hid hve
                    have hVf : V = false := shape_false hil hv.out (.inr (by rw [hvN.out]; rw [lp4, hve.out, Bool.and_false]))
                    replace hVf := hid hVf
                    go_wp2_with fail
                    rw [hpost.out]
                    exact ⟨by rw [hVf.out]; first | done | rfl, hx.out⟩
                  | true =>
                    replace hve := hid hve
                    have hvt : valN l[i] d = true := by rw [hvN.out]; rw [lp4, hvk.out, hve.out, decide_eq_true h8]; rfl
                    have hnx := hid (shape_next hil hv.out hpk.out hvt)
                    clear hvt
                    go_wp2_with fail
                    go_roundg c
                    case measure => omega
                    case rel => exact ⟨i + 1, by omega, by go_num, hx.out, hnx⟩
            · have q4 : ((kd : Int) == 4) = false := by rw [beq_eq_false_iff_ne]; omega
              have hvt : valN l[i] d = true := by rw [hvN.out]; exact lp_no h3 h4
              have hnx := hid (shape_next hil hv.out hpk.out hvt)
              clear hvt
              go_wp2_with fail
              go_roundg c
              case measure => omega
              case rel => exact ⟨i + 1, by omega, by go_num, hx.out, hnx⟩
        · have p1 : decide ((0 : Int) < (i : Int)) = true := decide_eq_true (by omega)
          have p2 : (0 : Int) < (i : Int) := by omega
          by_cases hk1 : kd = 1
          rotate_left
          · have q1 : ((kd : Int) == 1) = false := by rw [beq_eq_false_iff_ne]; omega
            have hpk : Hid (pk l i = false ∨ l[i].kind ≠ 1) := hid (.inr (by rw [hki.out]; exact hk1))
            by_cases h3 : kd = 3
            · skip
              subst h3
              by_cases h8 : d < 8
              rotate_left
              · have e1 : decide ((d : Int) < 8) = false := decide_eq_false (by omega)
                have e2 : ¬ (d : Int) < 8 := by omega
                have hVf : V = false := shape_false hil hv.out (.inr (by rw [hvN.out]; rw [lp3, decide_eq_false h8]; rfl))
                replace hVf := hid hVf
                go_wp2_with fail
                rw [hpost.out]
                exact ⟨by rw [hVf.out]; first | done | rfl, hx.out⟩
              · have e1 : decide ((d : Int) < 8) = true := decide_eq_true (by omega)
                have e2 : (d : Int) < 8 := by omega
                obtain ⟨k', hk'⟩ : ∃ k', k = k' + 1 := ⟨k - 1, by omega⟩
                have hC := hid (ih.out k' hk' F _ ks (d + 1) wa (by omega) hks.out hbk.out)
                have hC2 := hid (fun w (h : NodesAt F w (.slice a3 m3 x3) es) => ih.out k' hk' F _ es (d + 1) w (by omega) h hbe.out)
                rw [show ((d + 1 : Nat) : Int) = (d : Int) + 1 by omega] at hC
                rw [show ((d + 1 : Nat) : Int) = (d : Int) + 1 by omega] at hC2
                replace hk' := hid hk'
                go_wp2_with fail
                refine hC.out.mono ?_
                rintro e wb ⟨rfl, hxb⟩
                have g7 := hxb.cell g7 (fun h => h)
                have hes := hid (hes.out.mod hxb (fun _ _ h => h))
                have hx := hid (hx.out.trans hxb)
                clear hC hxb
                cases hvk : valL ks (d + 1) false with
                | false =>
                  replace hvk := hid hvk
                  have hVf : V = false := shape_false hil hv.out (.inr (by rw [hvN.out]; rw [lp3, hvk.out, Bool.and_false]; rfl))
                  replace hVf := hid hVf
                  go_wp2_with fail
                  rw [hpost.out]
                  exact ⟨by rw [hVf.out]; first | done | rfl, hx.out⟩
                | true =>
                  replace hvk := hid hvk
                  go_wp2_with fail
                  refine (hC2.out wb hes.out).mono ?_
                  rintro e wc ⟨rfl, hxc⟩
                  have hx := hid (hx.out.trans hxc)
                  clear hC2 hxc
                  cases hve : valL es (d + 1) false with
                  | false =>
                    replace hve := hid hve
                    have hVf : V = false := shape_false hil hv.out (.inr (by rw [hvN.out]; rw [lp3, hve.out, Bool.and_false]))
                    replace hVf := hid hVf
                    go_wp2_with fail
                    rw [hpost.out]
                    exact ⟨by rw [hVf.out]; first | done | rfl, hx.out⟩
                  | true =>
                    replace hve := hid hve
                    have hvt : valN l[i] d = true := by rw [hvN.out]; rw [lp3, hvk.out, hve.out, decide_eq_true h8]; rfl
                    have hnx := hid (shape_next hil hv.out hpk.out hvt)
                    clear hvt
                    go_wp2_with fail
                    go_roundg c
                    case measure => omega
                    case rel => exact ⟨i + 1, by omega, by go_num, hx.out, hnx⟩
            · have q3 : ((kd : Int) == 3) = false := by rw [beq_eq_false_iff_ne]; omega
              by_cases h4 : kd = 4
              · skip
                subst h4
                by_cases h8 : d < 8
                rotate_left
                · have e1 : decide ((d : Int) < 8) = false := decide_eq_false (by omega)
                  have e2 : ¬ (d : Int) < 8 := by omega
                  have hVf : V = false := shape_false hil hv.out (.inr (by rw [hvN.out]; rw [lp4, decide_eq_false h8]; rfl))
                  replace hVf := hid hVf
                  go_wp2_with fail
                  rw [hpost.out]
                  exact ⟨by rw [hVf.out]; first | done | rfl, hx.out⟩
                · have e1 : decide ((d : Int) < 8) = true := decide_eq_true (by omega)
                  have e2 : (d : Int) < 8 := by omega
                  obtain ⟨k', hk'⟩ : ∃ k', k = k' + 1 := ⟨k - 1, by omega⟩
                  have hC := hid (ih.out k' hk' F _ ks (d + 1) wa (by omega) hks.out hbk.out)
                  have hC2 := hid (fun w (h : NodesAt F w (.slice a3 m3 x3) es) => ih.out k' hk' F _ es (d + 1) w (by omega) h hbe.out)
                  rw [show ((d + 1 : Nat) : Int) = (d : Int) + 1 by omega] at hC
                  rw [show ((d + 1 : Nat) : Int) = (d : Int) + 1 by omega] at hC2
                  replace hk' := hid hk'
                  go_wp2_with fail
                  refine hC.out.mono ?_
                  rintro e wb ⟨rfl, hxb⟩
                  have g7 := hxb.cell g7 (fun h => h)
                  have hes := hid (hes.out.mod hxb (fun _ _ h => h))
                  have hx := hid (hx.out.trans hxb)
                  clear hC hxb
                  cases hvk : valL ks (d + 1) false with
                  | false =>
                    replace hvk := hid hvk
                    have hVf : V = false := shape_false hil hv.out (.inr (by rw [hvN.out]; rw [lp4, hvk.out, Bool.and_false]; rfl))
                    replace hVf := hid hVf
                    go_wp2_with fail
                    rw [hpost.out]
                    exact ⟨by rw [hVf.out]; first | done | rfl, hx.out⟩
                  | true =>
                    replace hvk := hid hvk
                    go_wp2_with fail
                    refine (hC2.out wb hes.out).mono ?_
                    rintro e wc ⟨rfl, hxc⟩
                    have hx := hid (hx.out.trans hxc)
                    clear hC2 hxc
                    cases hve : valL es (d + 1) false with
                    | false =>
                      replace hve := hid hve
                      have hVf : V = false := shape_false hil hv.out (.inr (by rw [hvN.out]; rw [lp4, hve.out, Bool.and_false]))
                      replace hVf := hid hVf
                      go_wp2_with fail
                      rw [hpost.out]
                      exact ⟨by rw [hVf.out]; first | done | rfl, hx.out⟩
                    | true =>
                      replace hve := hid hve
                      have hvt : valN l[i] d = true := by rw [hvN.out]; rw [lp4, hvk.out, hve.out, decide_eq_true h8]; rfl
                      have hnx := hid (shape_next hil hv.out hpk.out hvt)
                      clear hvt
                      go_wp2_with fail
                      go_roundg c
                      case measure => omega
                      case rel => exact ⟨i + 1, by omega, by go_num, hx.out, hnx⟩
              · have q4 : ((kd : Int) == 4) = false := by rw [beq_eq_false_iff_ne]; omega
                have hvt : valN l[i] d = true := by rw [hvN.out]; exact lp_no h3 h4
                have hnx := hid (shape_next hil hv.out hpk.out hvt)
                clear hvt
                go_wp2_with fail
                go_roundg c
                case measure => omega
                case rel => exact ⟨i + 1, by omega, by go_num, hx.out, hnx⟩
          · subst hk1
            have hi1l : i - 1 < l.length := by omega
            obtain ⟨b', off', kd', tx', nm', ar', ct', a1', m1', x1', a2', m2', x2', a3', m3', x3', fl', ks', es', hao', -, hxi', -, -, -, k0, -⟩ := hnr.out.node hi1l
            injection hao' with hao'
            injection hao' with e1 e2
            subst e1; subst e2
            have hpi : Hid (pk l i = decide (kd' = 1)) := hid (by
              obtain ⟨j, rfl⟩ : ∃ j, i = j + 1 := ⟨i - 1, by omega⟩
              rw [pk_at (by omega)]
              have : l[j].kind = kd' := by
                have h9 := hxi'
                simp only [Nat.add_sub_cancel] at h9
                rw [h9]; rfl
              rw [this])
            have w1 : IntKind.i64.wrap ((i : Int) - 1) = (i : Int) - 1 := IntWalk.i64_in _ (by omega)
            have w2 : (0 : Int) ≤ (i : Int) - 1 := by omega
            have w3 : (i : Int) - 1 < (nn : Int) := by omega
            have w4 : ((i : Int) - 1).toNat = i - 1 := by omega
            have w5 : (1 : Int) ≤ (i : Int) := by omega
            replace hxi' := hid hxi'
            by_cases hk9 : kd' = 1
            · have q9 : ((kd' : Int) == 1) = true := by rw [beq_iff_eq]; omega
              have hVf : V = false := shape_false hil hv.out (.inl ⟨by rw [hpi.out, decide_eq_true hk9], hki.out⟩)
              replace hVf := hid hVf
              replace hk9 := hid hk9
              go_wp2_with fail
              rw [hpost.out]
              exact ⟨by rw [hVf.out]; first | done | rfl, hx.out⟩
            · have q9 : ((kd' : Int) == 1) = false := by rw [beq_eq_false_iff_ne]; omega
              have hpk : Hid (pk l i = false ∨ l[i].kind ≠ 1) := hid (.inl (by rw [hpi.out, decide_eq_false hk9]))
              replace hk9 := hid hk9
              have hvt : valN l[i] d = true := by rw [hvN.out]; exact lp_no (by decide) (by decide)
              have hnx := hid (shape_next hil hv.out hpk.out hvt)
              clear hvt
              go_wp2_with fail
              go_roundg c
              case measure => omega
              case rel => exact ⟨i + 1, by omega, by go_num, hx.out, hnx⟩
theorem rshape_any : ∀ k : Nat, RShapeC k
  | 0 => rshape_step 0 (fun k' h => by omega)
  | k + 1 => rshape_step (k + 1) (fun k' h => by
    have : k' = k := by omega
    subst this
    exact rshape_any k')
end Go.Proofs.YtpgniljgaknlpaaGreatDoor
