import Derived.Test.YtpgniljgaknlpaaGreatDoorK20
/-
  The printer's 'list'.
-/
namespace Go.Proofs.YtpgniljgaknlpaaGreatDoor
open Go.RowKit Cdk Tpl

/-- Is the node before place j a text? -/
def pvB (l : List Nd) : Nat → Bool
  | 0 => false
  | j + 1 => match l[j]? with | some x => decide (x.kind = 1) | none => false

theorem len0 {α : Type} (l : List α) : decide (l.length = 0) = l.isEmpty := by cases l <;> simp

theorem valL_drop {l : List Nd} {j d : Nat} {p : Bool} (hj : j < l.length) : valL (l.drop j) d p = (!(p && decide (l[j].kind = 1)) && valN l[j] d && valL (l.drop (j + 1)) d (decide (l[j].kind = 1))) := by
  rw [List.drop_eq_getElem_cons hj, valL]
theorem pvB_succ {l : List Nd} {j : Nat} (hj : j < l.length) : pvB l (j + 1) = decide (l[j].kind = 1) := by
  simp only [pvB, List.getElem?_eq_getElem hj]
theorem formL_app : ∀ (a b : List Nd), formL (a ++ b) = formL a ++ formL b
  | [], b => by simp [formL]
  | x :: a, b => by simp only [List.cons_append, formL, formL_app a b, List.append_assoc]
theorem formL_take {l : List Nd} {j : Nat} (hj : j < l.length) : formL (l.take (j + 1)) = formL (l.take j) ++ formN l[j] := by
  rw [List.take_succ_eq_append_getElem hj, formL_app]; simp [formL]
theorem formL_split {l : List Nd} {j : Nat} (hj : j < l.length) : formL l = formL (l.take j) ++ (formN l[j] ++ formL (l.drop (j + 1))) := by
  conv => lhs; rw [← List.take_append_drop (j + 1) l, formL_app, formL_take hj, List.append_assoc]
theorem bdL_get : ∀ {l : List Nd} {j : Nat} (hj : j < l.length), bdL l → bdN l[j]
  | x :: l, 0, _, h => h.1
  | x :: l, j + 1, hj, h => bdL_get (l := l) (j := j) (by simpa using hj) h.2
theorem RowsAt.get {F : Nat → Prop} {w : World} : ∀ {rows : List NC} {l : List Nd} {j : Nat} (hj : j < l.length), RowsAt F w rows l → ∃ hr : j < rows.length, NodeAt F w rows[j] l[j]
  | _, [], j, hj, _ => by simp at hj
  | [], _ :: _, _, _, h => by cases h
  | c :: rows, n :: l, 0, hj, h => by cases h with | cons _ _ _ _ h1 h2 => exact ⟨by simp, h1⟩
  | c :: rows, n :: l, j + 1, hj, h => by
    cases h with
    | cons _ _ _ _ h1 h2 =>
      obtain ⟨hr, h⟩ := RowsAt.get (j := j) (by simpa using hj) h2
      exact ⟨by simpa using hr, h⟩

set_option maxRecDepth 100000 in
set_option maxHeartbeats 16000000 in
theorem plist_step (k : Nat) (ih : ∀ k', k' + 1 = k → PListC k') : PListC k := by
  intro base P tx v l depth w hd h hn hl hbd
  cases hn with
  | mk ao cap rows l hrow hb hrows =>
  obtain ⟨V, hV⟩ : ∃ V, V = valL l depth false := ⟨_, rfl⟩
  obtain ⟨tx', htx'⟩ : ∃ tx', tx' = tx ++ formL l := ⟨_, rfl⟩
  rw [← hV, ← htx']
  obtain ⟨post, hpost⟩ : ∃ post, post = PrP base P w (V && decide (tx'.length ≤ 1000)) tx' := ⟨_, rfl⟩
  rw [← hpost]
  replace hpost := hid hpost
  replace hV := hid hV
  replace htx' := hid htx'
  have hPw := blk_lt h
  have hPs : P < w.heap.size := by obtain ⟨v0, hP0, -⟩ := h.cell; exact lt_of_at hP0
  have hlow := h.low
  have hlen := hrows.len
  obtain ⟨n, hnn⟩ : ∃ n, n = rows.length := ⟨_, rfl⟩
  rw [← hnn] at hlen ⊢
  have hn6 : n ≤ 1000000000 := by omega
  have hd8 : depth ≤ 8 := by omega
  replace hd := hid hd
  replace hnn := hid hnn
  replace hlen := hid hlen
  replace h := hid h
  replace ih := hid ih
  replace hrow := hid hrow
  replace hb := hid hb
  replace hrows := hid hrows
  replace hbd := hid hbd
  clear hl
  have fail : ∀ (e : Ending) (w' : World), V = false → e = .panicked [invE] → Mod (fun k => base ≤ k) w w' → post e w' := fun e w' hv he hm => by
    rw [hpost.out]; exact .inr ⟨by rw [hv, Bool.false_and], he, hm⟩
  have fail2 : ∀ (e : Ending) (w' : World), 1000 < tx'.length → e = .panicked [invE] → Mod (fun k => base ≤ k) w w' → post e w' := fun e w' hv he hm => by
    rw [hpost.out]; exact .inr ⟨by rw [decide_eq_false (by omega), Bool.and_false], he, hm⟩
  replace fail := hid fail
  replace fail2 := hid fail2
  go_enter Tryz.func29, Tryz.ntmps29
  go_wp2_with fail
  go_loopg [10] n (fun g i wr => ∃ j : Nat, j + g = n ∧ i = .int .i64 j ∧ Pr base P (tx ++ formL (l.take j)) wr ∧ Kp base P w wr ∧ Hid (V = valL (l.drop j) depth (pvB l j)))
  case atStart => exact ⟨0, by omega, rfl, by simpa [formL] using h.out, Kp.ofExt _ _ (Mod.refl _ _), hV⟩
  case round =>
    clear hV
    obtain ⟨j, hj, rfl, hp, hm, hV⟩ := hrel
    replace hj := hid hj
    have hjn : j ≤ n := by have := hj.out; omega
    replace hp := hid hp
    replace hm := hid hm
    by_cases hlt : j < n
    · have hdl : decide ((j : Int) < (n : Int)) = true := decide_eq_true (by omega)
      have hdi : (j : Int) < (n : Int) := by omega
      have hjl : j < l.length := by have := hlen.out; omega
      have hNB := bdL_get hjl hbd.out
      obtain ⟨hjr, hND⟩ := RowsAt.get hjl hrows.out
      have hVs := hid (hV.out.trans (valL_drop hjl))
      have htxs : Hid (tx' = (tx ++ formL (l.take j)) ++ (formN l[j] ++ formL (l.drop (j + 1)))) := hid (by rw [htx'.out, formL_split hjl, List.append_assoc])
      have hts := hid (formL_take hjl)
      have hpvs := hid (pvB_succ hjl)
      have hrw := hid (row_old hrow.out hrow.out hm.out.1 hb.out)
      have hgs := flat_get ncC 8 ncC_len rows j
      have hrj : rows[j]? = some rows[j] := List.getElem?_eq_getElem hjr
      have hgs8 := fun t ht => hgs t rows[j] hrj ht
      clear hgs hrj
      generalize rows[j] = c at hND hgs8
      generalize hndd : l[j] = nd at hND hVs hts hpvs htxs hNB
      replace hndd := hid hndd
      obtain ⟨b, off, hao, hc⟩ := hrw.out.at (by rw [flat_length _ 8 ncC_len]; omega)
      have hprev : ∀ j', j = j' + 1 → ∃ kp : Nat, pvB l j = decide (kp = 1) ∧ wr.cell? ⟨b, off + j' * 8, none⟩ = some (.int .i64 kp) := fun j' e => by
        subst e
        obtain ⟨hr', hN'⟩ := RowsAt.get (show j' < l.length by omega) hrows.out
        have g := hc _ _ ((flat_get ncC 8 ncC_len rows j' 0 rows[j'] (List.getElem?_eq_getElem hr') (by omega)).trans rfl)
        refine ⟨rows[j'].kd, ?_, by simpa using g⟩
        rw [pvB_succ (show j' < l.length by omega)]
        generalize rows[j'] = c' at hN'
        generalize l[j'] = n' at hN'
        cases hN'
        rfl
      replace hprev := hid hprev
      cases hND with
      | mk c fl ks es hfl hks hes =>
      obtain ⟨kd, tx1, nm, ar, ct, vf, vk, ve⟩ := c
      obtain ⟨hb1, ⟨hb2, hb3⟩, ⟨hb4, hb5⟩⟩ := hNB
      obtain ⟨a1, x1, rfl, hfr, hfb, -⟩ := hfl
      obtain ⟨a2, m2, x2, hvk⟩ := hks.slice
      obtain ⟨a3, m3, x3, hve⟩ := hes.slice
      simp only at hvk hve hks hes
      subst hvk
      subst hve
      have hm2 : Hid (m2 = ks.length) := hid (by cases hks with | mk _ _ _ _ _ _ h => exact h.len)
      have hm3 : Hid (m3 = es.length) := hid (by cases hes with | mk _ _ _ _ _ _ h => exact h.len)
      subst hao
      have g0 := hc _ _ ((hgs8 0 (by omega)).trans rfl)
      have g1 := hc _ _ ((hgs8 1 (by omega)).trans rfl)
      have g2 := hc _ _ ((hgs8 2 (by omega)).trans rfl)
      have g3 := hc _ _ ((hgs8 3 (by omega)).trans rfl)
      have g4 := hc _ _ ((hgs8 4 (by omega)).trans rfl)
      have g5 := hc _ _ ((hgs8 5 (by omega)).trans rfl)
      have g6 := hc _ _ ((hgs8 6 (by omega)).trans rfl)
      have g7 := hc _ _ ((hgs8 7 (by omega)).trans rfl)
      simp only [← Nat.add_assoc, Nat.add_zero, strV] at g0 g1 g2 g3 g4 g5 g6 g7
      clear hc hgs8
      obtain ⟨fln, hfln⟩ : ∃ fln, fln = fl.length := ⟨_, rfl⟩
      rw [← hfln] at g5
      replace hfln := hid hfln
      replace hfr := hid hfr
      replace hfb := hid hfb
      replace hks := hid hks
      replace hes := hid hes
      replace hb1 := hid hb1
      replace hb2 := hid hb2
      replace hb3 := hid hb3
      replace hb4 := hid hb4
      replace hb5 := hid hb5
      have qk : ∀ i : Nat, ((kd : Int) == (i : Int)) = decide (kd = i) := fun i => by rw [Bool.eq_iff_iff, beq_iff_eq, decide_eq_true_eq]; omega
      have q1 := qk 1
      have q2 := qk 2
      have q3 := qk 3
      have q4 := qk 4
      have q5 := qk 5
      clear qk
      obtain ⟨t0, ht0⟩ : ∃ t0, t0 = tx ++ formL (l.take j) := ⟨_, rfl⟩
      rw [← ht0] at hp htxs
      have hnew : Hid (tx ++ formL (l.take (j + 1)) = t0 ++ formN (.mk kd tx1 nm ar ct fl ks es)) := hid (by rw [hts.out, ← List.append_assoc, ← ht0])
      replace ht0 := hid ht0
      clear hts
      have hxB := Mod.alloc (Mod.refl (fun _ => False) wr) (.cells #[.int .i64 kd, .string ⟨tx1.toArray⟩, .string ⟨nm.toArray⟩, .string ⟨ar.toArray⟩, .int .i64 ct, .slice a1 fln x1, .slice a2 m2 x2, .slice a3 m3 x3] 36)
      have hpB := hid (hp.out.ext hxB)
      have hmB := hid (hm.out.ext hxB)
      have hBQ := hid (heap_alloc_new wr (.cells #[.int .i64 kd, .string ⟨tx1.toArray⟩, .string ⟨nm.toArray⟩, .string ⟨ar.toArray⟩, .int .i64 ct, .slice a1 fln x1, .slice a2 m2 x2, .slice a3 m3 x3] 36))
      have hKB := hid (hks.out.mod hmB.out.1 (fun j hj e => by omega))
      have hEB := hid (hes.out.mod hmB.out.1 (fun j hj e => by omega))
      have hFB := hid (hfr.out.mod hmB.out.1 (fun b off e e' => by have := hfb.out b off e; omega))
      replace hxB := hid hxB
      cases e1 : decide (kd = 1) with
      | true =>
        rw [e1] at q1
        rw [decide_eq_true_eq] at e1
        clear q2 q3 q4 q5
        replace e1 := hid e1
        by_cases hj0 : j = 0
        · have qj : ((j : Int) == 0) = true := by rw [beq_iff_eq]; omega
          have hpv : Hid (pvB l j = false) := hid (by rw [hj0]; rfl)
          replace hj0 := hid hj0
          clear hprev
          have hBe : Hid (valN (.mk kd tx1 nm ar ct fl ks es) depth = (txOk tx1 && (nm.isEmpty && ar.isEmpty && decide (ct = 0) && decide (fln = 0) && decide (m2 = 0) && decide (m3 = 0)))) := hid (by
            simp only [valN, e1.out, if_true, hfln.out, hm2.out, hm3.out, len0])
          have hFe : Hid (formN (.mk kd tx1 nm ar ct fl ks es) = esc tx1) := hid (by simp only [formN, e1.out, if_true])
          have hL := hid (plit_any base P t0 kd ⟨tx1.toArray⟩ ⟨nm.toArray⟩ ⟨ar.toArray⟩ ct a1 a2 a3 fln m2 m3 x1 x2 x3 _ hpB.out)
          rw [show (⟨tx1.toArray⟩ : ByteArray).data.toList = tx1 from rfl, show (⟨nm.toArray⟩ : ByteArray).data.toList = nm from rfl, show (⟨ar.toArray⟩ : ByteArray).data.toList = ar from rfl] at hL
          go_wp2_with fail
          refine (require_true _).mono ?_; rintro e w' ⟨rfl, rfl⟩
          go_wp2_with fail

          refine hL.out.mono ?_
          clear hL
          rintro e w7 (⟨hok7, rfl, hp7, hm7⟩ | ⟨hok7, rfl, hm7⟩)
          · rw [Bool.and_eq_true] at hok7
            replace hok7 := hid hok7
            replace hp7 := hid hp7
            replace hm7 := hid hm7
            go_wp2_with fail
            go_roundg (gk - 1)
            case measure => have := hj.out; omega
            case rel =>
              refine ⟨j + 1, by have := hj.out; omega, by go_num, ?_, hmB.out.trans hm7.out, hid ?_⟩
              · rw [hnew.out, hFe.out]; exact hp7.out
              · rw [hVs.out, hpvs.out, hBe.out, hok7.out.1]; simp [Nd.kind, hpv.out]
          · replace hok7 := hid hok7
            replace hm7 := hid hm7
            go_wp2_with fail
            refine ⟨rfl, ?_⟩
            have h9 := hok7.out
            rw [Bool.and_eq_false_iff] at h9
            rcases h9 with h9 | h9
            · exact fail.out _ _ (by rw [hVs.out, hBe.out, h9]; simp) rfl (hmB.out.1.trans hm7.out)
            · refine fail2.out _ _ ?_ rfl (hmB.out.1.trans hm7.out)
              rw [htxs.out, hFe.out]
              rw [decide_eq_false_iff_not] at h9
              simp only [List.length_append] at h9 ⊢
              omega
        · have qj : ((j : Int) == 0) = false := by rw [beq_eq_false_iff_ne]; omega
          obtain ⟨kp, hkp, gp⟩ := hprev.out (j - 1) (by omega)
          replace hj0 := hid hj0
          clear hprev
          have hj1 : (0 : Int) ≤ (j : Int) - 1 := by have := hj0.out; omega
          have hj2 : (j : Int) - 1 < (n : Int) := by omega
          have gp2 : ∀ o, (wr.alloc o).cell? ⟨b, off + (j - 1) * 8, none⟩ = some (.int .i64 kp) := fun o => (Mod.alloc (Mod.refl (fun _ => False) wr) o).cell gp (fun h => h)
          clear gp
          by_cases hkp1 : kp = 1
          · have qkp : ((kp : Int) != 1) = false := by rw [bne_eq_false_iff_eq]; omega
            rw [decide_eq_true hkp1] at hkp
            replace hkp := hid hkp
            replace hkp1 := hid hkp1
            go_wp2_with fail
            refine (require_false _).mono ?_; rintro e w' ⟨rfl, rfl⟩
            go_wp2_with fail
            exact ⟨rfl, fail.out _ _ (by rw [hVs.out, hkp.out, decide_eq_true (show (Nd.mk kd tx1 nm ar ct fl ks es).kind = 1 from e1.out)]; rfl) rfl hmB.out.1⟩
          · have qkp : ((kp : Int) != 1) = true := by rw [bne_iff_ne]; omega
            rw [decide_eq_false hkp1] at hkp
            have hpv := hid hkp
            clear hkp
            replace hkp1 := hid hkp1
            have hBe : Hid (valN (.mk kd tx1 nm ar ct fl ks es) depth = (txOk tx1 && (nm.isEmpty && ar.isEmpty && decide (ct = 0) && decide (fln = 0) && decide (m2 = 0) && decide (m3 = 0)))) := hid (by
              simp only [valN, e1.out, if_true, hfln.out, hm2.out, hm3.out, len0])
            have hFe : Hid (formN (.mk kd tx1 nm ar ct fl ks es) = esc tx1) := hid (by simp only [formN, e1.out, if_true])
            have hL := hid (plit_any base P t0 kd ⟨tx1.toArray⟩ ⟨nm.toArray⟩ ⟨ar.toArray⟩ ct a1 a2 a3 fln m2 m3 x1 x2 x3 _ hpB.out)
            rw [show (⟨tx1.toArray⟩ : ByteArray).data.toList = tx1 from rfl, show (⟨nm.toArray⟩ : ByteArray).data.toList = nm from rfl, show (⟨ar.toArray⟩ : ByteArray).data.toList = ar from rfl] at hL
            go_wp2_with fail
            refine (require_true _).mono ?_; rintro e w' ⟨rfl, rfl⟩
            go_wp2_with fail

            refine hL.out.mono ?_
            clear hL
            rintro e w7 (⟨hok7, rfl, hp7, hm7⟩ | ⟨hok7, rfl, hm7⟩)
            · rw [Bool.and_eq_true] at hok7
              replace hok7 := hid hok7
              replace hp7 := hid hp7
              replace hm7 := hid hm7
              go_wp2_with fail
              go_roundg (gk - 1)
              case measure => have := hj.out; omega
              case rel =>
                refine ⟨j + 1, by have := hj.out; omega, by go_num, ?_, hmB.out.trans hm7.out, hid ?_⟩
                · rw [hnew.out, hFe.out]; exact hp7.out
                · rw [hVs.out, hpvs.out, hBe.out, hok7.out.1]; simp [Nd.kind, hpv.out]
            · replace hok7 := hid hok7
              replace hm7 := hid hm7
              go_wp2_with fail
              refine ⟨rfl, ?_⟩
              have h9 := hok7.out
              rw [Bool.and_eq_false_iff] at h9
              rcases h9 with h9 | h9
              · exact fail.out _ _ (by rw [hVs.out, hBe.out, h9]; simp) rfl (hmB.out.1.trans hm7.out)
              · refine fail2.out _ _ ?_ rfl (hmB.out.1.trans hm7.out)
                rw [htxs.out, hFe.out]
                rw [decide_eq_false_iff_not] at h9
                simp only [List.length_append] at h9 ⊢
                omega
      | false =>
        rw [e1] at q1
        rw [decide_eq_false_iff_not] at e1
        clear hprev
        replace e1 := hid e1
        have hk1 : Hid (decide ((Nd.mk kd tx1 nm ar ct fl ks es).kind = 1) = false) := hid (decide_eq_false e1.out)
        rw [hk1.out] at hVs hpvs
        cases e2 : decide (kd = 2) with
        | true =>
          rw [e2] at q2
          rw [decide_eq_true_eq] at e2
          clear q3 q4 q5
          replace e2 := hid e2
          have hBe : Hid (valN (.mk kd tx1 nm ar ct fl ks es) depth = (nameOk nm && !isKw nm && (tx1.isEmpty && ar.isEmpty && decide (ct = 0) && decide (m2 = 0) && decide (m3 = 0)) && fl.all nameOk)) := hid (by
            simp only [valN, if_neg e1.out, if_pos e2.out, hm2.out, hm3.out, len0])
          have hFe : Hid (formN (.mk kd tx1 nm ar ct fl ks es) = 123 :: (nm ++ (fl.flatMap (fun x => 124 :: x) ++ [125]))) := hid (by simp only [formN, if_neg e1.out, if_pos e2.out])
          have hL := hid (pfield_any base P t0 kd ⟨tx1.toArray⟩ ⟨nm.toArray⟩ ⟨ar.toArray⟩ ct a1 a2 a3 fl fln m2 m3 x1 x2 x3 _ hpB.out hFB.out hfb.out hb1.out hfln.out)
          rw [show (⟨tx1.toArray⟩ : ByteArray).data.toList = tx1 from rfl, show (⟨nm.toArray⟩ : ByteArray).data.toList = nm from rfl, show (⟨ar.toArray⟩ : ByteArray).data.toList = ar from rfl] at hL
          go_wp2_with fail

          refine hL.out.mono ?_
          clear hL
          rintro e w7 (⟨hok7, rfl, hp7, hm7⟩ | ⟨hok7, rfl, hm7⟩)
          · rw [Bool.and_eq_true] at hok7
            replace hok7 := hid hok7
            replace hp7 := hid hp7
            replace hm7 := hid hm7
            go_wp2_with fail
            go_roundg (gk - 1)
            case measure => have := hj.out; omega
            case rel =>
              refine ⟨j + 1, by have := hj.out; omega, by go_num, ?_, hmB.out.trans hm7.out, hid ?_⟩
              · rw [hnew.out, hFe.out]; exact hp7.out
              · rw [hVs.out, hpvs.out, hBe.out, hok7.out.1]; simp
          · replace hok7 := hid hok7
            replace hm7 := hid hm7
            go_wp2_with fail
            refine ⟨rfl, ?_⟩
            have h9 := hok7.out
            rw [Bool.and_eq_false_iff] at h9
            rcases h9 with h9 | h9
            · exact fail.out _ _ (by rw [hVs.out, hBe.out, h9]; simp) rfl (hmB.out.1.trans hm7.out)
            · refine fail2.out _ _ ?_ rfl (hmB.out.1.trans hm7.out)
              rw [htxs.out, hFe.out]
              rw [decide_eq_false_iff_not] at h9
              simp only [List.length_append] at h9 ⊢
              omega
        | false =>
          rw [e2] at q2
          rw [decide_eq_false_iff_not] at e2
          replace e2 := hid e2
          cases e3 : decide (kd = 3) with
          | true =>
            rw [e3] at q3
            rw [decide_eq_true_eq] at e3
            clear q4 q5
            replace e3 := hid e3
            by_cases hdd : depth = 8
            · have hdf : ¬ (depth : Int) < 8 := by omega
              have hdf2 : decide ((depth : Int) < 8) = false := decide_eq_false hdf
              have hbad : Hid (valN (.mk kd tx1 nm ar ct fl ks es) depth = false) := hid (by simp only [valN, if_neg e1.out, if_neg e2.out, if_pos e3.out, hdd]; simp)
              replace hdd := hid hdd
              go_wp2_with fail
              refine (require_false _).mono ?_; rintro e w' ⟨rfl, rfl⟩
              go_wp2_with fail
              exact ⟨rfl, fail.out _ _ (by rw [hVs.out, hbad.out, Bool.and_false, Bool.false_and]) rfl hmB.out.1⟩
            · have hdf : (depth : Int) < 8 := by omega
              have hdf2 : decide ((depth : Int) < 8) = true := decide_eq_true hdf
              have hdlt : depth < 8 := by omega
              have hBe : Hid (valN (.mk kd tx1 nm ar ct fl ks es) depth = (nameOk nm && decide (0 ≤ ct) && decide (ct ≤ 999999) && (tx1.isEmpty && decide (fln = 0) && decide (m3 = 0)) && ar.all isA && valL ks (depth + 1) false)) := hid (by
                simp only [valN, if_neg e1.out, if_neg e2.out, if_pos e3.out, decide_eq_true hdlt, hfln.out, hm3.out, len0, Bool.true_and])
              have hFe : Hid (formN (.mk kd tx1 nm ar ct fl ks es) = 123 :: (wFor ++ (32 :: (nm ++ ((if ar.isEmpty then [] else [32, 34] ++ (ar ++ [34])) ++ ((if ct = 0 then [] else 32 :: dec ct.toNat) ++ (125 :: (formL ks ++ (123 :: (wEnd ++ [125])))))))))) := hid (by simp only [formN, if_neg e1.out, if_neg e2.out, if_pos e3.out])
              obtain ⟨k', hkk⟩ : ∃ k', k = k' + 1 := ⟨k - 1, by have := hd.out; omega⟩
              have hL := hid (ploop_any k' (ih.out k' hkk.symm) base P t0 kd ⟨tx1.toArray⟩ ⟨nm.toArray⟩ ⟨ar.toArray⟩ ct a1 a2 a3 ks es fln m2 m3 x1 x2 x3 (depth + 1) _ (by have := hd.out; omega) hpB.out hKB.out hb2.out hb3.out hm2.out)
              rw [show (⟨tx1.toArray⟩ : ByteArray).data.toList = tx1 from rfl, show (⟨nm.toArray⟩ : ByteArray).data.toList = nm from rfl, show (⟨ar.toArray⟩ : ByteArray).data.toList = ar from rfl] at hL
              rw [show ((depth + 1 : Nat) : Int) = (depth : Int) + 1 by omega] at hL
              replace hdd := hid hdd
              replace hkk := hid hkk
              go_wp2_with fail
              refine (require_true _).mono ?_; rintro e w' ⟨rfl, rfl⟩
              go_wp2_with fail
              refine hL.out.mono ?_
              clear hL
              rintro e w7 (⟨hok7, rfl, hp7, hm7⟩ | ⟨hok7, rfl, hm7⟩)
              · rw [Bool.and_eq_true] at hok7
                replace hok7 := hid hok7
                replace hp7 := hid hp7
                replace hm7 := hid hm7
                go_wp2_with fail
                go_roundg (gk - 1)
                case measure => have := hj.out; omega
                case rel =>
                  refine ⟨j + 1, by have := hj.out; omega, by go_num, ?_, hmB.out.trans hm7.out, hid ?_⟩
                  · rw [hnew.out, hFe.out]; exact hp7.out
                  · rw [hVs.out, hpvs.out, hBe.out, hok7.out.1]; simp
              · replace hok7 := hid hok7
                replace hm7 := hid hm7
                go_wp2_with fail
                refine ⟨rfl, ?_⟩
                have h9 := hok7.out
                rw [Bool.and_eq_false_iff] at h9
                rcases h9 with h9 | h9
                · exact fail.out _ _ (by rw [hVs.out, hBe.out, h9]; simp) rfl (hmB.out.1.trans hm7.out)
                · refine fail2.out _ _ ?_ rfl (hmB.out.1.trans hm7.out)
                  rw [htxs.out, hFe.out]
                  rw [decide_eq_false_iff_not] at h9
                  simp only [List.length_append] at h9 ⊢
                  omega
          | false =>
            rw [e3] at q3
            rw [decide_eq_false_iff_not] at e3
            replace e3 := hid e3
            cases e4 : decide (kd = 4) with
            | true =>
              rw [e4] at q4
              rw [decide_eq_true_eq] at e4
              clear q5
              replace e4 := hid e4
              by_cases hdd : depth = 8
              · have hdf : ¬ (depth : Int) < 8 := by omega
                have hdf2 : decide ((depth : Int) < 8) = false := decide_eq_false hdf
                have hbad : Hid (valN (.mk kd tx1 nm ar ct fl ks es) depth = false) := hid (by simp only [valN, if_neg e1.out, if_neg e2.out, if_neg e3.out, if_pos e4.out, hdd]; simp)
                replace hdd := hid hdd
                go_wp2_with fail
                refine (require_false _).mono ?_; rintro e w' ⟨rfl, rfl⟩
                go_wp2_with fail
                exact ⟨rfl, fail.out _ _ (by rw [hVs.out, hbad.out, Bool.and_false, Bool.false_and]) rfl hmB.out.1⟩
              · have hdf : (depth : Int) < 8 := by omega
                have hdf2 : decide ((depth : Int) < 8) = true := decide_eq_true hdf
                have hdlt : depth < 8 := by omega
                have hBe : Hid (valN (.mk kd tx1 nm ar ct fl ks es) depth = (nameOk nm && (tx1.isEmpty && ar.isEmpty && decide (ct = 0) && decide (fln = 0)) && valL ks (depth + 1) false && valL es (depth + 1) false)) := hid (by
                  simp only [valN, if_neg e1.out, if_neg e2.out, if_neg e3.out, if_pos e4.out, decide_eq_true hdlt, hfln.out, len0, Bool.true_and])
                have hFe : Hid (formN (.mk kd tx1 nm ar ct fl ks es) = 123 :: (wIf ++ (32 :: (nm ++ (125 :: (formL ks ++ ((if es.isEmpty then [] else 123 :: (wElse ++ (125 :: formL es))) ++ (123 :: (wEnd ++ [125]))))))))) := hid (by simp only [formN, if_neg e1.out, if_neg e2.out, if_neg e3.out, if_pos e4.out])
                obtain ⟨k', hkk⟩ : ∃ k', k = k' + 1 := ⟨k - 1, by have := hd.out; omega⟩
                have hL := hid (pcond_any k' (ih.out k' hkk.symm) base P t0 kd ⟨tx1.toArray⟩ ⟨nm.toArray⟩ ⟨ar.toArray⟩ ct a1 a2 a3 ks es fln m2 m3 x1 x2 x3 (depth + 1) _ (by have := hd.out; omega) hpB.out hKB.out hb2.out hb3.out hm2.out hEB.out hb4.out hb5.out hm3.out)
                rw [show (⟨tx1.toArray⟩ : ByteArray).data.toList = tx1 from rfl, show (⟨nm.toArray⟩ : ByteArray).data.toList = nm from rfl, show (⟨ar.toArray⟩ : ByteArray).data.toList = ar from rfl] at hL
                rw [show ((depth + 1 : Nat) : Int) = (depth : Int) + 1 by omega] at hL
                replace hdd := hid hdd
                replace hkk := hid hkk
                go_wp2_with fail
                refine (require_true _).mono ?_; rintro e w' ⟨rfl, rfl⟩
                go_wp2_with fail
                refine hL.out.mono ?_
                clear hL
                rintro e w7 (⟨hok7, rfl, hp7, hm7⟩ | ⟨hok7, rfl, hm7⟩)
                · rw [Bool.and_eq_true] at hok7
                  replace hok7 := hid hok7
                  replace hp7 := hid hp7
                  replace hm7 := hid hm7
                  go_wp2_with fail
                  go_roundg (gk - 1)
                  case measure => have := hj.out; omega
                  case rel =>
                    refine ⟨j + 1, by have := hj.out; omega, by go_num, ?_, hmB.out.trans hm7.out, hid ?_⟩
                    · rw [hnew.out, hFe.out]; exact hp7.out
                    · rw [hVs.out, hpvs.out, hBe.out, hok7.out.1]; simp
                · replace hok7 := hid hok7
                  replace hm7 := hid hm7
                  go_wp2_with fail
                  refine ⟨rfl, ?_⟩
                  have h9 := hok7.out
                  rw [Bool.and_eq_false_iff] at h9
                  rcases h9 with h9 | h9
                  · exact fail.out _ _ (by rw [hVs.out, hBe.out, h9]; simp) rfl (hmB.out.1.trans hm7.out)
                  · refine fail2.out _ _ ?_ rfl (hmB.out.1.trans hm7.out)
                    rw [htxs.out, hFe.out]
                    rw [decide_eq_false_iff_not] at h9
                    simp only [List.length_append] at h9 ⊢
                    omega
            | false =>
              rw [e4] at q4
              rw [decide_eq_false_iff_not] at e4
              replace e4 := hid e4
              cases e5 : decide (kd = 5) with
              | true =>
                rw [e5] at q5
                rw [decide_eq_true_eq] at e5
                replace e5 := hid e5
                have hBe : Hid (valN (.mk kd tx1 nm ar ct fl ks es) depth = (nameOk nm && (tx1.isEmpty && ar.isEmpty && decide (ct = 0) && decide (fln = 0) && decide (m2 = 0) && decide (m3 = 0)))) := hid (by
                  simp only [valN, if_neg e1.out, if_neg e2.out, if_neg e3.out, if_neg e4.out, decide_eq_true e5.out, hfln.out, hm2.out, hm3.out, len0, Bool.true_and])
                have hFe : Hid (formN (.mk kd tx1 nm ar ct fl ks es) = 123 :: (wInclude ++ (32 :: (nm ++ [125])))) := hid (by simp only [formN, if_neg e1.out, if_neg e2.out, if_neg e3.out, if_neg e4.out, if_pos e5.out])
                have hN := hid (isName_any ⟨nm.toArray⟩)
                rw [show (⟨nm.toArray⟩ : ByteArray).data.toList = nm from rfl] at hN
                go_wp2_with fail
                refine (hN.out _).mono ?_; rintro e w' ⟨rfl, rfl⟩
                clear hN
                generalize hbn : nameOk nm = bn at hBe
                cases bn with
                | false =>
                  replace hbn := hid hbn
                  go_wp2_with fail
                  refine (require_false _).mono ?_; rintro e w' ⟨rfl, rfl⟩
                  go_wp2_with fail
                  exact ⟨rfl, fail.out _ _ (by rw [hVs.out, hBe.out, Bool.false_and, Bool.and_false, Bool.false_and]) rfl hmB.out.1⟩
                | true =>
                  replace hbn := hid hbn
                  go_wp2_with fail
                  refine (require_true _).mono ?_; rintro e w' ⟨rfl, rfl⟩
                  go_wp2_with fail
                  have ho := hid (only_b kd 0 ⟨tx1.toArray⟩ ⟨#[]⟩ ⟨nm.toArray⟩ ⟨nm.toArray⟩ ⟨ar.toArray⟩ ⟨#[]⟩ ct 0 a1 none a2 none a3 none fln 0 m2 0 m3 0 x1 0 x2 0 x3 0 (wr.alloc (.cells #[.int .i64 kd, .string ⟨tx1.toArray⟩, .string ⟨nm.toArray⟩, .string ⟨ar.toArray⟩, .int .i64 ct, .slice a1 fln x1, .slice a2 m2 x2, .slice a3 m3 x3] 36)))
                  rw [show (⟨#[]⟩ : ByteArray).data.toList = [] from rfl, show (⟨tx1.toArray⟩ : ByteArray).data.toList = tx1 from rfl, show (⟨nm.toArray⟩ : ByteArray).data.toList = nm from rfl, show (⟨ar.toArray⟩ : ByteArray).data.toList = ar from rfl, dec_self, dec_nil, dec_nil, Bool.true_and] at ho
                  generalize hB : (tx1.isEmpty && (ar.isEmpty && (decide (ct = 0) && (decide (fln = 0) && (decide (m2 = 0) && decide (m3 = 0)))))) = B at ho
                  have hB2 : (tx1.isEmpty && ar.isEmpty && decide (ct = 0) && decide (fln = 0) && decide (m2 = 0) && decide (m3 = 0)) = B := by rw [← hB]; simp only [Bool.and_assoc]
                  rw [hB2] at hBe
                  clear hB hB2
                  refine ho.out.mono ?_; rintro e w5 ⟨rfl, hx5⟩
                  clear ho
                  have hp5 := hid (hpB.out.ext hx5)
                  have hm5 := hid (hmB.out.ext hx5)
                  have hQ5 := hx5.at hBQ.out (fun h => h)
                  obtain ⟨c0, c1, c2, c3, c4, c5, c6, c7⟩ := cells8 hQ5
                  clear hx5 hQ5 hpB
                  cases B with
                  | false =>
                    go_wp2_with fail
                    refine (require_false _).mono ?_; rintro e w' ⟨rfl, rfl⟩
                    go_wp2_with fail
                    exact ⟨rfl, fail.out _ _ (by rw [hVs.out, hBe.out]; simp) rfl hm5.out.1⟩
                  | true =>
                    go_wp2_with fail
                    refine (require_true _).mono ?_; rintro e w' ⟨rfl, rfl⟩
                    go_wp2_with fail
                    have hx := Mod.alloc (Mod.refl (fun _ => False) w5) (.cells #[.string ⟨#[123]⟩, .string ⟨#[105, 110, 99, 108, 117, 100, 101]⟩, .string ⟨#[32]⟩, .string ⟨nm.toArray⟩, .string ⟨#[125]⟩] 9)
                    have hz : (w5.alloc (.cells #[.string ⟨#[123]⟩, .string ⟨#[105, 110, 99, 108, 117, 100, 101]⟩, .string ⟨#[32]⟩, .string ⟨nm.toArray⟩, .string ⟨#[125]⟩] 9)).heap[w5.heap.size]? = some (.cells ([[123], wInclude, [32], nm, [125]].map strV).toArray 9) := heap_alloc_new w5 _
                    have hL := hid (put_any base P t0 [[123], wInclude, [32], nm, [125]] w5.heap.size _ (hp5.out.ext hx) hz (by simp))
                    rw [show [[123], wInclude, [32], nm, [125]].flatten = 123 :: (wInclude ++ (32 :: (nm ++ [125]))) by simp] at hL
                    have hmB := hid (hm5.out.ext hx)
                    clear hx hz c0 c1 c2 c3 c4 c5 c6 c7
                    refine hL.out.mono ?_
                    clear hL
                    rintro e w7 (⟨hok7, rfl, hp7, hm7⟩ | ⟨hok7, rfl, hm7⟩)
                    · replace hok7 := hid hok7
                      replace hp7 := hid hp7
                      replace hm7 := hid hm7
                      go_wp2_with fail
                      go_roundg (gk - 1)
                      case measure => have := hj.out; omega
                      case rel =>
                        refine ⟨j + 1, by have := hj.out; omega, by go_num, ?_, hmB.out.trans hm7.out, hid ?_⟩
                        · rw [hnew.out, hFe.out]; exact hp7.out
                        · rw [hVs.out, hpvs.out, hBe.out]; simp
                    · replace hok7 := hid hok7
                      replace hm7 := hid hm7
                      go_wp2_with fail
                      refine ⟨rfl, ?_⟩
                      have h9 := hok7.out
                      · refine fail2.out _ _ ?_ rfl (hmB.out.1.trans hm7.out)
                        rw [htxs.out, hFe.out]
                        rw [decide_eq_false_iff_not] at h9
                        simp only [List.length_append] at h9 ⊢
                        omega
              | false =>
                rw [e5] at q5
                have hbad : Hid (valN (.mk kd tx1 nm ar ct fl ks es) depth = false) := hid (by simp only [valN, if_neg e1.out, if_neg e2.out, if_neg e3.out, if_neg e4.out, e5, Bool.false_and])
                rw [decide_eq_false_iff_not] at e5
                replace e5 := hid e5
                go_wp2_with fail
                exact ⟨rfl, fail.out _ _ (by rw [hVs.out, hbad.out, Bool.and_false, Bool.false_and]) rfl hmB.out.1⟩
    · have hdl : decide ((j : Int) < (n : Int)) = false := decide_eq_false (by omega)
      have hdi : ¬ (j : Int) < (n : Int) := by omega
      have e1 : l.take j = l := List.take_of_length_le (by have := hlen.out; omega)
      have e2 : l.drop j = [] := List.drop_eq_nil_of_le (by have := hlen.out; omega)
      rw [e1, ← htx'.out] at hp
      rw [e2] at hV
      clear e1 e2
      go_wp2_with fail
      go_end0
      rw [hpost.out]
      exact .inl ⟨by rw [hV.out, decide_eq_true hp.out.len]; rfl, rfl, hp.out, hm.out⟩

theorem plist_any (k : Nat) : PListC k := by
  induction k with
  | zero => exact plist_step 0 (fun k' h => by omega)
  | succ k ih => exact plist_step (k + 1) (fun k' h => by have : k' = k := by omega
                                                          rw [this]; exact ih)
end Go.Proofs.YtpgniljgaknlpaaGreatDoor
