import Derived.Test.YtpgniljgaknlpaaGreatDoorP4
/-
  The reference printer's 'form'.
-/
namespace Go.Proofs.YtpgniljgaknlpaaGreatDoor
open Go.RowKit Cdk Tpl

theorem dec_len {c : Int} (h0 : 0 ≤ c) (h : c ≤ 999999) : (dec c.toNat).length ≤ 6 := decF_len _ _ 5 (by omega) (by omega)
mutual
theorem bN_form : ∀ (x : Nd) (d : Nat), valN x d = true → (formN x).length ≤ bN x
  | .mk k t n a c f ks es, d, h => by
    have he := esc_len2 t
    simp only [bN]
    simp only [valN] at h
    by_cases h1 : k = 1
    · subst h1
      rw [show formN (.mk 1 t n a c f ks es) = esc t by simp [formN]]
      omega
    · rw [if_neg h1] at h
      by_cases h2 : k = 2
      · subst h2
        rw [show formN (.mk 2 t n a c f ks es) = 123 :: (n ++ (f.flatMap (fun x => 124 :: x) ++ [125])) by simp [formN]]
        simp only [List.length_cons, List.length_append, List.length_nil]; omega
      · rw [if_neg h2] at h
        by_cases h3 : k = 3
        · subst h3
          rw [if_pos rfl] at h
          simp only [Bool.and_eq_true, decide_eq_true_eq] at h
          have hk := bL_form ks (d + 1) false h.2
          have hd := dec_len h.1.1.1.2.1.2 h.1.1.1.2.2
          rw [formN, if_neg (by decide), if_neg (by decide), if_pos rfl]
          simp only [List.length_cons, List.length_append, List.length_nil, wFor, wEnd]
          split <;> split <;> simp only [List.length_cons, List.length_append, List.length_nil] <;> omega
        · rw [if_neg h3] at h
          by_cases h4 : k = 4
          · subst h4
            rw [if_pos rfl] at h
            simp only [Bool.and_eq_true, decide_eq_true_eq] at h
            have hk := bL_form ks (d + 1) false h.1.2
            have hs := bL_form es (d + 1) false h.2
            rw [formN, if_neg (by decide), if_neg (by decide), if_neg (by decide), if_pos rfl]
            simp only [List.length_cons, List.length_append, List.length_nil, wIf, wEnd]
            split <;> simp only [List.length_cons, List.length_append, List.length_nil, wElse] <;> omega
          · rw [if_neg h4] at h
            simp only [Bool.and_eq_true, decide_eq_true_eq] at h
            have h5 : k = 5 := h.1.1
            subst h5
            rw [show formN (.mk 5 t n a c f ks es) = 123 :: (wInclude ++ (32 :: (n ++ [125]))) by simp [formN]]
            simp only [wInclude, List.length_cons, List.length_append, List.length_nil]; omega
theorem bL_form : ∀ (l : List Nd) (d : Nat) (p : Bool), valL l d p = true → (formL l).length ≤ bL l
  | [], _, _, _ => by simp [formL]
  | x :: r, d, p, h => by
    simp only [valL, Bool.and_eq_true] at h
    have h1 := bN_form x d h.1.2
    have h2 := bL_form r d _ h.2
    simp only [formL, bL, List.length_append]; omega
end

theorem form_at {l : List Nd} {i : Nat} (h : i < l.length) : formL (l.drop i) = formN l[i] ++ formL (l.drop (i + 1)) := by
  rw [List.drop_eq_getElem_cons h]; simp only [formL]
theorem val_drop : ∀ {l : List Nd} {d : Nat} {p : Bool} {i : Nat} (h : i < l.length), valL l d p = true → valN l[i] d = true
  | x :: r, d, p, 0, _, h => by simp only [valL, Bool.and_eq_true] at h; exact h.1.2
  | x :: r, d, p, i + 1, hi, h => by
    simp only [valL, Bool.and_eq_true] at h
    exact val_drop (l := r) (by simpa using hi) h.2

/-- 'form' is right where so many loops may still be opened. -/
def RFormC (k : Nat) : Prop := ∀ (F : Nat → Prop) (v : Value) (l : List Nd) (d : Nat) (p : Bool) (w : World), d + k = 8 → NodesAt F w v l → valL l d p = true → bL l ≤ 1000000000000 →
  Calls Tryz.prog 31 #[v] w fun e w' => e = .returned (.string ⟨(formL l).toArray⟩) ∧ Ext w w'

theorem bytes_app (a b : Bs) : (⟨a.toArray⟩ ++ ⟨b.toArray⟩ : ByteArray) = ⟨(a ++ b).toArray⟩ := ByteArray.ext (by simp)


set_option maxRecDepth 100000 in
set_option maxHeartbeats 16000000 in
theorem rform_step (k : Nat) (ih : ∀ k', k = k' + 1 → RFormC k') : RFormC k := by
  intro F v l d p w hdk hn hval hb
  obtain ⟨aa, nn, ca, rfl⟩ := hn.slice
  have hnl := hn.count
  have hfl0 := bL_form l d p hval
  obtain ⟨V, hV⟩ : ∃ V, V = formL l := ⟨_, rfl⟩
  rw [← hV] at hfl0 ⊢
  have hVl : V.length ≤ 1000000000000 := by omega
  obtain ⟨post, hpost⟩ : ∃ post : Ending → World → Prop, post = fun e w' => e = .returned (.string ⟨V.toArray⟩) ∧ Ext w w' := ⟨_, rfl⟩
  rw [← hpost]
  have hlen := bL_len l
  have hnb : nn ≤ 1000000000000 := by omega
  clear hlen hfl0
  replace hpost := hid hpost
  replace hV := hid hV
  replace hn := hid hn
  replace hnl := hid hnl
  replace hb := hid hb
  replace ih := hid ih
  replace hval := hid hval
  go_enter Tryz.func31, Tryz.ntmps31
  go_wp2_with fail
  go_loopg [3, 4] nn (fun g ov iv wr => ∃ (i : Nat) (acc : Bs), i + g = nn ∧ iv = .int .i64 i ∧ ov = .string ⟨acc.toArray⟩ ∧ Ext w wr ∧ Hid (V = acc ++ formL (l.drop i)))
  case atStart => exact ⟨0, [], by omega, rfl, rfl, Mod.refl _ _, hid hV.out⟩
  case round =>
    obtain ⟨i, acc, hig, rfl, rfl, hx, hv⟩ := hrel
    have hal : acc.length ≤ 1000000000000 := by have := congrArg List.length hv.out; rw [List.length_append] at this; omega
    by_cases hlt : i < nn
    rotate_left
    · obtain rfl : gk = 0 := by omega
      obtain rfl : i = nn := by omega
      have d1 : decide ((i : Int) < (i : Int)) = false := decide_eq_false (by omega)
      have d2 : ¬ (i : Int) < (i : Int) := by omega
      have hVt : V = acc := by rw [hv.out, List.drop_eq_nil_of_le (by have := hnl.out; omega)]; simp [formL]
      replace hVt := hid hVt
      replace hx := hid hx
      go_wp2_with fail
      rw [hpost.out]
      exact ⟨by rw [hVt.out]; first | done | rfl, hx.out⟩
    · obtain ⟨c, rfl⟩ : ∃ c, gk = c + 1 := ⟨gk - 1, by omega⟩
      have d1 : decide ((i : Int) < (nn : Int)) = true := decide_eq_true (by omega)
      have d2 : (i : Int) < (nn : Int) := by omega
      have d3 : (0 : Int) ≤ (i : Int) := by omega
      have hil : i < l.length := by have := hnl.out; omega
      have hnr := hn.out.mod hx (fun _ _ h => h)
      obtain ⟨b, off, kd, tx, nm, ar, ct, a1, m1, x1, a2, m2, x2, a3, m3, x3, fl, ks, es, hao, -, hxi, hfl, hks, hes, g0, g1, g2, g3, g4, g5, g6, g7⟩ := hnr.node hil
      subst hao
      have hbi := bL_mem (List.getElem_mem hil)
      rw [hxi] at hbi
      simp only [bN] at hbi
      have hfn := flat_len1 fl
      have hb' := hb.out
      have htl : tx.length ≤ 1000000000000 := by omega
      have hnl2 : nm.length ≤ 1000000000000 := by omega
      have harl : ar.length ≤ 1000000000000 := by omega
      have hfll : fl.length ≤ 1000000000000 := by omega
      have hflb : Hid ((fl.flatMap (fun x => 124 :: x)).length ≤ 1000000000000) := hid (by omega)
      have hbk : bL ks ≤ 1000000000000 := by omega
      have hbe : bL es ≤ 1000000000000 := by omega
      clear hbi hfn hb'
      have hfa := form_at hil
      have hvn := val_drop hil hval.out
      rw [hxi] at hvn hfa
      have hv2 := hid (hv.out.trans (congrArg (acc ++ ·) hfa))
      clear hfa hv
      replace hxi := hid hxi
      replace hbk := hid hbk
      replace hbe := hid hbe
      replace hx := hid hx
      have hm1c := hfl.count
      have hm3c := hes.count2
      replace hfl := hid hfl
      replace hks := hid hks
      replace hes := hid hes
      replace hm1c := hid hm1c
      replace hm3c := hid hm3c
      replace hvn := hid hvn
      go_upto_region 6 with fail
      have hxQ := Mod.alloc (Mod.refl (fun _ => False) wr) (.cells #[.int .i64 kd, .string ⟨tx.toArray⟩, .string ⟨nm.toArray⟩, .string ⟨ar.toArray⟩, .int .i64 ct, .slice a1 m1 x1, .slice a2 m2 x2, .slice a3 m3 x3] 36)
      have hQ := heap_alloc_new wr (.cells #[.int .i64 kd, .string ⟨tx.toArray⟩, .string ⟨nm.toArray⟩, .string ⟨ar.toArray⟩, .int .i64 ct, .slice a1 m1 x1, .slice a2 m2 x2, .slice a3 m3 x3] 36)
      generalize (wr.alloc (.cells #[.int .i64 kd, .string ⟨tx.toArray⟩, .string ⟨nm.toArray⟩, .string ⟨ar.toArray⟩, .int .i64 ct, .slice a1 m1 x1, .slice a2 m2 x2, .slice a3 m3 x3] 36)) = wq at hxQ hQ ⊢
      generalize wr.heap.size = Q at hQ ⊢
      have hks := hid (hks.out.mod hxQ (fun _ _ h => h))
      have hes := hid (hes.out.mod hxQ (fun _ _ h => h))
      have hfr := hid (hm1c.out.2.ext hxQ)
      have hx := hid (hx.out.trans hxQ)
      clear g0 g1 g2 g3 g4 g5 g6 g7 hxQ hfl hnr
      obtain ⟨g0, g1, g2, g3, g4, g5, g6, g7⟩ := cells8 hQ
      replace hQ := hid hQ
      by_cases h1 : kd = 1
      · subst h1
        go_wp2_with fail
        go_loopg [3, 6] tx.length (fun g ov iv wz => ∃ (j : Nat) (A : Bs), j + g = tx.length ∧ iv = .int .i64 j ∧ ov = .string ⟨A.toArray⟩ ∧ wz = wq ∧ Hid (acc ++ esc tx = A ++ esc (tx.drop j)))
        case atStart => exact ⟨0, acc, by omega, rfl, rfl, rfl, hid rfl⟩
        case round =>
          obtain ⟨j, A, hj, rfl, rfl, rfl, hA⟩ := hrel
          have hAl : A.length ≤ 3000000000001 := by
            have := congrArg List.length hA.out
            rw [List.length_append, List.length_append] at this
            have := esc_len2 tx
            omega
          by_cases hjm : j < tx.length
          · have j1 : decide ((j : Int) < (tx.length : Int)) = true := decide_eq_true (by omega)
            have j2 : (j : Int) < (tx.length : Int) := by omega
            have j3 : (0 : Int) ≤ (j : Int) := by omega
            have hdj : tx.drop j = tx[j] :: tx.drop (j + 1) := List.drop_eq_getElem_cons hjm
            have j4 : IntKind.i64.wrap ((j : Int) + 1) = (j : Int) + 1 := IntWalk.i64_in _ (by omega)
            have j5 : (j : Int) + 1 ≤ (tx.length : Int) := by omega
            have j6 : (j : Int) ≤ (j : Int) + 1 := by omega
            replace hdj := hid hdj
            obtain ⟨ch, hch⟩ : ∃ ch, ch = tx[j] := ⟨_, rfl⟩
            have hsz1 : (⟨tx.toArray⟩ : ByteArray).size = tx.length := by show tx.toArray.size = _; simp
            have hgi : ∀ hh, ((⟨tx.toArray⟩ : ByteArray)[j]'hh) = ch := fun hh => hch.symm
            have hex : (⟨tx.toArray⟩ : ByteArray).extract j (j + 1) = ⟨[ch].toArray⟩ := by
              apply ByteArray.ext
              rw [hch]
              simp [ByteArray.data_extract]
              rw [List.drop_eq_getElem_cons hjm]
              rfl
            replace hch := hid hch
            replace hsz1 := hid hsz1
            have k1 : ¬ 9223372036854775807 < A.length + 1 := by omega
            have k2 : ¬ 9223372036854775807 < A.length + 1 + 1 := by omega
            by_cases hc : ch.toNat = 123
            · have qc : ((ch.toNat : Int) == 123) = true := by rw [beq_iff_eq]; omega
              have hc1 : ch = 123 := UInt8.toNat_inj.1 hc
              have hes1 : Hid (esc (tx.drop j) = [123, ch] ++ esc (tx.drop (j + 1))) := hid (by
                rw [hdj.out, ← hch.out]
                show (if ch.toNat = 123 then [ch, ch] else [ch]) ++ _ = _
                rw [if_pos hc, hc1]; rfl)
              replace hc := hid hc
              replace hc1 := hid hc1
              go_wp2_with fail
              go_roundg (gk - 1)
              case measure => omega
              case rel =>
                refine ⟨j + 1, A ++ [123, ch], by omega, by go_num, ?_, rfl, hid ?_⟩
                · first | rfl | (congr 1; apply ByteArray.ext; simp)
                · rw [hA.out, hes1.out]; simp
            · have qc : ((ch.toNat : Int) == 123) = false := by rw [beq_eq_false_iff_ne]; omega
              have hes1 : Hid (esc (tx.drop j) = [ch] ++ esc (tx.drop (j + 1))) := hid (by
                rw [hdj.out, ← hch.out]
                show (if ch.toNat = 123 then [ch, ch] else [ch]) ++ _ = _
                rw [if_neg hc]; rfl)
              replace hc := hid hc
              go_wp2_with fail
              go_roundg (gk - 1)
              case measure => omega
              case rel =>
                refine ⟨j + 1, A ++ [ch], by omega, by go_num, ?_, rfl, hid ?_⟩
                · first | rfl | (congr 1; apply ByteArray.ext; simp)
                · rw [hA.out, hes1.out]; simp
          · have j1 : decide ((j : Int) < (tx.length : Int)) = false := decide_eq_false (by omega)
            have j2 : ¬ (j : Int) < (tx.length : Int) := by omega
            have hA' : Hid (A = acc ++ esc tx) := hid (by
              have := hA.out
              rw [List.drop_eq_nil_of_le (by omega)] at this
              simpa [esc] using this.symm)
            go_wp2_with fail
            go_roundg c
            case measure => omega
            case rel =>
              refine ⟨i + 1, A, by omega, by go_num, ?_, hx.out, hid ?_⟩
              · first | rfl | (congr 1; apply ByteArray.ext; simp)
              · rw [hv2.out]
                rw [hA'.out]; simp [formN]
      · have q1 : ((kd : Int) == 1) = false := by rw [beq_eq_false_iff_ne]; omega
        by_cases h2 : kd = 2
        · subst h2
          have k1 : ¬ 9223372036854775807 < acc.length + 1 := by omega
          have k2 : ¬ 9223372036854775807 < acc.length + 1 + nm.length := by omega
          go_wp2_with fail
          have en : (⟨acc.toArray⟩ ++ ⟨#[123]⟩ ++ ⟨nm.toArray⟩ : ByteArray) = ⟨(acc ++ ([123] ++ nm)).toArray⟩ := ByteArray.ext (by simp)
          rw [en]
          clear en
          obtain ⟨A0, hA0⟩ : ∃ A0, A0 = acc ++ ([123] ++ nm) := ⟨_, rfl⟩
          rw [← hA0]
          have hA0l : A0.length ≤ 2000000000001 := by rw [hA0, List.length_append, List.length_append, List.length_singleton]; omega
          replace hA0 := hid hA0
          go_loopg [3, 7] m1 (fun g ov iv wz => ∃ (j : Nat) (A : Bs), j + g = m1 ∧ iv = .int .i64 j ∧ ov = .string ⟨A.toArray⟩ ∧ wz = wq ∧ Hid (A0 ++ fl.flatMap (fun x => 124 :: x) = A ++ (fl.drop j).flatMap (fun x => 124 :: x)))
          case atStart => exact ⟨0, A0, by omega, rfl, rfl, rfl, hid (by simp)⟩
          case round =>
            obtain ⟨j, A, hj, rfl, rfl, rfl, hA⟩ := hrel
            have hAl : A.length ≤ 3000000000001 := by
              have := congrArg List.length hA.out
              rw [List.length_append, List.length_append] at this
              have := hflb.out
              omega
            by_cases hjm : j < m1
            · have j1 : decide ((j : Int) < (m1 : Int)) = true := decide_eq_true (by omega)
              have j2 : (j : Int) < (m1 : Int) := by omega
              have j3 : (0 : Int) ≤ (j : Int) := by omega
              have hjl : j < fl.length := by have := hm1c.out.1; omega
              obtain ⟨bb, oo, rfl, hcl⟩ := hfr.out.at (by rw [flat_length _ 1 strC_len]; omega)
              have gi := hcl _ _ ((flat_get strC 1 strC_len fl j 0 fl[j] (List.getElem?_eq_getElem hjl) (by omega)).trans rfl)
              simp only [strV, Nat.mul_one, Nat.add_zero] at gi
              have hdj : fl.drop j = fl[j] :: fl.drop (j + 1) := List.drop_eq_getElem_cons hjl
              have hsl : fl[j].length ≤ 1000000000000 := by
                have h9 := hflb.out
                have h8 : (fl.flatMap (fun x => 124 :: x)).length = ((fl.take j).flatMap (fun x => 124 :: x)).length + ((fl.drop j).flatMap (fun x => 124 :: x)).length := by rw [← List.length_append, ← List.flatMap_append, List.take_append_drop]
                rw [hdj, List.flatMap_cons, List.length_append, List.length_cons] at h8
                omega
              obtain ⟨s, hs⟩ : ∃ s, s = fl[j] := ⟨_, rfl⟩
              rw [← hs] at gi hsl hdj
              replace hs := hid hs
              replace hdj := hid hdj
              have k3 : ¬ 9223372036854775807 < A.length + 1 := by omega
              have k4 : ¬ 9223372036854775807 < A.length + 1 + s.length := by omega
              clear hcl
              go_wp2_with fail
              go_roundg (gk - 1)
              case measure => omega
              case rel =>
                refine ⟨j + 1, A ++ (124 :: s), by omega, by go_num, ?_, rfl, hid ?_⟩
                · first | rfl | (congr 1; apply ByteArray.ext; simp)
                · rw [hA.out, hdj.out]; simp
            · have j1 : decide ((j : Int) < (m1 : Int)) = false := decide_eq_false (by omega)
              have j2 : ¬ (j : Int) < (m1 : Int) := by omega
              have hA' : Hid (A = acc ++ ([123] ++ (nm ++ fl.flatMap (fun x => 124 :: x)))) := hid (by
                have := hA.out
                rw [List.drop_eq_nil_of_le (by have := hm1c.out.1; omega), List.flatMap_nil, List.append_nil, hA0.out] at this
                rw [← this]; simp)
              have k3 : ¬ 9223372036854775807 < A.length + 1 := by omega
              go_wp2_with fail
              go_roundg c
              case measure => omega
              case rel =>
                refine ⟨i + 1, A ++ [125], by omega, by go_num, ?_, hx.out, hid ?_⟩
                · first | rfl | (congr 1; apply ByteArray.ext; simp)
                · rw [hv2.out]
                  rw [hA'.out]; simp [formN]
        · have q2 : ((kd : Int) == 2) = false := by rw [beq_eq_false_iff_ne]; omega
          by_cases h3 : kd = 3
          · subst h3
            have hvv := hvn.out
            rw [valN, if_neg (by decide), if_neg (by decide), if_pos rfl] at hvv
            simp only [Bool.and_eq_true, decide_eq_true_eq] at hvv

            have hc0 := hvv.1.1.1.2.1.2
            have hc9 := hvv.1.1.1.2.2
            have hd8 := hvv.1.1.1.1
            have hvk := hid hvv.2
            clear hvv
            obtain ⟨cn, rfl⟩ : ∃ cn : Nat, ct = (cn : Int) := ⟨ct.toNat, by omega⟩
            have hcn : cn ≤ 999999 := by omega
            obtain ⟨k', hk'⟩ : ∃ k', k = k' + 1 := ⟨k - 1, by omega⟩
            have hC := hid (fun w (h : NodesAt F w (.slice a2 m2 x2) ks) => ih.out k' hk' F _ ks (d + 1) false w (by omega) h hvk.out hbk.out)
            have hfk := bL_form ks (d + 1) false hvk.out
            have hfkl : (formL ks).length ≤ 1000000000000 := by have := hbk.out; omega
            replace hk' := hid hk'
            clear hfk hc0 hc9
            obtain ⟨FK, hFK⟩ : ∃ FK, FK = formL ks := ⟨_, rfl⟩
            rw [← hFK] at hC hfkl
            replace hFK := hid hFK
            have k1 : ¬ 9223372036854775807 < acc.length + 5 := by omega
            have k2 : ¬ 9223372036854775807 < acc.length + 5 + nm.length := by omega
            go_upto_region 23 with fail
            have en : (⟨acc.toArray⟩ ++ ⟨#[123, 102, 111, 114, 32]⟩ ++ ⟨nm.toArray⟩ : ByteArray) = ⟨(acc ++ ([123, 102, 111, 114, 32] ++ nm)).toArray⟩ := ByteArray.ext (by simp)
            rw [en]
            clear en k1 k2
            obtain ⟨A1, hA1⟩ : ∃ A1, A1 = acc ++ ([123, 102, 111, 114, 32] ++ nm) := ⟨_, rfl⟩
            rw [← hA1]
            have hA1l : A1.length ≤ 2000000000005 := by rw [hA1]; simp only [List.length_append, List.length_cons, List.length_nil]; omega
            replace hA1 := hid hA1

            cases har : ar.isEmpty with
            | true =>
              go_upto_region 25 with fail
              obtain ⟨A2, hA2⟩ : ∃ A2, A2 = A1 ++ (if ar.isEmpty then [] else [32, 34] ++ (ar ++ [34])) := ⟨_, rfl⟩
              rw [har, if_pos rfl, List.append_nil] at hA2
              have hA2e : Hid (A2 = A1 ++ (if ar.isEmpty then [] else [32, 34] ++ (ar ++ [34]))) := hid (by rw [har, if_pos rfl, List.append_nil]; exact hA2)
              have hA2l : A2.length ≤ 3000000000008 := by rw [hA2]; omega
              rw [← hA2]
              clear hA2
              replace har := hid har
              by_cases hc0 : 0 < cn
              · have c1 : decide ((0 : Int) < (cn : Int)) = true := decide_eq_true (by omega)
                have c2 : (0 : Int) < (cn : Int) := by omega
                have hNum := hid (fun w => rnumber_any cn hcn w)
                have hdl : (dg cn).length ≤ 6 := by
                  have := dec_len (c := (cn : Int)) (by omega) (by omega)
                  unfold dg; rw [if_neg (by omega)]; simpa using this
                have k1 : ¬ 9223372036854775807 < A2.length + 1 := by omega
                have k2 : ¬ 9223372036854775807 < A2.length + 1 + (dg cn).length := by omega
                go_wp2_with fail
                refine (hNum.out _).mono ?_
                rintro e wn ⟨rfl, hxn⟩
                have g6 := hxn.cell g6 (fun h => h)
                have hks := hid (hks.out.mod hxn (fun _ _ h => h))
                have hx := hid (hx.out.trans hxn)
                clear hNum hxn
                go_upto_region 27 with fail
                have en : (⟨A2.toArray⟩ ++ ⟨#[32]⟩ ++ ⟨(dg cn).toArray⟩ : ByteArray) = ⟨(A2 ++ (32 :: dg cn)).toArray⟩ := ByteArray.ext (by simp)
                rw [en]
                clear en k1 k2
                obtain ⟨A3, hA3⟩ : ∃ A3, A3 = A2 ++ (32 :: dg cn) := ⟨_, rfl⟩
                rw [← hA3]
                have hA3e : Hid (A3 = A2 ++ (if (cn : Int) = 0 then [] else 32 :: dec (cn : Int).toNat)) := hid (by
                  rw [if_neg (by omega), hA3]; unfold dg; rw [if_neg (by omega)]; rfl)
                have hA3l : A3.length ≤ 3000000000018 := by rw [hA3]; simp only [List.length_append, List.length_cons]; omega
                clear hA3
                have k1 : ¬ 9223372036854775807 < A3.length + 1 := by omega
                have k2 : ¬ 9223372036854775807 < A3.length + 1 + FK.length := by omega
                have k3 : ¬ 9223372036854775807 < A3.length + 1 + FK.length + 5 := by omega
                go_wp2_with fail
                refine (hC.out _ hks.out).mono ?_
                rintro e wb ⟨rfl, hxb⟩
                have hx := hid (hx.out.trans hxb)
                go_wp2_with fail

                go_roundg c
                case measure => omega
                case rel =>
                  refine ⟨i + 1, A3 ++ (125 :: (FK ++ [123, 101, 110, 100, 125])), by omega, by go_num, ?_, hx.out, hid ?_⟩
                  · first | rfl | (congr 1; apply ByteArray.ext; simp)
                  · rw [hv2.out]
                    rw [hA3e.out, hA2e.out, hA1.out, hFK.out]; simp [formN, wFor, wEnd]
              · have c1 : decide ((0 : Int) < (cn : Int)) = false := decide_eq_false (by omega)
                have c2 : ¬ (0 : Int) < (cn : Int) := by omega
                go_upto_region 27 with fail
                have hA3e : Hid (A2 = A2 ++ (if (cn : Int) = 0 then [] else 32 :: dec (cn : Int).toNat)) := hid (by rw [if_pos (by omega), List.append_nil])
                have hA3l : A2.length ≤ 3000000000018 := by omega
                obtain ⟨A3, hA3⟩ : ∃ A3, A3 = A2 ++ ([] : Bs) := ⟨_, rfl⟩
                rw [List.append_nil] at hA3
                rw [← hA3] at hA3l ⊢
                have hA3e : Hid (A3 = A2 ++ (if (cn : Int) = 0 then [] else 32 :: dec (cn : Int).toNat)) := hid (by rw [hA3]; exact hA3e.out)
                clear hA3
                have k1 : ¬ 9223372036854775807 < A3.length + 1 := by omega
                have k2 : ¬ 9223372036854775807 < A3.length + 1 + FK.length := by omega
                have k3 : ¬ 9223372036854775807 < A3.length + 1 + FK.length + 5 := by omega
                go_wp2_with fail
                refine (hC.out _ hks.out).mono ?_
                rintro e wb ⟨rfl, hxb⟩
                have hx := hid (hx.out.trans hxb)
                go_wp2_with fail

                go_roundg c
                case measure => omega
                case rel =>
                  refine ⟨i + 1, A3 ++ (125 :: (FK ++ [123, 101, 110, 100, 125])), by omega, by go_num, ?_, hx.out, hid ?_⟩
                  · first | rfl | (congr 1; apply ByteArray.ext; simp)
                  · rw [hv2.out]
                    rw [hA3e.out, hA2e.out, hA1.out, hFK.out]; simp [formN, wFor, wEnd]
            | false =>
              have k1 : ¬ 9223372036854775807 < A1.length + 2 := by omega
              have k2 : ¬ 9223372036854775807 < A1.length + 2 + ar.length := by omega
              have k3 : ¬ 9223372036854775807 < A1.length + 2 + ar.length + 1 := by omega
              go_upto_region 25 with fail
              have en : (⟨A1.toArray⟩ ++ ⟨#[32, 34]⟩ ++ ⟨ar.toArray⟩ ++ ⟨#[34]⟩ : ByteArray) = ⟨(A1 ++ ([32, 34] ++ (ar ++ [34]))).toArray⟩ := ByteArray.ext (by simp)
              rw [en]
              clear en k1 k2 k3
              obtain ⟨A2, hA2⟩ : ∃ A2, A2 = A1 ++ ([32, 34] ++ (ar ++ [34])) := ⟨_, rfl⟩
              rw [← hA2]
              have hA2e : Hid (A2 = A1 ++ (if ar.isEmpty then [] else [32, 34] ++ (ar ++ [34]))) := hid (by rw [har, if_neg (by decide)]; exact hA2)
              have hA2l : A2.length ≤ 3000000000008 := by rw [hA2]; simp only [List.length_append, List.length_cons, List.length_nil]; omega
              clear hA2
              replace har := hid har
              by_cases hc0 : 0 < cn
              · have c1 : decide ((0 : Int) < (cn : Int)) = true := decide_eq_true (by omega)
                have c2 : (0 : Int) < (cn : Int) := by omega
                have hNum := hid (fun w => rnumber_any cn hcn w)
                have hdl : (dg cn).length ≤ 6 := by
                  have := dec_len (c := (cn : Int)) (by omega) (by omega)
                  unfold dg; rw [if_neg (by omega)]; simpa using this
                have k1 : ¬ 9223372036854775807 < A2.length + 1 := by omega
                have k2 : ¬ 9223372036854775807 < A2.length + 1 + (dg cn).length := by omega
                go_wp2_with fail
                refine (hNum.out _).mono ?_
                rintro e wn ⟨rfl, hxn⟩
                have g6 := hxn.cell g6 (fun h => h)
                have hks := hid (hks.out.mod hxn (fun _ _ h => h))
                have hx := hid (hx.out.trans hxn)
                clear hNum hxn
                go_upto_region 27 with fail
                have en : (⟨A2.toArray⟩ ++ ⟨#[32]⟩ ++ ⟨(dg cn).toArray⟩ : ByteArray) = ⟨(A2 ++ (32 :: dg cn)).toArray⟩ := ByteArray.ext (by simp)
                rw [en]
                clear en k1 k2
                obtain ⟨A3, hA3⟩ : ∃ A3, A3 = A2 ++ (32 :: dg cn) := ⟨_, rfl⟩
                rw [← hA3]
                have hA3e : Hid (A3 = A2 ++ (if (cn : Int) = 0 then [] else 32 :: dec (cn : Int).toNat)) := hid (by
                  rw [if_neg (by omega), hA3]; unfold dg; rw [if_neg (by omega)]; rfl)
                have hA3l : A3.length ≤ 3000000000018 := by rw [hA3]; simp only [List.length_append, List.length_cons]; omega
                clear hA3
                have k1 : ¬ 9223372036854775807 < A3.length + 1 := by omega
                have k2 : ¬ 9223372036854775807 < A3.length + 1 + FK.length := by omega
                have k3 : ¬ 9223372036854775807 < A3.length + 1 + FK.length + 5 := by omega
                go_wp2_with fail
                refine (hC.out _ hks.out).mono ?_
                rintro e wb ⟨rfl, hxb⟩
                have hx := hid (hx.out.trans hxb)
                go_wp2_with fail

                go_roundg c
                case measure => omega
                case rel =>
                  refine ⟨i + 1, A3 ++ (125 :: (FK ++ [123, 101, 110, 100, 125])), by omega, by go_num, ?_, hx.out, hid ?_⟩
                  · first | rfl | (congr 1; apply ByteArray.ext; simp)
                  · rw [hv2.out]
                    rw [hA3e.out, hA2e.out, hA1.out, hFK.out]; simp [formN, wFor, wEnd]
              · have c1 : decide ((0 : Int) < (cn : Int)) = false := decide_eq_false (by omega)
                have c2 : ¬ (0 : Int) < (cn : Int) := by omega
                go_upto_region 27 with fail
                have hA3e : Hid (A2 = A2 ++ (if (cn : Int) = 0 then [] else 32 :: dec (cn : Int).toNat)) := hid (by rw [if_pos (by omega), List.append_nil])
                have hA3l : A2.length ≤ 3000000000018 := by omega
                obtain ⟨A3, hA3⟩ : ∃ A3, A3 = A2 ++ ([] : Bs) := ⟨_, rfl⟩
                rw [List.append_nil] at hA3
                rw [← hA3] at hA3l ⊢
                have hA3e : Hid (A3 = A2 ++ (if (cn : Int) = 0 then [] else 32 :: dec (cn : Int).toNat)) := hid (by rw [hA3]; exact hA3e.out)
                clear hA3
                have k1 : ¬ 9223372036854775807 < A3.length + 1 := by omega
                have k2 : ¬ 9223372036854775807 < A3.length + 1 + FK.length := by omega
                have k3 : ¬ 9223372036854775807 < A3.length + 1 + FK.length + 5 := by omega
                go_wp2_with fail
                refine (hC.out _ hks.out).mono ?_
                rintro e wb ⟨rfl, hxb⟩
                have hx := hid (hx.out.trans hxb)
                go_wp2_with fail

                go_roundg c
                case measure => omega
                case rel =>
                  refine ⟨i + 1, A3 ++ (125 :: (FK ++ [123, 101, 110, 100, 125])), by omega, by go_num, ?_, hx.out, hid ?_⟩
                  · first | rfl | (congr 1; apply ByteArray.ext; simp)
                  · rw [hv2.out]
                    rw [hA3e.out, hA2e.out, hA1.out, hFK.out]; simp [formN, wFor, wEnd]
          · have q3 : ((kd : Int) == 3) = false := by rw [beq_eq_false_iff_ne]; omega
            by_cases h4 : kd = 4
            · subst h4
              have hvv := hvn.out
              rw [valN, if_neg (by decide), if_neg (by decide), if_neg (by decide), if_pos rfl] at hvv
              simp only [Bool.and_eq_true, decide_eq_true_eq] at hvv

              have hd8 := hvv.1.1.1.1
              have hvk := hid hvv.1.2
              have hve := hid hvv.2
              clear hvv
              obtain ⟨k', hk'⟩ : ∃ k', k = k' + 1 := ⟨k - 1, by omega⟩
              have hC := hid (fun w (h : NodesAt F w (.slice a2 m2 x2) ks) => ih.out k' hk' F _ ks (d + 1) false w (by omega) h hvk.out hbk.out)
              have hC2 := hid (fun w (h : NodesAt F w (.slice a3 m3 x3) es) => ih.out k' hk' F _ es (d + 1) false w (by omega) h hve.out hbe.out)
              have hfk := bL_form ks (d + 1) false hvk.out
              have hfkl : (formL ks).length ≤ 1000000000000 := by have := hbk.out; omega
              have hfe := bL_form es (d + 1) false hve.out
              have hfel : (formL es).length ≤ 1000000000000 := by have := hbe.out; omega
              replace hk' := hid hk'
              clear hfk hfe
              obtain ⟨FK, hFK⟩ : ∃ FK, FK = formL ks := ⟨_, rfl⟩
              rw [← hFK] at hC hfkl
              replace hFK := hid hFK
              obtain ⟨FE, hFE⟩ : ∃ FE, FE = formL es := ⟨_, rfl⟩
              rw [← hFE] at hC2 hfel
              replace hFE := hid hFE
              have k1 : ¬ 9223372036854775807 < acc.length + 4 := by omega
              have k2 : ¬ 9223372036854775807 < acc.length + 4 + nm.length := by omega
              have k3 : ¬ 9223372036854775807 < acc.length + 4 + nm.length + 1 := by omega
              have k4 : ¬ 9223372036854775807 < acc.length + 4 + nm.length + 1 + FK.length := by omega
              go_upto_region 29 with fail
              have hxd := Mod.drew0 (fun _ => False) wq
              have e2 := hxd.cell g2 (fun h => h)
              have e6 := hxd.cell g6 (fun h => h)
              have e7 := hxd.cell g7 (fun h => h)
              have hks := hid (hks.out.mod hxd (fun _ _ h => h))
              have hes := hid (hes.out.mod hxd (fun _ _ h => h))
              have hx := hid (hx.out.trans hxd)
              refine wp_region_sched (fun w' => w'.cell? ⟨Q, 2, none⟩ = some (.string ⟨nm.toArray⟩) ∧ w'.cell? ⟨Q, 6, none⟩ = some (.slice a2 m2 x2)) [(0, true), (1, true), (2, true), (3, true), (4, true), (5, true), (6, true), (7, true), (8, false), (9, true), (10, true)] (by as_aux_lemma => kernel_rfl) (by as_aux_lemma => kernel_rfl) (by as_aux_lemma => kernel_rfl) (by decide) ⟨e2, e6⟩ ?_
              simp only [schedOps, List.map_cons, List.map_nil, List.getD_cons_zero, List.getD_cons_succ]
              generalize wq.drew = wd at e2 e6 e7 hks hes hx ⊢
              clear hxd g0 g1 g2 g3 g4 g5 g6 g7
              repeat (refine wpS_q (by rfl) ?_ (fun w' hC => ?_) ?_; rotate_left; (obtain ⟨q0, q1⟩ := hC; go_simp; try with_reducible rfl); try simp only [Act.put, List.setIfInBounds_toArray, List.set_cons_zero, List.set_cons_succ])
              refine wpS_c (by rfl) (fun K hK => ?_)
              go_simp
              refine (hC.out wd hks.out).mono ?_
              rintro e wb ⟨rfl, hxb⟩
              have e2 := hxb.cell e2 (fun h => h)
              have e6 := hxb.cell e6 (fun h => h)
              have g7 := hxb.cell e7 (fun h => h)
              refine hK.out _ _ ⟨e2, e6⟩ ?_
              clear hK K
              try simp only [Act.put, List.setIfInBounds_toArray, List.set_cons_zero, List.set_cons_succ]
              have hes := hid (hes.out.mod hxb (fun _ _ h => h))
              have hx := hid (hx.out.trans hxb)
              clear hxb hC hks
              repeat (refine wpS_q (by rfl) ?_ (fun w' hC => ?_) ?_; rotate_left; (obtain ⟨q0, q1⟩ := hC; go_simp; try with_reducible rfl); try simp only [Act.put, List.setIfInBounds_toArray, List.set_cons_zero, List.set_cons_succ])
              refine wpS_nil ?_
              have en : (⟨acc.toArray⟩ ++ ⟨#[123, 105, 102, 32]⟩ ++ ⟨nm.toArray⟩ ++ ⟨#[125]⟩ ++ ⟨FK.toArray⟩ : ByteArray) = ⟨(acc ++ ([123, 105, 102, 32] ++ (nm ++ (125 :: FK)))).toArray⟩ := ByteArray.ext (by simp)
              rw [en]
              clear en k1 k2 k3 k4 e2 e6 e7
              obtain ⟨A1, hA1⟩ : ∃ A1, A1 = acc ++ ([123, 105, 102, 32] ++ (nm ++ (125 :: FK))) := ⟨_, rfl⟩
              rw [← hA1]
              have hA1l : A1.length ≤ 3000000000008 := by rw [hA1]; simp only [List.length_append, List.length_cons, List.length_nil]; omega
              replace hA1 := hid hA1
              have k1 : ¬ 9223372036854775807 < A1.length + 5 := by omega
              by_cases hm0 : 0 < m3
              · have c1 : decide ((0 : Int) < (m3 : Int)) = true := decide_eq_true (by omega)
                have c2 : (0 : Int) < (m3 : Int) := by omega
                have hee : Hid (es.isEmpty = false) := hid (by
                  have := hm3c.out
                  cases es with
                  | nil => simp at this; omega
                  | cons a r => rfl)
                have k2 : ¬ 9223372036854775807 < A1.length + 6 := by omega
                have k3 : ¬ 9223372036854775807 < A1.length + 6 + FE.length := by omega
                have k4 : ¬ 9223372036854775807 < A1.length + 6 + FE.length + 5 := by omega
                go_wp2_with fail
                refine (hC2.out _ hes.out).mono ?_
                rintro e wc ⟨rfl, hxc⟩
                have hx := hid (hx.out.trans hxc)
                clear hxc
                go_wp2_with fail
                go_roundg c
                case measure => omega
                case rel =>
                  refine ⟨i + 1, A1 ++ ([123, 101, 108, 115, 101, 125] ++ (FE ++ [123, 101, 110, 100, 125])), by omega, by go_num, ?_, hx.out, hid ?_⟩
                  · first | rfl | (congr 1; apply ByteArray.ext; simp)
                  · rw [hv2.out]
                    rw [hA1.out, hFK.out, hFE.out]; simp [formN, wIf, wEnd, wElse, hee.out]
              · have c1 : decide ((0 : Int) < (m3 : Int)) = false := decide_eq_false (by omega)
                have c2 : ¬ (0 : Int) < (m3 : Int) := by omega
                have hee : Hid (es.isEmpty = true) := hid (by
                  have := hm3c.out
                  cases es with
                  | nil => rfl
                  | cons a r => simp at this; omega)
                go_wp2_with fail
                go_roundg c
                case measure => omega
                case rel =>
                  refine ⟨i + 1, A1 ++ [123, 101, 110, 100, 125], by omega, by go_num, ?_, hx.out, hid ?_⟩
                  · first | rfl | (congr 1; apply ByteArray.ext; simp)
                  · rw [hv2.out]
                    rw [hA1.out, hFK.out]; simp [formN, wIf, wEnd, hee.out]
            · have q4 : ((kd : Int) == 4) = false := by rw [beq_eq_false_iff_ne]; omega
              have h5 : kd = 5 := by
                have := hvn.out
                simp only [valN, if_neg h1, if_neg h2, if_neg h3, if_neg h4, Bool.and_eq_true, decide_eq_true_eq] at this
                exact this.1.1
              subst h5
              have k1 : ¬ 9223372036854775807 < acc.length + 9 := by omega
              have k2 : ¬ 9223372036854775807 < acc.length + 9 + nm.length := by omega
              have k3 : ¬ 9223372036854775807 < acc.length + 9 + nm.length + 1 := by omega
              go_wp2_with fail

              go_roundg c
              case measure => omega
              case rel =>
                refine ⟨i + 1, acc ++ ([123, 105, 110, 99, 108, 117, 100, 101, 32] ++ (nm ++ [125])), by omega, by go_num, ?_, hx.out, hid ?_⟩
                · first | rfl | (congr 1; apply ByteArray.ext; simp)
                · rw [hv2.out]
                  simp [formN, wInclude]
theorem rform_any : ∀ k : Nat, RFormC k
  | 0 => rform_step 0 (fun k' h => by omega)
  | k + 1 => rform_step (k + 1) (fun k' h => by
    have : k' = k := by omega
    subst this
    exact rform_any k')
end Go.Proofs.YtpgniljgaknlpaaGreatDoor
