import Derived.Test.YtpgniljgaknlpaaGreatDoorK17
/-
  The printer's 'field'.
-/
namespace Go.Proofs.YtpgniljgaknlpaaGreatDoor
open Go.RowKit Cdk Tpl


theorem blk_lt {base P : Nat} {tx : Bs} {w : World} (h : Pr base P tx w) : base < w.heap.size := by
  obtain ⟨v0, hP0, -⟩ := h.cell
  have := lt_of_at hP0
  have := h.low
  omega

theorem row_old {base : Nat} {w w1 w2 : World} {ao : Option Addr} {cs : List Value} (_h0 : RowIs w ao cs) (h : RowIs w1 ao cs) (hm : Mod (fun k => base ≤ k) w1 w2) (hb : ∀ b off, ao = some ⟨b, off, none⟩ → b < base) : RowIs w2 ao cs :=
  h.mod hm (fun b off e e' => by have := hb b off e; omega)

set_option maxRecDepth 100000 in
set_option maxHeartbeats 8000000 in
theorem pfield_any (base P : Nat) (tx : Bs) (kd : Nat) (s n a : ByteArray) (ct : Int) (p q r : Option Addr) (fl : List Bs) (l m o x y z : Nat) (w : World) (h : Pr base P tx w) (hrow : RowIs w p (fl.flatMap strC)) (hb : ∀ b off, p = some ⟨b, off, none⟩ → b < base) (hfl : fl.length ≤ 1000000000) (hll : l = fl.length) :
    Calls Tryz.prog 50 #[.pointer (some ⟨P, 0, none⟩), .agg #[.int .i64 kd, .string s, .string n, .string a, .int .i64 ct, .slice p l x, .slice q m y, .slice r o z]] w
      (PrP base P w ((nameOk n.data.toList && !isKw n.data.toList && (s.data.toList.isEmpty && a.data.toList.isEmpty && decide (ct = 0) && decide (m = 0) && decide (o = 0)) && fl.all nameOk) && decide ((tx ++ 123 :: (n.data.toList ++ (fl.flatMap (fun x => 124 :: x) ++ [125]))).length ≤ 1000)) (tx ++ 123 :: (n.data.toList ++ (fl.flatMap (fun x => 124 :: x) ++ [125])))) := by
  obtain ⟨V, hV⟩ : ∃ V, V = (nameOk n.data.toList && !isKw n.data.toList && (s.data.toList.isEmpty && a.data.toList.isEmpty && decide (ct = 0) && decide (m = 0) && decide (o = 0)) && fl.all nameOk) := ⟨_, rfl⟩
  obtain ⟨tx', htx'⟩ : ∃ tx', tx' = tx ++ 123 :: (n.data.toList ++ (fl.flatMap (fun x => 124 :: x) ++ [125])) := ⟨_, rfl⟩
  rw [← hV, ← htx']
  obtain ⟨post, hpost⟩ : ∃ post, post = PrP base P w (V && decide (tx'.length ≤ 1000)) tx' := ⟨_, rfl⟩
  rw [← hpost]
  replace hpost := hid hpost
  replace hV := hid hV
  replace htx' := hid htx'
  have hPw := blk_lt h
  have hPs : P < w.heap.size := by obtain ⟨v0, hP0, -⟩ := h.cell; exact lt_of_at hP0
  have hlow := h.low
  have hbx := Mod.alloc (Mod.refl (fun _ => False) w) (.cells #[.int .i64 kd, .string s, .string n, .string a, .int .i64 ct, .slice p l x, .slice q m y, .slice r o z] 36)
  have hbq := heap_alloc_new w (.cells #[.int .i64 kd, .string s, .string n, .string a, .int .i64 ct, .slice p l x, .slice q m y, .slice r o z] 36)
  replace hbx := hid hbx
  replace hbq := hid hbq
  replace h := hid h
  replace hrow := hid hrow
  replace hb := hid hb
  have hl6 : l ≤ 1000000000 := by omega
  replace hfl := hid hfl
  replace hll := hid hll
  have fail : ∀ (e : Ending) (w' : World), V = false → e = .panicked [invE] → Mod (fun k => base ≤ k) w w' → post e w' := fun e w' hv he hm => by
    rw [hpost.out]; exact .inr ⟨by rw [hv, Bool.false_and], he, hm⟩
  have fail2 : ∀ (e : Ending) (w' : World), 1000 < tx'.length → e = .panicked [invE] → Mod (fun k => base ≤ k) w w' → post e w' := fun e w' hv he hm => by
    rw [hpost.out]; exact .inr ⟨by rw [decide_eq_false (by omega), Bool.and_false], he, hm⟩
  replace fail := hid fail
  replace fail2 := hid fail2
  have hN := hid (isName_any n)
  have hK := hid (isKeyword_any n.data.toList)
  go_enter Tryz.func50, Tryz.ntmps50
  go_wp2_with fail
  have hbx := hbx.out
  have hbq := hbq.out
  generalize hQ : w.heap.size = Q at hbq hPw ⊢
  generalize (w.alloc (.cells #[.int .i64 kd, .string s, .string n, .string a, .int .i64 ct, .slice p l x, .slice q m y, .slice r o z] 36)) = w1 at hbx hbq ⊢
  obtain ⟨c0, c1, c2, c3, c4, c5, c6, c7⟩ := cells8 hbq
  have h1 := hid (h.out.ext hbx)
  have hm1 := hid (Kp.ofExt base P hbx)
  replace hbq := hid hbq
  have hQP : Hid (Q ≠ P) := hid (by omega)
  clear hPs
  replace hQ := hid hQ
  have hrow1 := hid (hrow.out.ext hbx)
  clear hbx
  refine (hN.out w1).mono ?_; rintro e w' ⟨rfl, rfl⟩
  generalize hbn : nameOk n.data.toList = bn
  cases bn with
  | false =>
    replace hbn := hid hbn
    go_wp2_with fail
    refine (require_false _).mono ?_; rintro e w' ⟨rfl, rfl⟩
    go_wp2_with fail
    exact ⟨rfl, fail.out _ _ (by rw [hV.out, hbn.out]; rfl) rfl hm1.out.1⟩
  | true =>
    replace hbn := hid hbn
    go_wp2_with fail
    refine (hK.out w1).mono ?_; rintro e w' ⟨rfl, rfl⟩
    generalize hbk : isKw n.data.toList = bk
    replace hbk := hid hbk
    cases bk with
    | true =>
      go_wp2_with fail
      refine (require_false _).mono ?_; rintro e w' ⟨rfl, rfl⟩
      go_wp2_with fail
      exact ⟨rfl, fail.out _ _ (by rw [hV.out, hbn.out, hbk.out]; rfl) rfl hm1.out.1⟩
    | false =>
      go_wp2_with fail
      refine (require_true _).mono ?_; rintro e w' ⟨rfl, rfl⟩
      go_wp2_with fail
      have ho := hid (only_b kd 0 s ⟨#[]⟩ n n a ⟨#[]⟩ ct 0 p p q none r none l l m 0 o 0 x x y 0 z 0 w1)
      rw [show (⟨#[]⟩ : ByteArray).data.toList = [] from rfl, dec_self, dec_nil, dec_nil, show decide (l = l) = true by simp, Bool.true_and, Bool.true_and] at ho
      generalize hB : (s.data.toList.isEmpty && (a.data.toList.isEmpty && (decide (ct = 0) && (decide (m = 0) && decide (o = 0))))) = B at ho
      have hB2 : (s.data.toList.isEmpty && a.data.toList.isEmpty && decide (ct = 0) && decide (m = 0) && decide (o = 0)) = B := by rw [← hB]; simp only [Bool.and_assoc]
      rw [hB2, hbn.out, hbk.out] at hV
      clear hB hB2
      refine ho.out.mono ?_; rintro e w2 ⟨rfl, hx2⟩
      clear ho c0 c1 c2 c3 c4 c5 c6 c7
      have hbq2 := hx2.at hbq.out (fun h => h)
      obtain ⟨c0, c1, c2, c3, c4, c5, c6, c7⟩ := cells8 hbq2
      have h2 := hid (h1.out.ext hx2)
      have hm2 := hid (hm1.out.ext hx2)
      have hrow2 := hid (hrow1.out.ext hx2)
      clear hx2 h1 hm1 hrow1
      replace hbq2 := hid hbq2
      cases B with
      | false =>
        go_wp2_with fail
        refine (require_false _).mono ?_; rintro e w' ⟨rfl, rfl⟩
        go_wp2_with fail
        exact ⟨rfl, fail.out _ _ (by rw [hV.out]; rfl) rfl hm2.out.1⟩
      | true =>
        have hV' : Hid (V = fl.all nameOk) := hid (by rw [hV.out]; simp)
        clear hV
        go_wp2_with fail
        refine (require_true _).mono ?_; rintro e w' ⟨rfl, rfl⟩
        go_wp2_with fail
        have hx4 := Mod.alloc (Mod.refl (fun _ => False) w2) (.cells #[.string ⟨#[123]⟩, .string n] 9)
        have hz4 : (w2.alloc (.cells #[.string ⟨#[123]⟩, .string n] 9)).heap[w2.heap.size]? = some (.cells ([[123], n.data.toList].map strV).toArray 9) := heap_alloc_new w2 _
        have hp4 := hid (put_any base P tx [[123], n.data.toList] w2.heap.size _ (h2.out.ext hx4) hz4 (by simp))
        have hm4 := hid (hm2.out.ext hx4)
        have hrow4 := hid (hrow2.out.ext hx4)
        have hbq4 := hid (hx4.at hbq2.out (fun h => h))
        clear hx4 hz4 c0 c1 c2 c3 c4 c5 c6 c7 hbq2 hbq
        refine hp4.out.mono ?_
        rw [show [[123], n.data.toList].flatten = 123 :: n.data.toList by simp]
        clear hp4
        rintro e w5 (⟨hok5, rfl, hr5, hm5⟩ | ⟨hok5, rfl, hm5⟩)
        · replace hok5 := hid hok5
          have hm5' := hid (hm4.out.trans hm5)
          have hbq5 := hid (hm5.2 _ _ _ _ hbq4.out (by decide) hQP.out)
          have hrow5 := hid (row_old hrow.out hrow4.out hm5.1 hb.out)
          obtain ⟨c0, c1, c2, c3, c4, c5, c6, c7⟩ := cells8 hbq5.out
          replace hr5 := hid hr5
          clear hm5 hm4
          go_wp2_with fail
          clear c0 c1 c2 c3 c4 c5 c6 c7
          obtain ⟨t0, ht0⟩ : ∃ t0, t0 = tx ++ 123 :: n.data.toList := ⟨_, rfl⟩
          rw [← ht0] at hr5
          replace ht0 := hid ht0
          go_loopg [32] l (fun g i wr => ∃ k : Nat, k + g = l ∧ i = .int .i64 k ∧ Pr base P (t0 ++ (fl.take k).flatMap (fun x => 124 :: x)) wr ∧ RowIs wr p (fl.flatMap strC) ∧ Kp base P w wr ∧ Hid (∀ j (h : j < fl.length), j < k → nameOk fl[j] = true))
          case atStart => exact ⟨0, by omega, rfl, by simpa using hr5.out, hrow5.out, hm5'.out, hid (fun j _ h => by omega)⟩
          case round =>
            clear hm5' hr5 hrow5
            obtain ⟨k, hk, rfl, hp, hrw, hm, hw⟩ := hrel
            replace hk := hid hk
            have hkl : k ≤ l := by have := hk.out; omega
            by_cases hlt : k < l
            · have hd : decide ((k : Int) < (l : Int)) = true := decide_eq_true (by omega)
              have hdi : (k : Int) < (l : Int) := by omega
              have hkf : k < fl.length := by have := hll.out; omega
              obtain ⟨s1, hs1⟩ : ∃ s1, s1 = fl[k] := ⟨_, rfl⟩
              obtain ⟨bb, bo, rfl, hc⟩ := hrw.at (by rw [flat_length _ 1 strC_len]; omega)
              have g0 := hc _ _ ((flat_get strC 1 strC_len fl k 0 fl[k] (List.getElem?_eq_getElem hkf) (by omega)).trans rfl)
              simp only [Nat.mul_one, Nat.add_zero, strV, ← hs1] at g0
              clear hc
              have hsn : Hid ((fl.take (k + 1)).flatMap (fun x => 124 :: x) = (fl.take k).flatMap (fun x => 124 :: x) ++ 124 :: s1) := hid (by rw [List.take_succ_eq_append_getElem hkf, ← hs1, List.flatMap_append]; simp)
              have hsn2 : Hid (((fl.take k).flatMap (fun x => 124 :: x)).length + 1 + s1.length ≤ (fl.flatMap (fun x => 124 :: x)).length) := hid (by
                conv => rhs; rw [← List.take_append_drop (k + 1) fl, List.flatMap_append, List.length_append, hsn.out, List.length_append]
                simp only [List.length_cons]; omega)
              replace hs1 := hid hs1
              replace hp := hid hp
              replace hrw := hid hrw
              replace hm := hid hm
              have hN1 := hid (isName_any ⟨s1.toArray⟩ wr)
              go_wp2_with fail
              refine hN1.out.mono ?_; rintro e w' ⟨rfl, rfl⟩
              clear hN1
              generalize hb1 : nameOk s1 = b1
              replace hb1 := hid hb1
              cases b1 with
              | false =>
                go_wp2_with fail
                refine (require_false _).mono ?_; rintro e w' ⟨rfl, rfl⟩
                go_wp2_with fail
                refine ⟨rfl, fail.out _ _ ?_ rfl hm.out.1⟩
                rw [hV'.out, Bool.eq_false_iff]
                intro e
                have := List.all_eq_true.1 e _ (List.getElem_mem hkf)
                rw [← hs1.out, hb1.out] at this
                cases this
              | true =>
                go_wp2_with fail
                refine (require_true _).mono ?_; rintro e w' ⟨rfl, rfl⟩
                go_wp2_with fail
                have hx6 := Mod.alloc (Mod.refl (fun _ => False) wr) (.cells #[.string ⟨#[124]⟩, .string ⟨s1.toArray⟩] 9)
                have hz6 : (wr.alloc (.cells #[.string ⟨#[124]⟩, .string ⟨s1.toArray⟩] 9)).heap[wr.heap.size]? = some (.cells ([[124], s1].map strV).toArray 9) := heap_alloc_new wr _
                have hp6 := hid (put_any base P _ [[124], s1] wr.heap.size _ (hp.out.ext hx6) hz6 (by simp))
                have hm6 := hid (hm.out.ext hx6)
                have hrw6 := hid (hrw.out.ext hx6)
                clear hx6 hz6
                refine hp6.out.mono ?_
                rw [show [[124], s1].flatten = 124 :: s1 by simp]
                clear hp6
                rintro e w7 (⟨hok7, rfl, hr7, hm7⟩ | ⟨hok7, rfl, hm7⟩)
                · have hrw7 := hid (row_old hrow.out hrw6.out hm7.1 hb.out)
                  replace hok7 := hid hok7
                  replace hr7 := hid hr7
                  replace hm7 := hid hm7
                  go_wp2_with fail
                  go_roundg (gk - 1)
                  case measure => have := hk.out; omega
                  case rel =>
                    refine ⟨k + 1, by have := hk.out; omega, by go_num, ?_, hrw7.out, hm6.out.trans hm7.out, hid (fun j hj hjk => ?_)⟩
                    · rw [hsn.out, ← List.append_assoc]; exact hr7.out
                    · by_cases e : j < k
                      · exact hw.out j hj e
                      · obtain rfl : j = k := by omega
                        rw [← hs1.out]; exact hb1.out
                · replace hok7 := hid hok7
                  replace hm7 := hid hm7
                  go_wp2_with fail
                  refine ⟨rfl, fail2.out _ _ ?_ rfl (hm6.out.1.trans hm7.out)⟩
                  have := hok7.out
                  rw [decide_eq_false_iff_not] at this
                  have h8 := hsn2.out
                  rw [htx'.out]
                  simp only [ht0.out, List.length_append, List.length_cons] at this h8 ⊢
                  omega
            · have hd : decide ((k : Int) < (l : Int)) = false := decide_eq_false (by omega)
              have hdi : ¬ (k : Int) < (l : Int) := by omega
              have hVt : Hid (V = true) := hid (by
                rw [hV'.out, List.all_eq_true]
                intro x hx
                obtain ⟨j, hj, rfl⟩ := List.getElem_of_mem hx
                exact hw.out j hj (by have := hll.out; omega))
              rw [List.take_of_length_le (by have := hll.out; omega)] at hp
              replace hp := hid hp
              replace hrw := hid hrw
              replace hm := hid hm
              go_wp2_with fail
              have hx6 := Mod.alloc (Mod.refl (fun _ => False) wr) (.cells #[.string ⟨#[125]⟩] 9)
              have hz6 : (wr.alloc (.cells #[.string ⟨#[125]⟩] 9)).heap[wr.heap.size]? = some (.cells ([[125]].map strV).toArray 9) := heap_alloc_new wr _
              have hp6 := hid (put_any base P _ [[125]] wr.heap.size _ (hp.out.ext hx6) hz6 (by simp))
              have hm6 := hid (hm.out.ext hx6)
              clear hx6 hz6
              have htxe : Hid (t0 ++ fl.flatMap (fun x => 124 :: x) ++ [[125]].flatten = tx') := hid (by rw [htx'.out, ht0.out]; simp)
              rw [htxe.out] at hp6
              refine hp6.out.mono ?_
              clear hp6
              rintro e w7 (⟨hok7, rfl, hr7, hm7⟩ | ⟨hok7, rfl, hm7⟩)
              · replace hok7 := hid hok7
                replace hr7 := hid hr7
                replace hm7 := hid hm7
                go_wp2_with fail
                go_end0
                rw [hpost.out]
                exact .inl ⟨by rw [hVt.out, hok7.out]; rfl, rfl, hr7.out, hm6.out.trans hm7.out⟩
              · replace hok7 := hid hok7
                replace hm7 := hid hm7
                go_wp2_with fail
                refine ⟨rfl, ?_⟩
                rw [hpost.out]
                exact .inr ⟨by rw [hok7.out, Bool.and_false], rfl, hm6.out.1.trans hm7.out⟩
        · replace hok5 := hid hok5
          replace hm5 := hid hm5
          go_wp2_with fail
          refine ⟨rfl, fail2.out _ _ ?_ rfl (hm4.out.1.trans hm5.out)⟩
          have := hok5.out
          rw [decide_eq_false_iff_not] at this
          rw [htx'.out]
          simp only [List.length_append, List.length_cons] at this ⊢
          omega
end Go.Proofs.YtpgniljgaknlpaaGreatDoor
