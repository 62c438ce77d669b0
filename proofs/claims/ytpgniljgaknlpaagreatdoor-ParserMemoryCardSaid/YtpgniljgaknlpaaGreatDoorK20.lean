import Derived.Test.YtpgniljgaknlpaaGreatDoorK19
/-
  The printer's 'loop'.
-/
namespace Go.Proofs.YtpgniljgaknlpaaGreatDoor
open Go.RowKit Cdk Tpl

set_option maxRecDepth 100000 in
set_option maxHeartbeats 16000000 in
theorem ploop_any (k : Nat) (ih : PListC k) (base P : Nat) (tx : Bs) (kd : Nat) (s n a : ByteArray) (ct : Int) (p q r : Option Addr) (ks _es : List Nd) (l m o x y z : Nat) (depth : Nat) (w : World) (hd : depth + k = 8) (h : Pr base P tx w)
    (hks : NodesAt (fun j => j < base) w (.slice q m y) ks) (hkl : ks.length ≤ 1000000000) (hkb : bdL ks) (hml : m = ks.length) :
    Calls Tryz.prog 51 #[.pointer (some ⟨P, 0, none⟩), .agg #[.int .i64 kd, .string s, .string n, .string a, .int .i64 ct, .slice p l x, .slice q m y, .slice r o z], .int .i64 depth] w
      (PrP base P w ((nameOk n.data.toList && decide (0 ≤ ct) && decide (ct ≤ 999999) && (s.data.toList.isEmpty && decide (l = 0) && decide (o = 0)) && a.data.toList.all isA && valL ks depth false) && decide ((tx ++ 123 :: (wFor ++ (32 :: (n.data.toList ++ ((if a.data.toList.isEmpty then [] else [32, 34] ++ (a.data.toList ++ [34])) ++ ((if ct = 0 then [] else 32 :: dec ct.toNat) ++ (125 :: (formL ks ++ (123 :: (wEnd ++ [125])))))))))).length ≤ 1000)) (tx ++ 123 :: (wFor ++ (32 :: (n.data.toList ++ ((if a.data.toList.isEmpty then [] else [32, 34] ++ (a.data.toList ++ [34])) ++ ((if ct = 0 then [] else 32 :: dec ct.toNat) ++ (125 :: (formL ks ++ (123 :: (wEnd ++ [125]))))))))))) := by
  obtain ⟨V, hV⟩ : ∃ V, V = (nameOk n.data.toList && decide (0 ≤ ct) && decide (ct ≤ 999999) && (s.data.toList.isEmpty && decide (l = 0) && decide (o = 0)) && a.data.toList.all isA && valL ks depth false) := ⟨_, rfl⟩
  obtain ⟨tx', htx'⟩ : ∃ tx', tx' = tx ++ 123 :: (wFor ++ (32 :: (n.data.toList ++ ((if a.data.toList.isEmpty then [] else [32, 34] ++ (a.data.toList ++ [34])) ++ ((if ct = 0 then [] else 32 :: dec ct.toNat) ++ (125 :: (formL ks ++ (123 :: (wEnd ++ [125]))))))))) := ⟨_, rfl⟩
  rw [← hV, ← htx']
  obtain ⟨post, hpost⟩ : ∃ post, post = PrP base P w (V && decide (tx'.length ≤ 1000)) tx' := ⟨_, rfl⟩
  rw [← hpost]
  replace hpost := hid hpost
  replace hV := hid hV
  replace htx' := hid htx'
  have hPw := blk_lt h
  have hPs : P < w.heap.size := by obtain ⟨v0, hP0, -⟩ := h.cell; exact lt_of_at hP0
  have hlow := h.low
  have hbx := Mod.alloc (Mod.refl (fun _ => False) w) (.cells #[.int .i64 kd, .string s, .string n, .string a, .int .i64 ct, .slice p l x, .slice q m y, .slice r o z] 36)
  have hbq := heap_alloc_new w (.cells #[.int .i64 kd, .string s, .string n, .string a, .int .i64 ct, .slice p l x, .slice q m y, .slice r o z] 36)
  replace hbx := hid hbx
  replace hbq := hid hbq
  replace h := hid h
  replace ih := hid ih
  replace hks := hid hks
  replace hkl := hid hkl
  replace hkb := hid hkb
  replace hml := hid hml
  have fail : ∀ (e : Ending) (w' : World), V = false → e = .panicked [invE] → Mod (fun k => base ≤ k) w w' → post e w' := fun e w' hv he hm => by
    rw [hpost.out]; exact .inr ⟨by rw [hv, Bool.false_and], he, hm⟩
  have fail2 : ∀ (e : Ending) (w' : World), 1000 < tx'.length → e = .panicked [invE] → Mod (fun k => base ≤ k) w w' → post e w' := fun e w' hv he hm => by
    rw [hpost.out]; exact .inr ⟨by rw [decide_eq_false (by omega), Bool.and_false], he, hm⟩
  replace fail := hid fail
  replace fail2 := hid fail2
  have hN := hid (isName_any n)
  go_enter Tryz.func51, Tryz.ntmps51
  go_wp2_with fail
  have hbx := hbx.out
  have hbq := hbq.out
  generalize hQ : w.heap.size = Q at hbq hPw hPs ⊢
  generalize (w.alloc (.cells #[.int .i64 kd, .string s, .string n, .string a, .int .i64 ct, .slice p l x, .slice q m y, .slice r o z] 36)) = w1 at hbx hbq ⊢
  obtain ⟨c0, c1, c2, c3, c4, c5, c6, c7⟩ := cells8 hbq
  have h1 := hid (h.out.ext hbx)
  have hm1 := hid (Kp.ofExt base P hbx)
  replace hbq := hid hbq
  have hQP : Hid (Q ≠ P) := hid (by omega)
  clear hPs
  replace hQ := hid hQ
  clear hbx
  refine (hN.out w1).mono ?_; rintro e w' ⟨rfl, rfl⟩
  generalize hbn : nameOk n.data.toList = bn
  cases bn with
  | false =>
    replace hbn := hid hbn
    go_wp2_with fail
    refine (require_false _).mono ?_; rintro e w' ⟨rfl, rfl⟩
    go_wp2_with fail
    exact ⟨rfl, fail.out _ _ (by rw [hV.out, hbn.out]; rfl) rfl hm1.out.1⟩
  | true =>
    replace hbn := hid hbn
    by_cases hc0 : 0 ≤ ct
    rotate_left
    · have hf : Hid (V = false) := hid (by rw [hV.out, decide_eq_false hc0]; simp)
      go_wp2_with fail
      refine (require_false _).mono ?_; rintro e w' ⟨rfl, rfl⟩
      go_wp2_with fail
      exact ⟨rfl, fail.out _ _ hf.out rfl hm1.out.1⟩
    by_cases hc1 : ct ≤ 999999
    rotate_left
    · have hf : Hid (V = false) := hid (by rw [hV.out, decide_eq_false hc1]; simp)
      go_wp2_with fail
      refine (require_false _).mono ?_; rintro e w' ⟨rfl, rfl⟩
      go_wp2_with fail
      exact ⟨rfl, fail.out _ _ hf.out rfl hm1.out.1⟩
    have hV2 : Hid (V = (true && (s.data.toList.isEmpty && decide (l = 0) && decide (o = 0)) && a.data.toList.all isA && valL ks depth false)) := hid (by rw [hV.out, hbn.out, decide_eq_true hc0, decide_eq_true hc1]; rfl)
    clear hV
    have hV := hV2
    clear hV2
    by_cases ha : a.size ≤ 1000
    rotate_left
    · have hai : ¬ (a.size : Int) ≤ 1000 := by omega
      have had : decide ((a.size : Int) ≤ 1000) = false := decide_eq_false hai
      have hf : Hid (1000 < tx'.length) := hid (by
        have h5 : a.data.toList.length = a.size := rfl
        have h6 : a.data.toList.isEmpty = false := by
          cases h7 : a.data.toList with
          | nil => rw [h7] at h5; simp at h5; omega
          | cons c r => rfl
        rw [htx'.out, h6]
        simp only [List.length_append, List.length_cons, Bool.false_eq_true, if_false]
        omega)
      go_wp2_with fail
      refine (require_false _).mono ?_; rintro e w' ⟨rfl, rfl⟩
      go_wp2_with fail
      exact ⟨rfl, fail2.out _ _ hf.out rfl hm1.out.1⟩
    have hai : (a.size : Int) ≤ 1000 := by omega
    have had : decide ((a.size : Int) ≤ 1000) = true := decide_eq_true hai
    go_wp2_with fail
    refine (require_true _).mono ?_; rintro e w' ⟨rfl, rfl⟩
    clear had
    go_wp2_with fail
    have ho := hid (only_b kd 0 s ⟨#[]⟩ n n a a ct ct p none q q r none l 0 m m o 0 x 0 y y z 0 w1)
    rw [show (⟨#[]⟩ : ByteArray).data.toList = [] from rfl, dec_self, dec_self, dec_nil, show decide (m = m) = true by simp, show decide (ct = ct) = true by simp, Bool.true_and, Bool.true_and, Bool.true_and, Bool.true_and] at ho
    generalize hB : (s.data.toList.isEmpty && (decide (l = 0) && decide (o = 0))) = B at ho
    have hB2 : (s.data.toList.isEmpty && decide (l = 0) && decide (o = 0)) = B := by rw [← hB]; simp only [Bool.and_assoc]
    rw [hB2] at hV
    clear hB hB2
    refine ho.out.mono ?_; rintro e w3 ⟨rfl, hx2⟩
    clear ho c0 c1 c2 c3 c4 c5 c6 c7
    have hbqw3 := hx2.at hbq.out (fun h => h)
    obtain ⟨c0, c1, c2, c3, c4, c5, c6, c7⟩ := cells8 hbqw3
    have hpw3 := hid (h1.out.ext hx2)
    have hmw3 := hid (hm1.out.ext hx2)
    clear hx2 h1 hm1
    replace hbqw3 := hid hbqw3
    cases B with
    | false =>
      go_wp2_with fail
      refine (require_false _).mono ?_; rintro e w' ⟨rfl, rfl⟩
      go_wp2_with fail
      exact ⟨rfl, fail.out _ _ (by rw [hV.out]; rfl) rfl hmw3.out.1⟩
    | true =>
      obtain ⟨tw3, htw3⟩ : ∃ t, t = tx := ⟨_, rfl⟩
      rw [← htw3] at hpw3 htx'
      have prew3 := htx'
      go_wp2_with fail
      refine (require_true _).mono ?_; rintro e w' ⟨rfl, rfl⟩
      clear htw3 hbq
      have hall := hid (argOk_eq a)
      go_wp2_with fail
      go_loopg [6] a.size (fun g i wr => ∃ k : Nat, k + g = a.size ∧ i = .int .i64 k ∧ w3 = wr ∧ Hid (∀ (j : Nat) (h : j < a.size), j < k → isA a[j] = true))
      case atStart => exact ⟨0, by omega, rfl, rfl, hid (fun j _ h => by omega)⟩
      case round =>
        obtain ⟨k, hk, rfl, rfl, hw⟩ := hrel
        replace hk := hid hk
        have hks9 : k ≤ a.size := by have := hk.out; omega
        by_cases hlt : k < a.size
        · have hdl : decide ((k : Int) < (a.size : Int)) = true := decide_eq_true (by omega)
          have hdi : (k : Int) < (a.size : Int) := by omega
          have hT : Hid (isA a[k] = (isP a[k] && !decide (a[k].toNat = 34))) := hid rfl
          have hw2 : Hid (isA a[k] = true → ∀ (j : Nat) (h : j < a.size), j < k + 1 → isA a[j] = true) := hid (fun hb j hj hjk => by
            by_cases e : j < k
            · exact hw.out j hj e
            · obtain rfl : j = k := by omega
              exact hb)
          have hbad : Hid (isA a[k] = false → V = false) := hid (fun hb => by
            have : a.data.toList.all isA = false := by
              rw [Bool.eq_false_iff]
              intro e
              have := hall.out.1 e k hlt
              rw [hb] at this
              cases this
            rw [hV.out, this]; rfl)
          have hpp := hid (pprintable_any a[k] w3)
          generalize hpk : isP a[k] = bp at hpp hT
          replace hpk := hid hpk
          go_wp2_with fail
          refine hpp.out.mono ?_; rintro e w' ⟨rfl, rfl⟩
          cases bp with
          | false =>
            go_wp2_with fail
            refine (require_false _).mono ?_; rintro e w' ⟨rfl, rfl⟩
            go_wp2_with fail
            exact ⟨rfl, fail.out _ _ (hbad.out (by rw [hT.out]; rfl)) rfl hmw3.out.1⟩
          | true =>
            by_cases h34 : a[k].toNat = 34
            · have gq : ((a[k].toNat : Int) != 34) = false := by rw [bne_eq_false_iff_eq]; omega
              have hb : Hid (isA a[k] = false) := hid (by rw [hT.out, decide_eq_true h34]; rfl)
              replace h34 := hid h34
              go_wp2_with fail
              refine (require_false _).mono ?_; rintro e w' ⟨rfl, rfl⟩
              go_wp2_with fail
              exact ⟨rfl, fail.out _ _ (hbad.out hb.out) rfl hmw3.out.1⟩
            · have gq : ((a[k].toNat : Int) != 34) = true := by rw [bne_iff_ne]; omega
              have hb : Hid (isA a[k] = true) := hid (by rw [hT.out, decide_eq_false h34]; rfl)
              replace h34 := hid h34
              go_wp2_with fail
              refine (require_true _).mono ?_; rintro e w' ⟨rfl, rfl⟩
              go_wp2_with fail
              go_roundg (gk - 1)
              case measure => have := hk.out; omega
              case rel => exact ⟨k + 1, by have := hk.out; omega, by go_num, rfl, hid (hw2.out hb.out)⟩
        · have hdl : decide ((k : Int) < (a.size : Int)) = false := decide_eq_false (by omega)
          have hdi : ¬ (k : Int) < (a.size : Int) := by omega
          have hall2 : Hid (a.data.toList.all isA = true) := hid (hall.out.2 (fun j hj => hw.out j hj (by omega)))
          clear hw hall
          have hqz : (ct != 0) = !decide (ct = 0) := by rw [Bool.eq_iff_iff, bne_iff_ne]; simp
          by_cases h0 : 0 < a.size
          · obtain ⟨f1, f2⟩ := full_toList h0
            have haE : Hid (a.data.toList.isEmpty = false) := hid (by rw [← ByteArray.toList_eq]; exact f1)
            by_cases hcz : ct = 0
            · rw [decide_eq_true hcz] at hqz
              replace hcz := hid hcz
              go_wp2_with fail
              have hx := Mod.alloc (Mod.refl (fun _ => False) w3) (.cells #[.string ⟨#[123]⟩, .string ⟨#[102, 111, 114]⟩, .string ⟨#[32]⟩, .string n] 9)
              have hz : (w3.alloc (.cells #[.string ⟨#[123]⟩, .string ⟨#[102, 111, 114]⟩, .string ⟨#[32]⟩, .string n] 9)).heap[w3.heap.size]? = some (.cells ([[123], wFor, [32], n.data.toList].map strV).toArray 9) := heap_alloc_new w3 _
              have hpp := hid (put_any base P _ [[123], wFor, [32], n.data.toList] w3.heap.size _ (hpw3.out.ext hx) hz (by simp))
              have hmA := hid (hmw3.out.ext hx)
              have hbqA := hid (hx.at hbqw3.out (fun h => h))
              clear hx hz c0 c1 c2 c3 c4 c5 c6 c7
              have prew20 := hid (pre_step prew3.out (piece := [[123], wFor, [32], n.data.toList].flatten) (r' := 32 :: 34 :: (a.data.toList ++ (34 :: (125 :: (formL ks ++ (123 :: (wEnd ++ [125]))))))) (by simp [haE.out, hcz.out]))
              generalize tw3 ++ [[123], wFor, [32], n.data.toList].flatten = tw20 at hpp prew20
              refine hpp.out.mono ?_
              clear hpp
              rintro e w20 (⟨hokw20, rfl, hpw20, hmB⟩ | ⟨hokw20, rfl, hmB⟩)
              rotate_left
              · replace hokw20 := hid hokw20
                replace hmB := hid hmB
                go_wp2_with fail
                exact ⟨rfl, fail2.out _ _ (pre_fail prew20.out hokw20.out) rfl (hmA.out.1.trans hmB.out)⟩
              have hbqw20 := hmB.2 _ _ _ _ hbqA.out (by decide) hQP.out
              have hmw20 := hid (hmA.out.trans hmB)
              obtain ⟨c0, c1, c2, c3, c4, c5, c6, c7⟩ := cells8 hbqw20
              replace hbqw20 := hid hbqw20
              replace hpw20 := hid hpw20
              replace hokw20 := hid hokw20
              clear hmA hmB hbqA
              go_wp2_with fail

              have hx := Mod.alloc (Mod.refl (fun _ => False) w20) (.cells #[.string ⟨#[32, 34]⟩, .string a, .string ⟨#[34]⟩] 9)
              have hz : (w20.alloc (.cells #[.string ⟨#[32, 34]⟩, .string a, .string ⟨#[34]⟩] 9)).heap[w20.heap.size]? = some (.cells ([[32, 34], a.data.toList, [34]].map strV).toArray 9) := heap_alloc_new w20 _
              have hpp := hid (put_any base P _ [[32, 34], a.data.toList, [34]] w20.heap.size _ (hpw20.out.ext hx) hz (by simp))
              have hmA := hid (hmw20.out.ext hx)
              have hbqA := hid (hx.at hbqw20.out (fun h => h))
              clear hx hz c0 c1 c2 c3 c4 c5 c6 c7
              have prew21 := hid (pre_step prew20.out (piece := [[32, 34], a.data.toList, [34]].flatten) (r' := 125 :: (formL ks ++ (123 :: (wEnd ++ [125])))) (by simp))
              generalize tw20 ++ [[32, 34], a.data.toList, [34]].flatten = tw21 at hpp prew21
              refine hpp.out.mono ?_
              clear hpp
              rintro e w21 (⟨hokw21, rfl, hpw21, hmB⟩ | ⟨hokw21, rfl, hmB⟩)
              rotate_left
              · replace hokw21 := hid hokw21
                replace hmB := hid hmB
                go_wp2_with fail
                exact ⟨rfl, fail2.out _ _ (pre_fail prew21.out hokw21.out) rfl (hmA.out.1.trans hmB.out)⟩
              have hbqw21 := hmB.2 _ _ _ _ hbqA.out (by decide) hQP.out
              have hmw21 := hid (hmA.out.trans hmB)
              obtain ⟨c0, c1, c2, c3, c4, c5, c6, c7⟩ := cells8 hbqw21
              replace hbqw21 := hid hbqw21
              replace hpw21 := hid hpw21
              replace hokw21 := hid hokw21
              clear hmA hmB hbqA
              go_wp2_with fail

              have hx := Mod.alloc (Mod.refl (fun _ => False) w21) (.cells #[.string ⟨#[125]⟩] 9)
              have hz : (w21.alloc (.cells #[.string ⟨#[125]⟩] 9)).heap[w21.heap.size]? = some (.cells ([[125]].map strV).toArray 9) := heap_alloc_new w21 _
              have hpp := hid (put_any base P _ [[125]] w21.heap.size _ (hpw21.out.ext hx) hz (by simp))
              have hmA := hid (hmw21.out.ext hx)
              have hbqA := hid (hx.at hbqw21.out (fun h => h))
              clear hx hz c0 c1 c2 c3 c4 c5 c6 c7
              have prew22 := hid (pre_step prew21.out (piece := [[125]].flatten) (r' := formL ks ++ (123 :: (wEnd ++ [125]))) (by simp))
              generalize tw21 ++ [[125]].flatten = tw22 at hpp prew22
              refine hpp.out.mono ?_
              clear hpp
              rintro e w22 (⟨hokw22, rfl, hpw22, hmB⟩ | ⟨hokw22, rfl, hmB⟩)
              rotate_left
              · replace hokw22 := hid hokw22
                replace hmB := hid hmB
                go_wp2_with fail
                exact ⟨rfl, fail2.out _ _ (pre_fail prew22.out hokw22.out) rfl (hmA.out.1.trans hmB.out)⟩
              have hbqw22 := hmB.2 _ _ _ _ hbqA.out (by decide) hQP.out
              have hmw22 := hid (hmA.out.trans hmB)
              obtain ⟨c0, c1, c2, c3, c4, c5, c6, c7⟩ := cells8 hbqw22
              replace hbqw22 := hid hbqw22
              replace hpw22 := hid hpw22
              replace hokw22 := hid hokw22
              clear hmA hmB hbqA
              go_wp2_with fail

              have hL := hid (ih.out base P tw22 (.slice q m y) ks depth w22 hd hpw22.out (hks.out.mod hmw22.out.1 (fun j hj e => by omega)) hkl.out hkb.out)
              have prew23 := hid (pre_step prew22.out (piece := formL ks) (r' := 123 :: (wEnd ++ [125])) (by simp))
              generalize tw22 ++ formL ks = tw23 at hL prew23
              refine hL.out.mono ?_
              clear hL
              rintro e w23 (⟨hokw23, rfl, hpw23, hmB⟩ | ⟨hokw23, rfl, hmB⟩)
              rotate_left
              · replace hokw23 := hid hokw23
                replace hmB := hid hmB
                go_wp2_with fail
                refine ⟨rfl, ?_⟩
                have h9 := hokw23.out
                rw [Bool.and_eq_false_iff] at h9
                rcases h9 with h9 | h9
                · exact fail.out _ _ (by rw [hV.out, h9]; simp) rfl (hmw22.out.1.trans hmB.out)
                · exact fail2.out _ _ (pre_fail prew23.out h9) rfl (hmw22.out.1.trans hmB.out)
              rw [Bool.and_eq_true] at hokw23
              have hvw23 := hid hokw23.1
              clear c0 c1 c2 c3 c4 c5 c6 c7
              have hbqw23 := hmB.2 _ _ _ _ hbqw22.out (by decide) hQP.out
              have hmw23 := hid (hmw22.out.trans hmB)
              obtain ⟨c0, c1, c2, c3, c4, c5, c6, c7⟩ := cells8 hbqw23
              replace hbqw23 := hid hbqw23
              replace hpw23 := hid hpw23
              replace hokw23 := hid hokw23.2
              clear hmB
              go_wp2_with fail

              have hx := Mod.alloc (Mod.refl (fun _ => False) w23) (.cells #[.string ⟨#[123]⟩, .string ⟨#[101, 110, 100]⟩, .string ⟨#[125]⟩] 9)
              have hz : (w23.alloc (.cells #[.string ⟨#[123]⟩, .string ⟨#[101, 110, 100]⟩, .string ⟨#[125]⟩] 9)).heap[w23.heap.size]? = some (.cells ([[123], wEnd, [125]].map strV).toArray 9) := heap_alloc_new w23 _
              have hpp := hid (put_any base P _ [[123], wEnd, [125]] w23.heap.size _ (hpw23.out.ext hx) hz (by simp))
              have hmA := hid (hmw23.out.ext hx)
              have hbqA := hid (hx.at hbqw23.out (fun h => h))
              clear hx hz c0 c1 c2 c3 c4 c5 c6 c7
              have prew24 := hid (pre_step prew23.out (piece := [[123], wEnd, [125]].flatten) (r' := []) (by simp))
              generalize tw23 ++ [[123], wEnd, [125]].flatten = tw24 at hpp prew24
              refine hpp.out.mono ?_
              clear hpp
              rintro e w24 (⟨hokw24, rfl, hpw24, hmB⟩ | ⟨hokw24, rfl, hmB⟩)
              rotate_left
              · replace hokw24 := hid hokw24
                replace hmB := hid hmB
                go_wp2_with fail
                exact ⟨rfl, fail2.out _ _ (pre_fail prew24.out hokw24.out) rfl (hmA.out.1.trans hmB.out)⟩
              have hbqw24 := hmB.2 _ _ _ _ hbqA.out (by decide) hQP.out
              have hmw24 := hid (hmA.out.trans hmB)
              obtain ⟨c0, c1, c2, c3, c4, c5, c6, c7⟩ := cells8 hbqw24
              replace hbqw24 := hid hbqw24
              replace hpw24 := hid hpw24
              replace hokw24 := hid hokw24
              clear hmA hmB hbqA
              go_wp2_with fail

              go_end0
              rw [hpost.out]
              have heq : tx' = tw24 := by rw [prew24.out, List.append_nil]
              exact .inl ⟨by rw [heq, hokw24.out, hV.out, hall2.out, hvw23.out]; rfl, rfl, heq ▸ hpw24.out, hmw24.out⟩
            · rw [decide_eq_false hcz] at hqz
              replace hcz := hid hcz
              go_wp2_with fail
              have hx := Mod.alloc (Mod.refl (fun _ => False) w3) (.cells #[.string ⟨#[123]⟩, .string ⟨#[102, 111, 114]⟩, .string ⟨#[32]⟩, .string n] 9)
              have hz : (w3.alloc (.cells #[.string ⟨#[123]⟩, .string ⟨#[102, 111, 114]⟩, .string ⟨#[32]⟩, .string n] 9)).heap[w3.heap.size]? = some (.cells ([[123], wFor, [32], n.data.toList].map strV).toArray 9) := heap_alloc_new w3 _
              have hpp := hid (put_any base P _ [[123], wFor, [32], n.data.toList] w3.heap.size _ (hpw3.out.ext hx) hz (by simp))
              have hmA := hid (hmw3.out.ext hx)
              have hbqA := hid (hx.at hbqw3.out (fun h => h))
              clear hx hz c0 c1 c2 c3 c4 c5 c6 c7
              have prew25 := hid (pre_step prew3.out (piece := [[123], wFor, [32], n.data.toList].flatten) (r' := 32 :: 34 :: (a.data.toList ++ (34 :: (32 :: (dec ct.toNat ++ (125 :: (formL ks ++ (123 :: (wEnd ++ [125]))))))))) (by simp [haE.out, hcz.out]))
              generalize tw3 ++ [[123], wFor, [32], n.data.toList].flatten = tw25 at hpp prew25
              refine hpp.out.mono ?_
              clear hpp
              rintro e w25 (⟨hokw25, rfl, hpw25, hmB⟩ | ⟨hokw25, rfl, hmB⟩)
              rotate_left
              · replace hokw25 := hid hokw25
                replace hmB := hid hmB
                go_wp2_with fail
                exact ⟨rfl, fail2.out _ _ (pre_fail prew25.out hokw25.out) rfl (hmA.out.1.trans hmB.out)⟩
              have hbqw25 := hmB.2 _ _ _ _ hbqA.out (by decide) hQP.out
              have hmw25 := hid (hmA.out.trans hmB)
              obtain ⟨c0, c1, c2, c3, c4, c5, c6, c7⟩ := cells8 hbqw25
              replace hbqw25 := hid hbqw25
              replace hpw25 := hid hpw25
              replace hokw25 := hid hokw25
              clear hmA hmB hbqA
              go_wp2_with fail

              have hx := Mod.alloc (Mod.refl (fun _ => False) w25) (.cells #[.string ⟨#[32, 34]⟩, .string a, .string ⟨#[34]⟩] 9)
              have hz : (w25.alloc (.cells #[.string ⟨#[32, 34]⟩, .string a, .string ⟨#[34]⟩] 9)).heap[w25.heap.size]? = some (.cells ([[32, 34], a.data.toList, [34]].map strV).toArray 9) := heap_alloc_new w25 _
              have hpp := hid (put_any base P _ [[32, 34], a.data.toList, [34]] w25.heap.size _ (hpw25.out.ext hx) hz (by simp))
              have hmA := hid (hmw25.out.ext hx)
              have hbqA := hid (hx.at hbqw25.out (fun h => h))
              clear hx hz c0 c1 c2 c3 c4 c5 c6 c7
              have prew26 := hid (pre_step prew25.out (piece := [[32, 34], a.data.toList, [34]].flatten) (r' := 32 :: (dec ct.toNat ++ (125 :: (formL ks ++ (123 :: (wEnd ++ [125])))))) (by simp))
              generalize tw25 ++ [[32, 34], a.data.toList, [34]].flatten = tw26 at hpp prew26
              refine hpp.out.mono ?_
              clear hpp
              rintro e w26 (⟨hokw26, rfl, hpw26, hmB⟩ | ⟨hokw26, rfl, hmB⟩)
              rotate_left
              · replace hokw26 := hid hokw26
                replace hmB := hid hmB
                go_wp2_with fail
                exact ⟨rfl, fail2.out _ _ (pre_fail prew26.out hokw26.out) rfl (hmA.out.1.trans hmB.out)⟩
              have hbqw26 := hmB.2 _ _ _ _ hbqA.out (by decide) hQP.out
              have hmw26 := hid (hmA.out.trans hmB)
              obtain ⟨c0, c1, c2, c3, c4, c5, c6, c7⟩ := cells8 hbqw26
              replace hbqw26 := hid hbqw26
              replace hpw26 := hid hpw26
              replace hokw26 := hid hokw26
              clear hmA hmB hbqA
              go_wp2_with fail

              have hI := hid (Tryz.strconv_Itoa ct (by omega) (by omega) w26 hpw26.out.gl.tab)
              rw [itoa_dec hc0] at hI
              refine hI.out.mono ?_
              rintro e w27 ⟨rfl, hg⟩
              have hxg : Ext w26 w27 := by obtain ⟨gk1, gos, rfl⟩ := hg; exact ext_grow _ _ _
              clear hg hI c0 c1 c2 c3 c4 c5 c6 c7
              have hbqw27 := hxg.at hbqw26.out (fun h => h)
              obtain ⟨c0, c1, c2, c3, c4, c5, c6, c7⟩ := cells8 hbqw27
              have hpw27 := hid (hpw26.out.ext hxg)
              have hmw27 := hid (hmw26.out.ext hxg)
              have prew27 := prew26
              obtain ⟨tw27, htw27⟩ : ∃ t, t = tw26 := ⟨_, rfl⟩
              rw [← htw27] at hpw27 prew27
              replace hbqw27 := hid hbqw27
              clear hxg htw27
              go_wp2_with fail

              have hx := Mod.alloc (Mod.refl (fun _ => False) w27) (.cells #[.string ⟨#[32]⟩, .string ⟨(dec ct.toNat).toArray⟩] 9)
              have hz : (w27.alloc (.cells #[.string ⟨#[32]⟩, .string ⟨(dec ct.toNat).toArray⟩] 9)).heap[w27.heap.size]? = some (.cells ([[32], dec ct.toNat].map strV).toArray 9) := heap_alloc_new w27 _
              have hpp := hid (put_any base P _ [[32], dec ct.toNat] w27.heap.size _ (hpw27.out.ext hx) hz (by simp))
              have hmA := hid (hmw27.out.ext hx)
              have hbqA := hid (hx.at hbqw27.out (fun h => h))
              clear hx hz c0 c1 c2 c3 c4 c5 c6 c7
              have prew28 := hid (pre_step prew27.out (piece := [[32], dec ct.toNat].flatten) (r' := 125 :: (formL ks ++ (123 :: (wEnd ++ [125])))) (by simp))
              generalize tw27 ++ [[32], dec ct.toNat].flatten = tw28 at hpp prew28
              refine hpp.out.mono ?_
              clear hpp
              rintro e w28 (⟨hokw28, rfl, hpw28, hmB⟩ | ⟨hokw28, rfl, hmB⟩)
              rotate_left
              · replace hokw28 := hid hokw28
                replace hmB := hid hmB
                go_wp2_with fail
                exact ⟨rfl, fail2.out _ _ (pre_fail prew28.out hokw28.out) rfl (hmA.out.1.trans hmB.out)⟩
              have hbqw28 := hmB.2 _ _ _ _ hbqA.out (by decide) hQP.out
              have hmw28 := hid (hmA.out.trans hmB)
              obtain ⟨c0, c1, c2, c3, c4, c5, c6, c7⟩ := cells8 hbqw28
              replace hbqw28 := hid hbqw28
              replace hpw28 := hid hpw28
              replace hokw28 := hid hokw28
              clear hmA hmB hbqA
              go_wp2_with fail

              have hx := Mod.alloc (Mod.refl (fun _ => False) w28) (.cells #[.string ⟨#[125]⟩] 9)
              have hz : (w28.alloc (.cells #[.string ⟨#[125]⟩] 9)).heap[w28.heap.size]? = some (.cells ([[125]].map strV).toArray 9) := heap_alloc_new w28 _
              have hpp := hid (put_any base P _ [[125]] w28.heap.size _ (hpw28.out.ext hx) hz (by simp))
              have hmA := hid (hmw28.out.ext hx)
              have hbqA := hid (hx.at hbqw28.out (fun h => h))
              clear hx hz c0 c1 c2 c3 c4 c5 c6 c7
              have prew29 := hid (pre_step prew28.out (piece := [[125]].flatten) (r' := formL ks ++ (123 :: (wEnd ++ [125]))) (by simp))
              generalize tw28 ++ [[125]].flatten = tw29 at hpp prew29
              refine hpp.out.mono ?_
              clear hpp
              rintro e w29 (⟨hokw29, rfl, hpw29, hmB⟩ | ⟨hokw29, rfl, hmB⟩)
              rotate_left
              · replace hokw29 := hid hokw29
                replace hmB := hid hmB
                go_wp2_with fail
                exact ⟨rfl, fail2.out _ _ (pre_fail prew29.out hokw29.out) rfl (hmA.out.1.trans hmB.out)⟩
              have hbqw29 := hmB.2 _ _ _ _ hbqA.out (by decide) hQP.out
              have hmw29 := hid (hmA.out.trans hmB)
              obtain ⟨c0, c1, c2, c3, c4, c5, c6, c7⟩ := cells8 hbqw29
              replace hbqw29 := hid hbqw29
              replace hpw29 := hid hpw29
              replace hokw29 := hid hokw29
              clear hmA hmB hbqA
              go_wp2_with fail

              have hL := hid (ih.out base P tw29 (.slice q m y) ks depth w29 hd hpw29.out (hks.out.mod hmw29.out.1 (fun j hj e => by omega)) hkl.out hkb.out)
              have prew30 := hid (pre_step prew29.out (piece := formL ks) (r' := 123 :: (wEnd ++ [125])) (by simp))
              generalize tw29 ++ formL ks = tw30 at hL prew30
              refine hL.out.mono ?_
              clear hL
              rintro e w30 (⟨hokw30, rfl, hpw30, hmB⟩ | ⟨hokw30, rfl, hmB⟩)
              rotate_left
              · replace hokw30 := hid hokw30
                replace hmB := hid hmB
                go_wp2_with fail
                refine ⟨rfl, ?_⟩
                have h9 := hokw30.out
                rw [Bool.and_eq_false_iff] at h9
                rcases h9 with h9 | h9
                · exact fail.out _ _ (by rw [hV.out, h9]; simp) rfl (hmw29.out.1.trans hmB.out)
                · exact fail2.out _ _ (pre_fail prew30.out h9) rfl (hmw29.out.1.trans hmB.out)
              rw [Bool.and_eq_true] at hokw30
              have hvw30 := hid hokw30.1
              clear c0 c1 c2 c3 c4 c5 c6 c7
              have hbqw30 := hmB.2 _ _ _ _ hbqw29.out (by decide) hQP.out
              have hmw30 := hid (hmw29.out.trans hmB)
              obtain ⟨c0, c1, c2, c3, c4, c5, c6, c7⟩ := cells8 hbqw30
              replace hbqw30 := hid hbqw30
              replace hpw30 := hid hpw30
              replace hokw30 := hid hokw30.2
              clear hmB
              go_wp2_with fail

              have hx := Mod.alloc (Mod.refl (fun _ => False) w30) (.cells #[.string ⟨#[123]⟩, .string ⟨#[101, 110, 100]⟩, .string ⟨#[125]⟩] 9)
              have hz : (w30.alloc (.cells #[.string ⟨#[123]⟩, .string ⟨#[101, 110, 100]⟩, .string ⟨#[125]⟩] 9)).heap[w30.heap.size]? = some (.cells ([[123], wEnd, [125]].map strV).toArray 9) := heap_alloc_new w30 _
              have hpp := hid (put_any base P _ [[123], wEnd, [125]] w30.heap.size _ (hpw30.out.ext hx) hz (by simp))
              have hmA := hid (hmw30.out.ext hx)
              have hbqA := hid (hx.at hbqw30.out (fun h => h))
              clear hx hz c0 c1 c2 c3 c4 c5 c6 c7
              have prew31 := hid (pre_step prew30.out (piece := [[123], wEnd, [125]].flatten) (r' := []) (by simp))
              generalize tw30 ++ [[123], wEnd, [125]].flatten = tw31 at hpp prew31
              refine hpp.out.mono ?_
              clear hpp
              rintro e w31 (⟨hokw31, rfl, hpw31, hmB⟩ | ⟨hokw31, rfl, hmB⟩)
              rotate_left
              · replace hokw31 := hid hokw31
                replace hmB := hid hmB
                go_wp2_with fail
                exact ⟨rfl, fail2.out _ _ (pre_fail prew31.out hokw31.out) rfl (hmA.out.1.trans hmB.out)⟩
              have hbqw31 := hmB.2 _ _ _ _ hbqA.out (by decide) hQP.out
              have hmw31 := hid (hmA.out.trans hmB)
              obtain ⟨c0, c1, c2, c3, c4, c5, c6, c7⟩ := cells8 hbqw31
              replace hbqw31 := hid hbqw31
              replace hpw31 := hid hpw31
              replace hokw31 := hid hokw31
              clear hmA hmB hbqA
              go_wp2_with fail

              go_end0
              rw [hpost.out]
              have heq : tx' = tw31 := by rw [prew31.out, List.append_nil]
              exact .inl ⟨by rw [heq, hokw31.out, hV.out, hall2.out, hvw30.out]; rfl, rfl, heq ▸ hpw31.out, hmw31.out⟩
          · have f2 : a.toList = [] := by rw [ByteArray.toList_eq, empty_toList h0]
            have f1 : a.toList.isEmpty = true := by rw [f2]; rfl
            have haE : Hid (a.data.toList.isEmpty = true) := hid (by rw [← ByteArray.toList_eq]; exact f1)
            by_cases hcz : ct = 0
            · rw [decide_eq_true hcz] at hqz
              replace hcz := hid hcz
              go_wp2_with fail
              have hx := Mod.alloc (Mod.refl (fun _ => False) w3) (.cells #[.string ⟨#[123]⟩, .string ⟨#[102, 111, 114]⟩, .string ⟨#[32]⟩, .string n] 9)
              have hz : (w3.alloc (.cells #[.string ⟨#[123]⟩, .string ⟨#[102, 111, 114]⟩, .string ⟨#[32]⟩, .string n] 9)).heap[w3.heap.size]? = some (.cells ([[123], wFor, [32], n.data.toList].map strV).toArray 9) := heap_alloc_new w3 _
              have hpp := hid (put_any base P _ [[123], wFor, [32], n.data.toList] w3.heap.size _ (hpw3.out.ext hx) hz (by simp))
              have hmA := hid (hmw3.out.ext hx)
              have hbqA := hid (hx.at hbqw3.out (fun h => h))
              clear hx hz c0 c1 c2 c3 c4 c5 c6 c7
              have prew32 := hid (pre_step prew3.out (piece := [[123], wFor, [32], n.data.toList].flatten) (r' := 125 :: (formL ks ++ (123 :: (wEnd ++ [125])))) (by simp [haE.out, hcz.out]))
              generalize tw3 ++ [[123], wFor, [32], n.data.toList].flatten = tw32 at hpp prew32
              refine hpp.out.mono ?_
              clear hpp
              rintro e w32 (⟨hokw32, rfl, hpw32, hmB⟩ | ⟨hokw32, rfl, hmB⟩)
              rotate_left
              · replace hokw32 := hid hokw32
                replace hmB := hid hmB
                go_wp2_with fail
                exact ⟨rfl, fail2.out _ _ (pre_fail prew32.out hokw32.out) rfl (hmA.out.1.trans hmB.out)⟩
              have hbqw32 := hmB.2 _ _ _ _ hbqA.out (by decide) hQP.out
              have hmw32 := hid (hmA.out.trans hmB)
              obtain ⟨c0, c1, c2, c3, c4, c5, c6, c7⟩ := cells8 hbqw32
              replace hbqw32 := hid hbqw32
              replace hpw32 := hid hpw32
              replace hokw32 := hid hokw32
              clear hmA hmB hbqA
              go_wp2_with fail

              have hx := Mod.alloc (Mod.refl (fun _ => False) w32) (.cells #[.string ⟨#[125]⟩] 9)
              have hz : (w32.alloc (.cells #[.string ⟨#[125]⟩] 9)).heap[w32.heap.size]? = some (.cells ([[125]].map strV).toArray 9) := heap_alloc_new w32 _
              have hpp := hid (put_any base P _ [[125]] w32.heap.size _ (hpw32.out.ext hx) hz (by simp))
              have hmA := hid (hmw32.out.ext hx)
              have hbqA := hid (hx.at hbqw32.out (fun h => h))
              clear hx hz c0 c1 c2 c3 c4 c5 c6 c7
              have prew33 := hid (pre_step prew32.out (piece := [[125]].flatten) (r' := formL ks ++ (123 :: (wEnd ++ [125]))) (by simp))
              generalize tw32 ++ [[125]].flatten = tw33 at hpp prew33
              refine hpp.out.mono ?_
              clear hpp
              rintro e w33 (⟨hokw33, rfl, hpw33, hmB⟩ | ⟨hokw33, rfl, hmB⟩)
              rotate_left
              · replace hokw33 := hid hokw33
                replace hmB := hid hmB
                go_wp2_with fail
                exact ⟨rfl, fail2.out _ _ (pre_fail prew33.out hokw33.out) rfl (hmA.out.1.trans hmB.out)⟩
              have hbqw33 := hmB.2 _ _ _ _ hbqA.out (by decide) hQP.out
              have hmw33 := hid (hmA.out.trans hmB)
              obtain ⟨c0, c1, c2, c3, c4, c5, c6, c7⟩ := cells8 hbqw33
              replace hbqw33 := hid hbqw33
              replace hpw33 := hid hpw33
              replace hokw33 := hid hokw33
              clear hmA hmB hbqA
              go_wp2_with fail

              have hL := hid (ih.out base P tw33 (.slice q m y) ks depth w33 hd hpw33.out (hks.out.mod hmw33.out.1 (fun j hj e => by omega)) hkl.out hkb.out)
              have prew34 := hid (pre_step prew33.out (piece := formL ks) (r' := 123 :: (wEnd ++ [125])) (by simp))
              generalize tw33 ++ formL ks = tw34 at hL prew34
              refine hL.out.mono ?_
              clear hL
              rintro e w34 (⟨hokw34, rfl, hpw34, hmB⟩ | ⟨hokw34, rfl, hmB⟩)
              rotate_left
              · replace hokw34 := hid hokw34
                replace hmB := hid hmB
                go_wp2_with fail
                refine ⟨rfl, ?_⟩
                have h9 := hokw34.out
                rw [Bool.and_eq_false_iff] at h9
                rcases h9 with h9 | h9
                · exact fail.out _ _ (by rw [hV.out, h9]; simp) rfl (hmw33.out.1.trans hmB.out)
                · exact fail2.out _ _ (pre_fail prew34.out h9) rfl (hmw33.out.1.trans hmB.out)
              rw [Bool.and_eq_true] at hokw34
              have hvw34 := hid hokw34.1
              clear c0 c1 c2 c3 c4 c5 c6 c7
              have hbqw34 := hmB.2 _ _ _ _ hbqw33.out (by decide) hQP.out
              have hmw34 := hid (hmw33.out.trans hmB)
              obtain ⟨c0, c1, c2, c3, c4, c5, c6, c7⟩ := cells8 hbqw34
              replace hbqw34 := hid hbqw34
              replace hpw34 := hid hpw34
              replace hokw34 := hid hokw34.2
              clear hmB
              go_wp2_with fail

              have hx := Mod.alloc (Mod.refl (fun _ => False) w34) (.cells #[.string ⟨#[123]⟩, .string ⟨#[101, 110, 100]⟩, .string ⟨#[125]⟩] 9)
              have hz : (w34.alloc (.cells #[.string ⟨#[123]⟩, .string ⟨#[101, 110, 100]⟩, .string ⟨#[125]⟩] 9)).heap[w34.heap.size]? = some (.cells ([[123], wEnd, [125]].map strV).toArray 9) := heap_alloc_new w34 _
              have hpp := hid (put_any base P _ [[123], wEnd, [125]] w34.heap.size _ (hpw34.out.ext hx) hz (by simp))
              have hmA := hid (hmw34.out.ext hx)
              have hbqA := hid (hx.at hbqw34.out (fun h => h))
              clear hx hz c0 c1 c2 c3 c4 c5 c6 c7
              have prew35 := hid (pre_step prew34.out (piece := [[123], wEnd, [125]].flatten) (r' := []) (by simp))
              generalize tw34 ++ [[123], wEnd, [125]].flatten = tw35 at hpp prew35
              refine hpp.out.mono ?_
              clear hpp
              rintro e w35 (⟨hokw35, rfl, hpw35, hmB⟩ | ⟨hokw35, rfl, hmB⟩)
              rotate_left
              · replace hokw35 := hid hokw35
                replace hmB := hid hmB
                go_wp2_with fail
                exact ⟨rfl, fail2.out _ _ (pre_fail prew35.out hokw35.out) rfl (hmA.out.1.trans hmB.out)⟩
              have hbqw35 := hmB.2 _ _ _ _ hbqA.out (by decide) hQP.out
              have hmw35 := hid (hmA.out.trans hmB)
              obtain ⟨c0, c1, c2, c3, c4, c5, c6, c7⟩ := cells8 hbqw35
              replace hbqw35 := hid hbqw35
              replace hpw35 := hid hpw35
              replace hokw35 := hid hokw35
              clear hmA hmB hbqA
              go_wp2_with fail

              go_end0
              rw [hpost.out]
              have heq : tx' = tw35 := by rw [prew35.out, List.append_nil]
              exact .inl ⟨by rw [heq, hokw35.out, hV.out, hall2.out, hvw34.out]; rfl, rfl, heq ▸ hpw35.out, hmw35.out⟩
            · rw [decide_eq_false hcz] at hqz
              replace hcz := hid hcz
              go_wp2_with fail
              have hx := Mod.alloc (Mod.refl (fun _ => False) w3) (.cells #[.string ⟨#[123]⟩, .string ⟨#[102, 111, 114]⟩, .string ⟨#[32]⟩, .string n] 9)
              have hz : (w3.alloc (.cells #[.string ⟨#[123]⟩, .string ⟨#[102, 111, 114]⟩, .string ⟨#[32]⟩, .string n] 9)).heap[w3.heap.size]? = some (.cells ([[123], wFor, [32], n.data.toList].map strV).toArray 9) := heap_alloc_new w3 _
              have hpp := hid (put_any base P _ [[123], wFor, [32], n.data.toList] w3.heap.size _ (hpw3.out.ext hx) hz (by simp))
              have hmA := hid (hmw3.out.ext hx)
              have hbqA := hid (hx.at hbqw3.out (fun h => h))
              clear hx hz c0 c1 c2 c3 c4 c5 c6 c7
              have prew36 := hid (pre_step prew3.out (piece := [[123], wFor, [32], n.data.toList].flatten) (r' := 32 :: (dec ct.toNat ++ (125 :: (formL ks ++ (123 :: (wEnd ++ [125])))))) (by simp [haE.out, hcz.out]))
              generalize tw3 ++ [[123], wFor, [32], n.data.toList].flatten = tw36 at hpp prew36
              refine hpp.out.mono ?_
              clear hpp
              rintro e w36 (⟨hokw36, rfl, hpw36, hmB⟩ | ⟨hokw36, rfl, hmB⟩)
              rotate_left
              · replace hokw36 := hid hokw36
                replace hmB := hid hmB
                go_wp2_with fail
                exact ⟨rfl, fail2.out _ _ (pre_fail prew36.out hokw36.out) rfl (hmA.out.1.trans hmB.out)⟩
              have hbqw36 := hmB.2 _ _ _ _ hbqA.out (by decide) hQP.out
              have hmw36 := hid (hmA.out.trans hmB)
              obtain ⟨c0, c1, c2, c3, c4, c5, c6, c7⟩ := cells8 hbqw36
              replace hbqw36 := hid hbqw36
              replace hpw36 := hid hpw36
              replace hokw36 := hid hokw36
              clear hmA hmB hbqA
              go_wp2_with fail

              have hI := hid (Tryz.strconv_Itoa ct (by omega) (by omega) w36 hpw36.out.gl.tab)
              rw [itoa_dec hc0] at hI
              refine hI.out.mono ?_
              rintro e w37 ⟨rfl, hg⟩
              have hxg : Ext w36 w37 := by obtain ⟨gk1, gos, rfl⟩ := hg; exact ext_grow _ _ _
              clear hg hI c0 c1 c2 c3 c4 c5 c6 c7
              have hbqw37 := hxg.at hbqw36.out (fun h => h)
              obtain ⟨c0, c1, c2, c3, c4, c5, c6, c7⟩ := cells8 hbqw37
              have hpw37 := hid (hpw36.out.ext hxg)
              have hmw37 := hid (hmw36.out.ext hxg)
              have prew37 := prew36
              obtain ⟨tw37, htw37⟩ : ∃ t, t = tw36 := ⟨_, rfl⟩
              rw [← htw37] at hpw37 prew37
              replace hbqw37 := hid hbqw37
              clear hxg htw37
              go_wp2_with fail

              have hx := Mod.alloc (Mod.refl (fun _ => False) w37) (.cells #[.string ⟨#[32]⟩, .string ⟨(dec ct.toNat).toArray⟩] 9)
              have hz : (w37.alloc (.cells #[.string ⟨#[32]⟩, .string ⟨(dec ct.toNat).toArray⟩] 9)).heap[w37.heap.size]? = some (.cells ([[32], dec ct.toNat].map strV).toArray 9) := heap_alloc_new w37 _
              have hpp := hid (put_any base P _ [[32], dec ct.toNat] w37.heap.size _ (hpw37.out.ext hx) hz (by simp))
              have hmA := hid (hmw37.out.ext hx)
              have hbqA := hid (hx.at hbqw37.out (fun h => h))
              clear hx hz c0 c1 c2 c3 c4 c5 c6 c7
              have prew38 := hid (pre_step prew37.out (piece := [[32], dec ct.toNat].flatten) (r' := 125 :: (formL ks ++ (123 :: (wEnd ++ [125])))) (by simp))
              generalize tw37 ++ [[32], dec ct.toNat].flatten = tw38 at hpp prew38
              refine hpp.out.mono ?_
              clear hpp
              rintro e w38 (⟨hokw38, rfl, hpw38, hmB⟩ | ⟨hokw38, rfl, hmB⟩)
              rotate_left
              · replace hokw38 := hid hokw38
                replace hmB := hid hmB
                go_wp2_with fail
                exact ⟨rfl, fail2.out _ _ (pre_fail prew38.out hokw38.out) rfl (hmA.out.1.trans hmB.out)⟩
              have hbqw38 := hmB.2 _ _ _ _ hbqA.out (by decide) hQP.out
              have hmw38 := hid (hmA.out.trans hmB)
              obtain ⟨c0, c1, c2, c3, c4, c5, c6, c7⟩ := cells8 hbqw38
              replace hbqw38 := hid hbqw38
              replace hpw38 := hid hpw38
              replace hokw38 := hid hokw38
              clear hmA hmB hbqA
              go_wp2_with fail

              have hx := Mod.alloc (Mod.refl (fun _ => False) w38) (.cells #[.string ⟨#[125]⟩] 9)
              have hz : (w38.alloc (.cells #[.string ⟨#[125]⟩] 9)).heap[w38.heap.size]? = some (.cells ([[125]].map strV).toArray 9) := heap_alloc_new w38 _
              have hpp := hid (put_any base P _ [[125]] w38.heap.size _ (hpw38.out.ext hx) hz (by simp))
              have hmA := hid (hmw38.out.ext hx)
              have hbqA := hid (hx.at hbqw38.out (fun h => h))
              clear hx hz c0 c1 c2 c3 c4 c5 c6 c7
              have prew39 := hid (pre_step prew38.out (piece := [[125]].flatten) (r' := formL ks ++ (123 :: (wEnd ++ [125]))) (by simp))
              generalize tw38 ++ [[125]].flatten = tw39 at hpp prew39
              refine hpp.out.mono ?_
              clear hpp
              rintro e w39 (⟨hokw39, rfl, hpw39, hmB⟩ | ⟨hokw39, rfl, hmB⟩)
              rotate_left
              · replace hokw39 := hid hokw39
                replace hmB := hid hmB
                go_wp2_with fail
                exact ⟨rfl, fail2.out _ _ (pre_fail prew39.out hokw39.out) rfl (hmA.out.1.trans hmB.out)⟩
              have hbqw39 := hmB.2 _ _ _ _ hbqA.out (by decide) hQP.out
              have hmw39 := hid (hmA.out.trans hmB)
              obtain ⟨c0, c1, c2, c3, c4, c5, c6, c7⟩ := cells8 hbqw39
              replace hbqw39 := hid hbqw39
              replace hpw39 := hid hpw39
              replace hokw39 := hid hokw39
              clear hmA hmB hbqA
              go_wp2_with fail

              have hL := hid (ih.out base P tw39 (.slice q m y) ks depth w39 hd hpw39.out (hks.out.mod hmw39.out.1 (fun j hj e => by omega)) hkl.out hkb.out)
              have prew40 := hid (pre_step prew39.out (piece := formL ks) (r' := 123 :: (wEnd ++ [125])) (by simp))
              generalize tw39 ++ formL ks = tw40 at hL prew40
              refine hL.out.mono ?_
              clear hL
              rintro e w40 (⟨hokw40, rfl, hpw40, hmB⟩ | ⟨hokw40, rfl, hmB⟩)
              rotate_left
              · replace hokw40 := hid hokw40
                replace hmB := hid hmB
                go_wp2_with fail
                refine ⟨rfl, ?_⟩
                have h9 := hokw40.out
                rw [Bool.and_eq_false_iff] at h9
                rcases h9 with h9 | h9
                · exact fail.out _ _ (by rw [hV.out, h9]; simp) rfl (hmw39.out.1.trans hmB.out)
                · exact fail2.out _ _ (pre_fail prew40.out h9) rfl (hmw39.out.1.trans hmB.out)
              rw [Bool.and_eq_true] at hokw40
              have hvw40 := hid hokw40.1
              clear c0 c1 c2 c3 c4 c5 c6 c7
              have hbqw40 := hmB.2 _ _ _ _ hbqw39.out (by decide) hQP.out
              have hmw40 := hid (hmw39.out.trans hmB)
              obtain ⟨c0, c1, c2, c3, c4, c5, c6, c7⟩ := cells8 hbqw40
              replace hbqw40 := hid hbqw40
              replace hpw40 := hid hpw40
              replace hokw40 := hid hokw40.2
              clear hmB
              go_wp2_with fail

              have hx := Mod.alloc (Mod.refl (fun _ => False) w40) (.cells #[.string ⟨#[123]⟩, .string ⟨#[101, 110, 100]⟩, .string ⟨#[125]⟩] 9)
              have hz : (w40.alloc (.cells #[.string ⟨#[123]⟩, .string ⟨#[101, 110, 100]⟩, .string ⟨#[125]⟩] 9)).heap[w40.heap.size]? = some (.cells ([[123], wEnd, [125]].map strV).toArray 9) := heap_alloc_new w40 _
              have hpp := hid (put_any base P _ [[123], wEnd, [125]] w40.heap.size _ (hpw40.out.ext hx) hz (by simp))
              have hmA := hid (hmw40.out.ext hx)
              have hbqA := hid (hx.at hbqw40.out (fun h => h))
              clear hx hz c0 c1 c2 c3 c4 c5 c6 c7
              have prew41 := hid (pre_step prew40.out (piece := [[123], wEnd, [125]].flatten) (r' := []) (by simp))
              generalize tw40 ++ [[123], wEnd, [125]].flatten = tw41 at hpp prew41
              refine hpp.out.mono ?_
              clear hpp
              rintro e w41 (⟨hokw41, rfl, hpw41, hmB⟩ | ⟨hokw41, rfl, hmB⟩)
              rotate_left
              · replace hokw41 := hid hokw41
                replace hmB := hid hmB
                go_wp2_with fail
                exact ⟨rfl, fail2.out _ _ (pre_fail prew41.out hokw41.out) rfl (hmA.out.1.trans hmB.out)⟩
              have hbqw41 := hmB.2 _ _ _ _ hbqA.out (by decide) hQP.out
              have hmw41 := hid (hmA.out.trans hmB)
              obtain ⟨c0, c1, c2, c3, c4, c5, c6, c7⟩ := cells8 hbqw41
              replace hbqw41 := hid hbqw41
              replace hpw41 := hid hpw41
              replace hokw41 := hid hokw41
              clear hmA hmB hbqA
              go_wp2_with fail

              go_end0
              rw [hpost.out]
              have heq : tx' = tw41 := by rw [prew41.out, List.append_nil]
              exact .inl ⟨by rw [heq, hokw41.out, hV.out, hall2.out, hvw40.out]; rfl, rfl, heq ▸ hpw41.out, hmw41.out⟩
end Go.Proofs.YtpgniljgaknlpaaGreatDoor
