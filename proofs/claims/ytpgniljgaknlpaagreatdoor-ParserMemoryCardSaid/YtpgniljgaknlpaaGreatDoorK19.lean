import Derived.Test.YtpgniljgaknlpaaGreatDoorK18
/-
  The printer's 'loop' and 'condition'.
-/
namespace Go.Proofs.YtpgniljgaknlpaaGreatDoor
open Go.RowKit Cdk Tpl

mutual
/-- Lists of a size that a counter holds. -/
def bdN : Nd → Prop
  | .mk _ _ _ _ _ f ks es => f.length ≤ 1000000000 ∧ (ks.length ≤ 1000000000 ∧ bdL ks) ∧ (es.length ≤ 1000000000 ∧ bdL es)
def bdL : List Nd → Prop
  | [] => True
  | x :: r => bdN x ∧ bdL r
end

/-- 'list' is right where so many loops may still be opened. -/
def PListC (k : Nat) : Prop := ∀ (base P : Nat) (tx : Bs) (v : Value) (l : List Nd) (depth : Nat) (w : World), depth + k = 8 → Pr base P tx w → NodesAt (fun j => j < base) w v l → l.length ≤ 1000000000 → bdL l →
  Calls Tryz.prog 29 #[.pointer (some ⟨P, 0, none⟩), v, .int .i64 depth] w (PrP base P w (valL l depth false && decide ((tx ++ formL l).length ≤ 1000)) (tx ++ formL l))

theorem decF_eq : ∀ (f n : Nat), n < f → decF f n = Lib.decDigits n
  | 0, n, h => by omega
  | f + 1, n, h => by
    rw [Lib.decDigits]
    by_cases h10 : n < 10
    · rw [dif_pos h10]; simp only [decF, if_pos h10]; rfl
    · rw [dif_neg h10]; simp only [decF, if_neg h10]; rw [decF_eq f (n / 10) (by omega)]; rfl

theorem itoa_dec {c : Int} (h : 0 ≤ c) : Lib.itoa c = dec c.toNat := by
  unfold Lib.itoa dec
  rw [if_neg (by omega), decF_eq _ _ (by omega)]

theorem pre_step {tx' t r piece r' : Bs} (h : tx' = t ++ r) (hr : piece ++ r' = r) : tx' = (t ++ piece) ++ r' := by rw [h, ← hr, List.append_assoc]
theorem pre_fail {tx' t r : Bs} (h : tx' = t ++ r) (hb : decide (t.length ≤ 1000) = false) : 1000 < tx'.length := by
  rw [decide_eq_false_iff_not] at hb
  rw [h, List.length_append]; omega

theorem ext_grow (w : World) (k : Nat) (os : Array Obj) : Ext w (Go.Sort.grow (w.drewN k) os) :=
  ⟨rfl, rfl, rfl, by simp [Go.Sort.grow], fun j hj _ => Go.Sort.heap_grow_old (w.drewN k) os hj⟩

theorem argOk_eq (a : ByteArray) : a.data.toList.all isA = true ↔ ∀ (j : Nat) (h : j < a.size), isA a[j] = true := all_bytes a isA

set_option maxRecDepth 100000 in
set_option maxHeartbeats 16000000 in
theorem pcond_any (k : Nat) (ih : PListC k) (base P : Nat) (tx : Bs) (kd : Nat) (s n a : ByteArray) (ct : Int) (p q r : Option Addr) (ks es : List Nd) (l m o x y z : Nat) (depth : Nat) (w : World) (hd : depth + k = 8) (h : Pr base P tx w)
    (hks : NodesAt (fun j => j < base) w (.slice q m y) ks) (hkl : ks.length ≤ 1000000000) (hkb : bdL ks) (hml : m = ks.length) (hes : NodesAt (fun j => j < base) w (.slice r o z) es) (hel : es.length ≤ 1000000000) (heb : bdL es) (hol : o = es.length) :
    Calls Tryz.prog 52 #[.pointer (some ⟨P, 0, none⟩), .agg #[.int .i64 kd, .string s, .string n, .string a, .int .i64 ct, .slice p l x, .slice q m y, .slice r o z], .int .i64 depth] w
      (PrP base P w ((nameOk n.data.toList && (s.data.toList.isEmpty && a.data.toList.isEmpty && decide (ct = 0) && decide (l = 0)) && valL ks depth false && valL es depth false) && decide ((tx ++ 123 :: (wIf ++ (32 :: (n.data.toList ++ (125 :: (formL ks ++ ((if es.isEmpty then [] else 123 :: (wElse ++ (125 :: formL es))) ++ (123 :: (wEnd ++ [125]))))))))).length ≤ 1000)) (tx ++ 123 :: (wIf ++ (32 :: (n.data.toList ++ (125 :: (formL ks ++ ((if es.isEmpty then [] else 123 :: (wElse ++ (125 :: formL es))) ++ (123 :: (wEnd ++ [125])))))))))) := by
  obtain ⟨V, hV⟩ : ∃ V, V = (nameOk n.data.toList && (s.data.toList.isEmpty && a.data.toList.isEmpty && decide (ct = 0) && decide (l = 0)) && valL ks depth false && valL es depth false) := ⟨_, rfl⟩
  obtain ⟨tx', htx'⟩ : ∃ tx', tx' = tx ++ 123 :: (wIf ++ (32 :: (n.data.toList ++ (125 :: (formL ks ++ ((if es.isEmpty then [] else 123 :: (wElse ++ (125 :: formL es))) ++ (123 :: (wEnd ++ [125])))))))) := ⟨_, rfl⟩
  rw [← hV, ← htx']
  obtain ⟨post, hpost⟩ : ∃ post, post = PrP base P w (V && decide (tx'.length ≤ 1000)) tx' := ⟨_, rfl⟩
  rw [← hpost]
  replace hpost := hid hpost
  replace hV := hid hV
  replace htx' := hid htx'
  have hPw := blk_lt h
  have hPs : P < w.heap.size := by obtain ⟨v0, hP0, -⟩ := h.cell; exact lt_of_at hP0
  have hlow := h.low
  have hbx := Mod.alloc (Mod.refl (fun _ => False) w) (.cells #[.int .i64 kd, .string s, .string n, .string a, .int .i64 ct, .slice p l x, .slice q m y, .slice r o z] 36)
  have hbq := heap_alloc_new w (.cells #[.int .i64 kd, .string s, .string n, .string a, .int .i64 ct, .slice p l x, .slice q m y, .slice r o z] 36)
  replace hbx := hid hbx
  replace hbq := hid hbq
  replace h := hid h
  replace ih := hid ih
  replace hks := hid hks
  replace hkl := hid hkl
  replace hkb := hid hkb
  replace hes := hid hes
  replace hel := hid hel
  replace heb := hid heb
  replace hml := hid hml
  replace hol := hid hol
  have fail : ∀ (e : Ending) (w' : World), V = false → e = .panicked [invE] → Mod (fun k => base ≤ k) w w' → post e w' := fun e w' hv he hm => by
    rw [hpost.out]; exact .inr ⟨by rw [hv, Bool.false_and], he, hm⟩
  have fail2 : ∀ (e : Ending) (w' : World), 1000 < tx'.length → e = .panicked [invE] → Mod (fun k => base ≤ k) w w' → post e w' := fun e w' hv he hm => by
    rw [hpost.out]; exact .inr ⟨by rw [decide_eq_false (by omega), Bool.and_false], he, hm⟩
  replace fail := hid fail
  replace fail2 := hid fail2
  have hN := hid (isName_any n)
  go_enter Tryz.func52, Tryz.ntmps52
  go_wp2_with fail
  have hbx := hbx.out
  have hbq := hbq.out
  generalize hQ : w.heap.size = Q at hbq hPw hPs ⊢
  generalize (w.alloc (.cells #[.int .i64 kd, .string s, .string n, .string a, .int .i64 ct, .slice p l x, .slice q m y, .slice r o z] 36)) = w1 at hbx hbq ⊢
  obtain ⟨c0, c1, c2, c3, c4, c5, c6, c7⟩ := cells8 hbq
  have h1 := hid (h.out.ext hbx)
  have hm1 := hid (Kp.ofExt base P hbx)
  replace hbq := hid hbq
  have hQP : Hid (Q ≠ P) := hid (by omega)
  clear hPs
  replace hQ := hid hQ
  clear hbx
  refine (hN.out w1).mono ?_; rintro e w' ⟨rfl, rfl⟩
  generalize hbn : nameOk n.data.toList = bn
  cases bn with
  | false =>
    replace hbn := hid hbn
    go_wp2_with fail
    refine (require_false _).mono ?_; rintro e w' ⟨rfl, rfl⟩
    go_wp2_with fail
    exact ⟨rfl, fail.out _ _ (by rw [hV.out, hbn.out]; rfl) rfl hm1.out.1⟩
  | true =>
    replace hbn := hid hbn
    go_wp2_with fail
    refine (require_true _).mono ?_; rintro e w' ⟨rfl, rfl⟩
    go_wp2_with fail
    have ho := hid (only_b kd 0 s ⟨#[]⟩ n n a ⟨#[]⟩ ct 0 p none q q r r l 0 m m o o x 0 y y z z w1)
    rw [show (⟨#[]⟩ : ByteArray).data.toList = [] from rfl, dec_self, dec_nil, dec_nil, show decide (m = m) = true by simp, show decide (o = o) = true by simp, Bool.true_and, Bool.and_true, Bool.and_true] at ho
    generalize hB : (s.data.toList.isEmpty && (a.data.toList.isEmpty && (decide (ct = 0) && decide (l = 0)))) = B at ho
    have hB2 : (s.data.toList.isEmpty && a.data.toList.isEmpty && decide (ct = 0) && decide (l = 0)) = B := by rw [← hB]; simp only [Bool.and_assoc]
    rw [hB2, hbn.out] at hV
    clear hB hB2
    refine ho.out.mono ?_; rintro e w2 ⟨rfl, hx2⟩
    clear ho c0 c1 c2 c3 c4 c5 c6 c7
    have hbqw2 := hx2.at hbq.out (fun h => h)
    obtain ⟨c0, c1, c2, c3, c4, c5, c6, c7⟩ := cells8 hbqw2
    have hpw2 := hid (h1.out.ext hx2)
    have hmw2 := hid (hm1.out.ext hx2)
    clear hx2 h1 hm1
    replace hbqw2 := hid hbqw2
    cases B with
    | false =>
      go_wp2_with fail
      refine (require_false _).mono ?_; rintro e w' ⟨rfl, rfl⟩
      go_wp2_with fail
      exact ⟨rfl, fail.out _ _ (by rw [hV.out]; rfl) rfl hmw2.out.1⟩
    | true =>
      obtain ⟨tw2, htw2⟩ : ∃ t, t = tx := ⟨_, rfl⟩
      rw [← htw2] at hpw2 htx'
      have prew2 := htx'
      go_wp2_with fail
      refine (require_true _).mono ?_; rintro e w' ⟨rfl, rfl⟩
      clear htw2 hbq
      go_wp2_with fail
      cases es with
      | nil =>
        have ho0 : o = 0 := hol.out
        subst ho0
        have hx := Mod.alloc (Mod.refl (fun _ => False) w2) (.cells #[.string ⟨#[123]⟩, .string ⟨#[105, 102]⟩, .string ⟨#[32]⟩, .string n, .string ⟨#[125]⟩] 9)
        have hz : (w2.alloc (.cells #[.string ⟨#[123]⟩, .string ⟨#[105, 102]⟩, .string ⟨#[32]⟩, .string n, .string ⟨#[125]⟩] 9)).heap[w2.heap.size]? = some (.cells ([[123], wIf, [32], n.data.toList, [125]].map strV).toArray 9) := heap_alloc_new w2 _
        have hpp := hid (put_any base P _ [[123], wIf, [32], n.data.toList, [125]] w2.heap.size _ (hpw2.out.ext hx) hz (by simp))
        have hmA := hid (hmw2.out.ext hx)
        have hbqA := hid (hx.at hbqw2.out (fun h => h))
        clear hx hz c0 c1 c2 c3 c4 c5 c6 c7
        have prew12 := hid (pre_step prew2.out (piece := [[123], wIf, [32], n.data.toList, [125]].flatten) (r' := formL ks ++ (123 :: (wEnd ++ [125]))) (by simp))
        generalize tw2 ++ [[123], wIf, [32], n.data.toList, [125]].flatten = tw12 at hpp prew12
        refine hpp.out.mono ?_
        clear hpp
        rintro e w12 (⟨hokw12, rfl, hpw12, hmB⟩ | ⟨hokw12, rfl, hmB⟩)
        rotate_left
        · replace hokw12 := hid hokw12
          replace hmB := hid hmB
          go_wp2_with fail
          exact ⟨rfl, fail2.out _ _ (pre_fail prew12.out hokw12.out) rfl (hmA.out.1.trans hmB.out)⟩
        have hbqw12 := hmB.2 _ _ _ _ hbqA.out (by decide) hQP.out
        have hmw12 := hid (hmA.out.trans hmB)
        obtain ⟨c0, c1, c2, c3, c4, c5, c6, c7⟩ := cells8 hbqw12
        replace hbqw12 := hid hbqw12
        replace hpw12 := hid hpw12
        replace hokw12 := hid hokw12
        clear hmA hmB hbqA
        go_wp2_with fail

        have hL := hid (ih.out base P tw12 (.slice q m y) ks depth w12 hd hpw12.out (hks.out.mod hmw12.out.1 (fun j hj e => by omega)) hkl.out hkb.out)
        have prew13 := hid (pre_step prew12.out (piece := formL ks) (r' := 123 :: (wEnd ++ [125])) (by simp))
        generalize tw12 ++ formL ks = tw13 at hL prew13
        refine hL.out.mono ?_
        clear hL
        rintro e w13 (⟨hokw13, rfl, hpw13, hmB⟩ | ⟨hokw13, rfl, hmB⟩)
        rotate_left
        · replace hokw13 := hid hokw13
          replace hmB := hid hmB
          go_wp2_with fail
          refine ⟨rfl, ?_⟩
          have h9 := hokw13.out
          rw [Bool.and_eq_false_iff] at h9
          rcases h9 with h9 | h9
          · exact fail.out _ _ (by rw [hV.out, h9]; simp) rfl (hmw12.out.1.trans hmB.out)
          · exact fail2.out _ _ (pre_fail prew13.out h9) rfl (hmw12.out.1.trans hmB.out)
        rw [Bool.and_eq_true] at hokw13
        have hvw13 := hid hokw13.1
        clear c0 c1 c2 c3 c4 c5 c6 c7
        have hbqw13 := hmB.2 _ _ _ _ hbqw12.out (by decide) hQP.out
        have hmw13 := hid (hmw12.out.trans hmB)
        obtain ⟨c0, c1, c2, c3, c4, c5, c6, c7⟩ := cells8 hbqw13
        replace hbqw13 := hid hbqw13
        replace hpw13 := hid hpw13
        replace hokw13 := hid hokw13.2
        clear hmB
        go_wp2_with fail

        have hx := Mod.alloc (Mod.refl (fun _ => False) w13) (.cells #[.string ⟨#[123]⟩, .string ⟨#[101, 110, 100]⟩, .string ⟨#[125]⟩] 9)
        have hz : (w13.alloc (.cells #[.string ⟨#[123]⟩, .string ⟨#[101, 110, 100]⟩, .string ⟨#[125]⟩] 9)).heap[w13.heap.size]? = some (.cells ([[123], wEnd, [125]].map strV).toArray 9) := heap_alloc_new w13 _
        have hpp := hid (put_any base P _ [[123], wEnd, [125]] w13.heap.size _ (hpw13.out.ext hx) hz (by simp))
        have hmA := hid (hmw13.out.ext hx)
        have hbqA := hid (hx.at hbqw13.out (fun h => h))
        clear hx hz c0 c1 c2 c3 c4 c5 c6 c7
        have prew14 := hid (pre_step prew13.out (piece := [[123], wEnd, [125]].flatten) (r' := []) (by simp))
        generalize tw13 ++ [[123], wEnd, [125]].flatten = tw14 at hpp prew14
        refine hpp.out.mono ?_
        clear hpp
        rintro e w14 (⟨hokw14, rfl, hpw14, hmB⟩ | ⟨hokw14, rfl, hmB⟩)
        rotate_left
        · replace hokw14 := hid hokw14
          replace hmB := hid hmB
          go_wp2_with fail
          exact ⟨rfl, fail2.out _ _ (pre_fail prew14.out hokw14.out) rfl (hmA.out.1.trans hmB.out)⟩
        have hbqw14 := hmB.2 _ _ _ _ hbqA.out (by decide) hQP.out
        have hmw14 := hid (hmA.out.trans hmB)
        obtain ⟨c0, c1, c2, c3, c4, c5, c6, c7⟩ := cells8 hbqw14
        replace hbqw14 := hid hbqw14
        replace hpw14 := hid hpw14
        replace hokw14 := hid hokw14
        clear hmA hmB hbqA
        go_wp2_with fail

        go_end0
        rw [hpost.out]
        have heq : tx' = tw14 := by rw [prew14.out, List.append_nil]
        exact .inl ⟨by rw [heq, hokw14.out, hV.out, hvw13.out]; rfl, rfl, heq ▸ hpw14.out, hmw14.out⟩
      | cons e0 es0 =>
        have hop : decide ((0 : Int) < (o : Int)) = true := decide_eq_true (by have := hol.out; simp only [List.length_cons] at this; omega)
        have hopi : (0 : Int) < (o : Int) := by have := hol.out; simp only [List.length_cons] at this; omega
        obtain ⟨es, hes0⟩ : ∃ es, es = e0 :: es0 := ⟨_, rfl⟩
        rw [← hes0] at hV prew2 hes hel heb
        have hem : es.isEmpty = false := by rw [hes0]; rfl
        clear hes0
        have hx := Mod.alloc (Mod.refl (fun _ => False) w2) (.cells #[.string ⟨#[123]⟩, .string ⟨#[105, 102]⟩, .string ⟨#[32]⟩, .string n, .string ⟨#[125]⟩] 9)
        have hz : (w2.alloc (.cells #[.string ⟨#[123]⟩, .string ⟨#[105, 102]⟩, .string ⟨#[32]⟩, .string n, .string ⟨#[125]⟩] 9)).heap[w2.heap.size]? = some (.cells ([[123], wIf, [32], n.data.toList, [125]].map strV).toArray 9) := heap_alloc_new w2 _
        have hpp := hid (put_any base P _ [[123], wIf, [32], n.data.toList, [125]] w2.heap.size _ (hpw2.out.ext hx) hz (by simp))
        have hmA := hid (hmw2.out.ext hx)
        have hbqA := hid (hx.at hbqw2.out (fun h => h))
        clear hx hz c0 c1 c2 c3 c4 c5 c6 c7
        have prew15 := hid (pre_step prew2.out (piece := [[123], wIf, [32], n.data.toList, [125]].flatten) (r' := formL ks ++ (123 :: (wElse ++ (125 :: (formL es ++ (123 :: (wEnd ++ [125]))))))) (by simp [hem]))
        replace hem := hid hem
        generalize tw2 ++ [[123], wIf, [32], n.data.toList, [125]].flatten = tw15 at hpp prew15
        refine hpp.out.mono ?_
        clear hpp
        rintro e w15 (⟨hokw15, rfl, hpw15, hmB⟩ | ⟨hokw15, rfl, hmB⟩)
        rotate_left
        · replace hokw15 := hid hokw15
          replace hmB := hid hmB
          go_wp2_with fail
          exact ⟨rfl, fail2.out _ _ (pre_fail prew15.out hokw15.out) rfl (hmA.out.1.trans hmB.out)⟩
        have hbqw15 := hmB.2 _ _ _ _ hbqA.out (by decide) hQP.out
        have hmw15 := hid (hmA.out.trans hmB)
        obtain ⟨c0, c1, c2, c3, c4, c5, c6, c7⟩ := cells8 hbqw15
        replace hbqw15 := hid hbqw15
        replace hpw15 := hid hpw15
        replace hokw15 := hid hokw15
        clear hmA hmB hbqA
        go_wp2_with fail

        have hL := hid (ih.out base P tw15 (.slice q m y) ks depth w15 hd hpw15.out (hks.out.mod hmw15.out.1 (fun j hj e => by omega)) hkl.out hkb.out)
        have prew16 := hid (pre_step prew15.out (piece := formL ks) (r' := 123 :: (wElse ++ (125 :: (formL es ++ (123 :: (wEnd ++ [125])))))) (by simp))
        generalize tw15 ++ formL ks = tw16 at hL prew16
        refine hL.out.mono ?_
        clear hL
        rintro e w16 (⟨hokw16, rfl, hpw16, hmB⟩ | ⟨hokw16, rfl, hmB⟩)
        rotate_left
        · replace hokw16 := hid hokw16
          replace hmB := hid hmB
          go_wp2_with fail
          refine ⟨rfl, ?_⟩
          have h9 := hokw16.out
          rw [Bool.and_eq_false_iff] at h9
          rcases h9 with h9 | h9
          · exact fail.out _ _ (by rw [hV.out, h9]; simp) rfl (hmw15.out.1.trans hmB.out)
          · exact fail2.out _ _ (pre_fail prew16.out h9) rfl (hmw15.out.1.trans hmB.out)
        rw [Bool.and_eq_true] at hokw16
        have hvw16 := hid hokw16.1
        clear c0 c1 c2 c3 c4 c5 c6 c7
        have hbqw16 := hmB.2 _ _ _ _ hbqw15.out (by decide) hQP.out
        have hmw16 := hid (hmw15.out.trans hmB)
        obtain ⟨c0, c1, c2, c3, c4, c5, c6, c7⟩ := cells8 hbqw16
        replace hbqw16 := hid hbqw16
        replace hpw16 := hid hpw16
        replace hokw16 := hid hokw16.2
        clear hmB
        go_wp2_with fail

        have hx := Mod.alloc (Mod.refl (fun _ => False) w16) (.cells #[.string ⟨#[123]⟩, .string ⟨#[101, 108, 115, 101]⟩, .string ⟨#[125]⟩] 9)
        have hz : (w16.alloc (.cells #[.string ⟨#[123]⟩, .string ⟨#[101, 108, 115, 101]⟩, .string ⟨#[125]⟩] 9)).heap[w16.heap.size]? = some (.cells ([[123], wElse, [125]].map strV).toArray 9) := heap_alloc_new w16 _
        have hpp := hid (put_any base P _ [[123], wElse, [125]] w16.heap.size _ (hpw16.out.ext hx) hz (by simp))
        have hmA := hid (hmw16.out.ext hx)
        have hbqA := hid (hx.at hbqw16.out (fun h => h))
        clear hx hz c0 c1 c2 c3 c4 c5 c6 c7
        have prew17 := hid (pre_step prew16.out (piece := [[123], wElse, [125]].flatten) (r' := formL es ++ (123 :: (wEnd ++ [125]))) (by simp))
        generalize tw16 ++ [[123], wElse, [125]].flatten = tw17 at hpp prew17
        refine hpp.out.mono ?_
        clear hpp
        rintro e w17 (⟨hokw17, rfl, hpw17, hmB⟩ | ⟨hokw17, rfl, hmB⟩)
        rotate_left
        · replace hokw17 := hid hokw17
          replace hmB := hid hmB
          go_wp2_with fail
          exact ⟨rfl, fail2.out _ _ (pre_fail prew17.out hokw17.out) rfl (hmA.out.1.trans hmB.out)⟩
        have hbqw17 := hmB.2 _ _ _ _ hbqA.out (by decide) hQP.out
        have hmw17 := hid (hmA.out.trans hmB)
        obtain ⟨c0, c1, c2, c3, c4, c5, c6, c7⟩ := cells8 hbqw17
        replace hbqw17 := hid hbqw17
        replace hpw17 := hid hpw17
        replace hokw17 := hid hokw17
        clear hmA hmB hbqA
        go_wp2_with fail

        have hL := hid (ih.out base P tw17 (.slice r o z) es depth w17 hd hpw17.out (hes.out.mod hmw17.out.1 (fun j hj e => by omega)) hel.out heb.out)
        have prew18 := hid (pre_step prew17.out (piece := formL es) (r' := 123 :: (wEnd ++ [125])) (by simp))
        generalize tw17 ++ formL es = tw18 at hL prew18
        refine hL.out.mono ?_
        clear hL
        rintro e w18 (⟨hokw18, rfl, hpw18, hmB⟩ | ⟨hokw18, rfl, hmB⟩)
        rotate_left
        · replace hokw18 := hid hokw18
          replace hmB := hid hmB
          go_wp2_with fail
          refine ⟨rfl, ?_⟩
          have h9 := hokw18.out
          rw [Bool.and_eq_false_iff] at h9
          rcases h9 with h9 | h9
          · exact fail.out _ _ (by rw [hV.out, h9]; simp) rfl (hmw17.out.1.trans hmB.out)
          · exact fail2.out _ _ (pre_fail prew18.out h9) rfl (hmw17.out.1.trans hmB.out)
        rw [Bool.and_eq_true] at hokw18
        have hvw18 := hid hokw18.1
        clear c0 c1 c2 c3 c4 c5 c6 c7
        have hbqw18 := hmB.2 _ _ _ _ hbqw17.out (by decide) hQP.out
        have hmw18 := hid (hmw17.out.trans hmB)
        obtain ⟨c0, c1, c2, c3, c4, c5, c6, c7⟩ := cells8 hbqw18
        replace hbqw18 := hid hbqw18
        replace hpw18 := hid hpw18
        replace hokw18 := hid hokw18.2
        clear hmB
        go_wp2_with fail

        have hx := Mod.alloc (Mod.refl (fun _ => False) w18) (.cells #[.string ⟨#[123]⟩, .string ⟨#[101, 110, 100]⟩, .string ⟨#[125]⟩] 9)
        have hz : (w18.alloc (.cells #[.string ⟨#[123]⟩, .string ⟨#[101, 110, 100]⟩, .string ⟨#[125]⟩] 9)).heap[w18.heap.size]? = some (.cells ([[123], wEnd, [125]].map strV).toArray 9) := heap_alloc_new w18 _
        have hpp := hid (put_any base P _ [[123], wEnd, [125]] w18.heap.size _ (hpw18.out.ext hx) hz (by simp))
        have hmA := hid (hmw18.out.ext hx)
        have hbqA := hid (hx.at hbqw18.out (fun h => h))
        clear hx hz c0 c1 c2 c3 c4 c5 c6 c7
        have prew19 := hid (pre_step prew18.out (piece := [[123], wEnd, [125]].flatten) (r' := []) (by simp))
        generalize tw18 ++ [[123], wEnd, [125]].flatten = tw19 at hpp prew19
        refine hpp.out.mono ?_
        clear hpp
        rintro e w19 (⟨hokw19, rfl, hpw19, hmB⟩ | ⟨hokw19, rfl, hmB⟩)
        rotate_left
        · replace hokw19 := hid hokw19
          replace hmB := hid hmB
          go_wp2_with fail
          exact ⟨rfl, fail2.out _ _ (pre_fail prew19.out hokw19.out) rfl (hmA.out.1.trans hmB.out)⟩
        have hbqw19 := hmB.2 _ _ _ _ hbqA.out (by decide) hQP.out
        have hmw19 := hid (hmA.out.trans hmB)
        obtain ⟨c0, c1, c2, c3, c4, c5, c6, c7⟩ := cells8 hbqw19
        replace hbqw19 := hid hbqw19
        replace hpw19 := hid hpw19
        replace hokw19 := hid hokw19
        clear hmA hmB hbqA
        go_wp2_with fail

        go_end0
        rw [hpost.out]
        have heq : tx' = tw19 := by rw [prew19.out, List.append_nil]
        exact .inl ⟨by rw [heq, hokw19.out, hV.out, hvw16.out, hvw18.out]; rfl, rfl, heq ▸ hpw19.out, hmw19.out⟩
end Go.Proofs.YtpgniljgaknlpaaGreatDoor
