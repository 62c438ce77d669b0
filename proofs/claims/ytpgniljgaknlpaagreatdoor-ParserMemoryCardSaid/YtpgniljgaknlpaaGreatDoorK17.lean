import Derived.Test.YtpgniljgaknlpaaGreatDoorK16
/-
  The printer's 'literal' and 'field'.
-/
namespace Go.Proofs.YtpgniljgaknlpaaGreatDoor
open Go.RowKit Cdk Tpl

theorem idx_nil : Lib.index [] [123] = -1 := by decide
theorem idx_hit (r : Bs) : Lib.index ((123 : UInt8) :: r) [123] = 0 := by
  unfold Lib.index
  rw [if_pos (by simp [List.isPrefixOf])]
theorem idx_miss (c : UInt8) (r : Bs) (h : c ≠ 123) : Lib.index (c :: r) [123] = if Lib.index r [123] == -1 then -1 else Lib.index r [123] + 1 := by
  conv => lhs; unfold Lib.index
  rw [if_neg (by simp [List.isPrefixOf]; exact fun e => h e.symm)]

theorem repl_esc : ∀ (s : Bs) (k : Nat), Lib.count s [123] ≤ k → Lib.replaceK [123] [123, 123] k s = esc s
  | [], k, _ => by cases k <;> rfl
  | c :: r, k, h => by
    by_cases hc : c = 123
    · subst hc
      have hh := Lib.count_hit (s := (123 : UInt8) :: r) (sub := [123]) (i := 0) (by simp) (idx_hit r)
      rw [hh] at h
      simp only [List.length_singleton, Nat.zero_add, List.drop_succ_cons, List.drop_zero] at h
      cases k with
      | zero => omega
      | succ k =>
        rw [Lib.replaceK_hit _ _ _ _ 0 (idx_hit r)]
        simp only [List.take_zero, List.nil_append, List.length_singleton, Nat.zero_add, List.drop_succ_cons, List.drop_zero]
        rw [repl_esc r k (by omega)]
        rfl
    · have he : esc (c :: r) = c :: esc r := by
        unfold esc
        rw [List.flatMap_cons, if_neg (fun e => hc (UInt8.toNat_inj.1 (e.trans (by decide))))]
        rfl
      rw [he]
      by_cases hm : Lib.index r [123] = -1
      · have hi : Lib.index (c :: r) [123] = -1 := by rw [idx_miss c r hc, hm]; rfl
        have h0 := repl_esc r 0 (by rw [Lib.count_miss hm]; omega)
        have hr : r = esc r := h0
        cases k with
        | zero => rw [Lib.replaceK, ← hr]
        | succ k => rw [Lib.replaceK, if_pos (beq_iff_eq.2 hi), ← hr]
      · have hge := Lib.index_ge r [123]
        obtain ⟨i, hi⟩ : ∃ i : Nat, Lib.index r [123] = i := ⟨(Lib.index r [123]).toNat, by omega⟩
        have hi' : Lib.index (c :: r) [123] = ((i + 1 : Nat) : Int) := by
          rw [idx_miss c r hc, if_neg (by rw [beq_iff_eq]; exact hm), hi]; omega
        have c1 := Lib.count_hit (s := c :: r) (sub := [123]) (i := i + 1) (by simp) hi'
        have c2 := Lib.count_hit (s := r) (sub := [123]) (i := i) (by simp) hi
        simp only [List.length_singleton] at c1 c2
        rw [show i + 1 + 1 = (i + 1) + 1 from rfl, List.drop_succ_cons] at c1
        cases k with
        | zero => omega
        | succ k =>
          have ih := repl_esc r (k + 1) (by omega)
          rw [Lib.replaceK_hit _ _ _ _ i hi] at ih
          rw [Lib.replaceK_hit _ _ _ _ (i + 1) hi']
          simp only [List.length_singleton, List.take_succ_cons, List.drop_succ_cons, List.cons_append] at ih ⊢
          rw [ih]

theorem replace_esc (s : Bs) : Lib.replaceAll s [123] [123, 123] = esc s := by
  unfold Lib.replaceAll Lib.replace Lib.replaceNum
  rw [if_neg (by decide), if_pos (by simp)]
  exact repl_esc s _ (Nat.le_refl _)

theorem esc_len (s : Bs) : s.length ≤ (esc s).length := by
  unfold esc
  induction s with
  | nil => simp
  | cons c r ih => rw [List.flatMap_cons, List.length_append, List.length_cons]; split <;> simp only [List.length_cons, List.length_nil] <;> omega

/-- 'only' over strings as they come. -/
theorem only_b (k1 k2 : Int) (t1 t2 n1 n2 a1 a2 : ByteArray) (c1 c2 : Int) (p1 p2 q1 q2 r1 r2 : Option Addr) (l1 l2 m1 m2 o1 o2 x1 x2 y1 y2 z1 z2 : Nat) (w : World) :
    Calls Tryz.prog 54 #[.agg #[.int .i64 k1, .string t1, .string n1, .string a1, .int .i64 c1, .slice p1 l1 x1, .slice q1 m1 y1, .slice r1 o1 z1], .agg #[.int .i64 k2, .string t2, .string n2, .string a2, .int .i64 c2, .slice p2 l2 x2, .slice q2 m2 y2, .slice r2 o2 z2]] w fun e w' =>
      e = .returned (.bool (decide (t1.data.toList = t2.data.toList) && (decide (n1.data.toList = n2.data.toList) && (decide (a1.data.toList = a2.data.toList) && (decide (c1 = c2) && (decide (l1 = l2) && (decide (m1 = m2) && decide (o1 = o2)))))))) ∧ Ext w w' :=
  only_any k1 k2 t1.data.toList t2.data.toList n1.data.toList n2.data.toList a1.data.toList a2.data.toList c1 c2 p1 p2 q1 q2 r1 r2 l1 l2 m1 m2 o1 o2 x1 x2 y1 y2 z1 z2 w

theorem dec_nil (l : Bs) : decide (l = []) = l.isEmpty := by cases l <;> simp
theorem dec_self (l : Bs) : decide (l = l) = true := by simp

/-- One byte more of a text that fits. -/
theorem txOk_eq (s : ByteArray) (h : 0 < s.size) : txOk s.data.toList = s.data.toList.all isT := by
  obtain ⟨⟨l⟩⟩ := s
  cases l with
  | nil => simp [ByteArray.size] at h
  | cons c r => rfl

theorem empty_toList {s : ByteArray} (h : ¬ 0 < s.size) : s = ⟨#[]⟩ := by
  obtain ⟨⟨l⟩⟩ := s
  cases l with
  | nil => rfl
  | cons c r => simp [ByteArray.size] at h

theorem full_toList {s : ByteArray} (h : 0 < s.size) : s.toList.isEmpty = false ∧ ¬ s.toList = [] := by
  have : s.toList.isEmpty = false := by
    rw [ByteArray.toList_eq]
    obtain ⟨⟨l⟩⟩ := s
    cases l with
    | nil => simp [ByteArray.size] at h
    | cons c r => rfl
  exact ⟨this, fun h => by rw [h] at this; cases this⟩

set_option maxRecDepth 100000 in
set_option maxHeartbeats 8000000 in
theorem plit_any (base P : Nat) (tx : Bs) (kd : Nat) (s n a : ByteArray) (ct : Int) (p q r : Option Addr) (l m o x y z : Nat) (w : World) (h : Pr base P tx w) :
    Calls Tryz.prog 49 #[.pointer (some ⟨P, 0, none⟩), .agg #[.int .i64 kd, .string s, .string n, .string a, .int .i64 ct, .slice p l x, .slice q m y, .slice r o z]] w
      (PrP base P w ((txOk s.data.toList && (n.data.toList.isEmpty && a.data.toList.isEmpty && decide (ct = 0) && decide (l = 0) && decide (m = 0) && decide (o = 0))) && decide ((tx ++ esc s.data.toList).length ≤ 1000)) (tx ++ esc s.data.toList)) := by
  obtain ⟨post, hpost⟩ : ∃ post, post = PrP base P w ((txOk s.data.toList && (n.data.toList.isEmpty && a.data.toList.isEmpty && decide (ct = 0) && decide (l = 0) && decide (m = 0) && decide (o = 0))) && decide ((tx ++ esc s.data.toList).length ≤ 1000)) (tx ++ esc s.data.toList) := ⟨_, rfl⟩
  rw [← hpost]
  have hsl : s.data.toList.length = s.size := rfl
  have hel := esc_len s.data.toList
  replace hpost := hid hpost
  have hlow := h.low
  obtain ⟨v0, hP0, -⟩ := h.cell
  have hPw := lt_of_at hP0
  clear hP0
  have hbx := Mod.alloc (Mod.refl (fun _ => False) w) (.cells #[.int .i64 kd, .string s, .string n, .string a, .int .i64 ct, .slice p l x, .slice q m y, .slice r o z] 36)
  have hbq := heap_alloc_new w (.cells #[.int .i64 kd, .string s, .string n, .string a, .int .i64 ct, .slice p l x, .slice q m y, .slice r o z] 36)
  replace hbx := hid hbx
  replace hbq := hid hbq
  by_cases h0 : 0 < s.size
  · obtain ⟨f1, f2⟩ := full_toList h0
    by_cases hbig : s.size ≤ 1000
    · have hdb : decide ((s.size : Int) ≤ 1000) = true := decide_eq_true (by omega)
      have hdi : (s.size : Int) ≤ 1000 := by omega
      replace hel := hid hel
      replace hsl := hid hsl
      replace h := hid h
      go_enter Tryz.func49, Tryz.ntmps49
      go_wp2_with fail
      refine (require_true _).mono ?_; rintro e w' ⟨rfl, rfl⟩
      clear hdb f1 f2
      have hbx := hbx.out
      have hbq := hbq.out
      generalize hQ : w.heap.size = Q at hbq hPw ⊢
      generalize (w.alloc (.cells #[.int .i64 kd, .string s, .string n, .string a, .int .i64 ct, .slice p l x, .slice q m y, .slice r o z] 36)) = w1 at hbx hbq ⊢
      obtain ⟨c0, c1, c2, c3, c4, c5, c6, c7⟩ := cells8 hbq
      have h1 := hid (h.out.ext hbx)
      have hm1 := hid (Kp.ofExt base P hbx)
      replace hbq := hid hbq
      replace hQ := hid hQ
      go_wp2_with fail
      have ho := hid (only_b kd 0 s s n ⟨#[]⟩ a ⟨#[]⟩ ct 0 p none q none r none l 0 m 0 o 0 x 0 y 0 z 0 w1)
      rw [show (⟨#[]⟩ : ByteArray).data.toList = [] from rfl, dec_self, dec_nil, dec_nil, Bool.true_and] at ho
      generalize hB : (n.data.toList.isEmpty && (a.data.toList.isEmpty && (decide (ct = 0) && (decide (l = 0) && (decide (m = 0) && decide (o = 0)))))) = B at ho
      have hB2 : (n.data.toList.isEmpty && a.data.toList.isEmpty && decide (ct = 0) && decide (l = 0) && decide (m = 0) && decide (o = 0)) = B := by rw [← hB]; simp only [Bool.and_assoc]
      rw [hB2] at hpost
      clear hB hB2
      refine ho.out.mono ?_; rintro e w2 ⟨rfl, hx2⟩
      clear ho c0 c1 c2 c3 c4 c5 c6 c7
      have hbq2 := hx2.at hbq.out (fun h => h)
      obtain ⟨c0, c1, c2, c3, c4, c5, c6, c7⟩ := cells8 hbq2
      have h2 := hid (h1.out.ext hx2)
      have hm2 := hid (hm1.out.ext hx2)
      clear hx2 h1 hm1
      replace hbq2 := hid hbq2
      cases B with
      | false =>
        go_wp2_with fail
        refine (require_false _).mono ?_; rintro e w' ⟨rfl, rfl⟩
        go_wp2_with fail
        refine ⟨rfl, ?_⟩
        rw [hpost.out]
        exact .inr ⟨by rw [Bool.and_false, Bool.false_and], rfl, hm2.out.1⟩
      | true =>
        rw [Bool.and_true] at hpost
        go_wp2_with fail
        refine (require_true _).mono ?_; rintro e w' ⟨rfl, rfl⟩
        have htx := hid (txOk_eq s h0)
        have hall := hid (all_bytes s isT)
        go_wp2_with fail
        go_loopg [4] s.size (fun g i wr => ∃ k : Nat, k + g = s.size ∧ i = .int .i64 k ∧ w2 = wr ∧ Hid (∀ (j : Nat) (h : j < s.size), j < k → isT s[j] = true))
        case atStart => exact ⟨0, by omega, rfl, rfl, hid (fun j _ h => by omega)⟩
        case round =>
          obtain ⟨k, hk, rfl, rfl, hw⟩ := hrel
          replace hk := hid hk
          have hks : k ≤ s.size := by have := hk.out; omega
          by_cases hlt : k < s.size
          · have hd : decide ((k : Int) < (s.size : Int)) = true := decide_eq_true (by omega)
            have hdi : (k : Int) < (s.size : Int) := by omega
            have hT : Hid (isT s[k] = (decide (s[k].toNat = 10) || isP s[k])) := hid rfl
            have hw2 : Hid (isT s[k] = true → ∀ (j : Nat) (h : j < s.size), j < k + 1 → isT s[j] = true) := hid (fun hb j hj hjk => by
              by_cases e : j < k
              · exact hw.out j hj e
              · obtain rfl : j = k := by omega
                exact hb)
            by_cases h10 : s[k].toNat = 10
            · have gq : ((s[k].toNat : Int) == 10) = true := by rw [beq_iff_eq]; omega
              have hb : Hid (isT s[k] = true) := hid (by rw [hT.out, decide_eq_true h10]; rfl)
              replace h10 := hid h10
              go_wp2_with fail
              refine (require_true _).mono ?_; rintro e w' ⟨rfl, rfl⟩
              go_wp2_with fail
              go_roundg (gk - 1)
              case measure => have := hk.out; omega
              case rel => exact ⟨k + 1, by have := hk.out; omega, by go_num, rfl, hid (hw2.out hb.out)⟩
            · have gq : ((s[k].toNat : Int) == 10) = false := by rw [beq_eq_false_iff_ne]; omega
              have hb : Hid (isT s[k] = isP s[k]) := hid (by rw [hT.out, decide_eq_false h10]; rfl)
              have hpp := hid (pprintable_any s[k] w2)
              generalize hpk : isP s[k] = bp at hpp
              replace hpk := hid hpk
              replace h10 := hid h10
              go_wp2_with fail
              refine hpp.out.mono ?_; rintro e w' ⟨rfl, rfl⟩
              cases bp with
              | true =>
                go_wp2_with fail
                refine (require_true _).mono ?_; rintro e w' ⟨rfl, rfl⟩
                go_wp2_with fail
                go_roundg (gk - 1)
                case measure => have := hk.out; omega
                case rel => exact ⟨k + 1, by have := hk.out; omega, by go_num, rfl, hid (hw2.out (hb.out.trans hpk.out))⟩
              | false =>
                go_wp2_with fail
                refine (require_false _).mono ?_; rintro e w' ⟨rfl, rfl⟩
                go_wp2_with fail
                refine ⟨rfl, ?_⟩
                rw [hpost.out]
                refine .inr ⟨?_, rfl, hm2.out.1⟩
                rw [htx.out, show s.data.toList.all isT = false from ?_, Bool.false_and]
                rw [Bool.eq_false_iff]
                intro e
                have := hall.out.1 e k hlt
                rw [hb.out, hpk.out] at this
                cases this
          · have hd : decide ((k : Int) < (s.size : Int)) = false := decide_eq_false (by omega)
            have hdi : ¬ (k : Int) < (s.size : Int) := by omega
            have hok : Hid (txOk s.data.toList = true) := hid (by rw [htx.out]; exact hall.out.2 (fun j hj => hw.out j hj (by omega)))
            go_wp2_with fail
            obtain ⟨mx, hmx⟩ := h2.out.gl.mx
            have hcb := Lib.countB_le ⟨#[123]⟩ (by decide) s.size s (Nat.le_refl _)
            refine (Tryz.strings_ReplaceAll s ⟨#[123]⟩ ⟨#[123, 123]⟩ mx w2 (by omega) hmx (by decide) (by have : (⟨#[123, 123]⟩ : ByteArray).size = 2 := rfl; rw [this]; omega)).mono ?_
            rintro e w3 ⟨rfl, hb3⟩
            rw [show Lib.replaceAll s.data.toList (⟨#[123]⟩ : ByteArray).data.toList (⟨#[123, 123]⟩ : ByteArray).data.toList = esc s.data.toList from replace_esc _]
            have hx3 : Ext w2 w3 := Mod.ofBelow hb3
            clear hb3 hmx hcb c0 c1 c2 c3 c4 c5 c6 c7
            have h3 := hid (h2.out.ext hx3)
            have hm3 := hid (hm2.out.ext hx3)
            clear hx3
            go_wp2_with fail
            have hx4 := Mod.alloc (Mod.refl (fun _ => False) w3) (.cells #[.string ⟨(esc s.data.toList).toArray⟩] 9)
            have hz4 : (w3.alloc (.cells #[.string ⟨(esc s.data.toList).toArray⟩] 9)).heap[w3.heap.size]? = some (.cells ([esc s.data.toList].map strV).toArray 9) := heap_alloc_new w3 _
            have hp4 := hid (put_any base P tx [esc s.data.toList] w3.heap.size _ (h3.out.ext hx4) hz4 (by simp))
            have hm4 := hid (hm3.out.ext hx4)
            clear hx4 hz4
            refine hp4.out.mono ?_
            rw [show [esc s.data.toList].flatten = esc s.data.toList by simp]
            rintro e w5 (⟨hok5, rfl, hr5, hm5⟩ | ⟨hok5, rfl, hm5⟩)
            · replace hok5 := hid hok5
              replace hr5 := hid hr5
              replace hm5 := hid hm5
              go_wp2_with fail
              go_end0
              rw [hpost.out]
              exact .inl ⟨by rw [hok.out, hok5.out]; rfl, rfl, hr5.out, hm4.out.trans hm5.out⟩
            · replace hok5 := hid hok5
              replace hm5 := hid hm5
              go_wp2_with fail
              refine ⟨rfl, ?_⟩
              rw [hpost.out]
              exact .inr ⟨by rw [hok5.out, Bool.and_false], rfl, hm4.out.1.trans hm5.out⟩
    · have hdb : decide ((s.size : Int) ≤ 1000) = false := decide_eq_false (by omega)
      have hdi : ¬ (s.size : Int) ≤ 1000 := by omega
      have hno : Hid (decide ((tx ++ esc s.data.toList).length ≤ 1000) = false) := hid (decide_eq_false (by rw [List.length_append]; omega))
      replace hel := hid hel
      replace hsl := hid hsl
      replace h := hid h
      go_enter Tryz.func49, Tryz.ntmps49
      go_wp2_with fail
      refine (require_false _).mono ?_; rintro e w' ⟨rfl, rfl⟩
      go_wp2_with fail
      refine ⟨rfl, ?_⟩
      rw [hpost.out]
      exact .inr ⟨by rw [hno.out, Bool.and_false], rfl, hbx.out.mono (fun _ h => h.elim)⟩
  · obtain rfl := empty_toList h0
    replace hel := hid hel
    replace hsl := hid hsl
    replace h := hid h
    go_enter Tryz.func49, Tryz.ntmps49
    go_wp2_with fail
    refine (require_false _).mono ?_; rintro e w' ⟨rfl, rfl⟩
    go_wp2_with fail
    refine ⟨rfl, ?_⟩
    rw [hpost.out]
    exact .inr ⟨rfl, rfl, hbx.out.mono (fun _ h => h.elim)⟩
end Go.Proofs.YtpgniljgaknlpaaGreatDoor
