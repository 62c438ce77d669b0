import Derived.Test.YtpgniljgaknlpaaGreatDoorK7
import Derived.Lib.BufferRead
/-
  The reference lexer's functions on bytes: 'lower', 'digit', 'plain', 'textEnd', 'wordEnd', 'stringEnd'.
-/
namespace Go.Proofs.YtpgniljgaknlpaaGreatDoor
open Go.RowKit Cdk Tpl

set_option maxHeartbeats 400000 in
theorem rlower_any (c : UInt8) (w : World) : Calls Tryz.prog 85 #[.int .u8 c.toNat] w fun e w' => e = .returned (.bool (isL c)) ∧ w = w' := by
  have e1 : Hid (isL c = (decide (97 ≤ c.toNat) && decide (c.toNat ≤ 122))) := hid rfl
  generalize isL c = r at e1 ⊢
  generalize c.toNat = n at e1 ⊢
  by_cases h1 : (97 : Int) ≤ (n : Int) <;> by_cases h2 : (n : Int) ≤ 122
  all_goals
    go_enter Tryz.func85, Tryz.ntmps85
    go_wp2
    go_ret
    refine ⟨?_, rfl⟩
    rw [e1.out]
    congr 2
    simp only
    first | omega | (simp; omega)

set_option maxHeartbeats 400000 in
theorem rdigit_any (c : UInt8) (w : World) : Calls Tryz.prog 87 #[.int .u8 c.toNat] w fun e w' => e = .returned (.bool (isD c)) ∧ w = w' := by
  have e1 : Hid (isD c = (decide (48 ≤ c.toNat) && decide (c.toNat ≤ 57))) := hid rfl
  generalize isD c = r at e1 ⊢
  generalize c.toNat = n at e1 ⊢
  by_cases h1 : (48 : Int) ≤ (n : Int) <;> by_cases h2 : (n : Int) ≤ 57
  all_goals
    go_enter Tryz.func87, Tryz.ntmps87
    go_wp2
    go_ret
    refine ⟨?_, rfl⟩
    rw [e1.out]
    congr 2
    simp only
    first | omega | (simp; omega)

set_option maxHeartbeats 400000 in
theorem rplain_any (c : UInt8) (w : World) : Calls Tryz.prog 64 #[.int .u8 c.toNat] w fun e w' => e = .returned (.bool (isP c)) ∧ w = w' := by
  have e1 : Hid (isP c = (decide (32 ≤ c.toNat) && decide (c.toNat ≤ 126))) := hid rfl
  generalize isP c = r at e1 ⊢
  generalize c.toNat = n at e1 ⊢
  by_cases h1 : (32 : Int) ≤ (n : Int) <;> by_cases h2 : (n : Int) ≤ 126
  all_goals
    go_enter Tryz.func64, Tryz.ntmps64
    go_wp2
    go_ret
    refine ⟨?_, rfl⟩
    rw [e1.out]
    congr 2
    simp only
    first | omega | (simp; omega)

/-- What 'stringEnd' answers. -/
def strE (r : Bs) (k : Nat) : Int :=
  match r.dropWhile isA with
  | [] => -1
  | d :: _ => if d.toNat = 34 then ((k + (r.takeWhile isA).length + 2 : Nat) : Int) else -1

set_option maxHeartbeats 2000000 in
theorem stringEnd_any (s : ByteArray) (k : Nat) (hk : k < s.size) (hs : s.size ≤ 1000) (w : World) :
    Calls Tryz.prog 88 #[.string s, .int .i64 k] w fun e w' => e = .returned (.int .i64 (strE (s.data.toList.drop (k + 1)) k)) ∧ w = w' := by
  obtain ⟨R, hR⟩ : ∃ R, R = strE (s.data.toList.drop (k + 1)) k := ⟨_, rfl⟩
  rw [← hR]
  have hwk : IntKind.i64.wrap ((k : Int) + 1) = ((k + 1 : Nat) : Int) := by rw [Go.IntWalk.i64_in _ (by omega)]; omega
  replace hR := hid hR
  go_enter Tryz.func88, Tryz.ntmps88
  go_wp2_with fail
  go_loopg [5] (s.size - (k + 1)) (fun g i wr => ∃ j : Nat, k + 1 ≤ j ∧ j + g = s.size ∧ i = .int .i64 j ∧ wr = w ∧ Hid (R = (match (s.data.toList.drop j).dropWhile isA with | [] => -1 | d :: _ => if d.toNat = 34 then ((j + ((s.data.toList.drop j).takeWhile isA).length + 1 : Nat) : Int) else -1)))
  case atStart =>
    refine ⟨k + 1, Nat.le_refl _, by omega, by first | rfl | (rw [← hwk]), rfl, hid ?_⟩
    rw [hR.out]
    unfold strE
    split
    · rfl
    · split
      · congr 1; omega
      · rfl
  case round =>
    obtain ⟨j, hkj, hj, rfl, rfl, hr⟩ := hrel
    have hjs : j ≤ s.size := by omega
    replace hj := hid hj
    by_cases hlt : j < s.size
    · have hr := hr.out
      rw [drop_at s hlt, List.takeWhile_cons, List.dropWhile_cons] at hr
      have hc := rplain_any s[j] wr
      cases hq : (((s[j]).toNat : Int) == 34) with
      | true =>
        have hq' : (s[j]).toNat = 34 := by have : ((s[j]).toNat : Int) = 34 := (by simpa using hq); omega
        have ha : isA s[j] = false := by simp [isA, hq']
        simp only [ha, hq', if_true, Bool.false_eq_true, if_false, List.length_nil, Nat.add_zero] at hr
        have hw1 : IntKind.i64.wrap ((j : Int) + 1) = ((j + 1 : Nat) : Int) := by rw [Go.IntWalk.i64_in _ (by omega)]; omega
        replace hr := hid hr
        clear ha hq'
        go_wp2_with fail
        go_ret
        refine ⟨?_, rfl⟩
        rw [hr.out]
        first | rfl | (rw [← hw1])
      | false =>
        have hq' : ¬ (s[j]).toNat = 34 := by have : ¬ ((s[j]).toNat : Int) = 34 := (by simpa using hq); omega
        cases hb : isP s[j] with
        | true =>
          have ha : isA s[j] = true := by simp [isA, hq', hb]
          simp only [ha, if_true, List.length_cons] at hr
          rw [hb] at hc
          replace hr := hid hr
          replace hc := hid hc
          clear hb ha hq'
          go_wp2_with fail
          refine hc.out.mono ?_; rintro e w' ⟨rfl, rfl⟩
          go_wp2_with fail
          go_roundg (gk - 1)
          case measure => have := hj.out; omega
          case rel =>
            refine ⟨j + 1, by omega, by have := hj.out; omega, by go_num, rfl, hid ?_⟩
            rw [hr.out]
            split
            · rfl
            · split
              · congr 1; omega
              · rfl
        | false =>
          have ha : isA s[j] = false := by simp [isA, hb]
          simp only [ha, hq', Bool.false_eq_true, if_false] at hr
          rw [hb] at hc
          replace hr := hid hr
          replace hc := hid hc
          clear hb ha hq'
          go_wp2_with fail
          refine hc.out.mono ?_; rintro e w' ⟨rfl, rfl⟩
          go_wp2_with fail
          go_ret
          refine ⟨?_, rfl⟩
          rw [hr.out]
          rfl
    · obtain rfl : j = s.size := by omega
      have hd : s.data.toList.drop s.size = [] := List.drop_eq_nil_of_le (Nat.le_refl _)
      have hr := hr.out
      rw [hd] at hr
      simp only [List.dropWhile_nil] at hr
      replace hr := hid hr
      clear hd
      go_wp2_with fail
      go_ret
      refine ⟨?_, rfl⟩
      rw [hr.out]
      rfl

set_option maxHeartbeats 2000000 in
theorem wordEnd_any (s : ByteArray) (k : Nat) (hk : k < s.size) (hs : s.size ≤ 1000) (b : Bool) (hb : isL s[k] = b) (w : World) :
    Calls Tryz.prog 86 #[.string s, .int .i64 k] w fun e w' => e = .returned (.int .i64 ((k + ((s.data.toList.drop k).takeWhile (if b then isW else isD)).length : Nat) : Int)) ∧ w = w' := by
  obtain ⟨p, hp⟩ : ∃ p : UInt8 → Bool, p = if b then isW else isD := ⟨_, rfl⟩
  rw [← hp]
  have hpc : Hid (∀ c, p c = (isD c || (b && (isL c || decide (c.toNat = 45))))) := hid (by
    intro c; rw [hp]
    cases b with
    | true => simp only [if_true, isW]; cases isL c <;> cases isD c <;> simp
    | false => simp)
  replace hp := hid hp
  have hl := rlower_any s[k] w
  rw [hb] at hl
  replace hl := hid hl
  replace hb := hid hb
  go_enter Tryz.func86, Tryz.ntmps86
  go_wp2_with fail
  refine hl.out.mono ?_; rintro e w' ⟨rfl, rfl⟩
  go_wp2_with fail
  go_loopg [1] (s.size - k) (fun g i wr => ∃ j : Nat, k ≤ j ∧ j + g = s.size ∧ i = .int .i64 j ∧ wr = w ∧ k + ((s.data.toList.drop k).takeWhile p).length = j + ((s.data.toList.drop j).takeWhile p).length)
  case atStart => exact ⟨k, Nat.le_refl _, by omega, rfl, rfl, rfl⟩
  case round =>
    obtain ⟨j, hkj, hj, rfl, rfl, hr⟩ := hrel
    have hjs : j ≤ s.size := by omega
    replace hj := hid hj
    by_cases hlt : j < s.size
    · rw [drop_at s hlt, List.takeWhile_cons] at hr
      have hpj := hpc.out s[j]
      have hc1 := rdigit_any s[j] wr
      have hc2 := rlower_any s[j] wr
      cases hD : isD s[j] with
      | true =>
        rw [hD] at hc1 hpj
        simp only [Bool.true_or] at hpj
        rw [hpj] at hr
        simp only [if_true, List.length_cons] at hr
        replace hr := hid hr
        replace hc1 := hid hc1
        clear hpj hD hc2
        go_wp2_with fail
        refine hc1.out.mono ?_; rintro e w' ⟨rfl, rfl⟩
        go_wp2_with fail
        go_roundg (gk - 1)
        case measure => have := hj.out; omega
        case rel => exact ⟨j + 1, by omega, by have := hj.out; omega, by go_num, rfl, by have := hr.out; omega⟩
      | false =>
        rw [hD] at hc1 hpj
        simp only [Bool.false_or] at hpj
        cases b with
        | false =>
          simp only [Bool.false_and] at hpj
          rw [hpj] at hr
          simp only [Bool.false_eq_true, if_false, List.length_nil, Nat.add_zero] at hr
          replace hr := hid hr
          replace hc1 := hid hc1
          clear hpj hD hc2
          go_wp2_with fail
          refine hc1.out.mono ?_; rintro e w' ⟨rfl, rfl⟩
          go_wp2_with fail
          go_ret
          refine ⟨?_, rfl⟩
          rw [hr.out]
          rfl
        | true =>
          simp only [Bool.true_and] at hpj
          cases hL : isL s[j] with
          | true =>
            rw [hL] at hc2 hpj
            simp only [Bool.true_or] at hpj
            rw [hpj] at hr
            simp only [if_true, List.length_cons] at hr
            replace hr := hid hr
            replace hc1 := hid hc1
            replace hc2 := hid hc2
            clear hpj hD hL
            go_wp2_with fail
            refine hc1.out.mono ?_; rintro e w' ⟨rfl, rfl⟩
            go_wp2_with fail
            refine hc2.out.mono ?_; rintro e w' ⟨rfl, rfl⟩
            go_wp2_with fail
            go_roundg (gk - 1)
            case measure => have := hj.out; omega
            case rel => exact ⟨j + 1, by omega, by have := hj.out; omega, by go_num, rfl, by have := hr.out; omega⟩
          | false =>
            rw [hL] at hc2 hpj
            simp only [Bool.false_or] at hpj
            cases h45 : (((s[j]).toNat : Int) == 45) with
            | true =>
              have h45' : (s[j]).toNat = 45 := by have : ((s[j]).toNat : Int) = 45 := (by simpa using h45); omega
              rw [decide_eq_true h45'] at hpj
              rw [hpj] at hr
              simp only [if_true, List.length_cons] at hr
              replace hr := hid hr
              replace hc1 := hid hc1
              replace hc2 := hid hc2
              clear hpj hD hL h45'
              go_wp2_with fail
              refine hc1.out.mono ?_; rintro e w' ⟨rfl, rfl⟩
              go_wp2_with fail
              refine hc2.out.mono ?_; rintro e w' ⟨rfl, rfl⟩
              go_wp2_with fail
              go_roundg (gk - 1)
              case measure => have := hj.out; omega
              case rel => exact ⟨j + 1, by omega, by have := hj.out; omega, by go_num, rfl, by have := hr.out; omega⟩
            | false =>
              have h45' : ¬ (s[j]).toNat = 45 := by have : ¬ ((s[j]).toNat : Int) = 45 := (by simpa using h45); omega
              rw [decide_eq_false h45'] at hpj
              rw [hpj] at hr
              simp only [Bool.false_eq_true, if_false, List.length_nil, Nat.add_zero] at hr
              replace hr := hid hr
              replace hc1 := hid hc1
              replace hc2 := hid hc2
              clear hpj hD hL h45'
              go_wp2_with fail
              refine hc1.out.mono ?_; rintro e w' ⟨rfl, rfl⟩
              go_wp2_with fail
              refine hc2.out.mono ?_; rintro e w' ⟨rfl, rfl⟩
              go_wp2_with fail
              go_ret
              refine ⟨?_, rfl⟩
              rw [hr.out]
              rfl
    · obtain rfl : j = s.size := by omega
      have hd : s.data.toList.drop s.size = [] := List.drop_eq_nil_of_le (Nat.le_refl _)
      rw [hd] at hr
      simp only [List.takeWhile_nil, List.length_nil, Nat.add_zero] at hr
      replace hr := hid hr
      clear hd
      go_wp2_with fail
      go_ret
      refine ⟨?_, rfl⟩
      rw [hr.out]
      rfl

/-- What 'textEnd' answers. -/
def txE (l : Bs) (k : Nat) : Int × Bs × Int := if (lit l).2.2.2 then (((k + (lit l).2.1 : Nat) : Int), (lit l).1, -1) else (((k + (lit l).2.1 : Nat) : Int), [], ((k + (lit l).2.1 : Nat) : Int))

/-- The text of an own slice of bytes, nil or not. -/
theorem run_text0 {w : World} {base : Nat} {v : Value} {l : Bs} (h : Cdk.Own w base 5 1 byteC v l) (h0 : l = [] → v = .slice none 0 0) : (convert 64 9 v).run Tryz.prog w = .ok (.string ⟨l.toArray⟩) w := by
  by_cases hne : l = []
  · rw [h0 hne, hne]
    exact Go.Lib.run_convert_nil_bytes w _ _ _ 0 Tryz.underlying64 Tryz.underlying5 Tryz.underlying9
  · exact run_text h hne

set_option maxRecDepth 100000 in
set_option maxHeartbeats 4000000 in
theorem textEnd_any (s : ByteArray) (k : Nat) (hk : k < s.size) (hs : s.size ≤ 1000) (w : World) :
    Calls Tryz.prog 40 #[.string s, .int .i64 k] w fun e w' => e = .returned (.tuple #[.int .i64 (txE (s.data.toList.drop k) k).1, .string ⟨(txE (s.data.toList.drop k) k).2.1.toArray⟩, .int .i64 (txE (s.data.toList.drop k) k).2.2]) ∧ Ext w w' := by
  obtain ⟨res, hres⟩ : ∃ res, res = txE (s.data.toList.drop k) k := ⟨_, rfl⟩
  rw [← hres]
  unfold txE at hres
  obtain ⟨L, hL⟩ : ∃ L, L = s.data.toList := ⟨_, rfl⟩
  have hLn : L.length = s.size := by rw [hL]; rfl
  rw [← hL] at hres
  replace hLn := hid hLn
  replace hL := hid hL
  replace hres := hid hres
  go_enter Tryz.func40, Tryz.ntmps40
  go_wp2_with fail
  go_loopg [1, 7] (s.size - k) (fun g e v wr => ∃ (j : Nat) (pre : Bs), k ≤ j ∧ j + g = s.size ∧ e = .int .i64 j ∧ Cdk.Own wr w.heap.size 5 1 byteC v pre ∧ Ext w wr ∧
      Hid (lit (L.drop k) = (pre ++ (lit (L.drop j)).1, (j - k) + (lit (L.drop j)).2.1, (lit (L.drop j)).2.2)) ∧ pre.length ≤ j - k ∧ Hid (pre = [] → v = .slice none 0 0))
  case atStart => exact ⟨k, [], Nat.le_refl _, by omega, rfl, Own.nil _ _ _ _ _, Mod.refl _ _, hid (by simp), by simp, hid (fun _ => rfl)⟩
  case round =>
    obtain ⟨j, pre, hkj, hj, rfl, hown, hx, hlit, hpl, hpn⟩ := hrel
    have hjs : j ≤ s.size := by omega
    replace hj := hid hj
    replace hx := hid hx
    have ht := run_text0 (w := wr.drew) (hown.mod (Mod.drew0 (fun _ => False) wr) (fun _ _ h => h)) hpn.out
    replace hown := hid hown
    by_cases hlt : j < s.size
    · have hdj : L.drop j = s[j] :: L.drop (j + 1) := by rw [hL.out]; exact drop_at s hlt
      have hlit := hlit.out
      have hw1 : IntKind.i64.wrap ((j : Int) + 1) = ((j + 1 : Nat) : Int) := by rw [Go.IntWalk.i64_in _ (by omega)]; omega
      cases h10 : (((s[j]).toNat : Int) == 10) with
      | false =>
        have hn10 : (((s[j]).toNat : Int) != 10) = true := by simp only [bne, h10]; rfl
        have hpr := rplain_any s[j] wr
        cases hpb : isP s[j] with
        | false =>
          rw [hdj, lit_bad (by intro h; rw [h] at h10; simp at h10) hpb] at hlit
          have hres := hres.out
          rw [hlit] at hres
          simp only [Bool.false_eq_true, if_false, Nat.add_zero] at hres
          rw [hpb] at hpr
          have hkj' : k + (j - k) = j := by omega
          rw [hkj'] at hres
          replace hres := hid hres
          replace hpr := hid hpr
          replace hlit := hid hlit
          clear hpb hdj hkj' ht
          go_wp2_with fail
          refine hpr.out.mono ?_; rintro e w' ⟨rfl, rfl⟩
          go_wp2_with fail
          refine bodyPost_ret (results_tmp3 rfl _ _ _) rfl ?_
          exact ⟨by rw [hres.out]; rfl, hx.out⟩
        | true =>
          rw [hpb] at hpr
          by_cases h123 : (s[j]).toNat = 123
          · have hbb : (((s[j]).toNat : Int) == 123) = true := by rw [h123]; rfl
            cases hb : opensB (L.drop j) with
            | true =>
              rw [hdj] at hb
              rw [hdj, lit_open hb] at hlit
              have hres := hres.out
              rw [hlit] at hres
              simp only [List.append_nil, Nat.add_zero, if_true] at hres
              have hkj' : k + (j - k) = j := by omega
              rw [hkj'] at hres
              replace hlit := hid hlit
              replace hres := hid hres
              replace hpr := hid hpr
              by_cases hj1 : j + 1 < s.size
              · have hdj1 : L.drop (j + 1) = s[j + 1] :: L.drop (j + 1 + 1) := by rw [hL.out]; exact drop_at s hj1
                rw [hdj1] at hb
                simp only [opensB, h123, decide_true, Bool.true_and, Bool.not_eq_true', decide_eq_false_iff_not] at hb
                have hb2 : (((s[j + 1]).toNat : Int) != 123) = true := by rw [bne_iff_ne]; omega
                have hje : (((j + 1 : Nat) : Int) == (s.size : Int)) = false := by rw [beq_eq_false_iff_ne]; omega
                clear hdj hdj1 hkj' hb h123 hpb
                go_wp2_with fail
                refine hpr.out.mono ?_; rintro e w' ⟨rfl, rfl⟩
                go_wp2_with fail
                refine wp_region_sched (fun w' => (convert 64 9 _).run Tryz.prog w' = .ok (.string ⟨pre.toArray⟩) w') [(0, true), (1, true), (3, true), (2, false), (4, true), (5, true)] (by as_aux_lemma => kernel_rfl) (by as_aux_lemma => kernel_rfl) (by as_aux_lemma => kernel_rfl) (by decide) ht ?_
                simp only [schedOps, List.map_cons, List.map_nil, List.getD_cons_zero, List.getD_cons_succ]
                repeat (first | (refine wpS_q (by rfl) ?_ (fun w' hC => ?_) ?_; rotate_left; (go_simp; try with_reducible rfl); try simp only [Act.put, List.setIfInBounds_toArray, List.set_cons_zero, List.set_cons_succ]))
                refine wpS_c (by rfl) (fun K hK => ?_)
                go_simp
                refine hK.out _ _ ht ?_
                clear hK K
                try simp only [Act.put, List.setIfInBounds_toArray, List.set_cons_zero, List.set_cons_succ]
                repeat (first | (refine wpS_q (by rfl) ?_ (fun w' hC => ?_) ?_; rotate_left; (go_simp; try with_reducible rfl); try simp only [Act.put, List.setIfInBounds_toArray, List.set_cons_zero, List.set_cons_succ]))
                refine wpS_nil ?_
                go_wp2
                refine bodyPost_ret (results_tmp3 rfl _ _ _) rfl ?_
                exact ⟨by rw [hres.out]; rfl, hx.out.drew⟩
              · have hje : (((j + 1 : Nat) : Int) == (s.size : Int)) = true := by rw [beq_iff_eq]; omega
                clear hdj hkj' hb h123 hpb
                go_wp2_with fail
                refine hpr.out.mono ?_; rintro e w' ⟨rfl, rfl⟩
                go_wp2_with fail
                refine wp_region_sched (fun w' => (convert 64 9 _).run Tryz.prog w' = .ok (.string ⟨pre.toArray⟩) w') [(0, true), (1, true), (3, true), (2, false), (4, true), (5, true)] (by as_aux_lemma => kernel_rfl) (by as_aux_lemma => kernel_rfl) (by as_aux_lemma => kernel_rfl) (by decide) ht ?_
                simp only [schedOps, List.map_cons, List.map_nil, List.getD_cons_zero, List.getD_cons_succ]
                repeat (first | (refine wpS_q (by rfl) ?_ (fun w' hC => ?_) ?_; rotate_left; (go_simp; try with_reducible rfl); try simp only [Act.put, List.setIfInBounds_toArray, List.set_cons_zero, List.set_cons_succ]))
                refine wpS_c (by rfl) (fun K hK => ?_)
                go_simp
                refine hK.out _ _ ht ?_
                clear hK K
                try simp only [Act.put, List.setIfInBounds_toArray, List.set_cons_zero, List.set_cons_succ]
                repeat (first | (refine wpS_q (by rfl) ?_ (fun w' hC => ?_) ?_; rotate_left; (go_simp; try with_reducible rfl); try simp only [Act.put, List.setIfInBounds_toArray, List.set_cons_zero, List.set_cons_succ]))
                refine wpS_nil ?_
                go_wp2
                refine bodyPost_ret (results_tmp3 rfl _ _ _) rfl ?_
                exact ⟨by rw [hres.out]; rfl, hx.out.drew⟩
            | false =>
              rw [hdj] at hb
              obtain ⟨d, r', hr', hst⟩ := lit_brace h123 hb
              rw [hdj, hst] at hlit
              have hj1 : j + 1 < s.size := by
                have := congrArg List.length hr'
                rw [List.length_drop, hLn.out] at this
                simp at this; omega
              have hdj1 : L.drop (j + 1) = s[j + 1] :: L.drop (j + 1 + 1) := by rw [hL.out]; exact drop_at s hj1
              have hb2 : (((s[j + 1]).toNat : Int) != 123) = false := by
                rw [hdj1] at hb
                simp only [opensB, h123, decide_true, Bool.true_and, Bool.not_eq_false', decide_eq_true_eq] at hb
                rw [hb]; rfl
              have hje : (((j + 1 : Nat) : Int) == (s.size : Int)) = false := by rw [beq_eq_false_iff_ne]; omega
              have hdr : L.drop (j + 2) = r' := by
                rw [show j + 2 = (j + 1) + 1 by omega, ← List.drop_drop, hr']; rfl
              rw [← hdr] at hlit
              have hw2 : IntKind.i64.wrap (((j + 1 : Nat) : Int) + 1) = ((j + 2 : Nat) : Int) := by rw [Go.IntWalk.i64_in _ (by omega)]; omega
              replace hlit := hid hlit
              replace hpr := hid hpr
              clear hb hdj hst h123 hr' hdr hdj1 ht hpb
              go_wp2_with fail
              refine hpr.out.mono ?_; rintro e w' ⟨rfl, rfl⟩
              go_wp2_with (at_builtin; refine wpList_app rfl _ _ _ rfl Tryz.underlying64 el5 rfl (hown.out.ext ((Mod.refl _ _).alloc _)) _ 1 1 rfl [s[j]] rfl (by exact RowIs.new _ _ _) byteC_len (fun y _ => byteC_one y) (by simp only [List.length_singleton]; omega) (by have := hx.out.size; rw [World.size_alloc]; omega) (by simp) (fun v6 w6 H6 => ?_); go_frame)
              go_roundg (gk - 2)
              case measure => have := hj.out; omega
              case rel => exact ⟨j + 2, pre ++ [s[j]], by omega, by have := hj.out; omega, by first | rfl | go_num, H6.out.1, ((hx.out.alloc _).then H6.out.2 (fun k' hk' e => by have := (hown.out.block k' e).1; omega)), hid (by rw [hlit.out]; simp only [List.append_assoc, List.singleton_append]; congr 2; omega), by simp only [List.length_append, List.length_singleton]; omega, hid (fun h => by simp at h)⟩
          · have hst := lit_step (r := L.drop (j + 1)) h123 (.inr hpb)
            rw [hdj, hst] at hlit
            have hbb : (((s[j]).toNat : Int) == 123) = false := by rw [beq_eq_false_iff_ne]; omega
            replace hlit := hid hlit
            replace hpr := hid hpr
            clear hdj hst h123 ht hpb
            go_wp2_with fail
            refine hpr.out.mono ?_; rintro e w' ⟨rfl, rfl⟩
            go_wp2_with (at_builtin; refine wpList_app rfl _ _ _ rfl Tryz.underlying64 el5 rfl (hown.out.ext ((Mod.refl _ _).alloc _)) _ 1 1 rfl [s[j]] rfl (by exact RowIs.new _ _ _) byteC_len (fun y _ => byteC_one y) (by simp only [List.length_singleton]; omega) (by have := hx.out.size; rw [World.size_alloc]; omega) (by simp) (fun v6 w6 H6 => ?_); go_frame)
            go_roundg (gk - 1)
            case measure => have := hj.out; omega
            case rel => exact ⟨j + 1, pre ++ [s[j]], by omega, by have := hj.out; omega, by first | rfl | go_num, H6.out.1, ((hx.out.alloc _).then H6.out.2 (fun k' hk' e => by have := (hown.out.block k' e).1; omega)), hid (by rw [hlit.out]; simp only [List.append_assoc, List.singleton_append]; congr 2; omega), by simp only [List.length_append, List.length_singleton]; omega, hid (fun h => by simp at h)⟩
      | true =>
        have hn10 : (((s[j]).toNat : Int) != 10) = false := by simp only [bne, h10]; rfl
        have h10' : (s[j]).toNat = 10 := by have : ((s[j]).toNat : Int) = 10 := (by simpa using h10); omega
        have hst := lit_step (r := L.drop (j + 1)) (c := s[j]) (by omega) (.inl h10')
        rw [hdj, hst] at hlit
        have hbb : (((s[j]).toNat : Int) == 123) = false := by rw [beq_eq_false_iff_ne]; omega
        replace hlit := hid hlit
        clear hdj hst h10' ht
        go_wp2_with (at_builtin; refine wpList_app rfl _ _ _ rfl Tryz.underlying64 el5 rfl (hown.out.ext ((Mod.refl _ _).alloc _)) _ 1 1 rfl [s[j]] rfl (by exact RowIs.new _ _ _) byteC_len (fun y _ => byteC_one y) (by simp only [List.length_singleton]; omega) (by have := hx.out.size; rw [World.size_alloc]; omega) (by simp) (fun v6 w6 H6 => ?_); go_frame)
        go_roundg (gk - 1)
        case measure => have := hj.out; omega
        case rel => exact ⟨j + 1, pre ++ [s[j]], by omega, by have := hj.out; omega, by first | rfl | go_num, H6.out.1, ((hx.out.alloc _).then H6.out.2 (fun k' hk' e => by have := (hown.out.block k' e).1; omega)), hid (by rw [hlit.out]; simp only [List.append_assoc, List.singleton_append]; congr 2; omega), by simp only [List.length_append, List.length_singleton]; omega, hid (fun h => by simp at h)⟩
    · obtain rfl : j = s.size := by omega
      have hdj : L.drop s.size = [] := List.drop_eq_nil_of_le (by rw [hLn.out]; exact Nat.le_refl _)
      have hlit := hlit.out
      rw [hdj] at hlit
      have hres := hres.out
      rw [hlit] at hres
      simp only [lit, List.append_nil, Nat.add_zero, if_true] at hres
      have hkj' : k + (s.size - k) = s.size := by omega
      rw [hkj'] at hres
      clear hkj' hdj
      replace hlit := hid hlit
      replace hres := hid hres
      go_wp2_with fail
      refine wp_region_sched (fun w' => (convert 64 9 _).run Tryz.prog w' = .ok (.string ⟨pre.toArray⟩) w') [(0, true), (1, true), (3, true), (2, false), (4, true), (5, true)] (by as_aux_lemma => kernel_rfl) (by as_aux_lemma => kernel_rfl) (by as_aux_lemma => kernel_rfl) (by decide) ht ?_
      simp only [schedOps, List.map_cons, List.map_nil, List.getD_cons_zero, List.getD_cons_succ]
      repeat (first | (refine wpS_q (by rfl) ?_ (fun w' hC => ?_) ?_; rotate_left; (go_simp; try with_reducible rfl); try simp only [Act.put, List.setIfInBounds_toArray, List.set_cons_zero, List.set_cons_succ]))
      refine wpS_c (by rfl) (fun K hK => ?_)
      go_simp
      refine hK.out _ _ ht ?_
      clear hK K
      try simp only [Act.put, List.setIfInBounds_toArray, List.set_cons_zero, List.set_cons_succ]
      repeat (first | (refine wpS_q (by rfl) ?_ (fun w' hC => ?_) ?_; rotate_left; (go_simp; try with_reducible rfl); try simp only [Act.put, List.setIfInBounds_toArray, List.set_cons_zero, List.set_cons_succ]))
      refine wpS_nil ?_
      go_wp2
      refine bodyPost_ret (results_tmp3 rfl _ _ _) rfl ?_
      exact ⟨by rw [hres.out]; rfl, hx.out.drew⟩
end Go.Proofs.YtpgniljgaknlpaaGreatDoor
