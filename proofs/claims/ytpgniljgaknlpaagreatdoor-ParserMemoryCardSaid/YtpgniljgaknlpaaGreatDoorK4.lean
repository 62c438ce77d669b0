import Derived.Test.YtpgniljgaknlpaaGreatDoorK3
/-
  The lexer's 'part'.
-/
namespace Go.Proofs.YtpgniljgaknlpaaGreatDoor
open Go.RowKit Cdk Tpl

theorem extract_bytes (s : ByteArray) (k e : Nat) (_he : e ≤ s.size) : s.extract k e = ⟨((s.data.toList.drop k).take (e - k)).toArray⟩ := by
  have : (s.extract k e).data.toList = (s.data.toList.drop k).take (e - k) := by
    rw [ByteArray.data_extract, Array.toList_extract, List.extract_eq_take_drop]
  cases hx : s.extract k e with
  | mk d =>
    rw [hx] at this
    simp only at this
    rw [← this]

theorem take_while (p : UInt8 → Bool) (l : Bs) : l.take (l.takeWhile p).length = l.takeWhile p := by
  induction l with
  | nil => rfl
  | cons a l ih =>
    rw [List.takeWhile_cons]
    split
    · simp [ih]
    · simp

theorem drop_while (p : UInt8 → Bool) (l : Bs) : l.drop (l.takeWhile p).length = l.dropWhile p := by
  induction l with
  | nil => rfl
  | cons a l ih =>
    rw [List.takeWhile_cons, List.dropWhile_cons]
    split
    · simp [ih]
    · simp

/-- What 'part' answers. -/
def partR (l : Bs) (k : Nat) : Tk × Int :=
  match l with
  | [] => (⟨0, [], k⟩, 0)
  | c :: r => match Tpl.part c r with
    | none => (⟨0, [], k⟩, 0)
    | some x => (⟨x.1, x.2.1, k⟩, ((k + x.2.2.1 : Nat) : Int))

theorem isW_of_isL {c : UInt8} (h : isL c = true) : isW c = true := by unfold isW; rw [h]; rfl

set_option maxRecDepth 100000 in
set_option maxHeartbeats 4000000 in
theorem part_any (s : ByteArray) (k : Nat) (hk : k < s.size) (hs : s.size ≤ 1000) (w : World) :
    Calls Tryz.prog 61 #[.string s, .int .i64 k] w fun e w' => e = .returned (.tuple #[tokV (partR (s.data.toList.drop k) k).1, .int .i64 (partR (s.data.toList.drop k) k).2]) ∧ Ext w w' := by
  have hd := drop_at s hk
  obtain ⟨c, hc⟩ : ∃ c, c = s[k] := ⟨_, rfl⟩
  obtain ⟨r, hr⟩ : ∃ r, r = s.data.toList.drop (k + 1) := ⟨_, rfl⟩
  rw [← hc, ← hr] at hd
  have hres := hid (show partR (s.data.toList.drop k) k = (match Tpl.part c r with | none => (⟨0, [], k⟩, 0) | some x => (⟨x.1, x.2.1, k⟩, ((k + x.2.2.1 : Nat) : Int))) by rw [hd]; rfl)
  generalize partR (s.data.toList.drop k) k = res at hres ⊢
  have hLn : s.data.toList.length = s.size := rfl
  have hrl : r.length + 1 + k = s.size := by rw [hr, List.length_drop, hLn]; omega
  have hlet := hid (fun w => letter_any c w)
  have hdig := hid (fun w => digit_any c w)
  unfold tokV
  go_enter Tryz.func61, Tryz.ntmps61
  go_upto_region 3 with fail
  have hx := (Mod.refl (fun _ => False) w).alloc (.cells #[.int .i64 0, .string ⟨#[]⟩, .int .i64 0] 77)
  have hx := hx.alloc (.cells #[.int .i64 0, .string ⟨#[]⟩, .int .i64 k] 77)
  have hRc := (Mod.refl (fun _ => False) _).alloc (.cells #[.int .i64 0, .string ⟨#[]⟩, .int .i64 k] 77) |>.at (heap_alloc_new w (.cells #[.int .i64 0, .string ⟨#[]⟩, .int .i64 0] 77)) (fun h => h)
  have hVc := heap_alloc_new (w.alloc (.cells #[.int .i64 0, .string ⟨#[]⟩, .int .i64 0] 77)) (.cells #[.int .i64 0, .string ⟨#[]⟩, .int .i64 k] 77)
  rw [World.size_alloc] at hVc
  generalize hR : w.heap.size = R at hRc hVc ⊢
  generalize ((w.alloc (.cells #[.int .i64 0, .string ⟨#[]⟩, .int .i64 0] 77)).alloc (.cells #[.int .i64 0, .string ⟨#[]⟩, .int .i64 k] 77)) = w1 at hx hRc hVc ⊢
  have hRle : w.heap.size ≤ R := Nat.le_of_eq hR
  replace hR := hid hR
  have fz := free_of' hRc
  have q0 : w1.cell? ⟨R, 0, none⟩ = some (.int .i64 0) := cell_of' hRc 0
  have q1 : w1.cell? ⟨R, 1, none⟩ = some (.string ⟨#[]⟩) := cell_of' hRc 1
  have q2 : w1.cell? ⟨R, 2, none⟩ = some (.int .i64 0) := cell_of' hRc 2
  have v0 : w1.cell? ⟨R + 1, 0, none⟩ = some (.int .i64 0) := cell_of' hVc 0
  have v1 : w1.cell? ⟨R + 1, 1, none⟩ = some (.string ⟨#[]⟩) := cell_of' hVc 1
  have v2 : w1.cell? ⟨R + 1, 2, none⟩ = some (.int .i64 k) := cell_of' hVc 2
  replace hRc := hid hRc
  replace hx := hid hx
  clear hVc
  rw [← hc]
  replace hc := hid hc
  replace hr := hid hr
  have hlet := hlet.out w1
  have hdig := hdig.out w1
  cases hL : isL c with
  | true =>
    have hrun := run_word s k (Nat.le_of_lt hk) hs w1
    rw [hd, List.takeWhile_cons, isW_of_isL hL] at hrun
    simp only [if_true] at hrun
    obtain ⟨n, hn⟩ : ∃ n, n = (c :: r.takeWhile isW).length := ⟨_, rfl⟩
    obtain ⟨e, he⟩ : ∃ e, e = k + n := ⟨_, rfl⟩
    have hnr : n ≤ r.length + 1 := by rw [hn]; simp only [List.length_cons]; have := (List.takeWhile_sublist isW (l := r)).length_le; omega
    have hes : e ≤ s.size := by omega
    have hwe : IntKind.i64.wrap ((e : Int) - (k : Int)) = (n : Int) := by rw [Go.IntWalk.i64_in _ (by omega)]; omega
    have htx : s.extract k e = ⟨(c :: r.takeWhile isW).toArray⟩ := by
      rw [extract_bytes s k e hes, hd, show e - k = (c :: r.takeWhile isW).length by omega]
      have := take_while isW (c :: r)
      rw [List.takeWhile_cons, isW_of_isL hL] at this
      simp only [if_true] at this
      rw [this]
    have hke : (k : Int) ≤ (e : Int) := by omega
    have hesI : (e : Int) ≤ (s.size : Int) := by omega
    rw [← hn, ← he] at hrun
    rw [hL] at hlet
    replace hlet := hid hlet
    replace hrun := hid hrun
    by_cases h20 : (20 : Int) < (n : Int)
    · have hp : Tpl.part c r = none := by unfold Tpl.part; rw [hL]; simp only [if_true]; rw [if_pos (by omega)]
      rw [hp] at hres
      clear hp hL hd hn he htx hnr
      go_wp2_with fail
      refine hlet.out.mono ?_; rintro e' w' ⟨rfl, rfl⟩
      go_wp2_with fail
      refine hrun.out.mono ?_; rintro e' w' ⟨rfl, rfl⟩
      go_wp2_with fail
      refine bodyPost_ret (ret_cell_tmp rfl _ _ R _ _ _ _ rfl (setCell3 hRc.out) Tryz.underlying77 rfl tok_size) rfl ?_
      exact ⟨by rw [hres.out]; rfl, (((hx.out.setCell (fun h => by have : R < w.heap.size := h; omega) _).setCell (fun h => by have : R < w.heap.size := h; omega) _).setCell (fun h => by have : R < w.heap.size := h; omega) _)⟩
    · have hp : Tpl.part c r = some (2, c :: r.takeWhile isW, n, r.dropWhile isW) := by unfold Tpl.part; rw [hL]; simp only [if_true]; rw [if_neg (by omega), hn]
      rw [hp] at hres
      simp only [← he] at hres
      clear hp hL hd hn he hnr
      go_wp2_with fail
      refine hlet.out.mono ?_; rintro e' w' ⟨rfl, rfl⟩
      go_wp2_with fail
      refine hrun.out.mono ?_; rintro e' w' ⟨rfl, rfl⟩
      go_wp2_with fail
      refine bodyPost_ret (ret_cell_tmp rfl _ _ R _ _ _ _ rfl (setCell3 hRc.out) Tryz.underlying77 rfl tok_size) rfl ?_
      exact ⟨by rw [hres.out]; rfl, (((hx.out.setCell (fun h => by have : R < w.heap.size := h; omega) _).setCell (fun h => by have : R < w.heap.size := h; omega) _).setCell (fun h => by have : R < w.heap.size := h; omega) _)⟩
  | false =>
    rw [hL] at hlet
    replace hlet := hid hlet
    cases hD : isD c with
    | true =>
      rw [hD] at hdig
      have hrun := run_digit s k (Nat.le_of_lt hk) hs w1
      rw [hd, List.takeWhile_cons, hD] at hrun
      simp only [if_true] at hrun
      obtain ⟨n, hn⟩ : ∃ n, n = (c :: r.takeWhile isD).length := ⟨_, rfl⟩
      obtain ⟨e, he⟩ : ∃ e, e = k + n := ⟨_, rfl⟩
      have hnr : n ≤ r.length + 1 := by rw [hn]; simp only [List.length_cons]; have := (List.takeWhile_sublist isD (l := r)).length_le; omega
      have hes : e ≤ s.size := by omega
      have hwe : IntKind.i64.wrap ((e : Int) - (k : Int)) = (n : Int) := by rw [Go.IntWalk.i64_in _ (by omega)]; omega
      have htx : s.extract k e = ⟨(c :: r.takeWhile isD).toArray⟩ := by
        rw [extract_bytes s k e hes, hd, show e - k = (c :: r.takeWhile isD).length by omega]
        have := take_while isD (c :: r)
        rw [List.takeWhile_cons, hD] at this
        simp only [if_true] at this
        rw [this]
      have hke : (k : Int) ≤ (e : Int) := by omega
      have hesI : (e : Int) ≤ (s.size : Int) := by omega
      rw [← hn, ← he] at hrun
      replace hdig := hid hdig
      replace hrun := hid hrun
      have hpart : Tpl.part c r = if decide (6 < n) || (decide (1 < n) && decide (c.toNat = 48)) then none else some (3, c :: r.takeWhile isD, n, r.dropWhile isD) := by
        unfold Tpl.part; rw [hL, hD, hn]; rfl
      replace hpart := hid hpart
      clear hL hD hd hn hnr
      by_cases h6 : (6 : Int) < (n : Int)
      · have hp : Tpl.part c r = none := by rw [hpart.out, if_pos (by simp; omega)]
        rw [hp] at hres
        clear hp he htx
        go_wp2_with fail
        refine hlet.out.mono ?_; rintro e' w' ⟨rfl, rfl⟩
        go_wp2_with fail
        refine hdig.out.mono ?_; rintro e' w' ⟨rfl, rfl⟩
        go_wp2_with fail
        refine hrun.out.mono ?_; rintro e' w' ⟨rfl, rfl⟩
        go_wp2_with fail
        refine bodyPost_ret (ret_cell_tmp rfl _ _ R _ _ _ _ rfl (setCell3 hRc.out) Tryz.underlying77 rfl tok_size) rfl ?_
        exact ⟨by rw [hres.out]; rfl, (((hx.out.setCell (fun h => by have : R < w.heap.size := h; omega) _).setCell (fun h => by have : R < w.heap.size := h; omega) _).setCell (fun h => by have : R < w.heap.size := h; omega) _)⟩
      · by_cases h1 : (1 : Int) < (n : Int)
        · cases h48 : ((c.toNat : Int) == 48) with
          | true =>
            have hp : Tpl.part c r = none := by
              have : (c.toNat : Int) = 48 := by simpa using h48
              rw [hpart.out, if_pos (by simp; omega)]
            rw [hp] at hres
            clear hp he htx
            go_wp2_with fail
            refine hlet.out.mono ?_; rintro e' w' ⟨rfl, rfl⟩
            go_wp2_with fail
            refine hdig.out.mono ?_; rintro e' w' ⟨rfl, rfl⟩
            go_wp2_with fail
            refine hrun.out.mono ?_; rintro e' w' ⟨rfl, rfl⟩
            go_wp2_with fail
            refine bodyPost_ret (ret_cell_tmp rfl _ _ R _ _ _ _ rfl (setCell3 hRc.out) Tryz.underlying77 rfl tok_size) rfl ?_
            exact ⟨by rw [hres.out]; rfl, (((hx.out.setCell (fun h => by have : R < w.heap.size := h; omega) _).setCell (fun h => by have : R < w.heap.size := h; omega) _).setCell (fun h => by have : R < w.heap.size := h; omega) _)⟩
          | false =>
            have hp : Tpl.part c r = some (3, c :: r.takeWhile isD, n, r.dropWhile isD) := by
              have : ¬ (c.toNat : Int) = 48 := by simpa using h48
              rw [hpart.out, if_neg (by simp; omega)]
            rw [hp] at hres
            simp only [← he] at hres
            clear hp he
            go_wp2_with fail
            refine hlet.out.mono ?_; rintro e' w' ⟨rfl, rfl⟩
            go_wp2_with fail
            refine hdig.out.mono ?_; rintro e' w' ⟨rfl, rfl⟩
            go_wp2_with fail
            refine hrun.out.mono ?_; rintro e' w' ⟨rfl, rfl⟩
            go_wp2_with fail
            refine bodyPost_ret (ret_cell_tmp rfl _ _ R _ _ _ _ rfl (setCell3 hRc.out) Tryz.underlying77 rfl tok_size) rfl ?_
            exact ⟨by rw [hres.out]; rfl, (((hx.out.setCell (fun h => by have : R < w.heap.size := h; omega) _).setCell (fun h => by have : R < w.heap.size := h; omega) _).setCell (fun h => by have : R < w.heap.size := h; omega) _)⟩
        · have hp : Tpl.part c r = some (3, c :: r.takeWhile isD, n, r.dropWhile isD) := by
            rw [hpart.out, if_neg (by simp; omega)]
          rw [hp] at hres
          simp only [← he] at hres
          clear hp he
          go_wp2_with fail
          refine hlet.out.mono ?_; rintro e' w' ⟨rfl, rfl⟩
          go_wp2_with fail
          refine hdig.out.mono ?_; rintro e' w' ⟨rfl, rfl⟩
          go_wp2_with fail
          refine hrun.out.mono ?_; rintro e' w' ⟨rfl, rfl⟩
          go_wp2_with fail
          refine bodyPost_ret (ret_cell_tmp rfl _ _ R _ _ _ _ rfl (setCell3 hRc.out) Tryz.underlying77 rfl tok_size) rfl ?_
          exact ⟨by rw [hres.out]; rfl, (((hx.out.setCell (fun h => by have : R < w.heap.size := h; omega) _).setCell (fun h => by have : R < w.heap.size := h; omega) _).setCell (fun h => by have : R < w.heap.size := h; omega) _)⟩
    | false =>
      rw [hD] at hdig
      replace hdig := hid hdig
      cases hq : ((c.toNat : Int) == 34) with
      | true =>
        have hq' : c.toNat = 34 := by have : (c.toNat : Int) = 34 := (by simpa using hq); omega
        have hpart : Tpl.part c r = (match r.dropWhile isA with | [] => none | d :: t => if d.toNat = 34 then some (4, r.takeWhile isA, (r.takeWhile isA).length + 2, t) else none) := by
          unfold Tpl.part; rw [hL, hD]; simp only [Bool.false_eq_true, if_false, hq', if_true]
          cases r.dropWhile isA <;> rfl
        have hrun := run_quoted s (k + 1) hk hs w1
        rw [← hr.out] at hrun
        have hwk : IntKind.i64.wrap ((k : Int) + 1) = ((k + 1 : Nat) : Int) := by rw [Go.IntWalk.i64_in _ (by omega)]; omega
        obtain ⟨n, hn⟩ : ∃ n, n = (r.takeWhile isA).length := ⟨_, rfl⟩
        obtain ⟨k1, hk1⟩ : ∃ k1, k1 = k + 1 := ⟨_, rfl⟩
        obtain ⟨e, he⟩ : ∃ e, e = k1 + n := ⟨_, rfl⟩
        have hnr : n ≤ r.length := by rw [hn]; exact (List.takeWhile_sublist isA (l := r)).length_le
        have hes : e ≤ s.size := by omega
        have htx : s.extract k1 e = ⟨(r.takeWhile isA).toArray⟩ := by
          rw [extract_bytes s k1 e hes, hk1, ← hr.out, show e - (k + 1) = (r.takeWhile isA).length by omega, take_while]
        have hdw : r.dropWhile isA = s.data.toList.drop e := by
          rw [← drop_while, ← hn, hr.out, List.drop_drop, he, hk1]
        rw [← hk1] at hrun hwk
        rw [← hn, ← he] at hrun
        have hke : (k1 : Int) ≤ (e : Int) := by omega
        have hesI : (e : Int) ≤ (s.size : Int) := by omega
        have hwe : IntKind.i64.wrap ((e : Int) + 1) = ((e + 1 : Nat) : Int) := by rw [Go.IntWalk.i64_in _ (by omega)]; omega
        rw [hdw] at hpart
        have hk1s : k1 ≤ 1000 := by omega
        replace hrun := hid hrun
        replace hpart := hid hpart
        clear hL hD hd hnr hq'
        by_cases hend : e = s.size
        · have hp : Tpl.part c r = none := by rw [hpart.out, List.drop_eq_nil_of_le (by rw [hend]; exact Nat.le_refl _)]
          rw [hp] at hres
          have hendb : ((e : Int) == (s.size : Int)) = true := by rw [hend]; simp
          replace hend := hid hend
          clear hp he htx hn hk1 hdw
          go_wp2_with fail
          refine hlet.out.mono ?_; rintro e' w' ⟨rfl, rfl⟩
          go_wp2_with fail
          refine hdig.out.mono ?_; rintro e' w' ⟨rfl, rfl⟩
          go_wp2_with fail
          refine hrun.out.mono ?_; rintro e' w' ⟨rfl, rfl⟩
          go_wp2_with fail
          refine bodyPost_ret (ret_cell_tmp rfl _ _ R _ _ _ _ rfl (setCell3 hRc.out) Tryz.underlying77 rfl tok_size) rfl ?_
          exact ⟨by rw [hres.out]; rfl, (((hx.out.setCell (fun h => by have : R < w.heap.size := h; omega) _).setCell (fun h => by have : R < w.heap.size := h; omega) _).setCell (fun h => by have : R < w.heap.size := h; omega) _)⟩
        · have hel : e < s.size := by omega
          have hendb : ((e : Int) == (s.size : Int)) = false := by rw [beq_eq_false_iff_ne]; omega
          have hde := drop_at s hel
          cases h34 : (((s[e]).toNat : Int) == 34) with
          | true =>
            have h34' : (s[e]).toNat = 34 := by have : ((s[e]).toNat : Int) = 34 := (by simpa using h34); omega
            have hn34 : (((s[e]).toNat : Int) != 34) = false := by simp only [bne, h34]; rfl
            have hp : Tpl.part c r = some (4, r.takeWhile isA, n + 2, s.data.toList.drop (e + 1)) := by rw [hpart.out, hde]; simp only [h34', if_true, hn]
            rw [hp] at hres
            have hfin : k + (n + 2) = e + 1 := by omega
            simp only [hfin] at hres
            clear hp he hn hk1 hdw hde h34' hend hfin
            go_wp2_with fail
            refine hlet.out.mono ?_; rintro e' w' ⟨rfl, rfl⟩
            go_wp2_with fail
            refine hdig.out.mono ?_; rintro e' w' ⟨rfl, rfl⟩
            go_wp2_with fail
            refine hrun.out.mono ?_; rintro e' w' ⟨rfl, rfl⟩
            go_wp2_with fail
            refine bodyPost_ret (ret_cell_tmp rfl _ _ R _ _ _ _ rfl (setCell3 hRc.out) Tryz.underlying77 rfl tok_size) rfl ?_
            exact ⟨by rw [hres.out]; rfl, (((hx.out.setCell (fun h => by have : R < w.heap.size := h; omega) _).setCell (fun h => by have : R < w.heap.size := h; omega) _).setCell (fun h => by have : R < w.heap.size := h; omega) _)⟩
          | false =>
            have h34' : ¬ (s[e]).toNat = 34 := by have : ¬ ((s[e]).toNat : Int) = 34 := (by simpa using h34); omega
            have hn34 : (((s[e]).toNat : Int) != 34) = true := by simp only [bne, h34]; rfl
            have hp : Tpl.part c r = none := by rw [hpart.out, hde]; simp only [h34', if_false]
            rw [hp] at hres
            clear hp he hn hk1 hdw hde h34' hend htx
            go_wp2_with fail
            refine hlet.out.mono ?_; rintro e' w' ⟨rfl, rfl⟩
            go_wp2_with fail
            refine hdig.out.mono ?_; rintro e' w' ⟨rfl, rfl⟩
            go_wp2_with fail
            refine hrun.out.mono ?_; rintro e' w' ⟨rfl, rfl⟩
            go_wp2_with fail
            refine bodyPost_ret (ret_cell_tmp rfl _ _ R _ _ _ _ rfl (setCell3 hRc.out) Tryz.underlying77 rfl tok_size) rfl ?_
            exact ⟨by rw [hres.out]; rfl, (((hx.out.setCell (fun h => by have : R < w.heap.size := h; omega) _).setCell (fun h => by have : R < w.heap.size := h; omega) _).setCell (fun h => by have : R < w.heap.size := h; omega) _)⟩
      | false =>
        have hq' : ¬ c.toNat = 34 := by have : ¬ (c.toNat : Int) = 34 := (by simpa using hq); omega
        have hwk : IntKind.i64.wrap ((k : Int) + 1) = ((k + 1 : Nat) : Int) := by rw [Go.IntWalk.i64_in _ (by omega)]; omega
        cases hpipe : ((c.toNat : Int) == 124) with
        | true =>
          have h' : c.toNat = 124 := by have : (c.toNat : Int) = 124 := (by simpa using hpipe); omega
          have hp : Tpl.part c r = some (5, [124], 1, r) := by
            unfold Tpl.part; rw [hL, hD]; simp only [Bool.false_eq_true, if_false, h', if_true]
            rw [show c = 124 from UInt8.toNat_inj.1 (by rw [h']; rfl)]; rfl
          rw [hp] at hres
          clear hp hL hD hd hq' h'
          go_wp2_with fail
          refine hlet.out.mono ?_; rintro e' w' ⟨rfl, rfl⟩
          go_wp2_with fail
          refine hdig.out.mono ?_; rintro e' w' ⟨rfl, rfl⟩
          go_wp2_with fail
          refine bodyPost_ret (ret_cell_tmp rfl _ _ R _ _ _ _ rfl (setCell3 hRc.out) Tryz.underlying77 rfl tok_size) rfl ?_
          exact ⟨by rw [hres.out]; rfl, (((hx.out.setCell (fun h => by have : R < w.heap.size := h; omega) _).setCell (fun h => by have : R < w.heap.size := h; omega) _).setCell (fun h => by have : R < w.heap.size := h; omega) _)⟩
        | false =>
          have hpipe' : ¬ c.toNat = 124 := by have : ¬ (c.toNat : Int) = 124 := (by simpa using hpipe); omega
          cases hcl : ((c.toNat : Int) == 125) with
          | true =>
            have h' : c.toNat = 125 := by have : (c.toNat : Int) = 125 := (by simpa using hcl); omega
            have hp : Tpl.part c r = some (7, [125], 1, r) := by
              unfold Tpl.part; rw [hL, hD]; simp only [Bool.false_eq_true, if_false, h', if_true]
              rw [show c = 125 from UInt8.toNat_inj.1 (by rw [h']; rfl)]; rfl
            rw [hp] at hres
            clear hp hL hD hd hq' h' hpipe'
            go_wp2_with fail
            refine hlet.out.mono ?_; rintro e' w' ⟨rfl, rfl⟩
            go_wp2_with fail
            refine hdig.out.mono ?_; rintro e' w' ⟨rfl, rfl⟩
            go_wp2_with fail
            refine bodyPost_ret (ret_cell_tmp rfl _ _ R _ _ _ _ rfl (setCell3 hRc.out) Tryz.underlying77 rfl tok_size) rfl ?_
            exact ⟨by rw [hres.out]; rfl, (((hx.out.setCell (fun h => by have : R < w.heap.size := h; omega) _).setCell (fun h => by have : R < w.heap.size := h; omega) _).setCell (fun h => by have : R < w.heap.size := h; omega) _)⟩
          | false =>
            have h' : ¬ c.toNat = 125 := by have : ¬ (c.toNat : Int) = 125 := (by simpa using hcl); omega
            have hp : Tpl.part c r = none := by
              unfold Tpl.part; rw [hL, hD]; simp only [Bool.false_eq_true, if_false, hq', hpipe', h']
            rw [hp] at hres
            clear hp hL hD hd hq' h' hpipe'
            go_wp2_with fail
            refine hlet.out.mono ?_; rintro e' w' ⟨rfl, rfl⟩
            go_wp2_with fail
            refine hdig.out.mono ?_; rintro e' w' ⟨rfl, rfl⟩
            go_wp2_with fail
            refine bodyPost_ret (ret_cell_tmp rfl _ _ R _ _ _ _ rfl (setCell3 hRc.out) Tryz.underlying77 rfl tok_size) rfl ?_
            exact ⟨by rw [hres.out]; rfl, (((hx.out.setCell (fun h => by have : R < w.heap.size := h; omega) _).setCell (fun h => by have : R < w.heap.size := h; omega) _).setCell (fun h => by have : R < w.heap.size := h; omega) _)⟩end Go.Proofs.YtpgniljgaknlpaaGreatDoor
