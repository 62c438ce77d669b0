import Derived.Test.YtpgniljgaknlpaaGreatDoorR1
/-
  The reference lexer's 'one'.
-/
namespace Go.Proofs.YtpgniljgaknlpaaGreatDoor
open Go.RowKit Cdk Tpl

/-- What 'one' answers. -/
def oneR (l : Bs) (k : Nat) : Tk × Int :=
  match l with
  | [] => (⟨0, [], 0⟩, -1)
  | c :: r => match Tpl.part c r with
    | none => (⟨0, [], 0⟩, -1)
    | some x => (⟨x.1, x.2.1, k⟩, ((k + x.2.2.1 : Nat) : Int))

set_option maxRecDepth 100000 in
set_option maxHeartbeats 4000000 in
theorem one_any (s : ByteArray) (k : Nat) (hk : k < s.size) (hs : s.size ≤ 1000) (w : World) :
    Calls Tryz.prog 65 #[.string s, .int .i64 k] w fun e w' => e = .returned (.tuple #[tokV (oneR (s.data.toList.drop k) k).1, .int .i64 (oneR (s.data.toList.drop k) k).2]) ∧ Ext w w' := by
  have hd := drop_at s hk
  obtain ⟨c, hc⟩ : ∃ c, c = s[k] := ⟨_, rfl⟩
  obtain ⟨r, hr⟩ : ∃ r, r = s.data.toList.drop (k + 1) := ⟨_, rfl⟩
  rw [← hc, ← hr] at hd
  have hres := hid (show oneR (s.data.toList.drop k) k = (match Tpl.part c r with | none => (⟨0, [], 0⟩, -1) | some x => (⟨x.1, x.2.1, k⟩, ((k + x.2.2.1 : Nat) : Int))) by rw [hd]; rfl)
  generalize oneR (s.data.toList.drop k) k = res at hres ⊢
  have hLn : s.data.toList.length = s.size := rfl
  have hrl : r.length + 1 + k = s.size := by rw [hr, List.length_drop, hLn]; omega
  have hlet := hid (fun w => rlower_any c w)
  have hdig := hid (fun w => rdigit_any c w)
  have hwrd := hid (fun w => wordEnd_any s k hk hs (isL c) (by rw [hc]) w)
  unfold tokV
  go_enter Tryz.func65, Tryz.ntmps65
  go_upto_region 2 with fail
  have hx := (Mod.refl (fun _ => False) w).alloc (.cells #[.int .i64 0, .string ⟨#[]⟩, .int .i64 0] 77)
  have hRc := heap_alloc_new w (.cells #[.int .i64 0, .string ⟨#[]⟩, .int .i64 0] 77)
  generalize hR : w.heap.size = R at hRc ⊢
  generalize (w.alloc (.cells #[.int .i64 0, .string ⟨#[]⟩, .int .i64 0] 77)) = w1 at hx hRc ⊢
  have hRle : w.heap.size ≤ R := Nat.le_of_eq hR
  replace hR := hid hR
  have fz := free_of' hRc
  have q0 : w1.cell? ⟨R, 0, none⟩ = some (.int .i64 0) := cell_of' hRc 0
  have q1 : w1.cell? ⟨R, 1, none⟩ = some (.string ⟨#[]⟩) := cell_of' hRc 1
  have q2 : w1.cell? ⟨R, 2, none⟩ = some (.int .i64 0) := cell_of' hRc 2
  replace hRc := hid hRc
  replace hx := hid hx
  rw [← hc]
  replace hc := hid hc
  replace hr := hid hr
  have hlet := hlet.out w1
  have hdig := hdig.out w1
  have hrun := hwrd.out w1
  clear hwrd
  cases hL : isL c with
  | true =>
    rw [hL] at hrun
    rw [hd] at hrun
    simp only [if_true] at hrun
    rw [List.takeWhile_cons, isW_of_isL hL] at hrun
    simp only [if_true] at hrun
    obtain ⟨n, hn⟩ : ∃ n, n = (c :: r.takeWhile isW).length := ⟨_, rfl⟩
    obtain ⟨e, he⟩ : ∃ e, e = k + n := ⟨_, rfl⟩
    have hnr : n ≤ r.length + 1 := by rw [hn]; simp only [List.length_cons]; have := (List.takeWhile_sublist isW (l := r)).length_le; omega
    have hes : e ≤ s.size := by omega
    have hwe : IntKind.i64.wrap ((e : Int) - (k : Int)) = (n : Int) := by rw [Go.IntWalk.i64_in _ (by omega)]; omega
    have htx : s.extract k e = ⟨(c :: r.takeWhile isW).toArray⟩ := by
      rw [extract_bytes s k e hes, hd, show e - k = (c :: r.takeWhile isW).length by omega]
      have := take_while isW (c :: r)
      rw [List.takeWhile_cons, isW_of_isL hL] at this
      simp only [if_true] at this
      rw [this]
    have hke : (k : Int) ≤ (e : Int) := by omega
    have hesI : (e : Int) ≤ (s.size : Int) := by omega
    rw [← hn, ← he] at hrun
    rw [hL] at hlet
    replace hlet := hid hlet
    replace hrun := hid hrun
    by_cases h20 : (20 : Int) < (n : Int)
    · have hp : Tpl.part c r = none := by unfold Tpl.part; rw [hL]; simp only [if_true]; rw [if_pos (by omega)]
      rw [hp] at hres
      clear hp hL hd hn he htx hnr
      go_wp2_with fail
      refine hlet.out.mono ?_; rintro e' w' ⟨rfl, rfl⟩
      go_wp2_with fail
      refine hrun.out.mono ?_; rintro e' w' ⟨rfl, rfl⟩
      go_wp2_with fail
      refine bodyPost_ret (ret_cell_tmp rfl _ _ R _ _ _ _ rfl (setCell3 hRc.out) Tryz.underlying77 rfl tok_size) rfl ?_
      exact ⟨by rw [hres.out]; rfl, (((hx.out.setCell (fun h => by have : R < w.heap.size := h; omega) _).setCell (fun h => by have : R < w.heap.size := h; omega) _).setCell (fun h => by have : R < w.heap.size := h; omega) _)⟩
    · have hp : Tpl.part c r = some (2, c :: r.takeWhile isW, n, r.dropWhile isW) := by unfold Tpl.part; rw [hL]; simp only [if_true]; rw [if_neg (by omega), hn]
      rw [hp] at hres
      simp only [← he] at hres
      clear hp hL hd hn he hnr
      go_wp2_with fail
      refine hlet.out.mono ?_; rintro e' w' ⟨rfl, rfl⟩
      go_wp2_with fail
      refine hrun.out.mono ?_; rintro e' w' ⟨rfl, rfl⟩
      go_wp2_with fail
      refine bodyPost_ret (ret_cell_tmp rfl _ _ R _ _ _ _ rfl (setCell3 hRc.out) Tryz.underlying77 rfl tok_size) rfl ?_
      exact ⟨by rw [hres.out]; rfl, (((hx.out.setCell (fun h => by have : R < w.heap.size := h; omega) _).setCell (fun h => by have : R < w.heap.size := h; omega) _).setCell (fun h => by have : R < w.heap.size := h; omega) _)⟩
  | false =>
    rw [hL] at hlet
    replace hlet := hid hlet
    cases hD : isD c with
    | true =>
      rw [hD] at hdig
      rw [hL] at hrun
      simp only [Bool.false_eq_true, if_false] at hrun
      rw [hd, List.takeWhile_cons, hD] at hrun
      simp only [if_true] at hrun
      obtain ⟨n, hn⟩ : ∃ n, n = (c :: r.takeWhile isD).length := ⟨_, rfl⟩
      obtain ⟨e, he⟩ : ∃ e, e = k + n := ⟨_, rfl⟩
      have hnr : n ≤ r.length + 1 := by rw [hn]; simp only [List.length_cons]; have := (List.takeWhile_sublist isD (l := r)).length_le; omega
      have hes : e ≤ s.size := by omega
      have hwe : IntKind.i64.wrap ((e : Int) - (k : Int)) = (n : Int) := by rw [Go.IntWalk.i64_in _ (by omega)]; omega
      have htx : s.extract k e = ⟨(c :: r.takeWhile isD).toArray⟩ := by
        rw [extract_bytes s k e hes, hd, show e - k = (c :: r.takeWhile isD).length by omega]
        have := take_while isD (c :: r)
        rw [List.takeWhile_cons, hD] at this
        simp only [if_true] at this
        rw [this]
      have hke : (k : Int) ≤ (e : Int) := by omega
      have hesI : (e : Int) ≤ (s.size : Int) := by omega
      rw [← hn, ← he] at hrun
      replace hdig := hid hdig
      replace hrun := hid hrun
      have hpart : Tpl.part c r = if decide (6 < n) || (decide (1 < n) && decide (c.toNat = 48)) then none else some (3, c :: r.takeWhile isD, n, r.dropWhile isD) := by
        unfold Tpl.part; rw [hL, hD, hn]; rfl
      replace hpart := hid hpart
      clear hL hD hd hn hnr
      by_cases h6 : (6 : Int) < (n : Int)
      · have hp : Tpl.part c r = none := by rw [hpart.out, if_pos (by simp; omega)]
        rw [hp] at hres
        clear hp he htx
        go_wp2_with fail
        refine hlet.out.mono ?_; rintro e' w' ⟨rfl, rfl⟩
        go_wp2_with fail
        refine hdig.out.mono ?_; rintro e' w' ⟨rfl, rfl⟩
        go_wp2_with fail
        refine hrun.out.mono ?_; rintro e' w' ⟨rfl, rfl⟩
        go_wp2_with fail
        refine bodyPost_ret (ret_cell_tmp rfl _ _ R _ _ _ _ rfl (setCell3 hRc.out) Tryz.underlying77 rfl tok_size) rfl ?_
        exact ⟨by rw [hres.out]; rfl, (((hx.out.setCell (fun h => by have : R < w.heap.size := h; omega) _).setCell (fun h => by have : R < w.heap.size := h; omega) _).setCell (fun h => by have : R < w.heap.size := h; omega) _)⟩
      · by_cases h1 : (1 : Int) < (n : Int)
        · cases h48 : ((c.toNat : Int) == 48) with
          | true =>
            have hp : Tpl.part c r = none := by
              have : (c.toNat : Int) = 48 := by simpa using h48
              rw [hpart.out, if_pos (by simp; omega)]
            rw [hp] at hres
            clear hp he htx
            go_wp2_with fail
            refine hlet.out.mono ?_; rintro e' w' ⟨rfl, rfl⟩
            go_wp2_with fail
            refine hdig.out.mono ?_; rintro e' w' ⟨rfl, rfl⟩
            go_wp2_with fail
            refine hrun.out.mono ?_; rintro e' w' ⟨rfl, rfl⟩
            go_wp2_with fail
            refine bodyPost_ret (ret_cell_tmp rfl _ _ R _ _ _ _ rfl (setCell3 hRc.out) Tryz.underlying77 rfl tok_size) rfl ?_
            exact ⟨by rw [hres.out]; rfl, (((hx.out.setCell (fun h => by have : R < w.heap.size := h; omega) _).setCell (fun h => by have : R < w.heap.size := h; omega) _).setCell (fun h => by have : R < w.heap.size := h; omega) _)⟩
          | false =>
            have hp : Tpl.part c r = some (3, c :: r.takeWhile isD, n, r.dropWhile isD) := by
              have : ¬ (c.toNat : Int) = 48 := by simpa using h48
              rw [hpart.out, if_neg (by simp; omega)]
            rw [hp] at hres
            simp only [← he] at hres
            clear hp he
            go_wp2_with fail
            refine hlet.out.mono ?_; rintro e' w' ⟨rfl, rfl⟩
            go_wp2_with fail
            refine hdig.out.mono ?_; rintro e' w' ⟨rfl, rfl⟩
            go_wp2_with fail
            refine hrun.out.mono ?_; rintro e' w' ⟨rfl, rfl⟩
            go_wp2_with fail
            refine bodyPost_ret (ret_cell_tmp rfl _ _ R _ _ _ _ rfl (setCell3 hRc.out) Tryz.underlying77 rfl tok_size) rfl ?_
            exact ⟨by rw [hres.out]; rfl, (((hx.out.setCell (fun h => by have : R < w.heap.size := h; omega) _).setCell (fun h => by have : R < w.heap.size := h; omega) _).setCell (fun h => by have : R < w.heap.size := h; omega) _)⟩
        · have hp : Tpl.part c r = some (3, c :: r.takeWhile isD, n, r.dropWhile isD) := by
            rw [hpart.out, if_neg (by simp; omega)]
          rw [hp] at hres
          simp only [← he] at hres
          clear hp he
          go_wp2_with fail
          refine hlet.out.mono ?_; rintro e' w' ⟨rfl, rfl⟩
          go_wp2_with fail
          refine hdig.out.mono ?_; rintro e' w' ⟨rfl, rfl⟩
          go_wp2_with fail
          refine hrun.out.mono ?_; rintro e' w' ⟨rfl, rfl⟩
          go_wp2_with fail
          refine bodyPost_ret (ret_cell_tmp rfl _ _ R _ _ _ _ rfl (setCell3 hRc.out) Tryz.underlying77 rfl tok_size) rfl ?_
          exact ⟨by rw [hres.out]; rfl, (((hx.out.setCell (fun h => by have : R < w.heap.size := h; omega) _).setCell (fun h => by have : R < w.heap.size := h; omega) _).setCell (fun h => by have : R < w.heap.size := h; omega) _)⟩
    | false =>
      rw [hD] at hdig
      replace hdig := hid hdig
      clear hrun
      cases hq : ((c.toNat : Int) == 34) with
      | true =>
        have hq' : c.toNat = 34 := by have : (c.toNat : Int) = 34 := (by simpa using hq); omega
        have hpart : Tpl.part c r = (match r.dropWhile isA with | [] => none | d :: t => if d.toNat = 34 then some (4, r.takeWhile isA, (r.takeWhile isA).length + 2, t) else none) := by
          unfold Tpl.part; rw [hL, hD]; simp only [Bool.false_eq_true, if_false, hq', if_true]
          cases r.dropWhile isA <;> rfl
        have hrun := stringEnd_any s k hk hs w1
        rw [← hr.out] at hrun
        have hwk : IntKind.i64.wrap ((k : Int) + 1) = ((k + 1 : Nat) : Int) := by rw [Go.IntWalk.i64_in _ (by omega)]; omega
        obtain ⟨n, hn⟩ : ∃ n, n = (r.takeWhile isA).length := ⟨_, rfl⟩
        rw [← hn] at hpart
        have hnr : n ≤ r.length := by rw [hn]; exact (List.takeWhile_sublist isA (l := r)).length_le
        have hdl : (r.dropWhile isA).length = r.length - n := by rw [← drop_while, List.length_drop, ← hn]
        have hend : (∃ d t, r.dropWhile isA = d :: t ∧ strE r k = ((k + n + 2 : Nat) : Int) ∧ Tpl.part c r = some (4, r.takeWhile isA, n + 2, t)) ∨ (strE r k = -1 ∧ Tpl.part c r = none) := by
          cases hdw : r.dropWhile isA with
          | nil => exact .inr ⟨by unfold strE; rw [hdw], by rw [hpart, hdw]⟩
          | cons d t =>
            by_cases h : d.toNat = 34
            · exact .inl ⟨d, t, rfl, by unfold strE; rw [hdw]; simp only [if_pos h, ← hn], by rw [hpart, hdw]; simp only [if_pos h]⟩
            · exact .inr ⟨by unfold strE; rw [hdw]; simp only [if_neg h], by rw [hpart, hdw]; simp only [if_neg h]⟩
        clear hpart
        rcases hend with ⟨d, t, hdw, hst, hpart⟩ | ⟨e1, e2⟩
        · rw [hdw] at hdl
          rw [hst] at hrun
          simp only [List.length_cons] at hdl
          obtain ⟨e, he⟩ : ∃ e, e = k + n + 2 := ⟨_, rfl⟩
          obtain ⟨k1, hk1⟩ : ∃ k1, k1 = k + 1 := ⟨_, rfl⟩
          obtain ⟨e1, he1⟩ : ∃ e1, e1 = k + 1 + n := ⟨_, rfl⟩
          have hes : e ≤ s.size := by omega
          have htx : s.extract k1 e1 = ⟨(r.takeWhile isA).toArray⟩ := by
            rw [extract_bytes s k1 e1 (by omega), hk1, ← hr.out, show e1 - (k + 1) = (r.takeWhile isA).length by omega, take_while]
          rw [← he] at hrun
          rw [hpart] at hres
          have hres1 : Hid (res = (⟨4, r.takeWhile isA, k⟩, ((e : Nat) : Int))) := hid (by rw [hres.out]; simp only; rw [he]; congr 2)
          have hwe : IntKind.i64.wrap ((e : Int) - 1) = (e1 : Int) := by rw [Go.IntWalk.i64_in _ (by omega)]; omega
          rw [← hk1] at hwk
          have hke : (k1 : Int) ≤ (e1 : Int) := by omega
          have hesI : (e1 : Int) ≤ (s.size : Int) := by omega
          have he0 : ¬ (e : Int) < 0 := by omega
          have hk1s : k1 ≤ 1000 := by omega
          replace hrun := hid hrun
          replace hres := hres1
          clear hL hD hd hnr hq' hdw hst hdl hpart hn he hk1 he1 hres1
          go_wp2_with fail
          refine hlet.out.mono ?_; rintro e' w' ⟨rfl, rfl⟩
          go_wp2_with fail
          refine hdig.out.mono ?_; rintro e' w' ⟨rfl, rfl⟩
          go_wp2_with fail
          refine hrun.out.mono ?_; rintro e' w' ⟨rfl, rfl⟩
          go_wp2_with fail
          refine bodyPost_ret (ret_cell_tmp rfl _ _ R _ _ _ _ rfl (setCell3 hRc.out) Tryz.underlying77 rfl tok_size) rfl ?_
          exact ⟨by rw [hres.out]; rfl, (((hx.out.setCell (fun h => by have : R < w.heap.size := h; omega) _).setCell (fun h => by have : R < w.heap.size := h; omega) _).setCell (fun h => by have : R < w.heap.size := h; omega) _)⟩
        · rw [e1] at hrun
          rw [e2] at hres
          replace hrun := hid hrun
          clear hL hD hd hnr hq' hdl hn e1 e2
          go_wp2_with fail
          refine hlet.out.mono ?_; rintro e' w' ⟨rfl, rfl⟩
          go_wp2_with fail
          refine hdig.out.mono ?_; rintro e' w' ⟨rfl, rfl⟩
          go_wp2_with fail
          refine hrun.out.mono ?_; rintro e' w' ⟨rfl, rfl⟩
          go_wp2_with fail
          refine bodyPost_ret (ret_cell_tmp rfl _ _ R _ _ _ _ rfl (setCell3 hRc.out) Tryz.underlying77 rfl tok_size) rfl ?_
          exact ⟨by rw [hres.out]; rfl, (((hx.out.setCell (fun h => by have : R < w.heap.size := h; omega) _).setCell (fun h => by have : R < w.heap.size := h; omega) _).setCell (fun h => by have : R < w.heap.size := h; omega) _)⟩
      | false =>
        have hq' : ¬ c.toNat = 34 := by have : ¬ (c.toNat : Int) = 34 := (by simpa using hq); omega
        have hwk : IntKind.i64.wrap ((k : Int) + 1) = ((k + 1 : Nat) : Int) := by rw [Go.IntWalk.i64_in _ (by omega)]; omega
        cases hpipe : ((c.toNat : Int) == 124) with
        | true =>
          have h' : c.toNat = 124 := by have : (c.toNat : Int) = 124 := (by simpa using hpipe); omega
          have hp : Tpl.part c r = some (5, [124], 1, r) := by
            unfold Tpl.part; rw [hL, hD]; simp only [Bool.false_eq_true, if_false, h', if_true]
            rw [show c = 124 from UInt8.toNat_inj.1 (by rw [h']; rfl)]; rfl
          rw [hp] at hres
          clear hp hL hD hd hq' h'
          go_wp2_with fail
          refine hlet.out.mono ?_; rintro e' w' ⟨rfl, rfl⟩
          go_wp2_with fail
          refine hdig.out.mono ?_; rintro e' w' ⟨rfl, rfl⟩
          go_wp2_with fail
          refine bodyPost_ret (ret_cell_tmp rfl _ _ R _ _ _ _ rfl (setCell3 hRc.out) Tryz.underlying77 rfl tok_size) rfl ?_
          exact ⟨by rw [hres.out]; rfl, (((hx.out.setCell (fun h => by have : R < w.heap.size := h; omega) _).setCell (fun h => by have : R < w.heap.size := h; omega) _).setCell (fun h => by have : R < w.heap.size := h; omega) _)⟩
        | false =>
          have hpipe' : ¬ c.toNat = 124 := by have : ¬ (c.toNat : Int) = 124 := (by simpa using hpipe); omega
          cases hcl : ((c.toNat : Int) == 125) with
          | true =>
            have h' : c.toNat = 125 := by have : (c.toNat : Int) = 125 := (by simpa using hcl); omega
            have hp : Tpl.part c r = some (7, [125], 1, r) := by
              unfold Tpl.part; rw [hL, hD]; simp only [Bool.false_eq_true, if_false, h', if_true]
              rw [show c = 125 from UInt8.toNat_inj.1 (by rw [h']; rfl)]; rfl
            rw [hp] at hres
            clear hp hL hD hd hq' h' hpipe'
            go_wp2_with fail
            refine hlet.out.mono ?_; rintro e' w' ⟨rfl, rfl⟩
            go_wp2_with fail
            refine hdig.out.mono ?_; rintro e' w' ⟨rfl, rfl⟩
            go_wp2_with fail
            refine bodyPost_ret (ret_cell_tmp rfl _ _ R _ _ _ _ rfl (setCell3 hRc.out) Tryz.underlying77 rfl tok_size) rfl ?_
            exact ⟨by rw [hres.out]; rfl, (((hx.out.setCell (fun h => by have : R < w.heap.size := h; omega) _).setCell (fun h => by have : R < w.heap.size := h; omega) _).setCell (fun h => by have : R < w.heap.size := h; omega) _)⟩
          | false =>
            have h' : ¬ c.toNat = 125 := by have : ¬ (c.toNat : Int) = 125 := (by simpa using hcl); omega
            have hp : Tpl.part c r = none := by
              unfold Tpl.part; rw [hL, hD]; simp only [Bool.false_eq_true, if_false, hq', hpipe', h']
            rw [hp] at hres
            clear hp hL hD hd hq' h' hpipe'
            go_wp2_with fail
            refine hlet.out.mono ?_; rintro e' w' ⟨rfl, rfl⟩
            go_wp2_with fail
            refine hdig.out.mono ?_; rintro e' w' ⟨rfl, rfl⟩
            go_wp2_with fail
            refine bodyPost_ret (ret_cell_tmp rfl _ _ R _ _ _ _ rfl (setCell3 hRc.out) Tryz.underlying77 rfl tok_size) rfl ?_
            exact ⟨by rw [hres.out]; rfl, (((hx.out.setCell (fun h => by have : R < w.heap.size := h; omega) _).setCell (fun h => by have : R < w.heap.size := h; omega) _).setCell (fun h => by have : R < w.heap.size := h; omega) _)⟩
end Go.Proofs.YtpgniljgaknlpaaGreatDoor
