import Derived.Test.YtncmhcfhbogjnaaL3
namespace Go.Proofs.Ytncmhcfhbogjnaa
open Go.RowKit Cdk

def bs (n : UInt8) : ByteArray := ⟨#[n]⟩
def pg (a t : UInt8) : Pg := (bs a, bs t, .slice none 0 0)
theorem pgsOk_of {l : List Pg} (h : ∀ p ∈ l, p.2.2 = .slice none 0 0) : PgsOk l := fun p hp => ⟨none, 0, 0, h p hp⟩

theorem GetR_pub (st : SiteSt) (j N tb : Nat) (d : Txt) (hj : j < 4) (a : ByteArray) : GetR (pubSt st j N tb d) j a = getR d a := by
  unfold GetR pubSt
  have : isClassB j = true := by rw [isClassB_iff]; omega
  rw [this]
  simp

set_option maxRecDepth 100000 in
set_option maxHeartbeats 4000000 in
theorem sane_any (w : World) : Calls Try.prog 9 #[] w fun e w' => e = .returned (.bool true) ∧ Ext w w' := by
  go_enter Try.func9, Try.ntmps9
  go_wp2_with fail
  refine (New_any w).mono ?_
  rintro e w1 ⟨rfl, hE1, hS1⟩
  replace hE1 := hid hE1
  replace hS1 := hid hS1
  unfold snapV
  go_wp2_with fail
  have hx2 : Ext w1 (w1.alloc (.cells ([pg 97 120, pg 98 121].flatMap pgCells).toArray 55)) := (Mod.refl _ _).alloc _
  have hP2 := hid (Publish_any (hS1.out.mod hx2 (fun _ _ h => h)) 1 [pg 97 120, pg 98 121] _ 2 false (RowIs.new w1 _ 55) (pgsOk_of (by simp [pg])) (by simp) rfl (by decide))
  replace hx2 := hid hx2
  refine hP2.out.mono ?_
  rintro e w2 ⟨rfl, hm2, F2, N1, tb1, hF2, hN1, hS2⟩
  have hS2 : SiteAt w2 F2 (w.heap.size + 1) (pubSt (newSt w.heap.size) 1 N1 tb1 (pubT [pg 97 120, pg 98 121])) := hS2
  have b1 : w.heap.size + 9 < w1.heap.size := hS1.out.lt _ ⟨by omega, by omega⟩
  have b2 : N1 < w2.heap.size := hS2.lt _ (hS2.shot N1 (.inl ⟨1, by omega, rfl⟩)).1
  have hN1 : w.heap.size + 10 ≤ N1 := by have := hx2.out.size; omega
  have hE2 : Ext w w2 := ((hE1.out.trans hx2.out).then hm2 (fun k hk h => by have := h.1; omega))
  have hF2' : Hid (∀ k, F2 k → w.heap.size ≤ k) := hid (fun k hk => by rcases hF2 k hk with h | h <;> have := hx2.out.size <;> omega)
  replace hE2 := hid hE2
  replace hm2 := hid hm2
  replace hF2 := hid hF2
  replace hS2 := hid hS2
  go_wp2_with fail
  refine (Open_any hS2.out 1 (by show (0 : Int) ≤ 0; decide) (by show (0 : Int) < 1000000; decide) rfl (by show 0 < 16; decide) (by intro q hq; cases hq)).mono ?_
  rintro e w3 ⟨rfl, hm3, hS3⟩
  have hE3 : Ext w w3 := hE2.out.then hm3 (fun k hk h => by have := hF2'.out k h; omega)
  have b3 := hm3.size
  replace hm3 := hid hm3
  replace hE3 := hid hE3
  replace hS3 := hid hS3
  go_wp2_with fail
  have hx4 : Ext w3 (w3.alloc (.cells ([pg 97 122].flatMap pgCells).toArray 55)) := (Mod.refl _ _).alloc _
  have hP4 := hid (Publish_any (hS3.out.mod hx4 (fun _ _ h => h)) 1 [pg 97 122] _ 1 false (RowIs.new w3 _ 55) (pgsOk_of (by simp [pg])) (by simp) rfl (by decide))
  replace hx4 := hid hx4
  refine hP4.out.mono ?_
  rintro e w4 ⟨rfl, hm4, F4, N2, tb2, hF4, hN2, hS4⟩
  obtain ⟨st3, hst3⟩ : ∃ st3, st3 = pubSt (openSt (pubSt (newSt w.heap.size) 1 N1 tb1 (pubT [pg 97 120, pg 98 121])) 1) 1 N2 tb2 (pubT [pg 97 122]) := ⟨_, rfl⟩
  have hS4 : SiteAt w4 F4 (w.heap.size + 1) st3 := by rw [hst3]; exact hS4
  have b4 : N2 < w4.heap.size := hS4.lt _ (hS4.shot N2 (.inl ⟨1, by omega, by rw [hst3]; rfl⟩)).1
  have hN12 : N1 < N2 := by have := hx4.out.size; omega
  have hE4 : Ext w w4 := ((hE3.out.trans hx4.out).then hm4 (fun k hk h => by have := hF2'.out k h; omega))
  have hF4' : Hid (∀ k, F4 k → w.heap.size ≤ k) := hid (fun k hk => by
    rcases hF4 k hk with h | h
    · exact hF2'.out k h
    · have := hx4.out.size; have := hE3.out.size; omega)
  have q1 : GetR st3 1 (bs 97) = (bs 122, 0) := by rw [hst3]; exact (GetR_pub _ 1 _ _ _ (by omega) _).trans (by decide)
  have q2 : GetR st3 1 (bs 98) = (.empty, 251) := by rw [hst3]; exact (GetR_pub _ 1 _ _ _ (by omega) _).trans (by decide)
  have q3 : GetR st3 4 (bs 97) = (.empty, 250) := rfl
  have hses : st3.ses = [(1, 1, N1)] := by rw [hst3]; rfl
  have htx : st3.txt N1 = pubT [pg 97 120, pg 98 121] := by
    rw [hst3]
    simp only [pubSt, openSt]
    rw [if_neg (by omega), if_pos trivial]
  have q4 : ReadR st3 1 (bs 98) = (bs 121, 0) := by
    unfold ReadR; rw [hses]
    simp only [List.find?_cons, decide_true]
    rw [htx]; decide
  have hcur : st3.cur 0 = w.heap.size + 3 ∧ st3.cur 1 = N2 ∧ st3.cur 2 = w.heap.size + 7 ∧ st3.cur 3 = w.heap.size + 9 := by
    rw [hst3]; refine ⟨rfl, rfl, rfl, rfl⟩
  have q5 : (snapsL st3).length = 5 := by
    unfold snapsL; rw [hses, hcur.1, hcur.2.1, hcur.2.2.1, hcur.2.2.2]
    simp only [List.map_cons, List.map_nil, List.foldl_cons, List.foldl_nil]
    unfold addN
    rw [if_neg (by simp; omega)]
    rfl
  have hG1 := Get_any hS4 1 (bs 97); rw [q1] at hG1; replace hG1 := hid hG1
  have hR1 := Read_any hS4 1 (bs 98); rw [q4] at hR1; replace hR1 := hid hR1
  have hsl : st3.ses.length = 1 := by rw [hses]; rfl
  replace hst3 := hid hst3
  replace hm4 := hid hm4
  replace hF4 := hid hF4
  replace hE4 := hid hE4
  replace hS4 := hid hS4
  replace hses := hid hses
  replace htx := hid htx
  replace hcur := hid hcur
  replace q1 := hid q1
  replace q2 := hid q2
  replace q3 := hid q3
  replace q4 := hid q4
  replace q5 := hid q5
  replace hsl := hid hsl
  go_wp2_with fail
  refine hG1.out.mono ?_; unfold resV; rintro e w' ⟨rfl, rfl⟩
  go_wp2_with fail
  refine hR1.out.mono ?_; unfold resV; rintro e w5 ⟨rfl, hx5⟩
  have hS5 := hS4.out.mod hx5 (fun _ _ h => h)
  have hG2 := Get_any hS5 1 (bs 98); rw [q2.out] at hG2; replace hG2 := hid hG2
  have hG3 := Get_any hS5 4 (bs 97); rw [q3.out] at hG3; replace hG3 := hid hG3
  have hN5 := Snapshots_any hS5 (by rw [hsl.out]; decide); rw [q5.out] at hN5; replace hN5 := hid hN5
  replace hx5 := hid hx5
  replace hS5 := hid hS5
  go_wp2_with fail
  refine hG2.out.mono ?_; unfold resV; rintro e w' ⟨rfl, rfl⟩
  go_wp2_with fail
  refine hG3.out.mono ?_; unfold resV; rintro e w' ⟨rfl, rfl⟩
  go_wp2_with fail
  refine hN5.out.mono ?_; rintro e w6 ⟨rfl, hx6⟩
  have hS6 := hS5.out.mod hx6 (fun _ _ h => h)
  have hL6 := Sessions_any hS6; rw [hsl.out] at hL6; replace hL6 := hid hL6
  replace hx6 := hid hx6
  replace hS6 := hid hS6
  go_wp2_with fail
  refine hL6.out.mono ?_; rintro e w' ⟨rfl, rfl⟩
  go_wp2_with fail
  have hx7 : Ext w6 (w6.alloc (.cells ([pg 97 119].flatMap pgCells).toArray 55)) := (Mod.refl _ _).alloc _
  have hP7 := hid (Publish_any (hS6.out.mod hx7 (fun _ _ h => h)) 1 [pg 97 119] _ 1 true (RowIs.new w6 _ 55) (pgsOk_of (by simp [pg])) (by simp) rfl (by decide))
  have b7 : N1 < (w6.alloc (.cells ([pg 97 119].flatMap pgCells).toArray 55)).heap.size := by have := hx7.size; have := hx6.out.size; have := hx5.out.size; omega
  replace hx7 := hid hx7
  refine hP7.out.mono ?_
  rintro e w8 ⟨rfl, hm8, F8, N3, tb3, hF8, hN3, hS8⟩
  obtain ⟨st4, hst4⟩ : ∃ st4, st4 = pubSt (purgedSt st3 1 (pubT [pg 97 119]) (st3.ses.map (·.1))) 1 N3 tb3 (pubT [pg 97 119]) := ⟨_, rfl⟩
  have hT8 : SiteAt w8 F8 (w.heap.size + 1) st4 := by rw [hst4]; exact hS8
  clear hS8
  have hses4 : st4.ses = [(1, 1, N1)] := by rw [hst4]; exact hses.out
  have htx4 : st4.txt N1 = pubT [pg 97 119] := by
    rw [hst4]
    simp only [pubSt, purgedSt]
    rw [if_neg (by omega), hses.out, htx.out]
    simp only [List.map_cons, List.map_nil, List.any_cons, List.any_nil]
    rw [if_pos (by simp)]
    decide
  have q6 : ReadR st4 1 (bs 97) = (bs 119, 0) := by
    unfold ReadR; rw [hses4]
    simp only [List.find?_cons, decide_true]
    rw [htx4]; decide
  have q7 : ReadR st4 1 (bs 98) = (.empty, 251) := by
    unfold ReadR; rw [hses4]
    simp only [List.find?_cons, decide_true]
    rw [htx4]; decide
  have hE8 : Ext w w8 := ((((hE4.out.trans hx5.out).trans hx6.out).trans hx7.out).then hm8 (fun k hk h => by have := hF4'.out k h; omega))
  have hR8 := Read_any hT8 1 (bs 97); rw [q6] at hR8; replace hR8 := hid hR8
  replace hst4 := hid hst4
  replace hm8 := hid hm8
  replace hF8 := hid hF8
  replace hE8 := hid hE8
  replace hT8 := hid hT8
  replace hses4 := hid hses4
  replace htx4 := hid htx4
  replace q6 := hid q6
  replace q7 := hid q7
  go_wp2_with fail
  refine hR8.out.mono ?_; unfold resV; rintro e w9 ⟨rfl, hx9⟩
  have hS9 := hT8.out.mod hx9 (fun _ _ h => h)
  have hR9 := Read_any hS9 1 (bs 98); rw [q7.out] at hR9; replace hR9 := hid hR9
  replace hx9 := hid hx9
  replace hS9 := hid hS9
  go_wp2_with fail
  refine hR9.out.mono ?_; unfold resV; rintro e w10 ⟨rfl, hx10⟩
  have hE10 := hE8.out.trans (hx9.out.trans hx10)
  replace hE10 := hid hE10
  replace hx10 := hid hx10
  have s1 : (bs 122).toList = [122] := by rw [ByteArray.toList_eq]; rfl
  have s2 : (bs 121).toList = [121] := by rw [ByteArray.toList_eq]; rfl
  have s3 : (bs 119).toList = [119] := by rw [ByteArray.toList_eq]; rfl
  have s4 : Hid ((pubSt (newSt w.heap.size) 1 N1 tb1 (pubT [pg 97 120, pg 98 121])).last + 1 = 1) := rfl
  go_wp2_with (first
    | (go_at_call 25; refine (Get_nil _ _ _).mono ?_; unfold resV; rintro e w' ⟨rfl, rfl⟩)
    | (go_at_call 31; refine (Open_nil _ _).mono ?_; rintro e w' ⟨rfl, rfl⟩)
    | (go_at_call 27; refine (Read_nil _ _ _).mono ?_; unfold resV; rintro e w' ⟨rfl, rfl⟩)
    | (go_at_call 30; refine (Publish_nil _ _ _ _).mono ?_; rintro e w' ⟨rfl, rfl⟩)
    | (go_at_call 32; refine (Close_nil _ _).mono ?_; rintro e w' ⟨rfl, rfl⟩)
    | (go_at_call 21; refine (Sessions_nil _).mono ?_; rintro e w' ⟨rfl, rfl⟩)
    | (go_at_call 22; refine (Snapshots_nil _).mono ?_; rintro e w' ⟨rfl, rfl⟩))
  all_goals go_ret
  all_goals first | exact ⟨rfl, hE10.out⟩ | (exfalso; rename_i h; exact h s4.out)
end Go.Proofs.Ytncmhcfhbogjnaa
