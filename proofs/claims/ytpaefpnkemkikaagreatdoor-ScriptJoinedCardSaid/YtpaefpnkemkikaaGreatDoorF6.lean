import Derived.Test.YtpaefpnkemkikaaGreatDoorF5
set_option maxRecDepth 100000
set_option maxHeartbeats 16000000
namespace Go.Proofs.YtpaefpnkemkikaaGreatDoor
open Go.Shelf Go.RowKit Cdk Scr
theorem cutN (N : Nat) (t : Bs) : (⟨t.toArray⟩ : ByteArray).extract 0 (min (t.length : Int) (N : Int)).toNat = ⟨(t.take N).toArray⟩ := by
 rw [ext_bs', List.drop_zero]
 by_cases h : N <= t.length
 ·rw [show (min (t.length : Int) (N : Int)).toNat = N by omega]
 ·rw [show (min (t.length : Int) (N : Int)).toNat = t.length by omega, List.take_length, List.take_of_length_le (by omega)]
theorem cutL_any (t : Bs) (ht : t.length <= 140737488351232) (w : World) : Calls Tryz.prog 21 #[.string ⟨t.toArray⟩] w fun e w' => e = .returned (.string ⟨(t.take 6000).toArray⟩) /\ w = w' := by
 have x := cutN 6000 t
 have l : (0 : Int) <= min (t.length : Int) 6000 /\ min (t.length : Int) 6000 <= (t.length : Int) := by omega
 obtain ⟨S, hS⟩ : ∃ S : ByteArray, S = ⟨t.toArray⟩ := ⟨_, rfl⟩
 obtain ⟨R, hR⟩ : ∃ R : ByteArray, R = ⟨(t.take 6000).toArray⟩ := ⟨_, rfl⟩
 have hz : S.size = t.length := by rw [hS]; rfl
 rw [<- hz] at x l ht
 rw [<- hS, <- hR] at x
 rw [<- hS, <- hR]
 replace hz := hid hz
 replace hS := hid hS
 replace hR := hid hR
 have x2 : S.extract 0 (min (S.size : Int) 6000).toNat = R := x
 replace x := hid x
 go_enter Tryz.func21, Tryz.ntmps21
 go_wp2_with fail
 go_ret
 exact ⟨rfl, rfl⟩
theorem againL_any (S0 : ByteArray) (hz0 : S0.size <= 140737488351232) (w : World) (hG : Gl w) :
  Calls Tryz.prog 7 #[.string S0] w fun e w' => e = .returned (.bool true) /\ Ext w w' := by
 obtain ⟨t0, rfl⟩ : ∃ t0 : Bs, S0 = ⟨t0.toArray⟩ := ⟨S0.data.toList, by simp⟩
 have ht0 : t0.length <= 140737488351232 := by have h : (⟨t0.toArray⟩ : ByteArray).size = t0.length := rfl; omega
 have hsn := hid (sane_any w hG)
 replace hG := hid hG
 obtain ⟨T, hT⟩ : ∃ T : ByteArray, T = ⟨t0.toArray⟩ := ⟨_, rfl⟩
 have hcu := fun W => cutL_any t0 ht0 W
 obtain ⟨s, hs⟩ : ∃ s, s = t0.take 6000 := ⟨_, rfl⟩
 have hsl : s.length <= 6000 := by rw [hs, List.length_take]; omega
 obtain ⟨S, hS⟩ : ∃ S : ByteArray, S = ⟨s.toArray⟩ := ⟨_, rfl⟩
 rw [<- hs, <- hS, <- hT] at hcu
 rw [<- hT]
 replace hcu := hid hcu
 replace hT := hid hT
 replace hs := hid hs
 clear hz0 ht0
 go_enter Tryz.func7, Tryz.ntmps7
 go_wp2_with fail
 refine hsn.out.mono ?_; rintro e w1 ⟨rfl, hx1⟩
 have hG1 := hid (hG.out.ext hx1)
 replace hx1 := hid hx1
 clear hsn hG
 go_wp2_with fail
 refine (hcu.out w1).mono ?_; rintro e w1' ⟨rfl, hw⟩
 subst hw
 have hpa := parse_any s (by omega) w1 hG1.out
 have hln := fun W => linesL_any s (by omega) W
 rw [<- hS] at hpa hln
 have hpl := parts_len 10 s
 obtain ⟨L, hL⟩ : ∃ L, L = parts 10 s := ⟨_, rfl⟩
 rw [<- hL] at hln hpl
 have hLl : L.length <= 6001 := by omega
 replace hln := hid hln
 replace hpl := hid hpl
 replace hS := hid hS
 replace hpa := hid hpa
 clear hcu
 go_wp2_with fail
 refine hpa.out.mono ?_; rintro e w2 ⟨hx, hE⟩
 have hG2 := hid (hG1.out.ext hx)
 have hx02 := hid (hx1.out.trans hx)
 have hsz2 : w.heap.size <= w2.heap.size := hx02.out.size
 replace hx := hid hx
 clear hpa hG1 hx1
 unfold PaE at hE
 cases hp : parse s with
 | error n =>
  rw [hp] at hE
  simp only at hE
  subst hE
  obtain ⟨hn1, hn2, tn, htn, hskn⟩ := parse_err hsl hp
  rw [<- hL] at hn2 htn
  obtain ⟨m, hm⟩ : ∃ m, n = m + 1 := ⟨n - 1, by omega⟩
  rw [show n - 1 = m by omega] at htn
  have hmL : m < L.length := by omega
  have hLm : L[m] = tn := by rw [List.getElem?_eq_getElem hmL] at htn; exact Option.some.inj htn
  have hmLi : (m : Int) < (L.length : Int) := by omega
  have hn1i : (1 : Int) <= (n : Int) := by omega
  have hn2i : (n : Int) <= (L.length : Int) := by omega
  have d1 : decide ((1 : Int) <= (n : Int)) = true := decide_eq_true hn1i
  have d2 : decide ((n : Int) <= (L.length : Int)) = true := decide_eq_true hn2i
  have hw1 : IntKind.i64.wrap ((n : Int) - 1) = (m : Int) := by rw [IntWalk.i64_in _ (by omega)]; omega
  have hig := fun W => ignored_any tn W
  rw [hskn] at hig
  replace hig := hid hig
  replace hm := hid hm
  replace hp := hid hp
  replace htn := hid htn
  replace hskn := hid hskn
  replace hL := hid hL
  go_wp2_with fail
  refine (hln.out w2).mono ?_; rintro e w3 ⟨ao, cap, rfl, hst, hx3⟩
  have hx03 := hid (hx02.out.trans hx3)
  obtain ⟨bL, oL, cL, eL, -, hcL⟩ := RowAt.get hst 1 strC_len (by decide) (j := m) hmL
  injection eL with eL1 _ eL3
  subst eL1 eL3
  have hcell := hcL 0 (.string ⟨tn.toArray⟩) (by decide) (by rw [hLm]; rfl)
  simp only [Nat.mul_one, Nat.add_zero] at hcell
  replace hLm := hid hLm
  clear hcL hst hx3 hx02
  go_wp2_with fail
  refine (hig.out w3).mono ?_; rintro e w3' ⟨rfl, hw⟩
  subst hw
  go_wp2_with fail
  go_ret
  exact ⟨rfl, hx03.out⟩
 | ok l =>
  rw [hp] at hE
  simp only at hE
  obtain ⟨ao, cap, rfl, hA⟩ := hE
  have hprt := print_parse hsl hp
  have hkept : kept (parts 10 s) = (((parts 10 s).filter (fun t => !skip t)).flatMap (fun t => t ++ [10])) := rfl
  rw [<- hkept, <- hL] at hprt
  have hkb := fun (j : Nat) (h1 : j < L.length) (h2 : skip L[j] = false) => (by
   have hL' := hL
   subst hL'
   exact kept_bound s h1 h2 : (kept (L.take j)).length + L[j].length + 1 <= s.length + 1)
  replace hprt := hid hprt
  replace hkb := hid hkb
  replace hp := hid hp
  replace hL := hid hL
  replace hA := hid hA
  clear hkept
  go_wp2_with fail
  refine (hln.out w2).mono ?_; rintro e w3 ⟨av, cv, rfl, hst, hx3⟩
  have hx03 := hid (hx02.out.trans hx3)
  have hG3 := hid (hG2.out.ext hx3)
  have hA3 := hid ((hA.out.ext hx3).mono (F' := fun k => k < w3.heap.size) (fun k hk => Nat.lt_of_lt_of_le hk.2 hx3.size))
  replace hst := hid hst
  clear hx3 hx02 hG2 hA hx hsz2
  go_wp2_with fail
  go_loopg [8, 9] L.length (fun g tv iv wr => ∃ j : Nat, j + g = L.length /\ iv = .int .i64 j /\ tv = .string ⟨(kept (L.take j)).toArray⟩ /\ wr = w3)
  case atStart => exact ⟨0, by omega, rfl, rfl, rfl⟩
  case round =>
   obtain ⟨j, hj, rfl, rfl, rfl⟩ := hrel
   by_cases hlt : j < L.length
   ·have hdi : (j : Int) < (L.length : Int) := by omega
    have hd : decide ((j : Int) < (L.length : Int)) = true := decide_eq_true hdi
    have hjw : IntKind.i64.wrap ((j : Int) + 1) = (j : Int) + 1 := IntWalk.i64_in _ (by omega)
    obtain ⟨bL, oL, cL, eL, -, hcL⟩ := RowAt.get hst.out 1 strC_len (by decide) (j := j) hlt
    injection eL with eL1 _ eL3
    subst eL1 eL3
    have hcell := hcL 0 (.string ⟨L[j].toArray⟩) (by decide) rfl
    simp only [Nat.mul_one, Nat.add_zero] at hcell
    have hnx := kept_succ L hlt
    have hig := fun W => ignored_any L[j] W
    have hkj := hkb.out j hlt
    obtain ⟨t, ht⟩ : ∃ t, t = L[j] := ⟨_, rfl⟩
    rw [<- ht] at hcell hnx hig hkj
    replace hj := hid hj
    replace ht := hid ht
    clear hcL
    cases hsk : skip t with
    | true =>
     rw [hsk] at hig
     rw [if_pos hsk] at hnx
     replace hig := hid hig
     replace hnx := hid hnx
     replace hsk := hid hsk
     clear hkj
     go_wp2_with fail
     refine (hig.out wr).mono ?_; rintro e wr' ⟨rfl, hw⟩
     subst hw
     go_wp2_with fail
     go_roundg (gk - 1)
     case measure => have := hj.out; omega
     case rel => exact ⟨j + 1, by have := hj.out; omega, by go_num, by rw [hnx.out], rfl⟩
    | false =>
     rw [hsk] at hig
     rw [if_neg (by rw [hsk]; decide)] at hnx
     have hkl := hkj hsk
     have hsum : (kept (L.take j)).length + t.length <= 1000000 := by omega
     have hsum2 : ((⟨(kept (L.take j)).toArray⟩ : ByteArray) ++ ⟨t.toArray⟩).size + 1 <= 1000000 := by
      rw [app_bs]; show (kept (L.take j) ++ t).toArray.size + 1 <= _; simp; omega
     replace hig := hid hig
     replace hnx := hid hnx
     replace hsk := hid hsk
     replace hkl := hid hkl
     clear hkj
     go_wp2_with fail
     refine (hig.out wr).mono ?_; rintro e wr' ⟨rfl, hw⟩
     subst hw
     go_wp2_with fail
     go_roundg (gk - 1)
     case measure => have := hj.out; omega
     case rel => exact ⟨j + 1, by have := hj.out; omega, by go_num, by rw [hnx.out, <- app_bs, <- app_bs], rfl⟩
   ·obtain rfl : j = L.length := by omega
    have hdi : ¬ (L.length : Int) < (L.length : Int) := by omega
    have hd : decide ((L.length : Int) < (L.length : Int)) = false := decide_eq_false hdi
    have hpr := print_any _ l wr hG3.out hA3.out
    unfold printR at hpr
    rw [hprt.out] at hpr
    simp only at hpr
    have htk : L.take L.length = L := List.take_length
    rw [htk]
    obtain ⟨K, hK⟩ : ∃ K : ByteArray, K = ⟨(kept L).toArray⟩ := ⟨_, rfl⟩
    rw [<- hK] at hpr ⊢
    replace hK := hid hK
    replace hpr := hid hpr
    replace htk := hid htk
    go_wp2_with fail
    refine hpr.out.mono ?_; rintro e w4 ⟨rfl, hx4⟩
    have hx04 := hid (hx03.out.trans hx4)
    clear hpr hx4
    go_wp2_with fail
    go_ret
    exact ⟨rfl, hx04.out⟩
end Go.Proofs.YtpaefpnkemkikaaGreatDoor
