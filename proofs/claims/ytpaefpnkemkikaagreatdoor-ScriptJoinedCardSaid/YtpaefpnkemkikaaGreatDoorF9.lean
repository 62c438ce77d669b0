import Derived.Test.YtpaefpnkemkikaaGreatDoorF6
import Derived.Test.YtpaefpnkemkikaaGreatDoorB11
import Derived.Test.YtpaefpnkemkikaaGreatDoorTh15
set_option maxRecDepth 100000
set_option maxHeartbeats 16000000
namespace Go.Proofs.YtpaefpnkemkikaaGreatDoor
open Go.Shelf Go.RowKit Cdk Scr
theorem empty_app (x : Bs) : (⟨#[]⟩ : ByteArray) ++ ⟨x.toArray⟩ = ⟨x.toArray⟩ := by
 rw [show (⟨#[]⟩ : ByteArray) = ⟨([] : Bs).toArray⟩ from rfl, app_bs]; rfl
theorem ignoredL_any (S0 R0 : ByteArray) (hz0 : S0.size <= 140737488351232) (hz1 : R0.size <= 140737488351232) (w : World) (hG : Gl w) :
  Calls Tryz.prog 9 #[.string S0, .string R0] w fun e w' => e = .returned (.bool true) /\ Ext w w' := by
 have hsn := hid (sane_any w hG)
 replace hG := hid hG
 obtain ⟨s0, hs0⟩ : ∃ s0 : Bs, S0 = ⟨s0.toArray⟩ := ⟨S0.data.toList, by simp⟩
 obtain ⟨r0, hr0⟩ : ∃ r0 : Bs, R0 = ⟨r0.toArray⟩ := ⟨R0.data.toList, by simp⟩
 have z0 : S0.size = s0.length := by rw [hs0]; rfl
 have z1 : R0.size = r0.length := by rw [hr0]; rfl
 have x0 := cutN 3000 s0
 have x1 := cutN 40 r0
 obtain ⟨s, hs⟩ : ∃ s, s = s0.take 3000 := ⟨_, rfl⟩
 obtain ⟨rm, hrm⟩ : ∃ rm, rm = r0.take 40 := ⟨_, rfl⟩
 have hsl : s.length <= 3000 := by rw [hs, List.length_take]; omega
 have hrl : rm.length <= 40 := by rw [hrm, List.length_take]; omega
 rw [<- hs, <- hs0, <- z0] at x0
 rw [<- hrm, <- hr0, <- z1] at x1
 obtain ⟨S, hS⟩ : ∃ S : ByteArray, S = ⟨s.toArray⟩ := ⟨_, rfl⟩
 obtain ⟨R, hR⟩ : ∃ R : ByteArray, R = ⟨rm.toArray⟩ := ⟨_, rfl⟩
 rw [<- hS] at x0
 rw [<- hR] at x1
 have x0' : S0.extract 0 (min (S0.size : Int) 3000).toNat = S := x0
 have x1' : R0.extract 0 (min (R0.size : Int) 40).toNat = R := x1
 have l0 : (0 : Int) <= min (S0.size : Int) 3000 /\ min (S0.size : Int) 3000 <= (S0.size : Int) := by omega
 have l1 : (0 : Int) <= min (R0.size : Int) 40 /\ min (R0.size : Int) 40 <= (R0.size : Int) := by omega
 have hRs : R.size = rm.length := by rw [hR]; rfl
 have hRl : R.size <= 40 := by omega
 have hget : Hid (∀ (j : Nat) (h : j < R.size) (h2 : j < rm.length), R[j] = rm[j]) := hid (fun j h h2 => by subst hR; rfl)
 have hex : Hid (∀ a b : Nat, R.extract a b = ⟨((rm.take b).drop a).toArray⟩) := hid (fun a b => by rw [hR, ext_bs'])
 clear x0 x1
 replace hs0 := hid hs0
 replace hr0 := hid hr0
 replace z0 := hid z0
 replace z1 := hid z1
 replace hs := hid hs
 replace hrm := hid hrm
 replace hS := hid hS
 replace hR := hid hR
 replace hRs := hid hRs
 go_enter Tryz.func9, Tryz.ntmps9
 go_wp2_with fail
 refine hsn.out.mono ?_; rintro e w1 ⟨rfl, hx1⟩
 have hG1 := hid (hG.out.ext hx1)
 replace hx1 := hid hx1
 clear hsn hG
 go_wp2_with fail
 clear x0' x1' l0 l1
 go_loopg [6, 7] R.size (fun g lv iv wr => ∃ j : Nat, j + g = R.size /\ iv = .int .i64 j /\ lv = .string ⟨(hashL (rm.take j)).toArray⟩ /\ wr = w1)
 case atStart => exact ⟨0, by omega, rfl, rfl, rfl⟩
 case round =>
  obtain ⟨j, hj, rfl, rfl, rfl⟩ := hrel
  have hll := hash_len (rm.take j)
  rw [List.length_take] at hll
  by_cases hlt : j < R.size
  ·have hdi : (j : Int) < (R.size : Int) := by omega
   have hd : decide ((j : Int) < (R.size : Int)) = true := decide_eq_true hdi
   have hjw : IntKind.i64.wrap ((j : Int) + 1) = (j : Int) + 1 := IntWalk.i64_in _ (by omega)
   have hjr : j < rm.length := by have := hRs.out; omega
   have hgj := hget.out j hlt hjr
   have hnx := hash_succ rm hjr
   obtain ⟨LN, hLN⟩ : ∃ LN : ByteArray, LN = ⟨(hashL (rm.take j)).toArray⟩ := ⟨_, rfl⟩
   have hLs : LN.size <= 41 := by rw [hLN]; show (hashL (rm.take j)).length <= 41; omega
   rw [<- hLN]
   replace hj := hid hj
   replace hll := hid hll
   by_cases h10 : rm[j] = 10
   ·rw [if_pos h10] at hnx
    have b2 : ((R[j].toNat : Int) == 10) = true := by rw [hgj, h10]; rfl
    have b2i : R[j].toNat = 10 := by rw [hgj, h10]; rfl
    replace hgj := hid hgj
    replace h10 := hid h10
    replace hnx := hid hnx
    replace hLN := hid hLN
    go_wp2_with fail
    go_roundg (gk - 1)
    case measure => have := hj.out; omega
    case rel => exact ⟨j + 1, by have := hj.out; omega, by go_num, by rw [hnx.out, hLN.out], rfl⟩
   ·rw [if_neg h10] at hnx
    have hne : R[j].toNat ≠ 10 := fun e => h10 (by rw [<- hgj]; exact UInt8.toNat_inj.1 e)
    have b2 : ((R[j].toNat : Int) == 10) = false := by rw [beq_eq_false_iff_ne]; omega
    have hxe := hex.out j (j + 1)
    have hone : ((rm.take (j + 1)).drop j) = [rm[j]] := by rw [List.take_succ_eq_append_getElem hjr, List.drop_append_of_le_length (by rw [List.length_take]; omega)]; simp
    rw [hone] at hxe
    obtain ⟨X, hX⟩ : ∃ X : ByteArray, X = ⟨[rm[j]].toArray⟩ := ⟨_, rfl⟩
    have hXs : X.size = 1 := by rw [hX]; rfl
    rw [<- hX] at hxe
    have hj1 : (j : Int) + 1 <= (R.size : Int) := by omega
    replace hgj := hid hgj
    replace h10 := hid h10
    replace hnx := hid hnx
    replace hLN := hid hLN
    replace hX := hid hX
    replace hone := hid hone
    go_wp2_with fail
    go_roundg (gk - 1)
    case measure => have := hj.out; omega
    case rel => exact ⟨j + 1, by have := hj.out; omega, by go_num, by rw [hnx.out, hLN.out, hX.out, app_bs], rfl⟩
  ·obtain rfl : j = R.size := by omega
   have hdi : ¬ (R.size : Int) < (R.size : Int) := by omega
   have hd : decide ((R.size : Int) < (R.size : Int)) = false := decide_eq_false hdi
   have htk : rm.take R.size = rm := by rw [hRs.out, List.take_length]
   rw [htk] at hll ⊢
   rename World => wo
   obtain ⟨ln, hln⟩ : ∃ ln, ln = hashL rm := ⟨_, rfl⟩
   have hsk : skip ln = true := by rw [hln]; exact hash_skip rm
   have hnl : (10 : UInt8) ∉ ln := by rw [hln]; exact hash_nl rm
   rw [<- hln] at hll ⊢
   have hlnl : ln.length <= 41 := by omega
   obtain ⟨LN, hLN⟩ : ∃ LN : ByteArray, LN = ⟨ln.toArray⟩ := ⟨_, rfl⟩
   have hLs : LN.size <= 41 := by rw [hLN]; exact hlnl
   rw [<- hLN]
   have hlines := fun W => linesL_any s (by omega) W
   rw [<- hS.out] at hlines
   have hdjb := fun j => dj_bound (s := s) (rem := ln) hsl hlnl j
   have hxl := fun (j : Nat) (hj : j < (parts 10 s).length) => line_len hj
   have hign := fun ht => ignored hsk hnl (s := s) (by omega) ht
   have hdj : join 10 (doubled ln (parts 10 s)) = dj ln (parts 10 s) := rfl
   rw [hdj] at hign
   have hLl : (parts 10 s).length <= 3001 := by have := parts_len 10 s; omega
   obtain ⟨L, hL⟩ : ∃ L, L = parts 10 s := ⟨_, rfl⟩
   rw [<- hL] at hlines hign hLl
   have hdjb : Hid (∀ j, (dj ln (L.take j)).length <= 200000) := hid (fun j => by rw [hL]; exact hdjb j)
   have hxl : Hid (∀ (j : Nat) (hj : j < L.length), L[j].length <= 3000) := hid (fun j hj => by subst hL; exact Nat.le_trans (hxl j hj) hsl)
   replace hign := hid hign
   replace hlines := hid hlines
   replace hL := hid hL
   replace hln := hid hln
   replace hsk := hid hsk
   replace hnl := hid hnl
   replace hLN := hid hLN
   replace hj := hid hj
   clear hdj htk hll hdi hd
   go_wp2_with fail
   refine (hlines.out wo).mono ?_; rintro e w2 ⟨av, cv, rfl, hst, hx2⟩
   have hx02 := hid (hx1.out.trans hx2)
   have hG2 := hid (hG1.out.ext hx2)
   replace hst := hid hst
   clear hx2 hlines
   go_wp2_with fail
   go_loopg [9, 10] L.length (fun g tv iv wr => ∃ j : Nat, j + g = L.length /\ iv = .int .i64 j /\ tv = .string ⟨(dj ln (L.take j)).toArray⟩ /\ wr = w2)
   case atStart => exact ⟨0, by omega, rfl, rfl, rfl⟩
   case round =>
    obtain ⟨j, hj, rfl, rfl, rfl⟩ := hrel
    have htl := hdjb.out j
    by_cases hlt : j < L.length
    ·have hdi : (j : Int) < (L.length : Int) := by omega
     have hd : decide ((j : Int) < (L.length : Int)) = true := decide_eq_true hdi
     have hjw : IntKind.i64.wrap ((j : Int) + 1) = (j : Int) + 1 := IntWalk.i64_in _ (by omega)
     have hxj := hxl.out j hlt
     obtain ⟨bL, oL, cL, eL, -, hcL⟩ := RowAt.get hst.out 1 strC_len (by decide) (j := j) hlt
     injection eL with eL1 _ eL3
     subst eL1 eL3
     have hcell := hcL 0 (.string ⟨L[j].toArray⟩) (by decide) rfl
     simp only [Nat.mul_one, Nat.add_zero] at hcell
     have hnx := dj_succ ln L hlt
     obtain ⟨t, ht⟩ : ∃ t, t = L[j] := ⟨_, rfl⟩
     rw [<- ht] at hcell hnx hxj
     obtain ⟨X, hX⟩ : ∃ X : ByteArray, X = ⟨t.toArray⟩ := ⟨_, rfl⟩
     have hXs : X.size <= 3000 := by rw [hX]; exact hxj
     rw [<- hX] at hcell
     obtain ⟨TA, hTA⟩ : ∃ TA : ByteArray, TA = ⟨(dj ln (L.take j)).toArray⟩ := ⟨_, rfl⟩
     have hTs : TA.size <= 200000 := by rw [hTA]; exact htl
     rw [<- hTA]
     replace hj := hid hj
     replace ht := hid ht
     replace hX := hid hX
     replace htl := hid htl
     replace hxj := hid hxj
     clear hcL
     by_cases hj0 : j = 0
     ·rw [if_pos hj0] at hnx
      have hT0 : TA = ⟨#[]⟩ := by rw [hTA, hj0]; simp [dj, doubled, join]
      have d0 : decide (0 < j) = false := decide_eq_false (by omega)
      have d0i : ¬ 0 < j := by omega
      rw [hT0]
      replace hnx := hid hnx
      replace hTA := hid hTA
      replace hT0 := hid hT0
      replace hj0 := hid hj0
      go_wp2_with fail
      go_roundg (gk - 1)
      case measure => have := hj.out; omega
      case rel => exact ⟨j + 1, by have := hj.out; omega, by go_num, by rw [hnx.out, hLN.out, hX.out, <- app_bs, <- app_bs, empty_app], rfl⟩
     ·rw [if_neg hj0] at hnx
      have d0 : decide (0 < j) = true := decide_eq_true (by omega)
      have d0i : 0 < j := by omega
      replace hnx := hid hnx
      replace hTA := hid hTA
      replace hj0 := hid hj0
      go_wp2_with fail
      go_roundg (gk - 1)
      case measure => have := hj.out; omega
      case rel => exact ⟨j + 1, by have := hj.out; omega, by go_num, by rw [hnx.out, hTA.out, hLN.out, hX.out, <- app_bs, <- app_bs, <- app_bs, <- app_bs], rfl⟩
    ·obtain rfl : j = L.length := by omega
     have hdi : ¬ (L.length : Int) < (L.length : Int) := by omega
     have hd : decide ((L.length : Int) < (L.length : Int)) = false := decide_eq_false hdi
     rename World => wo2
     rw [List.take_length] at htl ⊢
     have hpa1 := parse_any s (by omega) wo2 hG2.out
     have hpa2 := fun W hGW => parse_any (dj ln L) (by omega) W hGW
     have htr : Hid ((dj ln L).length <= 65536 -> parse (dj ln L) = map2 (parse s)) := hign
     obtain ⟨tt, htt⟩ : ∃ tt, tt = dj ln L := ⟨_, rfl⟩
     rw [<- htt] at hpa2 htl htr ⊢
     obtain ⟨TT, hTT⟩ : ∃ TT : ByteArray, TT = ⟨tt.toArray⟩ := ⟨_, rfl⟩
     have hTs : TT.size = tt.length := by rw [hTT]; rfl
     rw [<- hTT] at hpa2 ⊢
     rw [<- hS.out] at hpa1
     replace hpa1 := hid hpa1
     replace hpa2 := hid hpa2
     replace htt := hid htt
     replace hTT := hid hTT
     replace hj := hid hj
     by_cases h64 : 65536 < tt.length
     ·have hb1 : (65536 : Int) < (TT.size : Int) := by omega
      replace hTs := hid hTs
      go_wp2_with fail
      go_ret
      exact ⟨rfl, hx02.out⟩
     ·have hb1 : ¬ (65536 : Int) < (TT.size : Int) := by omega
      have htr2 := htr.out (by omega)
      replace hTs := hid hTs
      go_wp2_with fail
      refine hpa1.out.mono ?_; rintro e w3 ⟨hx3, hE⟩
      unfold PaE at hE
      have hG3 := hG2.out.ext hx3
      have hpb := hid (hpa2.out w3 hG3)
      have hx03 := hid (hx02.out.trans hx3)
      clear hpa1 hpa2
      cases hp : parse s with
      | ok l =>
       rw [hp] at hE htr2
       simp only [map2] at hE htr2
       obtain ⟨ao3, cap3, rfl, hA3⟩ := hE
       replace hp := hid hp
       replace htr2 := hid htr2
       replace hA3 := hid hA3
       replace hx3 := hid hx3
       go_wp2_with fail
       refine hpb.out.mono ?_; rintro e w4 ⟨hx4, hE⟩
       unfold PaE at hE
       rw [htr2.out] at hE
       simp only at hE
       obtain ⟨ao4, cap4, rfl, hA4⟩ := hE
       have hx04 := hid (hx03.out.trans hx4)
       have hsm := rsameList_any _ _ l l w4 ((hA3.out.ext hx4).mono (fun k hk => by have := hx4.size; omega)) (hA4.mono (fun k hk => hk.2))
       rw [show decide (l = l) = true from decide_eq_true rfl] at hsm
       replace hsm := hid hsm
       clear hpb hA3 hA4 hx4
       go_wp2_with fail
       refine hsm.out.mono ?_; rintro e w5 ⟨rfl, hx5⟩
       have hx05 := hid (hx04.out.trans hx5)
       clear hsm hx5
       go_wp2_with fail
       go_ret
       exact ⟨rfl, hx05.out⟩
      | error n =>
       rw [hp] at hE htr2
       simp only [map2] at hE htr2
       subst hE
       have hnn := (parse_err (by omega) hp).2.1
       rw [<- hL.out] at hnn
       have hm2 : IntKind.i64.wrap (2 * (n : Int)) = ((2 * n : Nat) : Int) := by rw [IntWalk.i64_in _ (by omega)]; omega
       replace hp := hid hp
       replace htr2 := hid htr2
       replace hx3 := hid hx3
       go_wp2_with fail
       refine hpb.out.mono ?_; rintro e w4 ⟨hx4, hE⟩
       unfold PaE at hE
       rw [htr2.out] at hE
       simp only at hE
       subst hE
       have hx04 := hid (hx03.out.trans hx4)
       have hsm := rsameList_any (.slice none 0 0) (.slice none 0 0) [] [] w4 (AcsAt.nil _ _) (AcsAt.nil _ _)
       rw [show decide (([] : List Ac) = []) = true from rfl] at hsm
       replace hsm := hid hsm
       clear hpb hx4
       go_wp2_with fail
       refine hsm.out.mono ?_; rintro e w5 ⟨rfl, hx5⟩
       have hx05 := hid (hx04.out.trans hx5)
       clear hsm hx5
       go_wp2_with fail
       go_ret
       exact ⟨rfl, hx05.out⟩
end Go.Proofs.YtpaefpnkemkikaaGreatDoor
