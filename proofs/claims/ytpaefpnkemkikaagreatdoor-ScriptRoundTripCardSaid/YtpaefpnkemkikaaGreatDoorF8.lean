import Derived.Test.YtpaefpnkemkikaaGreatDoorF7
set_option maxRecDepth 100000
set_option maxHeartbeats 16000000
namespace Go.Proofs.YtpaefpnkemkikaaGreatDoor
open Go.Shelf Go.RowKit Cdk Scr
theorem roundL_any (l : List Ac) (ao : Option Addr) (cap : Nat) (w : World) (hG : Gl w) (h : AcsAt (fun k => k < w.heap.size) w (.slice ao l.length cap) l) (hbd : ∀ a ∈ l, a.tx.length < 4611686018427387904 /\ a.ms.da.length < 4611686018427387904) :
  Calls Tryz.prog 6 #[.slice ao l.length cap] w fun e w' => e = .returned (.bool true) /\ Ext w w' := by
 have hsn := hid (sane_any w hG)
 replace hG := hid hG
 obtain ⟨v, hv⟩ : ∃ v, v = Value.slice ao l.length cap := ⟨_, rfl⟩
 rw [<- hv] at h ⊢
 replace hv := hid hv
 replace h := hid h
 replace hbd := hid hbd
 go_enter Tryz.func6, Tryz.ntmps6
 go_wp2_with fail
 refine hsn.out.mono ?_; rintro e w1 ⟨rfl, hx⟩
 have hG1 := hid (hG.out.ext hx)
 have hsh := hid (shorts_any v l w1 ((h.out.ext hx).mono (fun k hk => by have := hx.size; omega)) hbd.out)
 have hx01 := hid hx
 clear hsn hx hG h
 go_wp2_with fail
 refine hsh.out.mono ?_; rintro e w2 ⟨ao2, cap2, rfl, hA, hx⟩
 have hG2 := hid (hG1.out.ext hx)
 have hx02 := hid (hx01.out.trans hx)
 have hL105 : ((l.take 105).map shA).length <= 105 := by rw [List.length_map, List.length_take]; omega
 clear hx hsh hG1 hx01
 generalize (l.take 105).map shA = L at hA hL105 ⊢
 have hprL := hid (print_any _ L w2 hG2.out hA)
 replace hA := hid hA
 go_wp2_with fail
 refine hprL.out.mono ?_; rintro e w3 ⟨hr, hx⟩
 have hG3 := hid (hG2.out.ext hx)
 have hx03 := hid (hx02.out.trans hx)
 have hA3 := hid ((hA.out.ext hx).mono (F' := fun k => k < w3.heap.size) (fun k hk => by have := hx.size; omega))
 obtain ⟨S, f, rfl, hpL⟩ := printR_parts hr
 replace hpL := hid hpL
 clear hprL hr hx hG2 hx02 hA
 obtain ⟨c0, hc0⟩ : ∃ c, c = decide (L.length <= 100) := ⟨_, rfl⟩
 have hci : decide ((L.length : Int) <= 100) = c0 := by rw [hc0, decide_eq_decide]; omega
 replace hc0 := hid hc0
 go_wp2_with fail
 go_loopg [6, 7, 8] L.length (fun g ok lg i wr => ∃ (j : Nat) (b : Bool), j + g = L.length /\ i = .int .i64 j /\ lg = .int .i64 (plS (L.take j) : Nat) /\ ok = .bool b /\ b = (decide (L.length <= 100) && (L.take j).all okA) /\ Ext w3 wr)
 case atStart => exact ⟨0, c0, by omega, rfl, rfl, rfl, by rw [hc0.out]; simp, Mod.refl _ _⟩
 case round =>
  obtain ⟨j, b, hj, rfl, rfl, rfl, hb, hx⟩ := hrel
  replace hci := hid hci
  by_cases hlt : j < L.length
  ·have hdi : (j : Int) < (L.length : Int) := by omega
   have hd : decide ((j : Int) < (L.length : Int)) = true := decide_eq_true hdi
   have hjw : IntKind.i64.wrap ((j : Int) + 1) = (j : Int) + 1 := IntWalk.i64_in _ (by omega)
   have hsz := hx.size
   have hAr := (hA3.out.ext hx).mono (F' := fun k => k < wr.heap.size) (fun k hk => by omega)
   obtain ⟨b1, o1, cap1, sv, e1, -, hAa, hc⟩ := hAr.get hlt
   injection e1 with e1 _ e3
   subst e1 e3
   obtain ⟨a, ha⟩ : ∃ a, a = L[j] := ⟨_, rfl⟩
   have hps := plS_succ L hlt
   have hpb := plS_le (L.take j)
   have hpb2 := pl_le L[j]
   rw [<- ha] at hAa hc hps hpb2
   rw [List.length_take] at hpb
   have hpb3 : plS (L.take j) <= 105 * 65536 := Nat.le_trans hpb (Nat.mul_le_mul_right _ (by omega))
   obtain ⟨a1, n1, c1, a2, n2, c2, a3, n3, c3, a4, n4, c4, a5, n5, c5, rfl⟩ := acAt_slices hAa
   obtain ⟨V, hV⟩ : ∃ V, V = acA a1 n1 c1 a2 n2 c2 a3 n3 c3 a4 n4 c4 a5 n5 c5 a := ⟨_, rfl⟩
   have rV : wr.rangeAt b1 (o1 + j * 36) V.toList := fun i u hu => by
    have hu' : (acC (⟨⟨.slice a1 n1 c1, .slice a2 n2 c2, .slice a3 n3 c3⟩, .slice a4 n4 c4, .slice a5 n5 c5⟩, a))[i]? = some u := by rw [hV] at hu; exact hu
    exact hc i u (List.getElem?_eq_some_iff.1 hu').1 hu'
   have sV : V.size = 36 := by rw [hV]; rfl
   have iV : (Tryz.prog.info? 32).map (·.size) = some V.size := by rw [sV]; kernel_rfl
   have hacs := acs_one (w := wr) (sv := ⟨⟨.slice a1 n1 c1, .slice a2 n2 c2, .slice a3 n3 c3⟩, .slice a4 n4 c4, .slice a5 n5 c5⟩) (a := a) (V := V) (by rw [hV]; rfl) hAa
   have hxa := Mod.alloc (Mod.refl (fun _ => False) wr) (.cells V 32)
   have hpr := print_any _ [a] (wr.alloc (.cells V 32)) ((hG3.out.ext hx).ext hxa) hacs
   have hA4 := hid (hAa.ext hxa)
   have hr4 := hid (rangeAt_ext rV hxa)
   have hx4 := hid (hx.trans hxa)
   have hszr : (wr.alloc (.cells V 32)).heap.size = wr.heap.size + 1 := World.size_alloc _ _
   replace hpr := hid hpr
   replace sV := hid sV
   replace iV := hid iV
   replace rV := hid rV
   replace hV := hid hV
   replace hb := hid hb
   replace ha := hid ha
   replace hps := hid hps
   replace hj := hid hj
   replace hlt := hid hlt
   replace hszr := hid hszr
   obtain ⟨P, hP⟩ : ∃ P, P = plS (L.take j) := ⟨_, rfl⟩
   rw [<- hP] at hpb3 ⊢
   replace hP := hid hP
   clear hAr hc hAa hacs hxa hpb hx
   go_upto_region 10 with (first | (refine wpList_loadR (by rfl) 32 _ rfl b1 (o1 + j * 36) V _ rfl rV.out Tryz.underlying32 rfl iV.out ?_) | (refine wpList_slice1 rfl _ _ rfl Tryz.underlying37 elA (by decide) V rfl sV.out ?_))
   refine hpr.out.mono ?_; rintro e w6 ⟨hr, hx⟩
   have hx6 := hid (hx4.out.trans hx)
   have hA6 := hid (hA4.out.ext hx)
   have hr6 := hid (rangeAt_ext hr4.out hx)
   have hs6 : wr.heap.size <= w6.heap.size := by have := hx.size; have := hszr.out; omega
   obtain ⟨S1, f1, rfl, hp⟩ := printR_parts hr
   clear hpr hr hx hx4 hA4 hr4 rV
   go_upto_region 10 with fail
   rcases hp with ⟨rfl, s1, hp1, rfl⟩ | ⟨rfl, hp1, rfl⟩
   ·have hpl1 : pl a = s1.length := by unfold pl; rw [hp1]
    have hsz1 : (⟨s1.toArray⟩ : ByteArray).size = s1.length := rfl
    have hP1 : P + s1.length = plS (L.take (j + 1)) := by rw [hps.out, hpl1, hP.out]
    obtain ⟨R, hR⟩ : ∃ R : ByteArray, R = ⟨s1.toArray⟩ := ⟨_, rfl⟩
    rw [<- hR] at hsz1 ⊢
    rw [<- hsz1] at hP1
    have hRs : R.size <= 65536 := by omega
    have hpw : IntKind.i64.wrap ((P : Int) + (R.size : Int)) = (P : Int) + (R.size : Int) := IntWalk.i64_in _ (by omega)
    have hP1 := congrArg (fun n : Nat => (n : Int)) hP1
    simp only [Int.natCast_add] at hP1
    replace hP1 := hid hP1
    replace hp1 := hid hp1
    replace hpl1 := hid hpl1
    replace hsz1 := hid hsz1
    replace hR := hid hR
    ·skip
     cases b with
     | false =>
      have hnb : Hid ((decide (L.length <= 100) && (L.take (j + 1)).all okA) = false) := hid (by rw [all_succ L hlt.out, <- Bool.and_assoc, <- hb.out]; rfl)
      go_wp2_with fail
      go_roundg (gk - 1)
      case measure => have := hj.out; omega
      case rel => exact ⟨j + 1, false, by have := hj.out; omega, by go_num, by rw [<- hP1.out], rfl, hnb.out.symm, hx6.out⟩
     | true =>
      have hvl := svalid_any a1 n1 c1 a2 n2 c2 a3 n3 c3 a4 n4 c4 a5 n5 c5 a w6 (hA6.out.mono (fun k hk => by have := hs6; omega))
      rw [<- hV.out] at hvl
      cases hva : vAc a with
      | false =>
       rw [hva] at hvl
       replace hvl := hid hvl
       have hnb : Hid ((decide (L.length <= 100) && (L.take (j + 1)).all okA) = false) := hid (by rw [all_succ L hlt.out, <- Bool.and_assoc, <- hb.out, <- ha.out]; unfold okA; rw [hva]; rfl)
       replace hva := hid hva
       go_wp2_with (refine wpList_loadR (by rfl) 32 _ rfl b1 (o1 + j * 36) V _ rfl hr6.out Tryz.underlying32 rfl iV.out ?_)
       refine hvl.out.mono ?_; rintro e w7 ⟨rfl, hx⟩
       have hx7 := hid (hx6.out.trans hx)
       clear hvl hx
       go_wp2_with fail
       go_roundg (gk - 1)
       case measure => have := hj.out; omega
       case rel => exact ⟨j + 1, false, by have := hj.out; omega, by go_num, by rw [<- hP1.out], rfl, hnb.out.symm, hx7.out⟩
      | true =>
       rw [hva] at hvl
       replace hvl := hid hvl
       have hnb : Hid ((decide (L.length <= 100) && (L.take (j + 1)).all okA) = true) := hid (by rw [all_succ L hlt.out, <- Bool.and_assoc, <- hb.out, <- ha.out]; unfold okA; rw [hva, hp1.out]; rfl)
       replace hva := hid hva
       go_wp2_with (refine wpList_loadR (by rfl) 32 _ rfl b1 (o1 + j * 36) V _ rfl hr6.out Tryz.underlying32 rfl iV.out ?_)
       refine hvl.out.mono ?_; rintro e w7 ⟨rfl, hx⟩
       have hx7 := hid (hx6.out.trans hx)
       clear hvl hx
       go_wp2_with fail
       go_roundg (gk - 1)
       case measure => have := hj.out; omega
       case rel => exact ⟨j + 1, true, by have := hj.out; omega, by go_num, by rw [<- hP1.out], rfl, hnb.out.symm, hx7.out⟩
   ·have hpl1 : pl a = 0 := by unfold pl; rw [hp1]
    have hP1 : P = plS (L.take (j + 1)) := by rw [hps.out, hpl1, hP.out]; rfl
    have hpw : IntKind.i64.wrap (P : Int) = (P : Int) := IntWalk.i64_in _ (by omega)
    have hP1 := congrArg (fun n : Nat => (n : Int)) hP1
    replace hP1 := hid hP1
    replace hp1 := hid hp1
    replace hpl1 := hid hpl1
    ·skip
     cases b with
     | false =>
      have hnb : Hid ((decide (L.length <= 100) && (L.take (j + 1)).all okA) = false) := hid (by rw [all_succ L hlt.out, <- Bool.and_assoc, <- hb.out]; rfl)
      go_wp2_with fail
      go_roundg (gk - 1)
      case measure => have := hj.out; omega
      case rel => exact ⟨j + 1, false, by have := hj.out; omega, by go_num, by rw [<- hP1.out], rfl, hnb.out.symm, hx6.out⟩
     | true =>
      have hvl := svalid_any a1 n1 c1 a2 n2 c2 a3 n3 c3 a4 n4 c4 a5 n5 c5 a w6 (hA6.out.mono (fun k hk => by have := hs6; omega))
      rw [<- hV.out] at hvl
      cases hva : vAc a with
      | false =>
       rw [hva] at hvl
       replace hvl := hid hvl
       have hnb : Hid ((decide (L.length <= 100) && (L.take (j + 1)).all okA) = false) := hid (by rw [all_succ L hlt.out, <- Bool.and_assoc, <- hb.out, <- ha.out]; unfold okA; rw [hva]; rfl)
       replace hva := hid hva
       go_wp2_with (refine wpList_loadR (by rfl) 32 _ rfl b1 (o1 + j * 36) V _ rfl hr6.out Tryz.underlying32 rfl iV.out ?_)
       refine hvl.out.mono ?_; rintro e w7 ⟨rfl, hx⟩
       have hx7 := hid (hx6.out.trans hx)
       clear hvl hx
       go_wp2_with fail
       go_roundg (gk - 1)
       case measure => have := hj.out; omega
       case rel => exact ⟨j + 1, false, by have := hj.out; omega, by go_num, by rw [<- hP1.out], rfl, hnb.out.symm, hx7.out⟩
      | true =>
       rw [hva] at hvl
       replace hvl := hid hvl
       have hnb : Hid ((decide (L.length <= 100) && (L.take (j + 1)).all okA) = false) := hid (by rw [all_succ L hlt.out, <- Bool.and_assoc, <- hb.out, <- ha.out]; unfold okA; rw [hva, hp1.out]; rfl)
       replace hva := hid hva
       go_wp2_with (refine wpList_loadR (by rfl) 32 _ rfl b1 (o1 + j * 36) V _ rfl hr6.out Tryz.underlying32 rfl iV.out ?_)
       refine hvl.out.mono ?_; rintro e w7 ⟨rfl, hx⟩
       have hx7 := hid (hx6.out.trans hx)
       clear hvl hx
       go_wp2_with fail
       go_roundg (gk - 1)
       case measure => have := hj.out; omega
       case rel => exact ⟨j + 1, false, by have := hj.out; omega, by go_num, by rw [<- hP1.out], rfl, hnb.out.symm, hx7.out⟩
  ·obtain rfl : j = L.length := by omega
   have hdi : ¬ (L.length : Int) < (L.length : Int) := by omega
   have hd : decide ((L.length : Int) < (L.length : Int)) = false := decide_eq_false hdi
   have hrt := rt_ok L
   unfold rtOk at hrt
   rw [<- Bool.and_assoc] at hrt
   rw [List.take_length] at hb
   rw [<- hb] at hrt
   rw [List.take_length]
   obtain ⟨P, hP⟩ : ∃ P, P = plS L := ⟨_, rfl⟩
   rw [<- hP] at hrt ⊢
   have hxr := hid (hx03.out.trans hx)
   have hGr := hid (hG3.out.ext hx)
   have hAr := hid ((hA3.out.ext hx).mono (F' := fun k => k < wr.heap.size) (fun k hk => by have := hx.size; omega))
   replace hb := hid hb
   replace hP := hid hP
   replace hj := hid hj
   rcases hpL.out with ⟨rfl, s, hps, rfl⟩ | ⟨rfl, hpn, rfl⟩
   ·rename World => wo
    rw [hps] at hrt
    simp only [Option.isSome_some, Bool.true_eq, Bool.and_eq_true, decide_eq_true_eq] at hrt
    obtain ⟨rfl, hP6⟩ := hrt
    have hPi : (P : Int) <= 65536 := by omega
    have hPd : decide ((P : Int) <= 65536) = true := decide_eq_true hPi
    have hpa := parse_any s (by have := (print_some hps).2.2.1; omega) wo hGr.out
    unfold PaP at hpa
    rw [parse_print hps] at hpa
    unfold PaE at hpa
    simp only at hpa
    replace hpa := hid hpa
    obtain ⟨R, hR⟩ : ∃ R : ByteArray, R = ⟨s.toArray⟩ := ⟨_, rfl⟩
    rw [<- hR] at hpa ⊢
    replace hR := hid hR
    replace hps := hid hps
    clear hpL hx
    go_wp2_with fail
    refine hpa.out.mono ?_; rintro e w5 ⟨hx, ao5, cap5, rfl, hA5⟩
    have hx05 := hid (hxr.out.trans hx)
    have hB := hid (hA5.mono (F' := fun k => k < w5.heap.size) (fun k hk => hk.2))
    have hA := hid ((hAr.out.ext hx).mono (F' := fun k => k < w5.heap.size) (fun k hk => by have := hx.size; omega))
    clear hpa hA5 hAr hx hGr hxr
    clear hdi hd
    go_wp2_with fail
    go_loopg [14] L.length (fun g i wr => ∃ j : Nat, j + g = L.length /\ i = .int .i64 j /\ Ext w5 wr)
    case atStart => exact ⟨0, by omega, rfl, Mod.refl _ _⟩
    case round =>
     obtain ⟨j, hj, rfl, hx⟩ := hrel
     by_cases hlt : j < L.length
     ·have hdi : (j : Int) < (L.length : Int) := by omega
      have hd : decide ((j : Int) < (L.length : Int)) = true := decide_eq_true hdi
      have hjw : IntKind.i64.wrap ((j : Int) + 1) = (j : Int) + 1 := IntWalk.i64_in _ (by omega)
      have hsz := hx.size
      obtain ⟨b1, o1, cap1, sv, e1, -, hAa, hc⟩ := hA.out.get hlt
      injection e1 with e1 _ e3
      subst e1 e3
      obtain ⟨b2, o2, cap2, tv, e1, -, hBa, hd2⟩ := hB.out.get hlt
      injection e1 with e1 _ e3
      subst e1 e3
      obtain ⟨a, ha⟩ : ∃ a, a = L[j] := ⟨_, rfl⟩
      rw [<- ha] at hAa hc hBa hd2
      obtain ⟨xa1, xn1, xc1, xa2, xn2, xc2, xa3, xn3, xc3, xa4, xn4, xc4, xa5, xn5, xc5, rfl⟩ := acAt_slices hAa
      obtain ⟨ya1, yn1, yc1, ya2, yn2, yc2, ya3, yn3, yc3, ya4, yn4, yc4, ya5, yn5, yc5, rfl⟩ := acAt_slices hBa
      obtain ⟨V, hV⟩ : ∃ V, V = acA xa1 xn1 xc1 xa2 xn2 xc2 xa3 xn3 xc3 xa4 xn4 xc4 xa5 xn5 xc5 a := ⟨_, rfl⟩
      have rV : w5.rangeAt b1 (o1 + j * 36) V.toList := fun i u hu => by
       have hu' : (acC (⟨⟨.slice xa1 xn1 xc1, .slice xa2 xn2 xc2, .slice xa3 xn3 xc3⟩, .slice xa4 xn4 xc4, .slice xa5 xn5 xc5⟩, a))[i]? = some u := by rw [hV] at hu; exact hu
       exact hc i u (List.getElem?_eq_some_iff.1 hu').1 hu'
      have sV : V.size = 36 := by rw [hV]; rfl
      have iV : (Tryz.prog.info? 32).map (·.size) = some V.size := by rw [sV]; kernel_rfl
      obtain ⟨U, hU⟩ : ∃ V, V = acA ya1 yn1 yc1 ya2 yn2 yc2 ya3 yn3 yc3 ya4 yn4 yc4 ya5 yn5 yc5 a := ⟨_, rfl⟩
      have rU : w5.rangeAt b2 (o2 + j * 36) U.toList := fun i u hu => by
       have hu' : (acC (⟨⟨.slice ya1 yn1 yc1, .slice ya2 yn2 yc2, .slice ya3 yn3 yc3⟩, .slice ya4 yn4 yc4, .slice ya5 yn5 yc5⟩, a))[i]? = some u := by rw [hU] at hu; exact hu
       exact hd2 i u (List.getElem?_eq_some_iff.1 hu').1 hu'
      have sU : U.size = 36 := by rw [hU]; rfl
      have iU : (Tryz.prog.info? 32).map (·.size) = some U.size := by rw [sU]; kernel_rfl
      have hsm := fun W (hW : Ext wr W) => actSame_any xa1 xn1 xc1 xa2 xn2 xc2 xa3 xn3 xc3 xa4 xn4 xc4 xa5 xn5 xc5 a ya1 yn1 yc1 ya2 yn2 yc2 ya3 yn3 yc3 ya4 yn4 yc4 ya5 yn5 yc5 a W ((hAa.ext hx).ext hW) ((hBa.ext hx).ext hW)
      simp only [<- hV, <- hU, decide_true] at hsm
      have rVx := hid (rangeAt_ext rV hx)
      have rUx := hid (rangeAt_ext rU hx)
      replace hsm := hid hsm
      replace sV := hid sV
      replace iV := hid iV
      replace sU := hid sU
      replace iU := hid iU
      replace hV := hid hV
      replace hU := hid hU
      replace ha := hid ha
      replace hj := hid hj
      replace hx := hid hx
      clear rV rU hc hd2 hAa hBa
      go_upto_region 23 with fail
      try simp only [List.append_eq, List.cons_append, List.nil_append]
      refine wp_region_sched (fun W => Ext wr W) [(0, true), (1, true), (2, true), (3, true), (4, true), (5, true), (6, true), (7, true), (8, false), (9, true)]
       (by as_aux_lemma => kernel_rfl) (by as_aux_lemma => kernel_rfl) (by as_aux_lemma => kernel_rfl) (by decide) (Mod.drew0 (fun _ => False) wr) ?_
      simp only [schedOps, List.map_cons, List.map_nil, List.getD_cons_zero, List.getD_cons_succ]
      have hy0 := hid (Mod.drew0 (fun _ => False) wr)
      iterate 3 (refine qT ?_)
      refine wpS_loadR (by rfl) 32 _ rfl b1 (o1 + j * 36) rfl V _ (fun W hW => rangeAt_ext rVx.out hW) Tryz.underlying32 rfl (by have := iV.out; simpa using this) ?_
      try simp only [Act.put, sA, sZ, sS]
      iterate 3 (refine qT ?_)
      refine wpS_loadR (by rfl) 32 _ rfl b2 (o2 + j * 36) rfl U _ (fun W hW => rangeAt_ext rUx.out hW) Tryz.underlying32 rfl (by have := iU.out; simpa using this) ?_
      try simp only [Act.put, sA, sZ, sS]
      refine wpS_c (by rfl) (fun K hK => ?_)
      go_simp
      refine (hsm.out _ hy0.out).mono ?_; rintro e w9 ⟨rfl, hxn⟩
      refine hK.out _ _ (hy0.out.trans hxn) ?_
      have hy1 := hid (hx.out.trans (hy0.out.trans hxn))
      clear hK K hxn
      try simp only [Act.put, sA, sZ, sS]
      iterate 1 (refine qT ?_)
      refine wpS_nil ?_
      go_wp2_with fail
      go_roundg (gk - 1)
      case measure => have := hj.out; omega
      case rel => exact ⟨j + 1, by have := hj.out; omega, by go_num, hy1.out⟩
     ·obtain rfl : j = L.length := by omega
      have hdi : ¬ (L.length : Int) < (L.length : Int) := by omega
      have hd : decide ((L.length : Int) < (L.length : Int)) = false := decide_eq_false hdi
      replace hx := hid hx
      go_wp2_with fail
      go_ret
      exact ⟨rfl, hx05.out.trans hx.out⟩
   ·rw [hpn] at hrt
    simp only [Option.isSome_none] at hrt
    have hx0r := hxr
    clear hpL hx
    cases b with
    | false =>
     clear hrt
     go_wp2_with fail
     go_ret
     exact ⟨rfl, hx0r.out⟩
    | true =>
     have hP6 : ¬ P <= 65536 := fun h => by rw [decide_eq_true h] at hrt; cases hrt
     have hPi : ¬ (P : Int) <= 65536 := by omega
     have hPd : decide ((P : Int) <= 65536) = false := decide_eq_false hPi
     clear hrt
     go_wp2_with fail
     go_ret
     exact ⟨rfl, hx0r.out⟩
end Go.Proofs.YtpaefpnkemkikaaGreatDoor
