import Derived.Test.YtpgniljgaknlpaaGreatDoorK11
/-
  The parser's 'condition'.
-/
namespace Go.Proofs.YtpgniljgaknlpaaGreatDoor
open Go.RowKit Cdk Tpl

set_option maxRecDepth 100000 in
set_option maxHeartbeats 8000000 in
theorem condition_any (fuel : Nat) (ih : ListC fuel) {B : Nat} {ao : Option Addr} {cap : Nat} {T : List Tk} {sz k : Nat} (depth : Nat) (w : World) (h : Rd B ao cap T sz k w) (hT : NumOk T) (hd : depth ≤ 8) (hf : 2 * (T.length - k) ≤ fuel) :
    Calls Tryz.prog 38 #[.pointer (some ⟨B, 0, none⟩), .int .i64 depth] w
      (ResP B ao cap T sz k w (condS sz (fuel + 1) depth (T.drop k)) fun nd v w' => ∃ c : NC, v = ncV c ∧ NodeAt (Since w w') w' c nd) := by
  obtain ⟨post, hpost⟩ : ∃ post, post = ResP B ao cap T sz k w (condS sz (fuel + 1) depth (T.drop k)) (fun nd v w' => ∃ c : NC, v = ncV c ∧ NodeAt (Since w w') w' c nd) := ⟨_, rfl⟩
  rw [← hpost]
  replace hpost := hid hpost
  have hBw := lt_of_at h.cell
  have hsm := h.small
  replace h := hid h
  replace hT := hid hT
  replace ih := hid ih
  have hfl := fld_text
  go_enter Tryz.func38, Tryz.ntmps38
  go_wp2_with fail
  have hx1 := Mod.alloc (Mod.refl (fun _ => False) w) (.cells #[.int .i64 0, .string ⟨#[]⟩, .string ⟨#[]⟩, .string ⟨#[]⟩, .int .i64 0, .slice none 0 0, .slice none 0 0, .slice none 0 0] 36)
  have hR0 := heap_alloc_new w (.cells #[.int .i64 0, .string ⟨#[]⟩, .string ⟨#[]⟩, .string ⟨#[]⟩, .int .i64 0, .slice none 0 0, .slice none 0 0, .slice none 0 0] 36)
  have hs1 : (w.alloc (.cells #[.int .i64 0, .string ⟨#[]⟩, .string ⟨#[]⟩, .string ⟨#[]⟩, .int .i64 0, .slice none 0 0, .slice none 0 0, .slice none 0 0] 36)).heap.size = w.heap.size + 1 := World.size_alloc _ _
  generalize (w.alloc (.cells #[.int .i64 0, .string ⟨#[]⟩, .string ⟨#[]⟩, .string ⟨#[]⟩, .int .i64 0, .slice none 0 0, .slice none 0 0, .slice none 0 0] 36)) = w1 at hx1 hR0 hs1 ⊢
  obtain ⟨R, hR⟩ : ∃ R, R = w.heap.size := ⟨_, rfl⟩
  rw [← hR] at hR0 hs1 hBw ⊢
  replace hR := hid hR
  refine (need_any 2 _ (h.out.ext hx1)).mono ?_
  rintro e w2 (⟨hk, hkd, rfl, hrd2, hm2⟩ | ⟨a, ha, rfl, hx2⟩)
  · replace hkd := hid hkd
    have hBR : ¬ B = R := by omega
    have hR02 := hm2.at hR0 hBR
    have hmw2 := hx1.mono (T := Eq B) (fun _ h => h.elim) |>.trans hm2
    clear hx1 hm2 hR0
    unfold tokV
    go_wp2_with fail
    have hxa := Mod.alloc (Mod.refl (fun _ => False) w2) (.cells #[.int .i64 4, .string ⟨#[]⟩, .string ⟨T[k].text.toArray⟩, .string ⟨#[]⟩, .int .i64 0, .slice none 0 0, .slice none 0 0, .slice none 0 0] 36)
    have hQa := heap_alloc_new w2 (.cells #[.int .i64 4, .string ⟨#[]⟩, .string ⟨T[k].text.toArray⟩, .string ⟨#[]⟩, .int .i64 0, .slice none 0 0, .slice none 0 0, .slice none 0 0] 36)
    have hRQ : R < w2.heap.size := lt_of_at hR02
    generalize hQ : w2.heap.size = Q at hQa hRQ ⊢
    generalize (w2.alloc (.cells #[.int .i64 4, .string ⟨#[]⟩, .string ⟨T[k].text.toArray⟩, .string ⟨#[]⟩, .int .i64 0, .slice none 0 0, .slice none 0 0, .slice none 0 0] 36)) = wd at hxa hQa ⊢
    have hBQ : ¬ B = Q := by omega
    have hQR : ¬ Q = R := by omega
    have hRQ' : ¬ R = Q := by omega
    have hRd := hxa.at hR02 (fun h => h)
    have hQd := hQa
    have hrdd := hrd2.ext hxa
    have hmd := hid (hmw2.then hxa (fun _ _ h => h.elim))
    replace hQ := hid hQ
    clear hxa hrd2 hmw2 hR02 hQa
    refine (need_any 7 _ hrdd).mono ?_
    rintro e we (⟨hk7, hkd7, rfl, hrde, hme⟩ | ⟨a, ha, rfl, hxe⟩)
    · have hsp7 := need_hit (sz := sz) hk7 hkd7
      replace hkd7 := hid hkd7
      have hRe := hme.at hRd hBR
      have hQe := hme.at hQd hBQ
      have hmwe := hid (hmd.out.trans hme)
      replace hQd := hid hQd
      replace hRd := hid hRd
      replace hrdd := hid hrdd
      replace hsp7 := hid hsp7
      clear hme
      go_wp2_with fail
      have hxf := Mod.alloc (Mod.refl (fun _ => False) we) (.cells #[.string ⟨#[101, 108, 115, 101]⟩, .string ⟨#[101, 110, 100]⟩] 9)
      have hF : RowIs (we.alloc (.cells #[.string ⟨#[101, 108, 115, 101]⟩, .string ⟨#[101, 110, 100]⟩] 9)) (some ⟨we.heap.size, 0, none⟩) ([wElse, wEnd].flatMap strC) := RowIs.new we [strV wElse, strV wEnd] 9
      have hFT : Thaw (we.alloc (.cells #[.string ⟨#[101, 108, 115, 101]⟩, .string ⟨#[101, 110, 100]⟩] 9)) we.heap.size := ⟨_, _, heap_alloc_new we _⟩
      have hsf : (we.alloc (.cells #[.string ⟨#[101, 108, 115, 101]⟩, .string ⟨#[101, 110, 100]⟩] 9)).heap.size = we.heap.size + 1 := World.size_alloc _ _
      have hBe := lt_of_at hrde.cell
      have hRee := lt_of_at hRe
      have hQee := lt_of_at hQe
      generalize hE : we.heap.size = E at hF hFT hsf hBe hRee hQee ⊢
      generalize (we.alloc (.cells #[.string ⟨#[101, 108, 115, 101]⟩, .string ⟨#[101, 110, 100]⟩] 9)) = wf at hxf hF hFT hsf ⊢
      replace hE := hid hE
      replace hsf := hid hsf
      refine (ih.out B ao cap T sz (k + 1 + 1) depth (.slice (some ⟨E, 0, none⟩) 2 2) [wElse, wEnd] wf (hrde.ext hxf) hT.out hd ⟨some ⟨E, 0, none⟩, 2, rfl, hF, fun b off e => ?_, .some hFT _ _⟩ (by decide) (by omega)).mono ?_
      · injection e with e; injection e with e _ _; omega
      rintro e wg (⟨l, wd', k', v, hl, hkk, rfl, hnv, hrdg, hmg⟩ | ⟨a, ha, rfl, hmg⟩)
      · have hRg := hmg.at (hxf.at hRe (fun h => h)) hBR
        have hQg := hmg.at (hxf.at hQe (fun h => h)) hBQ
        obtain ⟨aov, nv, capv, hv⟩ := hnv.slice
        subst hv
        obtain ⟨a0, a1, a2, a3, a4, a5, a6, a7⟩ := cells8 hQg
        obtain ⟨b0, b1, b2, b3, b4, b5, b6, b7⟩ := cells8 hRg
        have z0 := free_of' hQg
        have z1 := free_of' hRg
        have hmwg := hid ((hmwe.out.then hxf (fun _ _ h => h.elim)).trans hmg)
        have hRf := lt_of_at (hxf.at hRe (fun h => h))
        have hQf := lt_of_at (hxf.at hQe (fun h => h))
        have hws := (hmwe.out.then hxf (fun _ _ h => h.elim)).size
        have hBg := lt_of_at hrdg.cell
        have hgs := hmg.size
        replace hl := hid hl
        replace hRe := hid hRe
        replace hQe := hid hQe
        replace hrde := hid hrde
        replace hrdg := hid hrdg
        replace hmg := hid hmg
        replace hRg := hid hRg
        replace hQg := hid hQg
        replace hnv := hid hnv
        have hbeq : (wd' == [101, 108, 115, 101]) = decide (wd' = wElse) := by rw [Bool.eq_iff_iff, decide_eq_true_eq, beq_iff_eq]; rfl
        cases hw : decide (wd' = wElse) with
        | true =>
          rw [hw] at hbeq
          rw [decide_eq_true_eq] at hw
          replace hw := hid hw
          go_wp2_with fail
          clear a0 a1 a2 a3 a4 a5 a6 a7 b0 b1 b2 b3 b4 b5 b6 b7 z0 z1
          have hQh := put_at hQg.out 6 (.slice aov nv capv)
          have hmh := (Mod.refl (Eq Q) wg).setCell (a := ⟨Q, 6, none⟩) (fun _ => rfl) (.slice aov nv capv)
          have hRh := (put_ne wg (b := Q) (k := R) 6 (.slice aov nv capv) (by omega)).trans hRg.out
          simp only [List.setIfInBounds_toArray, List.set_cons_zero, List.set_cons_succ] at hQh
          have hxi := Mod.alloc (Mod.refl (fun _ => False) (wg.setCell ⟨Q, 6, none⟩ (.slice aov nv capv))) (.cells #[.string ⟨#[101, 110, 100]⟩] 9)
          have hI : RowIs ((wg.setCell ⟨Q, 6, none⟩ (.slice aov nv capv)).alloc (.cells #[.string ⟨#[101, 110, 100]⟩] 9)) (some ⟨(wg.setCell ⟨Q, 6, none⟩ (.slice aov nv capv)).heap.size, 0, none⟩) ([wEnd].flatMap strC) := RowIs.new _ [strV wEnd] 9
          have hIT : Thaw ((wg.setCell ⟨Q, 6, none⟩ (.slice aov nv capv)).alloc (.cells #[.string ⟨#[101, 110, 100]⟩] 9)) wg.heap.size := by
            have h9 := heap_alloc_new (wg.setCell ⟨Q, 6, none⟩ (.slice aov nv capv)) (.cells #[.string ⟨#[101, 110, 100]⟩] 9)
            have e9 : (wg.setCell ⟨Q, 6, none⟩ (.slice aov nv capv)).heap.size = wg.heap.size := by simp [World.setCell]
            rw [e9] at h9
            exact ⟨_, _, h9⟩
          have hhs : (wg.setCell ⟨Q, 6, none⟩ (.slice aov nv capv)).heap.size = wg.heap.size := by simp [World.setCell]
          have hsi : ((wg.setCell ⟨Q, 6, none⟩ (.slice aov nv capv)).alloc (.cells #[.string ⟨#[101, 110, 100]⟩] 9)).heap.size = (wg.setCell ⟨Q, 6, none⟩ (.slice aov nv capv)).heap.size + 1 := World.size_alloc _ _
          rw [hhs] at hI hsi
          have hRi := hxi.at hRh (fun h => h)
          have hQi := hxi.at hQh (fun h => h)
          have hmi : Mod (Eq Q) wg ((wg.setCell ⟨Q, 6, none⟩ (.slice aov nv capv)).alloc (.cells #[.string ⟨#[101, 110, 100]⟩] 9)) := hmh.then hxi (fun _ _ h => h.elim)
          clear hmh hxi hQh hRh hhs
          first | generalize ((wg.setCell ⟨Q, 6, none⟩ (.slice aov nv capv)).alloc (.cells #[.string ⟨#[101, 110, 100]⟩] 9)) = wi at hI hIT hsi hRi hQi hmi ⊢ | (trace_state; exact test_gen)
          generalize hI' : wg.heap.size = I at hI hIT hsi hBg hgs ⊢
          replace hI' := hid hI'
          replace hsi := hid hsi
          have hRR := hR.out
          have hrdi := hrdg.out.mod hmi (by omega) (fun b off e e' => rd_old h.out (by omega) b off e (by omega))
          refine (ih.out B ao cap T sz k' depth (.slice (some ⟨I, 0, none⟩) 1 1) [wEnd] wi hrdi hT.out hd ⟨some ⟨I, 0, none⟩, 1, rfl, hI, fun b off e => ?_, .some hIT _ _⟩ (by decide) (by omega)).mono ?_
          · injection e with e; injection e with e _ _; omega
          rintro e wj (⟨l2, wd2, k2, v2, hl2, hkk2, rfl, hnv2, hrdj, hmj⟩ | ⟨a, ha, rfl, hmj⟩)
          · have hRj := hmj.at hRi hBR
            have hQj := hmj.at hQi hBQ
            obtain ⟨aou, nu, capu, hv⟩ := hnv2.slice
            subst hv
            obtain ⟨a0, a1, a2, a3, a4, a5, a6, a7⟩ := cells8 hQj
            obtain ⟨b0, b1, b2, b3, b4, b5, b6, b7⟩ := cells8 hRj
            have z0 := free_of' hQj
            have z1 := free_of' hRj
            have hQiw := lt_of_at hQi
            have hRiw := lt_of_at hRi
            replace hRi := hid hRi
            replace hQi := hid hQi
            replace hrdi := hid hrdi
            replace hrdj := hid hrdj
            replace hmj := hid hmj
            replace hmi := hid hmi
            replace hRj := hid hRj
            replace hQj := hid hQj
            replace hnv2 := hid hnv2
            replace hl2 := hid hl2
            replace hRR := hid hRR
            go_wp2_with fail
            change bodyPost _ _ _ _ _ (put8 (wj.setCell ⟨Q, 7, none⟩ (.slice aou nu capu)) R (.int .i64 4) (.string ⟨#[]⟩) (.string ⟨T[k].text.toArray⟩) (.string ⟨#[]⟩) (.int .i64 0) (.slice none 0 0) (.slice aov nv capv) (.slice aou nu capu))
            have hQh := put_at hQj.out 7 (.slice aou nu capu)
            have hmh := (Mod.refl (Eq Q) wj).setCell (a := ⟨Q, 7, none⟩) (fun _ => rfl) (.slice aou nu capu)
            have hRh := (put_ne wj (b := Q) (k := R) 7 (.slice aou nu capu) (by omega)).trans hRj.out
            generalize (wj.setCell ⟨Q, 7, none⟩ (.slice aou nu capu)) = wh at hQh hmh hRh ⊢
            have hRz := put8_at (x0 := .int .i64 4) (x1 := .string ⟨#[]⟩) (x2 := .string ⟨T[k].text.toArray⟩) (x3 := .string ⟨#[]⟩) (x4 := .int .i64 0) (x5 := .slice none 0 0) (x6 := .slice aov nv capv) (x7 := .slice aou nu capu) hRh
            have hmz := put8_mod wh R (.int .i64 4) (.string ⟨#[]⟩) (.string ⟨T[k].text.toArray⟩) (.string ⟨#[]⟩) (.int .i64 0) (.slice none 0 0) (.slice aov nv capv) (.slice aou nu capu)
            generalize (put8 wh R (.int .i64 4) (.string ⟨#[]⟩) (.string ⟨T[k].text.toArray⟩) (.string ⟨#[]⟩) (.int .i64 0) (.slice none 0 0) (.slice aov nv capv) (.slice aou nu capu)) = wz at hRz hmz ⊢
            refine bodyPost_ret (results_cell_row rfl _ _ R _ _ _ _ rfl hRz Tryz.underlying36 rfl node_size) rfl ?_
            rw [hpost.out]
            have hRR := hR.out
            have hII := hI'.out
            have hss := hsi.out
            have hzz : Mod (fun j => j = Q ∨ j = R) wj wz := (hmh.mono (fun _ h => .inl h.symm)).then hmz (fun _ _ h => .inr h.symm)
            have hgi : Mod (fun j => j = B ∨ j = Q) wg wj := (hmi.out.mono (fun _ h => .inr h.symm)).then hmj.out (fun _ _ h => .inl h.symm)
            have hrdz := hrdj.out.mod hzz (by omega) (fun b off e e' => rd_old h.out (by omega) b off e (by omega))
            have hn1 := ((hnv.out.mod hgi (fun j hj e => by have := hj.1; omega)).mod hzz (fun j hj e => by have := hj.1; omega)).mono (F' := Since w wz) (fun j hj => ⟨by have := hj.1; omega, by have := hj.2; have := hzz.size; have := hgi.size; omega⟩)
            have hn2 := (hnv2.out.mod hzz (fun j hj e => by have := hj.1; omega)).mono (F' := Since w wz) (fun j hj => ⟨by have := hj.1; have := hmi.out.size; omega, by have := hj.2; have := hzz.size; omega⟩)
            refine .inl ⟨_, k2, _, ?_, by omega, rfl, ⟨⟨4, [], T[k].text, [], 0, .slice none 0 0, .slice aov nv capv, .slice aou nu capu⟩, rfl, .mk ⟨4, [], T[k].text, [], 0, .slice none 0 0, .slice aov nv capv, .slice aou nu capu⟩ [] l l2 (StrsAt.nil _ _) hn1 hn2⟩, hrdz, (hmwg.out.then hgi (fun j hj e => by omega)).then hzz (fun j hj e => by omega)⟩
            simp only [condS, need_hit (sz := sz) hk hkd.out, hsp7.out, hl.out, if_pos hw.out, hl2.out, bind, Except.bind]
          · go_wp2_with fail
            refine ⟨rfl, ?_⟩
            rw [hpost.out]
            refine .inr ⟨a, ?_, rfl, (hmwg.out.then hmi (fun j hj e => by omega)).trans hmj⟩
            simp only [condS, need_hit (sz := sz) hk hkd.out, hsp7.out, hl.out, if_pos hw.out, ha, bind, Except.bind]
        | false =>
          rw [hw] at hbeq
          rw [decide_eq_false_iff_not] at hw
          replace hw := hid hw
          go_wp2_with fail
          change bodyPost _ _ _ _ _ (put8 (wg.setCell ⟨Q, 6, none⟩ (.slice aov nv capv)) R (.int .i64 4) (.string ⟨#[]⟩) (.string ⟨T[k].text.toArray⟩) (.string ⟨#[]⟩) (.int .i64 0) (.slice none 0 0) (.slice aov nv capv) (.slice none 0 0))
          have hQh := put_at hQg.out 6 (.slice aov nv capv)
          have hmh := (Mod.refl (Eq Q) wg).setCell (a := ⟨Q, 6, none⟩) (fun _ => rfl) (.slice aov nv capv)
          have hRh := (put_ne wg (b := Q) (k := R) 6 (.slice aov nv capv) (by omega)).trans hRg.out
          generalize (wg.setCell ⟨Q, 6, none⟩ (.slice aov nv capv)) = wh at hQh hmh hRh ⊢
          have hRz := put8_at (x0 := .int .i64 4) (x1 := .string ⟨#[]⟩) (x2 := .string ⟨T[k].text.toArray⟩) (x3 := .string ⟨#[]⟩) (x4 := .int .i64 0) (x5 := .slice none 0 0) (x6 := .slice aov nv capv) (x7 := .slice none 0 0) hRh
          have hmz := put8_mod wh R (.int .i64 4) (.string ⟨#[]⟩) (.string ⟨T[k].text.toArray⟩) (.string ⟨#[]⟩) (.int .i64 0) (.slice none 0 0) (.slice aov nv capv) (.slice none 0 0)
          generalize (put8 wh R (.int .i64 4) (.string ⟨#[]⟩) (.string ⟨T[k].text.toArray⟩) (.string ⟨#[]⟩) (.int .i64 0) (.slice none 0 0) (.slice aov nv capv) (.slice none 0 0)) = wz at hRz hmz ⊢
          refine bodyPost_ret (results_cell_row rfl _ _ R _ _ _ _ rfl hRz Tryz.underlying36 rfl node_size) rfl ?_
          rw [hpost.out]
          have hRR := hR.out
          have hzz : Mod (fun j => j = Q ∨ j = R) wg wz := (hmh.mono (fun _ h => .inl h.symm)).then hmz (fun _ _ h => .inr h.symm)
          have hrdz := hrdg.out.mod hzz (by omega) (fun b off e e' => rd_old h.out (by omega) b off e (by omega))
          have hnz := (hnv.out.mod hzz (fun j hj e => by have := hj.1; omega)).mono (F' := Since w wz) (fun j hj => ⟨by have := hj.1; omega, by have := hj.2; have := hzz.size; omega⟩)
          refine .inl ⟨_, k', _, ?_, by omega, rfl, ⟨⟨4, [], T[k].text, [], 0, .slice none 0 0, .slice aov nv capv, .slice none 0 0⟩, rfl, .mk ⟨4, [], T[k].text, [], 0, .slice none 0 0, .slice aov nv capv, .slice none 0 0⟩ [] l [] (StrsAt.nil _ _) hnz (NodesAt.nil _ _)⟩, hrdz, hmwg.out.then hzz (fun j hj e => by omega)⟩
          simp only [condS, need_hit (sz := sz) hk hkd.out, hsp7.out, hl.out, if_neg hw.out, bind, Except.bind]
      · go_wp2_with fail
        refine ⟨rfl, ?_⟩
        rw [hpost.out]
        refine .inr ⟨a, ?_, rfl, ((hmwe.out.then hxf (fun _ _ h => h.elim)).trans hmg)⟩
        simp only [condS, need_hit (sz := sz) hk hkd.out, hsp7.out, ha, bind, Except.bind]
    · go_wp2_with fail
      refine ⟨rfl, ?_⟩
      rw [hpost.out]
      refine .inr ⟨a, ?_, rfl, hmd.out.then hxe (fun _ _ h => h.elim)⟩
      simp only [condS, need_hit (sz := sz) hk hkd.out, ha, bind, Except.bind]
  · go_wp2_with fail
    refine ⟨rfl, ?_⟩
    rw [hpost.out]
    refine .inr ⟨a, ?_, rfl, ((hx1.trans hx2).mono (fun _ h => h.elim))⟩
    simp only [condS, ha, bind, Except.bind]
end Go.Proofs.YtpgniljgaknlpaaGreatDoor
