import Derived.Test.YtpgniljgaknlpaaGreatDoorR5
/-
  The reference parser's 'loop'.
-/
namespace Go.Proofs.YtpgniljgaknlpaaGreatDoor
open Go.RowKit Cdk Tpl

theorem fld_kind (x y z : Value) (w : World) : (Instr.field 77 (.agg #[x, y, z]) 0).run Tryz.prog w = .ok x w := by
  have h := Tryz.underlying77
  unfold Instr.field
  simp [go_sem, run_underlying h, Tryz.underlying3, asAgg]
theorem fld_off (x y z : Value) (w : World) : (Instr.field 77 (.agg #[x, y, z]) 2).run Tryz.prog w = .ok z w := by
  have h := Tryz.underlying77
  unfold Instr.field
  simp [go_sem, run_underlying h, Tryz.underlying3, asAgg]

theorem TkR.hit {T : List Tk} {sz kd k k' : Nat} {bad' : Option Nat} {tx : Bs} (h : TkR T sz kd k none tx k' bad') (hk : k < T.length) (hkd : T[k].kind = kd) : tx = T[k].text ∧ k' = k + 1 ∧ bad' = none := by
  rcases h with ⟨-, _, _, h1, h2, h3⟩ | ⟨-, a, ha, -⟩ | ⟨a, h, -⟩
  · exact ⟨h1, h2, h3⟩
  · rw [need_hit hk hkd] at ha; cases ha
  · cases h

theorem more_hd {sz kd k : Nat} {T : List Tk} (h0 : kd ≠ 0) : (((hdT sz (T.drop k)).kind : Int) == (kd : Int)) = moreB kd (T.drop k) := by
  rw [Bool.eq_iff_iff, beq_iff_eq]
  cases T.drop k with
  | nil => exact ⟨fun h => absurd (show kd = 0 by simp only [hdT] at h; omega) h0, fun h => by cases h⟩
  | cons t r => simp only [hdT, moreB, decide_eq_true_eq]; omega

/-- The reference parser's reading of a number: the number of the first i digits. -/
theorem num_snoc (l : Bs) (i : Nat) (h : i < l.length) : num (l.take (i + 1)) = 10 * num (l.take i) + ((l[i].toNat : Int) - 48) := by
  unfold num
  rw [← List.take_append_getElem h, List.foldl_append]
  rfl
theorem num_take {l : Bs} (h : numOk l) (i : Nat) (hi : i < l.length) : 0 ≤ num (l.take i) ∧ num (l.take i) ≤ 99999 := by
  obtain ⟨h1, h2, h3⟩ := h
  have := num_bound (l.take i) 0 0 (fun c hc => h3 c (List.mem_of_mem_take hc)) (by decide) (by decide)
  have h4 : (10 : Int) ^ (0 + (l.take i).length) ≤ 100000 := by
    rw [List.length_take]
    obtain ⟨n, hn⟩ : ∃ n, n = min i l.length := ⟨_, rfl⟩
    rw [← hn]
    have h5 : n ≤ 5 := by omega
    match n, h5 with
    | 0, _ => decide
    | 1, _ => decide
    | 2, _ => decide
    | 3, _ => decide
    | 4, _ => decide
    | 5, _ => decide
    | n + 6, h => omega
  unfold num
  omega

theorem loop_fin {T : List Tk} {sz fuel d k k2 k3 k4 : Nat} {b3 b4 : Option Nat} {nm ar t7 x : Bs} {ct : Int} {l : List Nd} (hs : loopS sz (fuel + 1) d (T.drop k) = loopT sz fuel d nm ar ct (T.drop k2)) (hk : k ≤ k2) (h7 : TkR T sz 7 k2 none t7 k3 b3) (h : LsR T k3 b3 (listS sz fuel d [wEnd] (T.drop k3) []) l x k4 b4) :
    NdR T k (loopS sz (fuel + 1) d (T.drop k)) (.mk 3 [] nm ar ct [] l []) k4 b4 := by
  rw [hs]
  rcases h7 with ⟨-, hk7, hkd7, -, rfl, rfl⟩ | ⟨-, a, ha, -, rfl, rfl⟩ | ⟨a, h, -⟩
  · have n7 := need_hit (sz := sz) hk7 hkd7
    rcases h with ⟨-, hl, hle, rfl⟩ | ⟨-, a, ha, rfl⟩ | ⟨a, h, -⟩
    · refine .inl ⟨?_, by omega, rfl⟩
      simp only [loopT, n7, hl, bind, Except.bind]
    · refine .inr ⟨a, ?_, rfl⟩
      simp only [loopT, n7, ha, bind, Except.bind]
    · cases h
  · rcases h with ⟨h, -⟩ | ⟨h, -⟩ | ⟨a', h, -, rfl⟩
    · cases h
    · cases h
    · cases h
      refine .inr ⟨a, ?_, rfl⟩
      simp only [loopT, ha, bind, Except.bind]
  · cases h

theorem loop_bad {T : List Tk} {sz fuel d k k2 k3 k4 a : Nat} {b3 b4 : Option Nat} {t7 x : Bs} {r : Except Nat (List Nd × Bs × List Tk)} {l : List Nd} {nd : Nd} (ha : Tpl.need sz 2 (T.drop k) = .error a) (h7 : TkR T sz 7 k2 (some a) t7 k3 b3) (h : LsR T k3 b3 r l x k4 b4) :
    NdR T k (loopS sz (fuel + 1) d (T.drop k)) nd k4 b4 := by
  rcases h7 with ⟨h, -⟩ | ⟨h, -⟩ | ⟨a', h', -, rfl, rfl⟩
  · cases h
  · cases h
  · cases h'
    rcases h with ⟨h, -⟩ | ⟨h, -⟩ | ⟨a', h, -, rfl⟩
    · cases h
    · cases h
    · cases h
      exact .inr ⟨a, by simp only [loopS, ha, bind, Except.bind], rfl⟩


set_option maxRecDepth 100000 in
set_option maxHeartbeats 16000000 in
theorem rloop_any (fuel : Nat) (ih : RListC fuel) {B : Nat} {ao : Option Addr} {cap : Nat} {T : List Tk} {sz k : Nat} (d : Nat) (w : World) (h : RS B ao cap T sz k d (-1) w) (hT : TokOk T) (hd : d ≤ 8) (hf : 2 * (T.length - k) ≤ fuel) :
    Calls Tryz.prog 66 #[.pointer (some ⟨B, 0, none⟩)] w (NP B ao cap T sz k d w (loopS sz (fuel + 1) d (T.drop k))) := by
  obtain ⟨post, hpost⟩ : ∃ post, post = NP B ao cap T sz k d w (loopS sz (fuel + 1) d (T.drop k)) := ⟨_, rfl⟩
  rw [← hpost]
  replace hpost := hid hpost
  have hBw := lt_of_at h.cell
  have hsm := h.small
  replace h := hid h
  replace hT := hid hT
  replace ih := hid ih
  have hfk := fld_kind
  go_enter Tryz.func66, Tryz.ntmps66
  go_wp2_with fail
  have hx1 := Mod.alloc (Mod.refl (fun _ => False) w) (.cells #[.int .i64 0, .string ⟨#[]⟩, .string ⟨#[]⟩, .string ⟨#[]⟩, .int .i64 0, .slice none 0 0, .slice none 0 0, .slice none 0 0] 36)
  have hR0 := heap_alloc_new w (.cells #[.int .i64 0, .string ⟨#[]⟩, .string ⟨#[]⟩, .string ⟨#[]⟩, .int .i64 0, .slice none 0 0, .slice none 0 0, .slice none 0 0] 36)
  have hs1 : (w.alloc (.cells #[.int .i64 0, .string ⟨#[]⟩, .string ⟨#[]⟩, .string ⟨#[]⟩, .int .i64 0, .slice none 0 0, .slice none 0 0, .slice none 0 0] 36)).heap.size = w.heap.size + 1 := World.size_alloc _ _
  generalize (w.alloc (.cells #[.int .i64 0, .string ⟨#[]⟩, .string ⟨#[]⟩, .string ⟨#[]⟩, .int .i64 0, .slice none 0 0, .slice none 0 0, .slice none 0 0] 36)) = w1 at hx1 hR0 hs1 ⊢
  obtain ⟨R, hR⟩ : ∃ R, R = w.heap.size := ⟨_, rfl⟩
  rw [← hR] at hR0 hs1 hBw ⊢
  replace hR := hid hR
  refine (rtake_gen 2 (by decide) none _ (h.out.ext hx1)).mono ?_
  rintro e w2 ⟨nm, k1, bad1, rfl, hrs2, hm2, htk1⟩
  have hBR : ¬ B = R := by omega
  have hR02 := hm2.at hR0 hBR
  have hmw2 := (hx1.mono (T := Eq B) (fun _ h => h.elim)).trans hm2
  clear hx1 hm2 hR0
  rcases htk1 with ⟨-, hk, hkd, rfl, rfl, rfl⟩ | ⟨-, a, ha, rfl, hk1, rfl⟩ | ⟨a, h, -⟩
  · skip
    replace hrs2 : RS B ao cap T sz (k + 1) d (-1) w2 := hrs2
    have hkd := hid hkd

    go_upto_region 2 with fail
    have hxa := Mod.alloc (Mod.refl (fun _ => False) w2) (.cells #[.int .i64 3, .string ⟨#[]⟩, .string ⟨(T[k].text : Bs).toArray⟩, .string ⟨([] : Bs).toArray⟩, .int .i64 (0), .slice none 0 0, .slice none 0 0, .slice none 0 0] 36)
    have hQa := heap_alloc_new w2 (.cells #[.int .i64 3, .string ⟨#[]⟩, .string ⟨(T[k].text : Bs).toArray⟩, .string ⟨([] : Bs).toArray⟩, .int .i64 (0), .slice none 0 0, .slice none 0 0, .slice none 0 0] 36)
    have hRQ : R < w2.heap.size := lt_of_at hR02
    generalize hQ : w2.heap.size = Q at hQa hRQ ⊢
    generalize (w2.alloc (.cells #[.int .i64 3, .string ⟨#[]⟩, .string ⟨(T[k].text : Bs).toArray⟩, .string ⟨([] : Bs).toArray⟩, .int .i64 (0), .slice none 0 0, .slice none 0 0, .slice none 0 0] 36)) = wa at hxa hQa ⊢
    have hBQ : ¬ B = Q := by omega
    have hQR : ¬ Q = R := by omega
    have hRQ' : ¬ R = Q := by omega
    have hRa := hxa.at hR02 (fun h => h)
    have hrsa := hrs2.ext hxa
    have hma := hid (hmw2.then hxa (fun _ _ h => h.elim))
    replace hQ := hid hQ
    clear hxa hrs2 hmw2 hR02
    obtain ⟨c0, c1, c2, c3, c4⟩ := hrsa.cells

    replace hRa := hid hRa
    replace hQa := hid hQa
    replace hrsa := hid hrsa
    go_wp2_with fail
    refine (rnext_any _ hrsa.out).mono ?_
    rintro e wb ⟨rfl, hxb⟩
    have q4 := more_hd (sz := sz) (kd := 4) (k := k + 1) (T := T) (by decide)
    unfold tokV
    generalize hdT sz (T.drop (k + 1)) = t4 at q4 ⊢
    have hRb := hxb.at hRa.out (fun h => h)
    have hQb := hxb.at hQa.out (fun h => h)
    have hrsb := hrsa.out.ext hxb
    have hmb := hid (hma.out.then hxb (fun _ _ h => h.elim))
    clear c0 c1 c2 c3 c4 hxb
    cases h4 : moreB 4 (T.drop (k + 1)) with
    | true =>
      rw [h4] at q4
      obtain ⟨hk4, hkd4⟩ := more_hit h4
      replace h4 := hid h4
      replace hkd4 := hid hkd4
      replace hRb := hid hRb
      replace hQb := hid hQb
      replace hrsb := hid hrsb
      go_wp2_with fail
      refine (rtake_gen 4 (by decide) none _ hrsb.out).mono ?_
      rintro e wn ⟨ar, k4', bad4', rfl, hrsn, hmn, htk4⟩
      obtain ⟨rfl, rfl, rfl⟩ := htk4.hit hk4 hkd4.out
      have hRn := hmn.at hRb.out hBR
      have hQn := hmn.at hQb.out hBQ
      have hmwn := hid (hmb.out.trans hmn)
      clear hmn htk4
      obtain ⟨a0, a1, a2, a3, a4, a5, a6, a7⟩ := cells8 hQn
      have z0 := free_of' hQn
      replace hRn := hid hRn
      replace hQn := hid hQn
      replace hrsn := hid hrsn
      go_upto_region 4 with fail
      have hQc := put_at hQn.out 3 (.string ⟨T[k + 1].text.toArray⟩)
      have hRc := (put_ne wn (b := Q) (k := R) 3 (.string ⟨T[k + 1].text.toArray⟩) (by omega)).trans hRn.out
      have hmq := (Mod.refl (Eq Q) wn).setCell (a := ⟨Q, 3, none⟩) (fun _ => rfl) (.string ⟨T[k + 1].text.toArray⟩)
      clear a0 a1 a2 a3 a4 a5 a6 a7 z0
      generalize (wn.setCell ⟨Q, 3, none⟩ (.string ⟨T[k + 1].text.toArray⟩)) = wc at hQc hRc hmq ⊢
      simp only [List.setIfInBounds_toArray, List.set_cons_zero, List.set_cons_succ] at hQc
      have hrsc : RS B ao cap T sz (k + 1 + 1) d (-1) wc := RS.keep h.out hrsn.out hmq (fun j e => by have := hR.out; omega)
      have hmc := hid (hmwn.out.then hmq (fun j hj e => by have := hR.out; omega))
      clear hmq
      obtain ⟨c0, c1, c2, c3, c4⟩ := hrsc.cells
      replace hRc := hid hRc
      replace hQc := hid hQc
      replace hrsc := hid hrsc
      go_wp2_with fail
      refine (rnext_any _ hrsc.out).mono ?_
      rintro e wn ⟨rfl, hxn⟩
      have q3 := more_hd (sz := sz) (kd := 3) (k := k + 1 + 1) (T := T) (by decide)
      unfold tokV
      generalize hdT sz (T.drop (k + 1 + 1)) = t3 at q3 ⊢
      have hRn := hxn.at hRc.out (fun h => h)
      have hQn := hxn.at hQc.out (fun h => h)
      have hrsn := hrsc.out.ext hxn
      have hmn := hid (hmc.out.then hxn (fun _ _ h => h.elim))
      clear c0 c1 c2 c3 c4 hxn
      cases h3 : moreB 3 (T.drop (k + 1 + 1)) with
      | true =>
        rw [h3] at q3
        obtain ⟨hk3, hkd3⟩ := more_hit h3
        have hno := hid (hT.out.1 T[k + 1 + 1] (List.getElem_mem _) hkd3)
        have hsp : Hid (loopS sz (fuel + 1) d (T.drop k) = loopT sz fuel d T[k].text T[k + 1].text (num T[k + 1 + 1].text) (T.drop (k + 1 + 1 + 1))) := hid (by
          rw [loopS_eq sz fuel d (need_hit hk hkd.out), arg_hit hk4 hkd4.out, cnt_hit hk3 hkd3])
        replace h3 := hid h3
        replace hkd3 := hid hkd3
        replace hRn := hid hRn
        replace hQn := hid hQn
        replace hrsn := hid hrsn
        go_wp2_with fail
        refine (rtake_gen 3 (by decide) none _ hrsn.out).mono ?_
        rintro e wo ⟨dg, k3', bad3', rfl, hrso, hmo, htk3⟩
        obtain ⟨rfl, rfl, rfl⟩ := htk3.hit hk3 hkd3.out
        have hRo := hmo.at hRn.out hBR
        have hQo := hmo.at hQn.out hBQ
        have hmo' := hid (hmn.out.trans hmo)
        clear hmo htk3
        obtain ⟨dg, hdg⟩ : ∃ dg, dg = T[k + 1 + 1].text := ⟨_, rfl⟩
        rw [← hdg] at hno hsp ⊢
        replace hdg := hid hdg
        have hdl := hno.out.2.1
        replace hRo := hid hRo
        replace hQo := hid hQo
        replace hrso := hid hrso
        go_wp2_with fail
        go_loopg [5] dg.length (fun g iv wr => ∃ i : Nat, i + g = dg.length ∧ iv = .int .i64 i ∧ wr.heap[Q]? = some (.cells #[.int .i64 3, .string ⟨#[]⟩, .string ⟨(T[k].text : Bs).toArray⟩, .string ⟨(T[k + 1].text : Bs).toArray⟩, .int .i64 (num (dg.take i)), .slice none 0 0, .slice none 0 0, .slice none 0 0] 36 (0, 0)) ∧ Mod (Eq Q) wo wr)
        case atStart => exact ⟨0, by omega, rfl, hQo.out, Mod.refl _ _⟩
        case round =>
          obtain ⟨i, hig, rfl, hQr, hmr⟩ := hrel
          by_cases hpos : 0 < gk
          · obtain ⟨c, rfl⟩ : ∃ c, gk = c + 1 := ⟨gk - 1, by omega⟩
            have hi1 : decide ((i : Int) < (dg.length : Int)) = true := decide_eq_true (by omega)
            have hi2 : (i : Int) < (dg.length : Int) := by omega
            have hi0 : (0 : Int) ≤ (i : Int) := by omega
            have hil : i < dg.length := by omega
            have hns := num_snoc dg i hil
            obtain ⟨hm0, hm1⟩ := num_take hno.out i hil
            have hcd := hno.out.2.2 dg[i] (List.getElem_mem _)
            simp only [isD, Bool.and_eq_true, decide_eq_true_eq] at hcd
            obtain ⟨hc1, hc2⟩ := hcd
            have g4 : wr.drew.cell? ⟨Q, 4, none⟩ = some (.int .i64 (num (dg.take i))) := cell_of' ((Mod.drew0 (fun _ => False) _).at hQr (fun h => h)) 4
            have z4 := free_of' ((Mod.drew0 (fun _ => False) wr).at hQr (fun h => h))
            have hQd := (Mod.drew0 (fun _ => False) wr).at hQr (fun h => h)
            have hmd := hmr.then (Mod.drew0 (fun _ => False) wr) (fun _ _ h => h.elim)
            replace hQr := hid hQr
            replace hmr := hid hmr
            replace hns := hid hns
            go_upto_region 9 with fail
            generalize num (dg.take i) = m at g4 hns hQr hm0 hm1 hQd
            obtain ⟨ch, hch⟩ : ∃ ch, ch = dg[i] := ⟨_, rfl⟩
            rw [← hch] at hc1 hc2 hns
            have w1 : IntKind.i64.wrap (10 * m) = 10 * m := IntWalk.i64_in _ (by omega)
            have w2 : IntKind.u8.wrap ((ch.toNat : Int) - 48) = (ch.toNat : Int) - 48 := IntWalk.u8_in _ (by omega)
            have w3 : IntKind.i64.wrap ((ch.toNat : Int) - 48) = (ch.toNat : Int) - 48 := IntWalk.i64_in _ (by omega)
            have w4 : IntKind.i64.wrap (10 * m + ((ch.toNat : Int) - 48)) = 10 * m + ((ch.toNat : Int) - 48) := IntWalk.i64_in _ (by omega)
            refine wp_region_schedE (fun w' => w'.cell? ⟨Q, 4, none⟩ = some (.int .i64 m)) [(0, true), (1, true), (2, true), (3, true), (4, true), (5, true), (6, true), (7, true), (8, true), (9, true), (10, false)] (by as_aux_lemma => kernel_rfl) (by as_aux_lemma => kernel_rfl) (by as_aux_lemma => kernel_rfl) (by decide) g4 ?_
            simp only [schedOps, List.map_cons, List.map_nil, List.getD_cons_zero, List.getD_cons_succ]
            repeat (first | (refine wpT_p (by rfl) (by rfl) ?_ (fun w' hC => ?_) ?_; rotate_left; (go_simp; try with_reducible rfl); try simp only [Act.put, List.setIfInBounds_toArray, List.set_cons_zero, List.set_cons_succ]) | (refine wpT_q (by rfl) (by rfl) ?_ (fun w' hC => ?_) ?_; rotate_left; (go_simp; try with_reducible rfl); try simp only [Act.put, List.setIfInBounds_toArray, List.set_cons_zero, List.set_cons_succ]))
            generalize wr.drew = w6 at g4 z4 hQd hmd ⊢
            refine wpT_e (by rfl) (fun K hK => ?_)
            go_simp
            refine hK.out _ _ ?_
            clear hK K
            clear g4
            go_wp2_with fail
            go_roundg c
            case measure => omega
            case rel =>
              refine ⟨i + 1, by omega, by go_num, ?_, hmd.setCell (a := ⟨Q, 4, none⟩) (fun _ => rfl) _⟩
              rw [hns.out]
              have e8 : ∀ hh, ((⟨dg.toArray⟩ : ByteArray)[i]'hh) = ch := fun hh => hch.symm
              simp only [e8]
              rw [show wrap64 (10 * m + wrap64 (((ch.toNat : Int) - 48) % 256)) = 10 * m + ((ch.toNat : Int) - 48) by unfold wrap64; omega]
              exact put_at hQd 4 _
          · obtain rfl : gk = 0 := by omega
            obtain rfl : i = dg.length := by omega
            have hi1 : decide ((dg.length : Int) < (dg.length : Int)) = false := decide_eq_false (by omega)
            have hi2 : ¬ (dg.length : Int) < (dg.length : Int) := by omega
            rw [List.take_length] at hQr
            have hrsd := RS.keep h.out hrso.out hmr (fun j e => by have := hR.out; omega)
            have hRd := hmr.at hRo.out hQR
            have hQd := hQr
            have hmd := hid (hmo'.out.then hmr (fun j hj e => by have := hR.out; omega))
            clear hmr hQr
            go_wp2_with fail
            refine (rtake_gen 7 (by decide) none _ hrsd).mono ?_
            rintro e we ⟨t7, k3, bad3, rfl, hrse, hme, htk7⟩
            have hRe := hme.at hRd hBR
            have hQe := hme.at hQd hBQ
            have hmwe := hid (hmd.out.trans hme)
            replace htk7 := hid htk7
            replace hrsd := hid hrsd
            replace hRd := hid hRd
            replace hQd := hid hQd
            clear hme
            go_wp2_with fail
            refine (ih.out B ao cap T sz k3 d bad3 wEnd wEnd [wEnd] we hrse hT.out hd (.inr (.inl ⟨rfl, rfl, rfl⟩)) (fun hb => ?_)).mono ?_
            · subst hb
              obtain ⟨e1, e2, e3⟩ := htk7.out.lt
              omega
            rintro e wg ⟨aov, nv, capv, l, x, k4, bad4, rfl, hnv, hrsg, hmg, hls⟩
            have hRg := hmg.at hRe hBR
            have hQg := hmg.at hQe hBQ
            obtain ⟨a0, a1, a2, a3, a4, a5, a6, a7⟩ := cells8 hQg
            obtain ⟨b0, b1, b2, b3, b4, b5, b6, b7⟩ := cells8 hRg
            have z0 := free_of' hQg
            have z1 := free_of' hRg
            have hmwg := hid (hmwe.out.trans hmg)
            have hRf := lt_of_at hRe
            have hQf := lt_of_at hQe
            have hws := hmwe.out.size
            replace hls := hid hls
            replace hRe := hid hRe
            replace hQe := hid hQe
            replace hrse := hid hrse
            replace hrsg := hid hrsg
            replace hmg := hid hmg
            replace hRg := hid hRg
            replace hQg := hid hQg
            replace hnv := hid hnv
            go_wp2_with fail
            change bodyPost _ _ _ _ _ (put8 (wg.setCell ⟨Q, 6, none⟩ (.slice aov nv capv)) R (.int .i64 3) (.string ⟨#[]⟩) (.string ⟨(T[k].text : Bs).toArray⟩) (.string ⟨(T[k + 1].text : Bs).toArray⟩) (.int .i64 (num dg)) (.slice none 0 0) (.slice aov nv capv) (.slice none 0 0))
            have hQh := put_at hQg.out 6 (.slice aov nv capv)
            have hmh := (Mod.refl (Eq Q) wg).setCell (a := ⟨Q, 6, none⟩) (fun _ => rfl) (.slice aov nv capv)
            have hRh := (put_ne wg (b := Q) (k := R) 6 (.slice aov nv capv) (by omega)).trans hRg.out
            generalize (wg.setCell ⟨Q, 6, none⟩ (.slice aov nv capv)) = wh at hQh hmh hRh ⊢
            have hRz := put8_at (x0 := .int .i64 3) (x1 := .string ⟨#[]⟩) (x2 := .string ⟨(T[k].text : Bs).toArray⟩) (x3 := .string ⟨(T[k + 1].text : Bs).toArray⟩) (x4 := .int .i64 (num dg)) (x5 := .slice none 0 0) (x6 := .slice aov nv capv) (x7 := .slice none 0 0) hRh
            have hmz := put8_mod wh R (.int .i64 3) (.string ⟨#[]⟩) (.string ⟨(T[k].text : Bs).toArray⟩) (.string ⟨(T[k + 1].text : Bs).toArray⟩) (.int .i64 (num dg)) (.slice none 0 0) (.slice aov nv capv) (.slice none 0 0)
            generalize (put8 wh R (.int .i64 3) (.string ⟨#[]⟩) (.string ⟨(T[k].text : Bs).toArray⟩) (.string ⟨(T[k + 1].text : Bs).toArray⟩) (.int .i64 (num dg)) (.slice none 0 0) (.slice aov nv capv) (.slice none 0 0)) = wz at hRz hmz ⊢
            refine bodyPost_ret (results_cell_row rfl _ _ R _ _ _ _ rfl hRz Tryz.underlying36 rfl node_size) rfl ?_
            rw [hpost.out]
            have hRR := hR.out
            have hzz : Mod (fun j => j = Q ∨ j = R) wg wz := (hmh.mono (fun _ h => .inl h.symm)).then hmz (fun _ _ h => .inr h.symm)
            have hrsz := RS.keep h.out hrsg.out hzz (fun j e => by omega)
            have hnz := (hnv.out.mod hzz (fun j hj e => by have := hj.1; omega)).mono (F' := Since w wz) (fun j hj => ⟨by have := hj.1; omega, by have := hj.2; have := hzz.size; omega⟩)
            exact ⟨⟨3, [], T[k].text, T[k + 1].text, num dg, .slice none 0 0, .slice aov nv capv, .slice none 0 0⟩, .mk 3 [] T[k].text T[k + 1].text (num dg) [] l [], k4, bad4, rfl, .mk ⟨3, [], T[k].text, T[k + 1].text, num dg, .slice none 0 0, .slice aov nv capv, .slice none 0 0⟩ [] l [] (StrsAt.nil _ _) hnz (NodesAt.nil _ _), hrsz, hmwg.out.then hzz (fun j hj e => by omega), loop_fin hsp.out (by omega) htk7.out hls.out⟩

      | false =>
        rw [h3] at q3
        have hsp : Hid (loopS sz (fuel + 1) d (T.drop k) = loopT sz fuel d T[k].text T[k + 1].text 0 (T.drop (k + 1 + 1))) := hid (by
          rw [loopS_eq sz fuel d (need_hit hk hkd.out), arg_hit hk4 hkd4.out, cnt_no h3])
        replace h3 := hid h3
        have hRd := hRn
        have hQd := hQn
        have hrsd := hrsn
        have hmd := hmn
        replace hRn := hid hRn
        replace hQn := hid hQn
        replace hrsn := hid hrsn
        go_wp2_with fail
        refine (rtake_gen 7 (by decide) none _ hrsd).mono ?_
        rintro e we ⟨t7, k3, bad3, rfl, hrse, hme, htk7⟩
        have hRe := hme.at hRd hBR
        have hQe := hme.at hQd hBQ
        have hmwe := hid (hmd.out.trans hme)
        replace htk7 := hid htk7
        replace hrsd := hid hrsd
        replace hRd := hid hRd
        replace hQd := hid hQd
        clear hme
        go_wp2_with fail
        refine (ih.out B ao cap T sz k3 d bad3 wEnd wEnd [wEnd] we hrse hT.out hd (.inr (.inl ⟨rfl, rfl, rfl⟩)) (fun hb => ?_)).mono ?_
        · subst hb
          obtain ⟨e1, e2, e3⟩ := htk7.out.lt
          omega
        rintro e wg ⟨aov, nv, capv, l, x, k4, bad4, rfl, hnv, hrsg, hmg, hls⟩
        have hRg := hmg.at hRe hBR
        have hQg := hmg.at hQe hBQ
        obtain ⟨a0, a1, a2, a3, a4, a5, a6, a7⟩ := cells8 hQg
        obtain ⟨b0, b1, b2, b3, b4, b5, b6, b7⟩ := cells8 hRg
        have z0 := free_of' hQg
        have z1 := free_of' hRg
        have hmwg := hid (hmwe.out.trans hmg)
        have hRf := lt_of_at hRe
        have hQf := lt_of_at hQe
        have hws := hmwe.out.size
        replace hls := hid hls
        replace hRe := hid hRe
        replace hQe := hid hQe
        replace hrse := hid hrse
        replace hrsg := hid hrsg
        replace hmg := hid hmg
        replace hRg := hid hRg
        replace hQg := hid hQg
        replace hnv := hid hnv
        go_wp2_with fail
        change bodyPost _ _ _ _ _ (put8 (wg.setCell ⟨Q, 6, none⟩ (.slice aov nv capv)) R (.int .i64 3) (.string ⟨#[]⟩) (.string ⟨(T[k].text : Bs).toArray⟩) (.string ⟨(T[k + 1].text : Bs).toArray⟩) (.int .i64 (0)) (.slice none 0 0) (.slice aov nv capv) (.slice none 0 0))
        have hQh := put_at hQg.out 6 (.slice aov nv capv)
        have hmh := (Mod.refl (Eq Q) wg).setCell (a := ⟨Q, 6, none⟩) (fun _ => rfl) (.slice aov nv capv)
        have hRh := (put_ne wg (b := Q) (k := R) 6 (.slice aov nv capv) (by omega)).trans hRg.out
        generalize (wg.setCell ⟨Q, 6, none⟩ (.slice aov nv capv)) = wh at hQh hmh hRh ⊢
        have hRz := put8_at (x0 := .int .i64 3) (x1 := .string ⟨#[]⟩) (x2 := .string ⟨(T[k].text : Bs).toArray⟩) (x3 := .string ⟨(T[k + 1].text : Bs).toArray⟩) (x4 := .int .i64 (0)) (x5 := .slice none 0 0) (x6 := .slice aov nv capv) (x7 := .slice none 0 0) hRh
        have hmz := put8_mod wh R (.int .i64 3) (.string ⟨#[]⟩) (.string ⟨(T[k].text : Bs).toArray⟩) (.string ⟨(T[k + 1].text : Bs).toArray⟩) (.int .i64 (0)) (.slice none 0 0) (.slice aov nv capv) (.slice none 0 0)
        generalize (put8 wh R (.int .i64 3) (.string ⟨#[]⟩) (.string ⟨(T[k].text : Bs).toArray⟩) (.string ⟨(T[k + 1].text : Bs).toArray⟩) (.int .i64 (0)) (.slice none 0 0) (.slice aov nv capv) (.slice none 0 0)) = wz at hRz hmz ⊢
        refine bodyPost_ret (results_cell_row rfl _ _ R _ _ _ _ rfl hRz Tryz.underlying36 rfl node_size) rfl ?_
        rw [hpost.out]
        have hRR := hR.out
        have hzz : Mod (fun j => j = Q ∨ j = R) wg wz := (hmh.mono (fun _ h => .inl h.symm)).then hmz (fun _ _ h => .inr h.symm)
        have hrsz := RS.keep h.out hrsg.out hzz (fun j e => by omega)
        have hnz := (hnv.out.mod hzz (fun j hj e => by have := hj.1; omega)).mono (F' := Since w wz) (fun j hj => ⟨by have := hj.1; omega, by have := hj.2; have := hzz.size; omega⟩)
        exact ⟨⟨3, [], T[k].text, T[k + 1].text, 0, .slice none 0 0, .slice aov nv capv, .slice none 0 0⟩, .mk 3 [] T[k].text T[k + 1].text (0) [] l [], k4, bad4, rfl, .mk ⟨3, [], T[k].text, T[k + 1].text, 0, .slice none 0 0, .slice aov nv capv, .slice none 0 0⟩ [] l [] (StrsAt.nil _ _) hnz (NodesAt.nil _ _), hrsz, hmwg.out.then hzz (fun j hj e => by omega), loop_fin hsp.out (by omega) htk7.out hls.out⟩

    | false =>
      rw [h4] at q4
      have h4' := arg_no h4
      replace h4 := hid h4
      replace h4' := hid h4'
      replace hRb := hid hRb
      replace hQb := hid hQb
      replace hrsb := hid hrsb
      go_upto_region 4 with fail
      have hRc := hRb.out
      have hQc := hQb.out
      have hrsc := hrsb.out
      have hmc := hmb
      obtain ⟨c0, c1, c2, c3, c4⟩ := hrsc.cells
      replace hRc := hid hRc
      replace hQc := hid hQc
      replace hrsc := hid hrsc
      go_wp2_with fail
      refine (rnext_any _ hrsc.out).mono ?_
      rintro e wn ⟨rfl, hxn⟩
      have q3 := more_hd (sz := sz) (kd := 3) (k := k + 1) (T := T) (by decide)
      unfold tokV
      generalize hdT sz (T.drop (k + 1)) = t3 at q3 ⊢
      have hRn := hxn.at hRc.out (fun h => h)
      have hQn := hxn.at hQc.out (fun h => h)
      have hrsn := hrsc.out.ext hxn
      have hmn := hid (hmc.out.then hxn (fun _ _ h => h.elim))
      clear c0 c1 c2 c3 c4 hxn
      cases h3 : moreB 3 (T.drop (k + 1)) with
      | true =>
        rw [h3] at q3
        obtain ⟨hk3, hkd3⟩ := more_hit h3
        have hno := hid (hT.out.1 T[k + 1] (List.getElem_mem _) hkd3)
        have hsp : Hid (loopS sz (fuel + 1) d (T.drop k) = loopT sz fuel d T[k].text [] (num T[k + 1].text) (T.drop (k + 1 + 1))) := hid (by
          rw [loopS_eq sz fuel d (need_hit hk hkd.out), h4'.out, cnt_hit hk3 hkd3])
        replace h3 := hid h3
        replace hkd3 := hid hkd3
        replace hRn := hid hRn
        replace hQn := hid hQn
        replace hrsn := hid hrsn
        go_wp2_with fail
        refine (rtake_gen 3 (by decide) none _ hrsn.out).mono ?_
        rintro e wo ⟨dg, k3', bad3', rfl, hrso, hmo, htk3⟩
        obtain ⟨rfl, rfl, rfl⟩ := htk3.hit hk3 hkd3.out
        have hRo := hmo.at hRn.out hBR
        have hQo := hmo.at hQn.out hBQ
        have hmo' := hid (hmn.out.trans hmo)
        clear hmo htk3
        obtain ⟨dg, hdg⟩ : ∃ dg, dg = T[k + 1].text := ⟨_, rfl⟩
        rw [← hdg] at hno hsp ⊢
        replace hdg := hid hdg
        have hdl := hno.out.2.1
        replace hRo := hid hRo
        replace hQo := hid hQo
        replace hrso := hid hrso
        go_wp2_with fail
        go_loopg [5] dg.length (fun g iv wr => ∃ i : Nat, i + g = dg.length ∧ iv = .int .i64 i ∧ wr.heap[Q]? = some (.cells #[.int .i64 3, .string ⟨#[]⟩, .string ⟨(T[k].text : Bs).toArray⟩, .string ⟨([] : Bs).toArray⟩, .int .i64 (num (dg.take i)), .slice none 0 0, .slice none 0 0, .slice none 0 0] 36 (0, 0)) ∧ Mod (Eq Q) wo wr)
        case atStart => exact ⟨0, by omega, rfl, hQo.out, Mod.refl _ _⟩
        case round =>
          obtain ⟨i, hig, rfl, hQr, hmr⟩ := hrel
          by_cases hpos : 0 < gk
          · obtain ⟨c, rfl⟩ : ∃ c, gk = c + 1 := ⟨gk - 1, by omega⟩
            have hi1 : decide ((i : Int) < (dg.length : Int)) = true := decide_eq_true (by omega)
            have hi2 : (i : Int) < (dg.length : Int) := by omega
            have hi0 : (0 : Int) ≤ (i : Int) := by omega
            have hil : i < dg.length := by omega
            have hns := num_snoc dg i hil
            obtain ⟨hm0, hm1⟩ := num_take hno.out i hil
            have hcd := hno.out.2.2 dg[i] (List.getElem_mem _)
            simp only [isD, Bool.and_eq_true, decide_eq_true_eq] at hcd
            obtain ⟨hc1, hc2⟩ := hcd
            have g4 : wr.drew.cell? ⟨Q, 4, none⟩ = some (.int .i64 (num (dg.take i))) := cell_of' ((Mod.drew0 (fun _ => False) _).at hQr (fun h => h)) 4
            have z4 := free_of' ((Mod.drew0 (fun _ => False) wr).at hQr (fun h => h))
            have hQd := (Mod.drew0 (fun _ => False) wr).at hQr (fun h => h)
            have hmd := hmr.then (Mod.drew0 (fun _ => False) wr) (fun _ _ h => h.elim)
            replace hQr := hid hQr
            replace hmr := hid hmr
            replace hns := hid hns
            go_upto_region 9 with fail
            generalize num (dg.take i) = m at g4 hns hQr hm0 hm1 hQd
            obtain ⟨ch, hch⟩ : ∃ ch, ch = dg[i] := ⟨_, rfl⟩
            rw [← hch] at hc1 hc2 hns
            have w1 : IntKind.i64.wrap (10 * m) = 10 * m := IntWalk.i64_in _ (by omega)
            have w2 : IntKind.u8.wrap ((ch.toNat : Int) - 48) = (ch.toNat : Int) - 48 := IntWalk.u8_in _ (by omega)
            have w3 : IntKind.i64.wrap ((ch.toNat : Int) - 48) = (ch.toNat : Int) - 48 := IntWalk.i64_in _ (by omega)
            have w4 : IntKind.i64.wrap (10 * m + ((ch.toNat : Int) - 48)) = 10 * m + ((ch.toNat : Int) - 48) := IntWalk.i64_in _ (by omega)
            refine wp_region_schedE (fun w' => w'.cell? ⟨Q, 4, none⟩ = some (.int .i64 m)) [(0, true), (1, true), (2, true), (3, true), (4, true), (5, true), (6, true), (7, true), (8, true), (9, true), (10, false)] (by as_aux_lemma => kernel_rfl) (by as_aux_lemma => kernel_rfl) (by as_aux_lemma => kernel_rfl) (by decide) g4 ?_
            simp only [schedOps, List.map_cons, List.map_nil, List.getD_cons_zero, List.getD_cons_succ]
            repeat (first | (refine wpT_p (by rfl) (by rfl) ?_ (fun w' hC => ?_) ?_; rotate_left; (go_simp; try with_reducible rfl); try simp only [Act.put, List.setIfInBounds_toArray, List.set_cons_zero, List.set_cons_succ]) | (refine wpT_q (by rfl) (by rfl) ?_ (fun w' hC => ?_) ?_; rotate_left; (go_simp; try with_reducible rfl); try simp only [Act.put, List.setIfInBounds_toArray, List.set_cons_zero, List.set_cons_succ]))
            generalize wr.drew = w6 at g4 z4 hQd hmd ⊢
            refine wpT_e (by rfl) (fun K hK => ?_)
            go_simp
            refine hK.out _ _ ?_
            clear hK K
            clear g4
            go_wp2_with fail
            go_roundg c
            case measure => omega
            case rel =>
              refine ⟨i + 1, by omega, by go_num, ?_, hmd.setCell (a := ⟨Q, 4, none⟩) (fun _ => rfl) _⟩
              rw [hns.out]
              have e8 : ∀ hh, ((⟨dg.toArray⟩ : ByteArray)[i]'hh) = ch := fun hh => hch.symm
              simp only [e8]
              rw [show wrap64 (10 * m + wrap64 (((ch.toNat : Int) - 48) % 256)) = 10 * m + ((ch.toNat : Int) - 48) by unfold wrap64; omega]
              exact put_at hQd 4 _
          · obtain rfl : gk = 0 := by omega
            obtain rfl : i = dg.length := by omega
            have hi1 : decide ((dg.length : Int) < (dg.length : Int)) = false := decide_eq_false (by omega)
            have hi2 : ¬ (dg.length : Int) < (dg.length : Int) := by omega
            rw [List.take_length] at hQr
            have hrsd := RS.keep h.out hrso.out hmr (fun j e => by have := hR.out; omega)
            have hRd := hmr.at hRo.out hQR
            have hQd := hQr
            have hmd := hid (hmo'.out.then hmr (fun j hj e => by have := hR.out; omega))
            clear hmr hQr
            go_wp2_with fail
            refine (rtake_gen 7 (by decide) none _ hrsd).mono ?_
            rintro e we ⟨t7, k3, bad3, rfl, hrse, hme, htk7⟩
            have hRe := hme.at hRd hBR
            have hQe := hme.at hQd hBQ
            have hmwe := hid (hmd.out.trans hme)
            replace htk7 := hid htk7
            replace hrsd := hid hrsd
            replace hRd := hid hRd
            replace hQd := hid hQd
            clear hme
            go_wp2_with fail
            refine (ih.out B ao cap T sz k3 d bad3 wEnd wEnd [wEnd] we hrse hT.out hd (.inr (.inl ⟨rfl, rfl, rfl⟩)) (fun hb => ?_)).mono ?_
            · subst hb
              obtain ⟨e1, e2, e3⟩ := htk7.out.lt
              omega
            rintro e wg ⟨aov, nv, capv, l, x, k4, bad4, rfl, hnv, hrsg, hmg, hls⟩
            have hRg := hmg.at hRe hBR
            have hQg := hmg.at hQe hBQ
            obtain ⟨a0, a1, a2, a3, a4, a5, a6, a7⟩ := cells8 hQg
            obtain ⟨b0, b1, b2, b3, b4, b5, b6, b7⟩ := cells8 hRg
            have z0 := free_of' hQg
            have z1 := free_of' hRg
            have hmwg := hid (hmwe.out.trans hmg)
            have hRf := lt_of_at hRe
            have hQf := lt_of_at hQe
            have hws := hmwe.out.size
            replace hls := hid hls
            replace hRe := hid hRe
            replace hQe := hid hQe
            replace hrse := hid hrse
            replace hrsg := hid hrsg
            replace hmg := hid hmg
            replace hRg := hid hRg
            replace hQg := hid hQg
            replace hnv := hid hnv
            go_wp2_with fail
            change bodyPost _ _ _ _ _ (put8 (wg.setCell ⟨Q, 6, none⟩ (.slice aov nv capv)) R (.int .i64 3) (.string ⟨#[]⟩) (.string ⟨(T[k].text : Bs).toArray⟩) (.string ⟨([] : Bs).toArray⟩) (.int .i64 (num dg)) (.slice none 0 0) (.slice aov nv capv) (.slice none 0 0))
            have hQh := put_at hQg.out 6 (.slice aov nv capv)
            have hmh := (Mod.refl (Eq Q) wg).setCell (a := ⟨Q, 6, none⟩) (fun _ => rfl) (.slice aov nv capv)
            have hRh := (put_ne wg (b := Q) (k := R) 6 (.slice aov nv capv) (by omega)).trans hRg.out
            generalize (wg.setCell ⟨Q, 6, none⟩ (.slice aov nv capv)) = wh at hQh hmh hRh ⊢
            have hRz := put8_at (x0 := .int .i64 3) (x1 := .string ⟨#[]⟩) (x2 := .string ⟨(T[k].text : Bs).toArray⟩) (x3 := .string ⟨([] : Bs).toArray⟩) (x4 := .int .i64 (num dg)) (x5 := .slice none 0 0) (x6 := .slice aov nv capv) (x7 := .slice none 0 0) hRh
            have hmz := put8_mod wh R (.int .i64 3) (.string ⟨#[]⟩) (.string ⟨(T[k].text : Bs).toArray⟩) (.string ⟨([] : Bs).toArray⟩) (.int .i64 (num dg)) (.slice none 0 0) (.slice aov nv capv) (.slice none 0 0)
            generalize (put8 wh R (.int .i64 3) (.string ⟨#[]⟩) (.string ⟨(T[k].text : Bs).toArray⟩) (.string ⟨([] : Bs).toArray⟩) (.int .i64 (num dg)) (.slice none 0 0) (.slice aov nv capv) (.slice none 0 0)) = wz at hRz hmz ⊢
            refine bodyPost_ret (results_cell_row rfl _ _ R _ _ _ _ rfl hRz Tryz.underlying36 rfl node_size) rfl ?_
            rw [hpost.out]
            have hRR := hR.out
            have hzz : Mod (fun j => j = Q ∨ j = R) wg wz := (hmh.mono (fun _ h => .inl h.symm)).then hmz (fun _ _ h => .inr h.symm)
            have hrsz := RS.keep h.out hrsg.out hzz (fun j e => by omega)
            have hnz := (hnv.out.mod hzz (fun j hj e => by have := hj.1; omega)).mono (F' := Since w wz) (fun j hj => ⟨by have := hj.1; omega, by have := hj.2; have := hzz.size; omega⟩)
            exact ⟨⟨3, [], T[k].text, [], num dg, .slice none 0 0, .slice aov nv capv, .slice none 0 0⟩, .mk 3 [] T[k].text [] (num dg) [] l [], k4, bad4, rfl, .mk ⟨3, [], T[k].text, [], num dg, .slice none 0 0, .slice aov nv capv, .slice none 0 0⟩ [] l [] (StrsAt.nil _ _) hnz (NodesAt.nil _ _), hrsz, hmwg.out.then hzz (fun j hj e => by omega), loop_fin hsp.out (by omega) htk7.out hls.out⟩

      | false =>
        rw [h3] at q3
        have hsp : Hid (loopS sz (fuel + 1) d (T.drop k) = loopT sz fuel d T[k].text [] 0 (T.drop (k + 1))) := hid (by
          rw [loopS_eq sz fuel d (need_hit hk hkd.out), h4'.out, cnt_no h3])
        replace h3 := hid h3
        have hRd := hRn
        have hQd := hQn
        have hrsd := hrsn
        have hmd := hmn
        replace hRn := hid hRn
        replace hQn := hid hQn
        replace hrsn := hid hrsn
        go_wp2_with fail
        refine (rtake_gen 7 (by decide) none _ hrsd).mono ?_
        rintro e we ⟨t7, k3, bad3, rfl, hrse, hme, htk7⟩
        have hRe := hme.at hRd hBR
        have hQe := hme.at hQd hBQ
        have hmwe := hid (hmd.out.trans hme)
        replace htk7 := hid htk7
        replace hrsd := hid hrsd
        replace hRd := hid hRd
        replace hQd := hid hQd
        clear hme
        go_wp2_with fail
        refine (ih.out B ao cap T sz k3 d bad3 wEnd wEnd [wEnd] we hrse hT.out hd (.inr (.inl ⟨rfl, rfl, rfl⟩)) (fun hb => ?_)).mono ?_
        · subst hb
          obtain ⟨e1, e2, e3⟩ := htk7.out.lt
          omega
        rintro e wg ⟨aov, nv, capv, l, x, k4, bad4, rfl, hnv, hrsg, hmg, hls⟩
        have hRg := hmg.at hRe hBR
        have hQg := hmg.at hQe hBQ
        obtain ⟨a0, a1, a2, a3, a4, a5, a6, a7⟩ := cells8 hQg
        obtain ⟨b0, b1, b2, b3, b4, b5, b6, b7⟩ := cells8 hRg
        have z0 := free_of' hQg
        have z1 := free_of' hRg
        have hmwg := hid (hmwe.out.trans hmg)
        have hRf := lt_of_at hRe
        have hQf := lt_of_at hQe
        have hws := hmwe.out.size
        replace hls := hid hls
        replace hRe := hid hRe
        replace hQe := hid hQe
        replace hrse := hid hrse
        replace hrsg := hid hrsg
        replace hmg := hid hmg
        replace hRg := hid hRg
        replace hQg := hid hQg
        replace hnv := hid hnv
        go_wp2_with fail
        change bodyPost _ _ _ _ _ (put8 (wg.setCell ⟨Q, 6, none⟩ (.slice aov nv capv)) R (.int .i64 3) (.string ⟨#[]⟩) (.string ⟨(T[k].text : Bs).toArray⟩) (.string ⟨([] : Bs).toArray⟩) (.int .i64 (0)) (.slice none 0 0) (.slice aov nv capv) (.slice none 0 0))
        have hQh := put_at hQg.out 6 (.slice aov nv capv)
        have hmh := (Mod.refl (Eq Q) wg).setCell (a := ⟨Q, 6, none⟩) (fun _ => rfl) (.slice aov nv capv)
        have hRh := (put_ne wg (b := Q) (k := R) 6 (.slice aov nv capv) (by omega)).trans hRg.out
        generalize (wg.setCell ⟨Q, 6, none⟩ (.slice aov nv capv)) = wh at hQh hmh hRh ⊢
        have hRz := put8_at (x0 := .int .i64 3) (x1 := .string ⟨#[]⟩) (x2 := .string ⟨(T[k].text : Bs).toArray⟩) (x3 := .string ⟨([] : Bs).toArray⟩) (x4 := .int .i64 (0)) (x5 := .slice none 0 0) (x6 := .slice aov nv capv) (x7 := .slice none 0 0) hRh
        have hmz := put8_mod wh R (.int .i64 3) (.string ⟨#[]⟩) (.string ⟨(T[k].text : Bs).toArray⟩) (.string ⟨([] : Bs).toArray⟩) (.int .i64 (0)) (.slice none 0 0) (.slice aov nv capv) (.slice none 0 0)
        generalize (put8 wh R (.int .i64 3) (.string ⟨#[]⟩) (.string ⟨(T[k].text : Bs).toArray⟩) (.string ⟨([] : Bs).toArray⟩) (.int .i64 (0)) (.slice none 0 0) (.slice aov nv capv) (.slice none 0 0)) = wz at hRz hmz ⊢
        refine bodyPost_ret (results_cell_row rfl _ _ R _ _ _ _ rfl hRz Tryz.underlying36 rfl node_size) rfl ?_
        rw [hpost.out]
        have hRR := hR.out
        have hzz : Mod (fun j => j = Q ∨ j = R) wg wz := (hmh.mono (fun _ h => .inl h.symm)).then hmz (fun _ _ h => .inr h.symm)
        have hrsz := RS.keep h.out hrsg.out hzz (fun j e => by omega)
        have hnz := (hnv.out.mod hzz (fun j hj e => by have := hj.1; omega)).mono (F' := Since w wz) (fun j hj => ⟨by have := hj.1; omega, by have := hj.2; have := hzz.size; omega⟩)
        exact ⟨⟨3, [], T[k].text, [], 0, .slice none 0 0, .slice aov nv capv, .slice none 0 0⟩, .mk 3 [] T[k].text [] (0) [] l [], k4, bad4, rfl, .mk ⟨3, [], T[k].text, [], 0, .slice none 0 0, .slice aov nv capv, .slice none 0 0⟩ [] l [] (StrsAt.nil _ _) hnz (NodesAt.nil _ _), hrsz, hmwg.out.then hzz (fun j hj e => by omega), loop_fin hsp.out (by omega) htk7.out hls.out⟩
  · replace hk1 := hid hk1
    replace hrs2 : RS B ao cap T sz k1 d (a : Nat) w2 := hrs2
    replace ha := hid ha
    have i1 : decide ((a : Int) < 0) = false := decide_eq_false (by omega)
    have i2 : ¬ (a : Int) < 0 := by omega

    go_upto_region 2 with fail
    have hxa := Mod.alloc (Mod.refl (fun _ => False) w2) (.cells #[.int .i64 3, .string ⟨#[]⟩, .string ⟨([] : Bs).toArray⟩, .string ⟨([] : Bs).toArray⟩, .int .i64 (0), .slice none 0 0, .slice none 0 0, .slice none 0 0] 36)
    have hQa := heap_alloc_new w2 (.cells #[.int .i64 3, .string ⟨#[]⟩, .string ⟨([] : Bs).toArray⟩, .string ⟨([] : Bs).toArray⟩, .int .i64 (0), .slice none 0 0, .slice none 0 0, .slice none 0 0] 36)
    have hRQ : R < w2.heap.size := lt_of_at hR02
    generalize hQ : w2.heap.size = Q at hQa hRQ ⊢
    generalize (w2.alloc (.cells #[.int .i64 3, .string ⟨#[]⟩, .string ⟨([] : Bs).toArray⟩, .string ⟨([] : Bs).toArray⟩, .int .i64 (0), .slice none 0 0, .slice none 0 0, .slice none 0 0] 36)) = wa at hxa hQa ⊢
    have hBQ : ¬ B = Q := by omega
    have hQR : ¬ Q = R := by omega
    have hRQ' : ¬ R = Q := by omega
    have hRa := hxa.at hR02 (fun h => h)
    have hrsa := hrs2.ext hxa
    have hma := hid (hmw2.then hxa (fun _ _ h => h.elim))
    replace hQ := hid hQ
    clear hxa hrs2 hmw2 hR02
    obtain ⟨c0, c1, c2, c3, c4⟩ := hrsa.cells

    have hRd := hRa
    have hQd := hQa
    have hrsd : RS B ao cap T sz k1 d (badI (some a)) wa := hrsa
    have hmd := hma
    replace hRa := hid hRa
    replace hQa := hid hQa
    replace hrsa := hid hrsa
    go_wp2_with fail

    refine (rtake_gen 7 (by decide) (some a) _ hrsd).mono ?_
    rintro e we ⟨t7, k3, bad3, rfl, hrse, hme, htk7⟩
    have hRe := hme.at hRd hBR
    have hQe := hme.at hQd hBQ
    have hmwe := hid (hmd.out.trans hme)
    replace htk7 := hid htk7
    replace hrsd := hid hrsd
    replace hRd := hid hRd
    replace hQd := hid hQd
    clear hme
    go_wp2_with fail
    refine (ih.out B ao cap T sz k3 d bad3 wEnd wEnd [wEnd] we hrse hT.out hd (.inr (.inl ⟨rfl, rfl, rfl⟩)) (fun hb => ?_)).mono ?_
    · subst hb
      obtain ⟨e1, e2, e3⟩ := htk7.out.lt
      cases e3
    rintro e wg ⟨aov, nv, capv, l, x, k4, bad4, rfl, hnv, hrsg, hmg, hls⟩
    have hRg := hmg.at hRe hBR
    have hQg := hmg.at hQe hBQ
    obtain ⟨a0, a1, a2, a3, a4, a5, a6, a7⟩ := cells8 hQg
    obtain ⟨b0, b1, b2, b3, b4, b5, b6, b7⟩ := cells8 hRg
    have z0 := free_of' hQg
    have z1 := free_of' hRg
    have hmwg := hid (hmwe.out.trans hmg)
    have hRf := lt_of_at hRe
    have hQf := lt_of_at hQe
    have hws := hmwe.out.size
    replace hls := hid hls
    replace hRe := hid hRe
    replace hQe := hid hQe
    replace hrse := hid hrse
    replace hrsg := hid hrsg
    replace hmg := hid hmg
    replace hRg := hid hRg
    replace hQg := hid hQg
    replace hnv := hid hnv
    go_wp2_with fail
    change bodyPost _ _ _ _ _ (put8 (wg.setCell ⟨Q, 6, none⟩ (.slice aov nv capv)) R (.int .i64 3) (.string ⟨#[]⟩) (.string ⟨([] : Bs).toArray⟩) (.string ⟨([] : Bs).toArray⟩) (.int .i64 (0)) (.slice none 0 0) (.slice aov nv capv) (.slice none 0 0))
    have hQh := put_at hQg.out 6 (.slice aov nv capv)
    have hmh := (Mod.refl (Eq Q) wg).setCell (a := ⟨Q, 6, none⟩) (fun _ => rfl) (.slice aov nv capv)
    have hRh := (put_ne wg (b := Q) (k := R) 6 (.slice aov nv capv) (by omega)).trans hRg.out
    generalize (wg.setCell ⟨Q, 6, none⟩ (.slice aov nv capv)) = wh at hQh hmh hRh ⊢
    have hRz := put8_at (x0 := .int .i64 3) (x1 := .string ⟨#[]⟩) (x2 := .string ⟨([] : Bs).toArray⟩) (x3 := .string ⟨([] : Bs).toArray⟩) (x4 := .int .i64 (0)) (x5 := .slice none 0 0) (x6 := .slice aov nv capv) (x7 := .slice none 0 0) hRh
    have hmz := put8_mod wh R (.int .i64 3) (.string ⟨#[]⟩) (.string ⟨([] : Bs).toArray⟩) (.string ⟨([] : Bs).toArray⟩) (.int .i64 (0)) (.slice none 0 0) (.slice aov nv capv) (.slice none 0 0)
    generalize (put8 wh R (.int .i64 3) (.string ⟨#[]⟩) (.string ⟨([] : Bs).toArray⟩) (.string ⟨([] : Bs).toArray⟩) (.int .i64 (0)) (.slice none 0 0) (.slice aov nv capv) (.slice none 0 0)) = wz at hRz hmz ⊢
    refine bodyPost_ret (results_cell_row rfl _ _ R _ _ _ _ rfl hRz Tryz.underlying36 rfl node_size) rfl ?_
    rw [hpost.out]
    have hRR := hR.out
    have hzz : Mod (fun j => j = Q ∨ j = R) wg wz := (hmh.mono (fun _ h => .inl h.symm)).then hmz (fun _ _ h => .inr h.symm)
    have hrsz := RS.keep h.out hrsg.out hzz (fun j e => by omega)
    have hnz := (hnv.out.mod hzz (fun j hj e => by have := hj.1; omega)).mono (F' := Since w wz) (fun j hj => ⟨by have := hj.1; omega, by have := hj.2; have := hzz.size; omega⟩)
    exact ⟨⟨3, [], [], [], 0, .slice none 0 0, .slice aov nv capv, .slice none 0 0⟩, .mk 3 [] [] [] (0) [] l [], k4, bad4, rfl, .mk ⟨3, [], [], [], 0, .slice none 0 0, .slice aov nv capv, .slice none 0 0⟩ [] l [] (StrsAt.nil _ _) hnz (NodesAt.nil _ _), hrsz, hmwg.out.then hzz (fun j hj e => by omega), loop_bad ha.out htk7.out hls.out⟩
  · cases h
end Go.Proofs.YtpgniljgaknlpaaGreatDoor
