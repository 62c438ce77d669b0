import Derived.Test.YtpgniljgaknlpaaGreatDoorR7
/-
  The reference parser's 'list'.
-/
namespace Go.Proofs.YtpgniljgaknlpaaGreatDoor
open Go.RowKit Cdk Tpl

/-- The list so far. -/
def LsI (T : List Tk) (sz fuel d k : Nat) (words : List Bs) (bad : Option Nat) (k' f : Nat) (acc : List Nd) (n : Nat) (bad' : Option Nat) : Prop :=
  (bad = none ∧ bad' = none ∧ 2 * (T.length - k') + 1 ≤ f ∧ f ≤ fuel ∧ listS sz fuel d words (T.drop k) [] = listS sz f d words (T.drop k') acc ∧ k ≤ k' ∧ n ≤ k') ∨ (bad = none ∧ ∃ a, bad' = some a ∧ listS sz fuel d words (T.drop k) [] = .error a) ∨ (∃ a, bad = some a ∧ bad' = some a)

theorem W3.mem {one two : Bs} {words : List Bs} (h : W3 one two words) {x : Bs} (hx : x ≠ []) : x ∈ words ↔ (x = one ∨ x = two) := by
  rcases h with ⟨rfl, rfl, rfl⟩ | ⟨rfl, rfl, rfl⟩ | ⟨rfl, rfl, rfl⟩
  · simp [hx]
  · simp
  · simp
theorem W3.one_ne {one two : Bs} {words : List Bs} (h : W3 one two words) : one.isEmpty = words.isEmpty := by
  rcases h with ⟨rfl, rfl, rfl⟩ | ⟨rfl, rfl, rfl⟩ | ⟨rfl, rfl, rfl⟩ <;> rfl
theorem W3.kw {one two : Bs} {words : List Bs} (h : W3 one two words) {x : Bs} (hx : x ∈ words) : x = wElse ∨ x = wEnd := by
  rcases h with ⟨rfl, rfl, rfl⟩ | ⟨rfl, rfl, rfl⟩ | ⟨rfl, rfl, rfl⟩
  · simp at hx
  · simp at hx; exact .inr hx
  · simpa using hx

theorem hdT_end {sz k : Nat} {T : List Tk} (h : T.length ≤ k) : hdT sz (T.drop k) = ⟨0, [], sz⟩ := by rw [List.drop_eq_nil_of_le h]; rfl

/-- A tag's two first tokens, when both are there. -/
theorem tag_two {T : List Tk} {sz k k1 k2 : Nat} {b1 : Option Nat} {t6 tx : Bs} (h1 : TkR T sz 6 k none t6 k1 b1) (h2 : TkR T sz 2 k1 b1 tx k2 none) : ∃ (hk : k < T.length) (hk1 : k + 1 < T.length), T[k].kind = 6 ∧ T[k + 1].kind = 2 ∧ tx = T[k + 1].text ∧ k1 = k + 1 ∧ k2 = k + 1 + 1 := by
  rcases h2 with ⟨rfl, hk2, hkd2, rfl, rfl, -⟩ | ⟨-, a, ha, -, -, h⟩ | ⟨a, h, -, -, h'⟩
  · rcases h1 with ⟨-, hk, hkd, -, rfl, -⟩ | ⟨-, a, ha, -, -, h⟩ | ⟨a, h, -⟩
    · exact ⟨hk, hk2, hkd, hkd2, rfl, rfl, rfl⟩
    · cases h
    · cases h
  · cases h
  · cases h'
theorem tag_err {T : List Tk} {sz f d k k1 k2 a : Nat} {b1 : Option Nat} {words : List Bs} {acc : List Nd} {t6 tx : Bs} (hk : k < T.length) (hk1 : T[k].kind ≠ 1) (h1 : TkR T sz 6 k none t6 k1 b1) (h2 : TkR T sz 2 k1 b1 tx k2 (some a)) : tx = [] ∧ listS sz (f + 1) d words (T.drop k) acc = .error a := by
  have e : listS sz (f + 1) d words (T.drop k) acc = (do
      let (o, r1) ← Tpl.need sz 6 (T.drop k)
      let (n, r2) ← Tpl.need sz 2 r1
      tagS sz f d words acc o n r2) := by rw [drop_tok hk, listS_tag hk1]
  rw [e]
  rcases h1 with ⟨-, hk6, hkd, -, rfl, rfl⟩ | ⟨-, c, hc, -, rfl, rfl⟩ | ⟨c, h, -⟩
  · rcases h2 with ⟨-, _, _, -, -, h⟩ | ⟨-, c, hc, rfl, -, h⟩ | ⟨c, h, -⟩
    · cases h
    · injection h with h
      subst h
      exact ⟨rfl, by simp only [need_hit (sz := sz) hk6 hkd, hc, bind, Except.bind]⟩
    · cases h
  · rcases h2 with ⟨h, -⟩ | ⟨h, -⟩ | ⟨c', h, rfl, -, h'⟩
    · cases h
    · cases h
    · injection h with h
      subst h
      injection h' with h'
      subst h'
      exact ⟨rfl, by simp only [hc, bind, Except.bind]⟩
  · cases h
theorem tag_eq {T : List Tk} {sz f d k : Nat} {words : List Bs} {acc : List Nd} (hk : k < T.length) (hk1 : k + 1 < T.length) (h6 : T[k].kind = 6) (h2 : T[k + 1].kind = 2) : listS sz (f + 1) d words (T.drop k) acc = tagS sz f d words acc T[k] T[k + 1] (T.drop (k + 1 + 1)) := by
  rw [drop_tok hk, listS_tag (by rw [h6]; decide), ← drop_tok hk]
  simp only [need_hit (sz := sz) hk h6, need_hit (sz := sz) hk1 h2, bind, Except.bind]


set_option maxRecDepth 100000 in
set_option maxHeartbeats 16000000 in
theorem rlist_step (fuel : Nat) (ih : ∀ g, g < fuel → RListC g) : RListC fuel := by
  intro B ao cap T sz k d bad one two words w h hT hd hW hf
  obtain ⟨post, hpost⟩ : ∃ post, post = RLP B ao cap T sz k d bad w (listS sz fuel d words (T.drop k) []) := ⟨_, rfl⟩
  rw [← hpost]
  replace hpost := hid hpost
  have hBw := lt_of_at h.cell
  have hsm := h.small
  have hone := hid hW.one_ne
  replace h := hid h
  replace hT := hid hT
  replace ih := hid ih
  replace hf := hid hf
  replace hW := hid hW
  have hfo := fld_off
  go_enter Tryz.func25, Tryz.ntmps25
  go_wp2_with fail
  obtain ⟨R, hR⟩ : ∃ R, R = w.heap.size := ⟨_, rfl⟩
  rw [← hR] at hBw
  replace hR := hid hR
  go_loopg [8] (gM T.length k bad) (fun g e wr => ∃ (k' f : Nat) (acc : List Nd) (rows : List NC) (aov : Option Addr) (capv : Nat) (bad' : Option Nat), LsI T sz fuel d k words bad k' f acc rows.length bad' ∧ rows.length ≤ 1002 ∧ e = .slice aov rows.length capv ∧ Acc R wr e rows acc ∧ RS B ao cap T sz k' d (badI bad') wr ∧ Mod (Eq B) w wr ∧ g = gM T.length k' bad')
  case atStart =>
    refine ⟨k, fuel, [], [], none, 0, bad, ?_, Nat.zero_le _, rfl, ⟨Cdk.Own.nil _ _ _ _ _, .nil⟩, h.out, Mod.refl _ _, rfl⟩
    cases bad with
    | none => exact .inl ⟨rfl, rfl, hf.out rfl, Nat.le_refl _, rfl, Nat.le_refl _, Nat.zero_le _⟩
    | some a => exact .inr (.inr ⟨a, rfl, rfl⟩)
  case round =>
    obtain ⟨k', f, acc, rows, aov, capv, bad', hls, hal, rfl, hacc, hrs, hm, hg⟩ := hrel
    have hRr : R ≤ wr.heap.size := by have := hm.size; have := hR.out; omega
    cases bad' with
    | some a =>
      have i1 : decide ((a : Int) < 0) = false := decide_eq_false (by omega)
      have i2 : ¬ (a : Int) < 0 := by omega
      have hrs' : RS B ao cap T sz k' d (a : Nat) wr := hrs
      obtain ⟨c0, c1, c2, c3, c4⟩ := hrs'.cells
      replace hls := hid hls
      replace hacc := hid hacc
      replace hrs := hid hrs
      replace hrs' := hid hrs'
      replace hm := hid hm
      replace hg := hid hg
      go_wp2_with fail
      rw [hpost.out]
      refine ⟨none, 0, 0, [], [], k', some a, rfl, NodesAt.nil _ _, hrs.out, hm.out, ?_⟩
      rcases hls.out with ⟨-, h, -⟩ | ⟨hb, a', h, he⟩ | ⟨a', hb, h⟩
      · cases h
      · exact .inr (.inl ⟨hb, a', he, h⟩)
      · exact .inr (.inr ⟨a', hb, rfl, h⟩)
    | none =>
      rcases hls with ⟨rfl, -, hf1, hf2, hsp, hkk, hal1⟩ | ⟨-, a, h, -⟩ | ⟨a, -, h⟩
      rotate_left
      · cases h
      · cases h
      have hrs' : RS B ao cap T sz k' d (-1) wr := hrs
      obtain ⟨c0, c1, c2, c3, c4⟩ := hrs'.cells
      have hkT := hrs.le
      clear hrs
      replace hsp := hid hsp
      replace hacc := hid hacc
      replace hrs' := hid hrs'
      replace hm := hid hm
      replace hg := hid hg
      go_wp2_with fail
      refine (rnext_any _ hrs'.out).mono ?_
      rintro e wa ⟨rfl, hxa⟩
      unfold tokV
      obtain ⟨t, ht⟩ : ∃ t, t = hdT sz (T.drop k') := ⟨_, rfl⟩
      rw [← ht]
      replace ht := hid ht
      go_upto_region 4 with fail
      have hxn := hxa.alloc (.cells #[.int .i64 t.kind, .string ⟨t.text.toArray⟩, .int .i64 t.off] 77)
      have hN := heap_alloc_new wa (.cells #[.int .i64 t.kind, .string ⟨t.text.toArray⟩, .int .i64 t.off] 77)
      have hRN : R ≤ wa.heap.size := Nat.le_trans hRr hxa.size
      generalize (wa.alloc (.cells #[.int .i64 t.kind, .string ⟨t.text.toArray⟩, .int .i64 t.off] 77)) = wn at hxn hN ⊢
      generalize wa.heap.size = N at hN hRN ⊢
      have hrsn := hrs'.out.ext hxn
      have haccn := hid (hacc.out.mod hxn (fun _ h => h.elim))
      have hmn := hid (hm.out.then hxn (fun _ _ h => h.elim))
      have hRn := Nat.le_trans hRr hxn.size
      have hBN : ¬ B = N := by omega
      have hNB : ¬ N = B := by omega
      have n0 : wn.cell? ⟨N, 0, none⟩ = some (.int .i64 t.kind) := cell_of' hN 0
      clear c0 c1 c2 c3 c4 hxa hxn hrs' hacc hm
      have q0 : ((t.kind : Int) == 0) = decide (T.length ≤ k') := by
        rw [Bool.eq_iff_iff, beq_iff_eq, decide_eq_true_eq, ht.out]
        by_cases hk : k' < T.length
        · rw [hdT_at hk]
          have := hT.out.2 T[k'] (List.getElem_mem _)
          constructor
          · intro h; omega
          · intro h; omega
        · rw [hdT_end (by omega)]
          simp; omega
      by_cases hk : T.length ≤ k'
      · rw [decide_eq_true hk] at q0
        have hk9 : k' = T.length := by omega
        have ht9 := ht.out
        rw [hdT_end hk] at ht9
        clear ht
        subst ht9
        have hr9 : listS sz fuel d words (T.drop k) [] = if words.isEmpty then .ok (acc, [], []) else .error sz := by
          rw [hsp.out, List.drop_eq_nil_of_le hk, list_end (by omega)]
        replace hr9 := hid hr9
        have n2 : wn.cell? ⟨N, 2, none⟩ = some (.int .i64 sz) := cell_of' hN 2
        replace hN := hid hN
        cases hwe : words.isEmpty with
        | true =>
          rw [hwe] at hr9
          have hob : one.isEmpty = true := by rw [hone.out, hwe]
          replace hrsn := hid hrsn
          go_wp2_with fail
          rw [hpost.out]
          have hRR := hR.out
          exact ⟨aov, rows.length, capv, acc, [], k', none, rfl, haccn.out.nodes.mono (fun j hj => ⟨by omega, hj.2⟩), hrsn.out, hmn.out, .inl ⟨rfl, by rw [hr9.out, List.drop_eq_nil_of_le hk]; rfl, hkk, rfl⟩⟩
        | false =>
          rw [hwe] at hr9
          have hob : one.isEmpty = false := by rw [hone.out, hwe]
          have hM := hid (rmisfit_any sz wn hrsn)
          replace hrsn := hid hrsn
          go_wp2_with fail
          refine hM.out.mono ?_
          rintro e wo ⟨rfl, hrso, hmo⟩
          have hacco := hid (haccn.out.mod hmo (fun j hj => by omega))
          have hmwo := hid (hmn.out.trans hmo)
          replace hrso := hid hrso
          replace hmo := hid hmo
          go_wp2_with fail
          rw [hpost.out]
          have hRR := hR.out
          exact ⟨aov, rows.length, capv, acc, [], k', some sz, rfl, hacco.out.nodes.mono (fun j hj => ⟨by omega, hj.2⟩), hrso.out, hmwo.out, .inr (.inl ⟨rfl, sz, hr9.out, rfl⟩)⟩
      · rw [decide_eq_false hk] at q0
        have hk' : k' < T.length := by omega
        have ht9 := ht.out
        rw [hdT_at hk'] at ht9
        replace ht := ht9
        clear ht9
        obtain ⟨f1, rfl⟩ : ∃ f1, f = f1 + 1 := ⟨f - 1, by omega⟩
        replace ht := hid ht
        have q1 : ((t.kind : Int) == 1) = decide (t.kind = 1) := by rw [Bool.eq_iff_iff, beq_iff_eq, decide_eq_true_eq]; omega
        cases h1 : decide (t.kind = 1) with
        | true =>
          rw [h1] at q1
          rw [decide_eq_true_eq] at h1
          replace h1 := hid h1
          have n1 : wn.cell? ⟨N, 1, none⟩ = some (.string ⟨t.text.toArray⟩) := cell_of' hN 1
          obtain ⟨c0, c1, c2, c3, c4⟩ := hrsn.cells
          have z := free_of' hrsn.cell
          have hP := hrsn.put (k' := k' + 1) (d' := d) (bad' := -1) 1 (.int .i64 ((k' : Int) + 1)) (by omega) rfl
          have hmP : Mod (Eq B) wn (wn.setCell ⟨B, 1, none⟩ (.int .i64 ((k' : Int) + 1))) := (Mod.refl (Eq B) wn).setCell (fun _ => rfl) _
          replace hrsn := hid hrsn
          replace hP := hid hP
          replace hmP := hid hmP
          go_upto_region 10 with fail
          have n1 := hmP.out.cell n1 hBN
          have haccp := hid (haccn.out.mod hmP.out (fun j hj => by omega))
          have hmp := hid (hmn.out.trans hmP.out)
          have hRp := Nat.le_trans hRn hmP.out.size
          clear c0 c1 c2 c3 c4 z n0
          generalize (wn.setCell ⟨B, 1, none⟩ (.int .i64 ((k' : Int) + 1))) = wp at hP n1 haccp hmp hRp ⊢
          have hn := NodeAt.mk (F := fun j => R ≤ j ∧ j < wp.heap.size ∧ (Value.slice aov rows.length capv).ownBlock ≠ some j) (w := wp) ⟨1, t.text, [], [], 0, .slice none 0 0, .slice none 0 0, .slice none 0 0⟩ [] [] [] (StrsAt.nil _ _) (NodesAt.nil _ _) (NodesAt.nil _ _)
          replace hn := hid hn
          replace hN := hid hN
          clear hmP
          go_wp2_with (at_builtin; refine wpList_snoc rfl _ _ rfl _ _ rfl haccp.out (by omega) hn.out hRp rfl (fun g6 cap6 w6 H6 => ?_); go_frame)
          go_roundg (gM T.length (k' + 1) none)
          case measure =>
            have h9 : gk = T.length - k' + 1 := hg.out
            show T.length - (k' + 1) + 1 < gk
            omega
          case rel =>
            obtain ⟨hA6, hM6⟩ := H6.out
            have hRR := hR.out
            have hsp2 : listS sz (f1 + 1) d words (T.drop k') acc = listS sz f1 d words (T.drop (k' + 1)) (acc ++ [.mk 1 t.text [] [] 0 [] [] []]) := by
              rw [drop_tok hk', listS_text (by rw [← ht.out]; exact h1.out), ht.out]
            rw [List.length_append, List.length_singleton] at hA6
            exact ⟨k' + 1, f1, acc ++ [.mk 1 t.text [] [] 0 [] [] []], rows ++ [⟨1, t.text, [], [], 0, .slice none 0 0, .slice none 0 0, .slice none 0 0⟩], some ⟨g6, 0, none⟩, cap6, none, .inl ⟨rfl, rfl, by omega, by omega, by rw [hsp.out, hsp2], by omega, by simp only [List.length_append, List.length_singleton]; omega⟩, by simp only [List.length_append, List.length_singleton]; omega, by simp only [List.length_append, List.length_singleton], hA6, RS.keep h.out hP.out hM6 (fun j e => by omega), hmp.out.then hM6 (fun j hj e => by omega), rfl⟩
        | false =>
          rw [h1] at q1
          rw [decide_eq_false_iff_not] at h1
          have hk1 : T[k'].kind ≠ 1 := by rw [← ht.out]; exact h1
          replace h1 := hid h1
          replace hk1 := hid hk1
          go_wp2_with fail
          refine (rtake_gen 6 (by decide) none _ hrsn).mono ?_
          rintro e wb ⟨t6, k1, bad1, rfl, hrsb, hmb, htk6⟩
          have hNb := hmb.at hN hBN
          have haccb := hid (haccn.out.mod hmb (fun j hj => by omega))
          have hmwb := hid (hmn.out.trans hmb)
          have hRb := Nat.le_trans hRn hmb.size
          replace htk6 := hid htk6
          replace hrsn := hid hrsn
          clear hN n0 haccn hmn hRn hmb
          go_wp2_with fail
          refine (rnext_any _ hrsb).mono ?_
          rintro e wc ⟨rfl, hxc⟩
          obtain ⟨u, hu⟩ : ∃ u, u = hdT sz (T.drop k1) := ⟨_, rfl⟩
          rw [← hu]
          unfold tokV
          have hNc := hxc.at hNb (fun h => h)
          have haccc := hid (haccb.out.mod hxc (fun _ h => h.elim))
          have hmwc := hid (hmwb.out.then hxc (fun _ _ h => h.elim))
          have hRc := Nat.le_trans hRb hxc.size
          have hrsc := hrsb.ext hxc
          replace hu := hid hu
          clear hNb haccb hmwb hRb hrsb hxc
          go_wp2_with fail
          refine (rtake_gen 2 (by decide) bad1 _ hrsc).mono ?_
          rintro e wd ⟨tx, k2, bad2, rfl, hrsd, hmd, htk2⟩
          have hNd := hmd.at hNc hBN
          have haccd := hid (haccc.out.mod hmd (fun j hj => by omega))
          have hmwd := hid (hmwc.out.trans hmd)
          have hRd := Nat.le_trans hRc hmd.size
          replace htk2 := hid htk2
          clear hNc haccc hmwc hRc hrsc hmd
          cases bad2 with
          | some a =>
            have i1 : decide ((a : Int) < 0) = false := decide_eq_false (by omega)
            have i2 : ¬ (a : Int) < 0 := by omega
            have hrsd' : RS B ao cap T sz k2 d (a : Nat) wd := hrsd
            obtain ⟨c0, c1, c2, c3, c4⟩ := hrsd'.cells
            obtain ⟨rfl, he⟩ := tag_err (f := f1) (d := d) (words := words) (acc := acc) hk' hk1.out htk6.out htk2.out
            replace he := hid he
            replace hrsd := hid hrsd
            replace hrsd' := hid hrsd'
            replace hNd := hid hNd
            go_wp2_with fail
            go_roundg 0
            case measure =>
              have h9 : gk = T.length - k' + 1 := hg.out
              omega
            case rel =>
              exact ⟨k2, 0, acc, rows, aov, capv, some a, .inr (.inl ⟨rfl, a, rfl, by rw [hsp.out, he.out]⟩), hal, rfl, haccd.out, hrsd.out, hmwd.out, rfl⟩
          | none =>
            obtain ⟨hkk1, hkk2, hkd6, hkd2, htx, rfl, rfl⟩ := tag_two htk6.out htk2.out
            have htag := tag_eq (f := f1) (sz := sz) (d := d) (words := words) (acc := acc) hkk1 hkk2 hkd6 hkd2
            replace hsp := hid (hsp.out.trans htag)
            rw [hdT_at hkk2] at hu
            have huo : u.off = T[k' + 1].off := by rw [hu.out]
            replace huo := hid huo
            clear htag
            replace htx := hid htx
            replace hkd6 := hid hkd6
            replace hkd2 := hid hkd2
            have hrsd' : RS B ao cap T sz (k' + 1 + 1) d (-1) wd := hrsd
            obtain ⟨c0, c1, c2, c3, c4⟩ := hrsd'.cells
            have qn : tx.isEmpty = decide (tx = []) := by rw [Bool.eq_iff_iff, decide_eq_true_eq, List.isEmpty_iff]
            have qo : (tx == one) = decide (tx = one) := by rw [Bool.eq_iff_iff, decide_eq_true_eq, beq_iff_eq]
            have qt : (tx == two) = decide (tx = two) := by rw [Bool.eq_iff_iff, decide_eq_true_eq, beq_iff_eq]
            have qe : (tx == [101, 108, 115, 101]) = decide (tx = wElse) := by rw [Bool.eq_iff_iff, decide_eq_true_eq, beq_iff_eq]; rfl
            have qd : (tx == [101, 110, 100]) = decide (tx = wEnd) := by rw [Bool.eq_iff_iff, decide_eq_true_eq, beq_iff_eq]; rfl
            replace hrsd := hid hrsd
            by_cases hin : tx ∈ words
            · have hkw := hW.out.kw hin
              have hne : tx ≠ [] := by rcases hkw with e | e <;> rw [e] <;> decide
              have hor := (hW.out.mem hne).1 hin
              rw [decide_eq_false hne] at qn
              replace hin := hid hin
              replace hkw := hid hkw
              replace hne := hid hne
              replace hNd := hid hNd
              replace hrsd' := hid hrsd'
              by_cases ho1 : tx = one
              · rw [decide_eq_true ho1] at qo
                replace ho1 := hid ho1
                replace hor := hid hor
                go_wp2_with fail
                refine (rtake_gen 7 (by decide) none _ hrsd'.out).mono ?_
                rintro e we ⟨t7, k3, bad3, rfl, hrse, hme, htk7⟩
                have hacce := hid (haccd.out.mod hme (fun j hj => by omega))
                have hmwe := hid (hmwd.out.trans hme)
                replace htk7 := hid htk7
                replace hrse := hid hrse
                clear hme
                go_wp2_with fail
                rw [hpost.out]
                have hRR := hR.out
                refine ⟨aov, rows.length, capv, acc, tx, k3, bad3, rfl, hacce.out.nodes.mono (fun j hj => ⟨by omega, hj.2⟩), hrse.out, hmwe.out, ?_⟩
                have htag : listS sz fuel d words (T.drop k) [] = (do
                    let (_, r3) ← Tpl.need sz 7 (T.drop (k' + 1 + 1))
                    .ok (acc, tx, r3)) := by
                  rw [hsp.out]
                  unfold tagS
                  rw [← htx.out, if_pos hkw.out, if_pos hin.out]
                rcases htk7.out with ⟨-, hk7, hkd7, -, rfl, rfl⟩ | ⟨-, a, ha, -, rfl, rfl⟩ | ⟨a, h, -⟩
                · exact .inl ⟨rfl, by rw [htag, need_hit (sz := sz) hk7 hkd7]; rfl, by omega, rfl⟩
                · exact .inr (.inl ⟨rfl, a, by rw [htag, ha]; rfl, rfl⟩)
                · cases h
              · have ho2 : tx = two := hor.resolve_left ho1
                rw [decide_eq_false ho1] at qo
                rw [decide_eq_true ho2] at qt
                replace ho1 := hid ho1
                replace ho2 := hid ho2
                replace hor := hid hor
                go_wp2_with fail
                refine (rtake_gen 7 (by decide) none _ hrsd'.out).mono ?_
                rintro e we ⟨t7, k3, bad3, rfl, hrse, hme, htk7⟩
                have hacce := hid (haccd.out.mod hme (fun j hj => by omega))
                have hmwe := hid (hmwd.out.trans hme)
                replace htk7 := hid htk7
                replace hrse := hid hrse
                clear hme
                go_wp2_with fail
                rw [hpost.out]
                have hRR := hR.out
                refine ⟨aov, rows.length, capv, acc, tx, k3, bad3, rfl, hacce.out.nodes.mono (fun j hj => ⟨by omega, hj.2⟩), hrse.out, hmwe.out, ?_⟩
                have htag : listS sz fuel d words (T.drop k) [] = (do
                    let (_, r3) ← Tpl.need sz 7 (T.drop (k' + 1 + 1))
                    .ok (acc, tx, r3)) := by
                  rw [hsp.out]
                  unfold tagS
                  rw [← htx.out, if_pos hkw.out, if_pos hin.out]
                rcases htk7.out with ⟨-, hk7, hkd7, -, rfl, rfl⟩ | ⟨-, a, ha, -, rfl, rfl⟩ | ⟨a, h, -⟩
                · exact .inl ⟨rfl, by rw [htag, need_hit (sz := sz) hk7 hkd7]; rfl, by omega, rfl⟩
                · exact .inr (.inl ⟨rfl, a, by rw [htag, ha]; rfl, rfl⟩)
                · cases h
            · by_cases hkw : tx = wElse ∨ tx = wEnd
              · have hne : tx ≠ [] := by rcases hkw with e | e <;> rw [e] <;> decide
                have hor : ¬ (tx = one ∨ tx = two) := fun h => hin ((hW.out.mem hne).2 h)
                have ho1 : ¬ tx = one := fun h => hor (.inl h)
                have ho2 : ¬ tx = two := fun h => hor (.inr h)
                rw [decide_eq_false hne] at qn
                rw [decide_eq_false ho1] at qo
                rw [decide_eq_false ho2] at qt
                have hM := hid (rmisfit_any u.off wd hrsd')
                replace hrsd' := hid hrsd'
                replace hin := hid hin
                replace hne := hid hne
                replace hor := hid hor
                replace ho1 := hid ho1
                replace ho2 := hid ho2
                replace hNd := hid hNd
                rcases hkw with hkw | hkw
                · rw [decide_eq_true hkw] at qe
                  have hkwh : Hid (tx = wElse ∨ tx = wEnd) := hid (.inl hkw)
                  replace hkw := hid hkw
                  go_wp2_with fail
                  refine hM.out.mono ?_
                  rintro e we ⟨rfl, hrse, hme⟩
                  have hacce := hid (haccd.out.mod hme (fun j hj => by omega))
                  have hmwe := hid (hmwd.out.trans hme)
                  have i1 : decide ((u.off : Int) < 0) = false := decide_eq_false (by omega)
                  have i2 : ¬ (u.off : Int) < 0 := by omega
                  obtain ⟨c0, c1, c2, c3, c4⟩ := hrse.cells
                  replace hrse := hid hrse
                  clear hme
                  go_wp2_with fail
                  go_roundg 0
                  case measure =>
                    have h9 : gk = T.length - k' + 1 := hg.out
                    omega
                  case rel =>
                    refine ⟨k' + 1 + 1, 0, acc, rows, aov, capv, some u.off, .inr (.inl ⟨rfl, u.off, rfl, ?_⟩), hal, rfl, hacce.out, hrse.out, hmwe.out, rfl⟩
                    rw [hsp.out]
                    unfold tagS
                    rw [← htx.out, if_pos hkwh.out, if_neg hin.out, huo.out]
                · have hke : ¬ tx = wElse := by rw [hkw]; decide
                  rw [decide_eq_false hke] at qe
                  rw [decide_eq_true hkw] at qd
                  replace hke := hid hke
                  have hkwh : Hid (tx = wElse ∨ tx = wEnd) := hid (.inr hkw)
                  replace hkw := hid hkw
                  go_wp2_with fail
                  refine hM.out.mono ?_
                  rintro e we ⟨rfl, hrse, hme⟩
                  have hacce := hid (haccd.out.mod hme (fun j hj => by omega))
                  have hmwe := hid (hmwd.out.trans hme)
                  have i1 : decide ((u.off : Int) < 0) = false := decide_eq_false (by omega)
                  have i2 : ¬ (u.off : Int) < 0 := by omega
                  obtain ⟨c0, c1, c2, c3, c4⟩ := hrse.cells
                  replace hrse := hid hrse
                  clear hme
                  go_wp2_with fail
                  go_roundg 0
                  case measure =>
                    have h9 : gk = T.length - k' + 1 := hg.out
                    omega
                  case rel =>
                    refine ⟨k' + 1 + 1, 0, acc, rows, aov, capv, some u.off, .inr (.inl ⟨rfl, u.off, rfl, ?_⟩), hal, rfl, hacce.out, hrse.out, hmwe.out, rfl⟩
                    rw [hsp.out]
                    unfold tagS
                    rw [← htx.out, if_pos hkwh.out, if_neg hin.out, huo.out]
              · have he1 : ¬ tx = wElse := fun h => hkw (.inl h)
                have he2 : ¬ tx = wEnd := fun h => hkw (.inr h)
                rw [decide_eq_false he1] at qe
                rw [decide_eq_false he2] at qd
                have hnd := hid (rnode_any f1 (fun g hg => ih.out g (by omega)) d t.off tx wd hrsd' hT.out hd (by omega))
                have n2 : wd.cell? ⟨N, 2, none⟩ = some (.int .i64 t.off) := cell_of' hNd 2
                replace hrsd' := hid hrsd'
                replace hkw := hid hkw
                replace he1 := hid he1
                replace he2 := hid he2
                replace hNd := hid hNd
                by_cases hne : tx ≠ []
                · have hor : ¬ (tx = one ∨ tx = two) := fun h => hin ((hW.out.mem hne).2 h)
                  have ho1 : ¬ tx = one := fun h => hor (.inl h)
                  have ho2 : ¬ tx = two := fun h => hor (.inr h)
                  rw [decide_eq_false hne] at qn
                  rw [decide_eq_false ho1] at qo
                  rw [decide_eq_false ho2] at qt
                  replace hin := hid hin
                  replace hne := hid hne
                  replace hor := hid hor
                  replace ho1 := hid ho1
                  replace ho2 := hid ho2
                  go_wp2_with fail
                  refine hnd.out.mono ?_
                  rintro e we ⟨cc, nd, k3, bad3, rfl, hnde, hrse, hme, hndr⟩
                  obtain ⟨kd2, tx2, nm2, ar2, ct2, a1, m1, cp1, a2, m2, cp2, a3, m3, cp3, rfl⟩ := hnde.form
                  have hacce := hid (haccd.out.mod hme (fun j hj => by omega))
                  have hmwe := hid (hmwd.out.trans hme)
                  have hRe := Nat.le_trans hRd hme.size
                  have hn := hid (hnde.mono (F' := fun j => R ≤ j ∧ j < we.heap.size ∧ (Value.slice aov rows.length capv).ownBlock ≠ some j) (fun j hj => ⟨by have := hj.1; omega, hj.2, fun e => by have := (haccd.out.own.block j e).2; have := hj.1; omega⟩))
                  replace hrse := hid hrse
                  replace hndr := hid hndr
                  clear hnde hme hnd
                  unfold ncV ncC strV
                  go_wp2_with (at_builtin; refine wpList_snoc rfl _ _ rfl _ _ rfl hacce.out (by omega) hn.out hRe rfl (fun g6 cap6 w6 H6 => ?_); go_frame)
                  go_roundg (gM T.length k3 bad3)
                  case measure =>
                    have h9 : gk = T.length - k' + 1 := hg.out
                    rcases hndr.out with ⟨-, hk3, rfl⟩ | ⟨a, -, rfl⟩
                    · show T.length - k3 + 1 < gk
                      omega
                    · show 0 < gk
                      omega
                  case rel =>
                    obtain ⟨hA6, hM6⟩ := H6.out
                    have hRR := hR.out
                    have hrs3 := hrse.out.le
                    refine ⟨k3, f1, acc ++ [nd], rows ++ [⟨kd2, tx2, nm2, ar2, ct2, .slice a1 m1 cp1, .slice a2 m2 cp2, .slice a3 m3 cp3⟩], some ⟨g6, 0, none⟩, cap6, bad3, ?_, by simp only [List.length_append, List.length_singleton]; omega, rfl, hA6, RS.keep h.out hrse.out hM6 (fun j e => by omega), hmwe.out.then hM6 (fun j hj e => by omega), rfl⟩
                    have hsp3 := hsp.out
                    rw [tagS_node (by rw [← htx.out]; exact hkw.out)] at hsp3
                    rw [← htx.out, ← show t.off = T[k'].off by rw [ht.out]] at hsp3
                    rcases hndr.out with ⟨he, hk3, rfl⟩ | ⟨a, he, rfl⟩
                    · rw [he] at hsp3
                      exact .inl ⟨rfl, rfl, by omega, by omega, hsp3, by omega, by simp only [List.length_append, List.length_singleton]; omega⟩
                    · rw [he] at hsp3
                      exact .inr (.inl ⟨rfl, a, rfl, hsp3⟩)
                · replace hne : tx = [] := Decidable.not_not.1 hne
                  rw [decide_eq_true hne] at qn
                  replace hin := hid hin
                  replace hne := hid hne
                  clear qo qt
                  go_wp2_with fail
                  refine hnd.out.mono ?_
                  rintro e we ⟨cc, nd, k3, bad3, rfl, hnde, hrse, hme, hndr⟩
                  obtain ⟨kd2, tx2, nm2, ar2, ct2, a1, m1, cp1, a2, m2, cp2, a3, m3, cp3, rfl⟩ := hnde.form
                  have hacce := hid (haccd.out.mod hme (fun j hj => by omega))
                  have hmwe := hid (hmwd.out.trans hme)
                  have hRe := Nat.le_trans hRd hme.size
                  have hn := hid (hnde.mono (F' := fun j => R ≤ j ∧ j < we.heap.size ∧ (Value.slice aov rows.length capv).ownBlock ≠ some j) (fun j hj => ⟨by have := hj.1; omega, hj.2, fun e => by have := (haccd.out.own.block j e).2; have := hj.1; omega⟩))
                  replace hrse := hid hrse
                  replace hndr := hid hndr
                  clear hnde hme hnd
                  unfold ncV ncC strV
                  go_wp2_with (at_builtin; refine wpList_snoc rfl _ _ rfl _ _ rfl hacce.out (by omega) hn.out hRe rfl (fun g6 cap6 w6 H6 => ?_); go_frame)
                  go_roundg (gM T.length k3 bad3)
                  case measure =>
                    have h9 : gk = T.length - k' + 1 := hg.out
                    rcases hndr.out with ⟨-, hk3, rfl⟩ | ⟨a, -, rfl⟩
                    · show T.length - k3 + 1 < gk
                      omega
                    · show 0 < gk
                      omega
                  case rel =>
                    obtain ⟨hA6, hM6⟩ := H6.out
                    have hRR := hR.out
                    have hrs3 := hrse.out.le
                    refine ⟨k3, f1, acc ++ [nd], rows ++ [⟨kd2, tx2, nm2, ar2, ct2, .slice a1 m1 cp1, .slice a2 m2 cp2, .slice a3 m3 cp3⟩], some ⟨g6, 0, none⟩, cap6, bad3, ?_, by simp only [List.length_append, List.length_singleton]; omega, rfl, hA6, RS.keep h.out hrse.out hM6 (fun j e => by omega), hmwe.out.then hM6 (fun j hj e => by omega), rfl⟩
                    have hsp3 := hsp.out
                    rw [tagS_node (by rw [← htx.out]; exact hkw.out)] at hsp3
                    rw [← htx.out, ← show t.off = T[k'].off by rw [ht.out]] at hsp3
                    rcases hndr.out with ⟨he, hk3, rfl⟩ | ⟨a, he, rfl⟩
                    · rw [he] at hsp3
                      exact .inl ⟨rfl, rfl, by omega, by omega, hsp3, by omega, by simp only [List.length_append, List.length_singleton]; omega⟩
                    · rw [he] at hsp3
                      exact .inr (.inl ⟨rfl, a, rfl, hsp3⟩)
theorem rlist_any (fuel : Nat) : RListC fuel := by
  induction fuel using Nat.strongRecOn with
  | ind n ih => exact rlist_step n ih
end Go.Proofs.YtpgniljgaknlpaaGreatDoor
