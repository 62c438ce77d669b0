import Derived.Test.YtpgniljgaknlpaaGreatDoorR6
/-
  The reference parser's 'node'.
-/
namespace Go.Proofs.YtpgniljgaknlpaaGreatDoor
open Go.RowKit Cdk Tpl

/-- What 'node' reads. -/
def nodeS (sz f d o : Nat) (nm : Bs) (r2 : List Tk) : Except Nat (Nd × List Tk) :=
  if nm = wFor ∨ nm = wIf then (if d = 8 then .error o else if nm = wFor then loopS sz f (d + 1) r2 else condS sz f (d + 1) r2)
  else if nm = wInclude then do
    let (m, r3) ← Tpl.need sz 2 r2
    let (_, r4) ← Tpl.need sz 7 r3
    .ok (.mk 5 [] m.text [] 0 [] [] [], r4)
  else do
    let (fl, r4) ← fieldS sz f r2
    .ok (.mk 2 [] nm [] 0 fl [] [], r4)

theorem tagS_node {sz f d : Nat} {words : List Bs} {acc : List Nd} {o n : Tk} {r2 : List Tk} (h : ¬ (n.text = wElse ∨ n.text = wEnd)) : tagS sz f d words acc o n r2 = (do
    let (nd, r3) ← nodeS sz f d o.off n.text r2
    listS sz f d words r3 (acc ++ [nd])) := by
  unfold tagS nodeS
  rw [if_neg h]
  by_cases h1 : n.text = wFor ∨ n.text = wIf
  · rw [if_pos h1, if_pos h1]
    by_cases h2 : d = 8
    · rw [if_pos h2, if_pos h2]; rfl
    · rw [if_neg h2, if_neg h2]
      by_cases h3 : n.text = wFor
      · rw [if_pos h3, if_pos h3]
      · rw [if_neg h3, if_neg h3]
  · rw [if_neg h1, if_neg h1]
    by_cases h2 : n.text = wInclude
    · rw [if_pos h2, if_pos h2]
      cases Tpl.need sz 2 r2 with
      | error a => rfl
      | ok x =>
        obtain ⟨m, r3⟩ := x
        simp only [bind, Except.bind]
        cases Tpl.need sz 7 r3 with
        | error a => rfl
        | ok y => rfl
    · rw [if_neg h2, if_neg h2]
      cases fieldS sz f r2 with
      | error a => rfl
      | ok x => rfl

theorem incl_fin {T : List Tk} {sz f d o k k1 k2 : Nat} {b1 b2 : Option Nat} {nm m t7 : Bs} (hn : nm = wInclude) (h1 : TkR T sz 2 k none m k1 b1) (h2 : TkR T sz 7 k1 b1 t7 k2 b2) : NdR T k (nodeS sz f d o nm (T.drop k)) (.mk 5 [] m [] 0 [] [] []) k2 b2 := by
  have e : nodeS sz f d o nm (T.drop k) = (do
    let (m, r3) ← Tpl.need sz 2 (T.drop k)
    let (_, r4) ← Tpl.need sz 7 r3
    .ok (.mk 5 [] m.text [] 0 [] [] [], r4)) := by
    subst hn
    unfold nodeS
    rw [if_neg (by decide), if_pos rfl]
  rw [e]
  rcases h1 with ⟨-, hk, hkd, rfl, rfl, rfl⟩ | ⟨-, a, ha, rfl, rfl, rfl⟩ | ⟨a, h, -⟩
  · have n1 := need_hit (sz := sz) hk hkd
    rcases h2 with ⟨-, hk2, hkd2, -, rfl, rfl⟩ | ⟨-, a, ha, -, rfl, rfl⟩ | ⟨a, h, -⟩
    · have n2 := need_hit (sz := sz) hk2 hkd2
      exact .inl ⟨by simp only [n1, n2, bind, Except.bind], by omega, rfl⟩
    · exact .inr ⟨a, by simp only [n1, ha, bind, Except.bind], rfl⟩
    · cases h
  · rcases h2 with ⟨h, -⟩ | ⟨h, -⟩ | ⟨a', h, -, rfl, rfl⟩
    · cases h
    · cases h
    · cases h; exact .inr ⟨a, by simp only [ha, bind, Except.bind], rfl⟩
  · cases h

/-- What is left to do. -/
def gM (n k : Nat) : Option Nat → Nat
  | none => n - k + 1
  | some _ => 0

/-- A field's filters so far. -/
def FlR (T : List Tk) (sz f0 k : Nat) (f k' : Nat) (acc : List Bs) (bad : Option Nat) : Prop :=
  (bad = none ∧ filtersS sz f0 (T.drop k) [] = filtersS sz f (T.drop k') acc ∧ T.length - k' < f ∧ k ≤ k') ∨ (∃ a, bad = some a ∧ filtersS sz f0 (T.drop k) [] = .error a)

theorem field_fin {T : List Tk} {sz f0 f d o k k' k2 : Nat} {bad b2 : Option Nat} {nm t7 : Bs} {acc : List Bs} (h1 : ¬ (nm = wFor ∨ nm = wIf)) (h2 : ¬ nm = wInclude) (hf : FlR T sz f0 k f k' acc bad) (hm : bad = none → moreB 5 (T.drop k') = false) (h7 : TkR T sz 7 k' bad t7 k2 b2) :
    NdR T k (nodeS sz f0 d o nm (T.drop k)) (.mk 2 [] nm [] 0 acc [] []) k2 b2 := by
  unfold nodeS
  rw [if_neg h1, if_neg h2]
  rcases hf with ⟨rfl, hfs, hlt, hle⟩ | ⟨a, rfl, ha⟩
  · have h5 := hm rfl
    have hft : filtersS sz f (T.drop k') acc = .ok (acc, T.drop k') := by
      cases f with
      | zero => omega
      | succ f =>
        by_cases hk' : k' < T.length
        · rw [drop_tok hk'] at h5 ⊢
          simp only [moreB, decide_eq_false_iff_not] at h5
          simp only [filtersS, if_neg h5]
        · rw [List.drop_eq_nil_of_le (by omega)]; rfl
    rcases h7 with ⟨-, hk7, hkd7, -, rfl, rfl⟩ | ⟨-, a, ha, -, rfl, rfl⟩ | ⟨a, h, -⟩
    · exact .inl ⟨by simp only [fieldS, hfs, hft, need_hit (sz := sz) hk7 hkd7, bind, Except.bind], by omega, rfl⟩
    · exact .inr ⟨a, by simp only [fieldS, hfs, hft, ha, bind, Except.bind], rfl⟩
    · cases h
  · rcases h7 with ⟨h, -⟩ | ⟨h, -⟩ | ⟨a', h, -, rfl, rfl⟩
    · cases h
    · cases h
    · cases h; exact .inr ⟨a, by simp only [fieldS, ha, bind, Except.bind], rfl⟩

theorem filters_step {T : List Tk} {sz f0 k f k' k2 : Nat} {acc : List Bs} {tx : Bs} {b2 : Option Nat} (hf : FlR T sz f0 k f k' acc none) (hk : k' < T.length) (hkd : T[k'].kind = 5) (h2 : TkR T sz 2 (k' + 1) none tx k2 b2) : FlR T sz f0 k (f - 1) k2 (acc ++ [tx]) b2 := by
  rcases hf with ⟨-, hfs, hlt, hle⟩ | ⟨a, h, -⟩
  · cases f with
    | zero => omega
    | succ f =>
      rw [drop_tok hk] at hfs
      simp only [filtersS, if_pos hkd] at hfs
      rcases h2 with ⟨-, hk2, hkd2, rfl, rfl, rfl⟩ | ⟨-, a, ha, rfl, rfl, rfl⟩ | ⟨a, h, -⟩
      · refine .inl ⟨rfl, ?_, by omega, by omega⟩
        rw [hfs]
        simp only [need_hit (sz := sz) hk2 hkd2, bind, Except.bind, Nat.add_sub_cancel]
      · refine .inr ⟨a, rfl, ?_⟩
        rw [hfs]
        simp only [ha, bind, Except.bind]
      · cases h
  · cases h

/-- A node's eight cells are copied into R; the rest is the contract's. -/
theorem loop_fin2 {T : List Tk} {sz f d o k k' : Nat} {bad' : Option Nat} {nm : Bs} {nd : Nd} (hd : d ≠ 8) (hn : nm = wFor) (h : NdR T k (loopS sz f (d + 1) (T.drop k)) nd k' bad') : NdR T k (nodeS sz f d o nm (T.drop k)) nd k' bad' := by
  unfold nodeS
  rw [if_pos (.inl hn), if_neg hd, if_pos hn]; exact h
theorem cond_fin2 {T : List Tk} {sz f d o k k' : Nat} {bad' : Option Nat} {nm : Bs} {nd : Nd} (hd : d ≠ 8) (hn : nm = wIf) (h : NdR T k (condS sz f (d + 1) (T.drop k)) nd k' bad') : NdR T k (nodeS sz f d o nm (T.drop k)) nd k' bad' := by
  unfold nodeS
  rw [if_pos (.inr hn), if_neg hd, if_neg (by subst hn; decide)]; exact h


set_option maxRecDepth 100000 in
set_option maxHeartbeats 16000000 in
theorem rnode_any (f : Nat) (ih : ∀ g, g < f → RListC g) {B : Nat} {ao : Option Addr} {cap : Nat} {T : List Tk} {sz k : Nat} (d o : Nat) (nm : Bs) (w : World) (h : RS B ao cap T sz k d (-1) w) (hT : TokOk T) (hd : d ≤ 8) (hf : 2 * (T.length - k) + 1 ≤ f) :
    Calls Tryz.prog 45 #[.pointer (some ⟨B, 0, none⟩), .int .i64 o, .string ⟨nm.toArray⟩] w (NP B ao cap T sz k d w (nodeS sz f d o nm (T.drop k))) := by
  obtain ⟨post, hpost⟩ : ∃ post, post = NP B ao cap T sz k d w (nodeS sz f d o nm (T.drop k)) := ⟨_, rfl⟩
  rw [← hpost]
  replace hpost := hid hpost
  have hBw := lt_of_at h.cell
  have hsm := h.small
  replace h := hid h
  replace hT := hid hT
  replace ih := hid ih
  have hfk := fld_kind
  go_enter Tryz.func45, Tryz.ntmps45
  go_upto_region 1 with fail
  have hx1 := Mod.alloc (Mod.refl (fun _ => False) w) (.cells #[.int .i64 0, .string ⟨#[]⟩, .string ⟨#[]⟩, .string ⟨#[]⟩, .int .i64 0, .slice none 0 0, .slice none 0 0, .slice none 0 0] 36)
  have hR0 := heap_alloc_new w (.cells #[.int .i64 0, .string ⟨#[]⟩, .string ⟨#[]⟩, .string ⟨#[]⟩, .int .i64 0, .slice none 0 0, .slice none 0 0, .slice none 0 0] 36)
  have hs1 : (w.alloc (.cells #[.int .i64 0, .string ⟨#[]⟩, .string ⟨#[]⟩, .string ⟨#[]⟩, .int .i64 0, .slice none 0 0, .slice none 0 0, .slice none 0 0] 36)).heap.size = w.heap.size + 1 := World.size_alloc _ _
  generalize (w.alloc (.cells #[.int .i64 0, .string ⟨#[]⟩, .string ⟨#[]⟩, .string ⟨#[]⟩, .int .i64 0, .slice none 0 0, .slice none 0 0, .slice none 0 0] 36)) = w1 at hx1 hR0 hs1 ⊢
  obtain ⟨R, hR⟩ : ∃ R, R = w.heap.size := ⟨_, rfl⟩
  rw [← hR] at hR0 hs1 hBw ⊢
  replace hR := hid hR
  have hBR : ¬ B = R := by omega
  have hRB : ¬ R = B := by omega
  have hrs1 := h.out.ext hx1
  have hm1 : Hid (Mod (Eq B) w w1) := hid (hx1.mono (fun _ h => h.elim))
  replace hR0 := hid hR0
  clear hx1
  have qi : (nm == [105, 110, 99, 108, 117, 100, 101]) = decide (nm = wInclude) := by rw [Bool.eq_iff_iff, decide_eq_true_eq, beq_iff_eq]; rfl
  have qf : (nm == [102, 111, 114]) = decide (nm = wFor) := by rw [Bool.eq_iff_iff, decide_eq_true_eq, beq_iff_eq]; rfl
  have qif : (nm == [105, 102]) = decide (nm = wIf) := by rw [Bool.eq_iff_iff, decide_eq_true_eq, beq_iff_eq]; rfl
  cases hi : decide (nm = wInclude) with
  | true =>
    rw [hi] at qi
    rw [decide_eq_true_eq] at hi
    replace hi := hid hi
    replace hrs1 := hid hrs1
    go_wp2_with fail
    refine (rtake_gen 2 (by decide) none _ (hrs1.out)).mono ?_
    rintro e w2 ⟨m, k1, bad1, rfl, hrs2, hm2, htk1⟩
    have hR02 := hm2.at hR0.out hBR
    have hmw2 := hid (hm1.out.trans hm2)
    replace htk1 := hid htk1
    clear hm2
    go_wp2_with fail
    have hxa := Mod.alloc (Mod.refl (fun _ => False) w2) (.cells #[.int .i64 5, .string ⟨#[]⟩, .string ⟨(m : Bs).toArray⟩, .string ⟨#[]⟩, .int .i64 0, .slice none 0 0, .slice none 0 0, .slice none 0 0] 36)
    have hQa := heap_alloc_new w2 (.cells #[.int .i64 5, .string ⟨#[]⟩, .string ⟨(m : Bs).toArray⟩, .string ⟨#[]⟩, .int .i64 0, .slice none 0 0, .slice none 0 0, .slice none 0 0] 36)
    have hRQ : R < w2.heap.size := lt_of_at hR02
    generalize hQ : w2.heap.size = Q at hQa hRQ ⊢
    generalize (w2.alloc (.cells #[.int .i64 5, .string ⟨#[]⟩, .string ⟨(m : Bs).toArray⟩, .string ⟨#[]⟩, .int .i64 0, .slice none 0 0, .slice none 0 0, .slice none 0 0] 36)) = wa at hxa hQa ⊢
    have hBQ : ¬ B = Q := by have := lt_of_at hrs2.cell; omega
    have hQR : ¬ Q = R := by omega
    have hRQ' : ¬ R = Q := by omega
    have hRa := hxa.at hR02 (fun h => h)
    have hrsa := hrs2.ext hxa
    have hma := hid (hmw2.out.then hxa (fun _ _ h => h.elim))
    replace hQ := hid hQ
    clear hxa hrs2 hmw2 hR02
    refine (rtake_gen 7 (by decide) bad1 _ hrsa).mono ?_
    rintro e wg ⟨t7, k2, bad2, rfl, hrsg, hmg, htk2⟩
    have hRg := hmg.at hRa hBR
    have hQg := hmg.at hQa hBQ
    have hmwg := hid (hma.out.trans hmg)
    obtain ⟨a0, a1, a2, a3, a4, a5, a6, a7⟩ := cells8 hQg
    obtain ⟨b0, b1, b2, b3, b4, b5, b6, b7⟩ := cells8 hRg
    have z1 := free_of' hRg
    replace hRa := hid hRa
    replace hQa := hid hQa
    replace hQg := hid hQg
    replace hrsa := hid hrsa
    replace htk2 := hid htk2
    replace hrsg := hid hrsg
    clear hmg
    go_wp2_with fail

    change bodyPost _ _ _ _ _ (put8 wg R (.int .i64 5) (.string ⟨#[]⟩) (.string ⟨(m : Bs).toArray⟩) (.string ⟨#[]⟩) (.int .i64 0) (.slice none 0 0) (.slice none 0 0) (.slice none 0 0))
    have hRz := put8_at (x0 := .int .i64 5) (x1 := .string ⟨#[]⟩) (x2 := .string ⟨(m : Bs).toArray⟩) (x3 := .string ⟨#[]⟩) (x4 := .int .i64 0) (x5 := .slice none 0 0) (x6 := .slice none 0 0) (x7 := .slice none 0 0) hRg
    have hmz := put8_mod wg R (.int .i64 5) (.string ⟨#[]⟩) (.string ⟨(m : Bs).toArray⟩) (.string ⟨#[]⟩) (.int .i64 0) (.slice none 0 0) (.slice none 0 0) (.slice none 0 0)
    generalize (put8 wg R (.int .i64 5) (.string ⟨#[]⟩) (.string ⟨(m : Bs).toArray⟩) (.string ⟨#[]⟩) (.int .i64 0) (.slice none 0 0) (.slice none 0 0) (.slice none 0 0)) = wz at hRz hmz ⊢
    refine bodyPost_ret (results_cell_row rfl _ _ R _ _ _ _ rfl hRz Tryz.underlying36 rfl node_size) rfl ?_
    rw [hpost.out]
    have hRR := hR.out
    have hrsz := RS.keep h.out hrsg.out hmz (fun j e => by omega)
    exact ⟨⟨5, [], m, [], 0, .slice none 0 0, .slice none 0 0, .slice none 0 0⟩, .mk 5 [] m [] 0 [] [] [], k2, bad2, rfl, .mk ⟨5, [], m, [], 0, .slice none 0 0, .slice none 0 0, .slice none 0 0⟩ [] [] [] (StrsAt.nil _ _) (NodesAt.nil _ _) (NodesAt.nil _ _), hrsz, hmwg.out.then hmz (fun j hj e => by omega), incl_fin hi.out htk1.out htk2.out⟩
  | false =>
    rw [hi] at qi
    rw [decide_eq_false_iff_not] at hi
    replace hi := hid hi
    obtain ⟨c0, c1, c2, c3, c4⟩ := hrs1.cells
    have z := free_of' hrs1.cell
    replace hrs1 := hid hrs1
    cases hfo : decide (nm = wFor) with
    | true =>
      rw [hfo] at qf
      rw [decide_eq_true_eq] at hfo
      replace hfo := hid hfo
      have hfi : Hid (nm = wFor ∨ nm = wIf) := hid (.inl hfo.out)
      by_cases h8 : d = 8
      · skip
        obtain rfl := h8
        have q8 : (((8 : Nat) : Int) == 8) = true := rfl
        have hM := hid (rmisfit_any o w1 hrs1.out)
        go_wp2_with fail
        refine hM.out.mono ?_
        rintro e wg ⟨rfl, hrsg, hmg⟩
        have hRg := hmg.at hR0.out hBR
        have hmwg := hid (hm1.out.trans hmg)
        obtain ⟨b0, b1, b2, b3, b4, b5, b6, b7⟩ := cells8 hRg
        have z1 := free_of' hRg
        replace hrsg := hid hrsg
        clear hmg
        go_wp2_with fail

        change bodyPost _ _ _ _ _ (put8 wg R (.int .i64 0) (.string ⟨#[]⟩) (.string ⟨#[]⟩) (.string ⟨#[]⟩) (.int .i64 0) (.slice none 0 0) (.slice none 0 0) (.slice none 0 0))
        have hRz := put8_at (x0 := .int .i64 0) (x1 := .string ⟨#[]⟩) (x2 := .string ⟨#[]⟩) (x3 := .string ⟨#[]⟩) (x4 := .int .i64 0) (x5 := .slice none 0 0) (x6 := .slice none 0 0) (x7 := .slice none 0 0) hRg
        have hmz := put8_mod wg R (.int .i64 0) (.string ⟨#[]⟩) (.string ⟨#[]⟩) (.string ⟨#[]⟩) (.int .i64 0) (.slice none 0 0) (.slice none 0 0) (.slice none 0 0)
        generalize (put8 wg R (.int .i64 0) (.string ⟨#[]⟩) (.string ⟨#[]⟩) (.string ⟨#[]⟩) (.int .i64 0) (.slice none 0 0) (.slice none 0 0) (.slice none 0 0)) = wz at hRz hmz ⊢
        refine bodyPost_ret (results_cell_row rfl _ _ R _ _ _ _ rfl hRz Tryz.underlying36 rfl node_size) rfl ?_
        rw [hpost.out]
        have hRR := hR.out
        have hrsz := RS.keep h.out hrsg.out hmz (fun j e => by omega)
        exact ⟨⟨0, [], [], [], 0, .slice none 0 0, .slice none 0 0, .slice none 0 0⟩, .mk 0 [] [] [] 0 [] [] [], k, some o, rfl, .mk ⟨0, [], [], [], 0, .slice none 0 0, .slice none 0 0, .slice none 0 0⟩ [] [] [] (StrsAt.nil _ _) (NodesAt.nil _ _) (NodesAt.nil _ _), hrsz, hmwg.out.then hmz (fun j hj e => by omega), .inr ⟨o, by unfold nodeS; rw [if_pos hfi.out, if_pos rfl], rfl⟩⟩
      · skip
        have q8 : ((d : Int) == 8) = false := by rw [beq_eq_false_iff_ne]; omega
        have hdd : d ≤ 7 := by omega
        have hP := hrs1.out.put (k' := k) (d' := d + 1) (bad' := -1) 3 (.int .i64 ((d : Int) + 1)) hrs1.out.le rfl
        have hmP : Mod (Eq B) w1 (w1.setCell ⟨B, 3, none⟩ (.int .i64 ((d : Int) + 1))) := (Mod.refl (Eq B) w1).setCell (fun _ => rfl) _
        have hsP : (w1.setCell ⟨B, 3, none⟩ (.int .i64 ((d : Int) + 1))).heap.size = w1.heap.size := by simp [World.setCell]
        replace hP := hid hP
        replace hmP := hid hmP
        go_upto_region 13 with fail
        have hxa := Mod.alloc (Mod.refl (fun _ => False) (w1.setCell ⟨B, 3, none⟩ (.int .i64 ((d : Int) + 1)))) (.cells #[.int .i64 0, .string ⟨#[]⟩, .string ⟨#[]⟩, .string ⟨#[]⟩, .int .i64 0, .slice none 0 0, .slice none 0 0, .slice none 0 0] 36)
        have hQa := heap_alloc_new (w1.setCell ⟨B, 3, none⟩ (.int .i64 ((d : Int) + 1))) (.cells #[.int .i64 0, .string ⟨#[]⟩, .string ⟨#[]⟩, .string ⟨#[]⟩, .int .i64 0, .slice none 0 0, .slice none 0 0, .slice none 0 0] 36)
        have hRa := hxa.at (hmP.out.at hR0.out hBR) (fun h => h)
        have hrsa := hP.out.ext hxa
        have hma := hid ((hm1.out.trans hmP.out).then hxa (fun _ _ h => h.elim))
        obtain ⟨Q, hQ⟩ : ∃ Q, Q = R + 1 := ⟨_, rfl⟩
        have hRQ : R < Q := by omega
        rw [hsP, hs1, ← hQ] at hQa
        rw [← hQ]
        generalize ((w1.setCell ⟨B, 3, none⟩ (.int .i64 ((d : Int) + 1))).alloc (.cells #[.int .i64 0, .string ⟨#[]⟩, .string ⟨#[]⟩, .string ⟨#[]⟩, .int .i64 0, .slice none 0 0, .slice none 0 0, .slice none 0 0] 36)) = wa at hxa hQa hRa hrsa hma ⊢
        have hBQ : ¬ B = Q := by omega
        have hQR : ¬ Q = R := by omega
        have hRQ' : ¬ R = Q := by omega
        replace hQ := hid hQ
        clear hxa hP hmP hsP c0 c1 c2 c3 c4 z
        replace hRa := hid hRa
        replace hQa := hid hQa
        replace hrsa := hid hrsa
        go_wp2_with fail
        refine (rloop_any (f - 1) (ih.out (f - 1) (by omega)) (d + 1) wa hrsa.out hT.out (by omega) (by omega)).mono ?_
        rintro e wb ⟨cc, nd, k', bad', rfl, hnd, hrsb, hmb, hndr⟩
        have hRb := hmb.at hRa.out hBR
        have hQb := hmb.at hQa.out hBQ
        have hmwb := hid (hma.out.trans hmb)
        obtain ⟨kd2, tx2, nm2, ar2, ct2, a1, m1, c1, a2, m2, c2, a3, m3, c3, rfl⟩ := hnd.form
        obtain ⟨p0, p1, p2, p3, p4, p5, p6, p7⟩ := cells8 hQb
        have z2 := free_of' hQb
        have hQaw := lt_of_at hQa.out
        replace hnd := hid hnd
        rw [show f - 1 + 1 = f by omega] at hndr
        replace hndr := hid hndr
        replace hRb := hid hRb
        replace hQb := hid hQb
        replace hrsb := hid hrsb
        clear hmb
        unfold ncV ncC strV
        go_upto_region 16 with fail
        change Code.wp _ _ _ _ (put8 wb Q (.int .i64 kd2) (.string ⟨tx2.toArray⟩) (.string ⟨nm2.toArray⟩) (.string ⟨ar2.toArray⟩) (.int .i64 ct2) (.slice a1 m1 c1) (.slice a2 m2 c2) (.slice a3 m3 c3))
        have hQc := put8_at (x0 := .int .i64 kd2) (x1 := .string ⟨tx2.toArray⟩) (x2 := .string ⟨nm2.toArray⟩) (x3 := .string ⟨ar2.toArray⟩) (x4 := .int .i64 ct2) (x5 := .slice a1 m1 c1) (x6 := .slice a2 m2 c2) (x7 := .slice a3 m3 c3) hQb.out
        have hmc := put8_mod wb Q (.int .i64 kd2) (.string ⟨tx2.toArray⟩) (.string ⟨nm2.toArray⟩) (.string ⟨ar2.toArray⟩) (.int .i64 ct2) (.slice a1 m1 c1) (.slice a2 m2 c2) (.slice a3 m3 c3)
        clear p0 p1 p2 p3 p4 p5 p6 p7 z2
        generalize (put8 wb Q (.int .i64 kd2) (.string ⟨tx2.toArray⟩) (.string ⟨nm2.toArray⟩) (.string ⟨ar2.toArray⟩) (.int .i64 ct2) (.slice a1 m1 c1) (.slice a2 m2 c2) (.slice a3 m3 c3)) = wc at hQc hmc ⊢
        have hRc := hmc.at hRb.out hQR
        have hrsc := RS.keep h.out hrsb.out hmc (fun j e => by have := hR.out; omega)
        obtain ⟨c0, c1', c2', c3', c4⟩ := hrsc.cells
        have z := free_of' hrsc.cell
        have w9 : ((d + 1 : Nat) : Int) = (d : Int) + 1 := by omega
        rw [w9] at c3'
        have hP := hrsc.put (k' := k') (d' := d) (bad' := badI bad') 3 (.int .i64 (d : Int)) hrsc.le rfl
        have hmP : Mod (Eq B) wc (wc.setCell ⟨B, 3, none⟩ (.int .i64 (d : Int))) := (Mod.refl (Eq B) wc).setCell (fun _ => rfl) _
        have hmd := hid (((hmwb.out.then hmc (fun j hj e => by have := hR.out; omega))).trans hmP)
        have hRd := hmP.at hRc hBR
        have hQd := hmP.at hQc hBQ
        obtain ⟨a0', a1', a2', a3', a4', a5', a6', a7'⟩ := cells8 hQd
        obtain ⟨b0, b1, b2, b3, b4, b5, b6, b7⟩ := cells8 hRd
        have z1 := free_of' hRd
        have hnc := hid ((hnd.out.mod hmc (fun j hj e => by have := hj.1; omega)).mod hmP (fun j hj e => by have := hj.1; omega))
        have hszc := hmc.size
        replace hP := hid hP
        replace hmc := hid hmc
        replace hmP := hid hmP
        replace hRc := hid hRc
        replace hQc := hid hQc
        replace hrsc := hid hrsc
        replace hRd := hid hRd
        replace hQd := hid hQd
        go_upto_region 17 with fail
        generalize (wc.setCell ⟨B, 3, none⟩ (.int .i64 (d : Int))) = wg at hP hmP hmd hRd hQd a0' a1' a2' a3' a4' a5' a6' a7' b0 b1 b2 b3 b4 b5 b6 b7 z1 hnc ⊢
        go_wp2_with fail
        have hRg := hRd.out

        change bodyPost _ _ _ _ _ (put8 wg R (.int .i64 kd2) (.string ⟨tx2.toArray⟩) (.string ⟨nm2.toArray⟩) (.string ⟨ar2.toArray⟩) (.int .i64 ct2) (.slice a1 m1 c1) (.slice a2 m2 c2) (.slice a3 m3 c3))
        have hRz := put8_at (x0 := .int .i64 kd2) (x1 := .string ⟨tx2.toArray⟩) (x2 := .string ⟨nm2.toArray⟩) (x3 := .string ⟨ar2.toArray⟩) (x4 := .int .i64 ct2) (x5 := .slice a1 m1 c1) (x6 := .slice a2 m2 c2) (x7 := .slice a3 m3 c3) hRg
        have hmz := put8_mod wg R (.int .i64 kd2) (.string ⟨tx2.toArray⟩) (.string ⟨nm2.toArray⟩) (.string ⟨ar2.toArray⟩) (.int .i64 ct2) (.slice a1 m1 c1) (.slice a2 m2 c2) (.slice a3 m3 c3)
        generalize (put8 wg R (.int .i64 kd2) (.string ⟨tx2.toArray⟩) (.string ⟨nm2.toArray⟩) (.string ⟨ar2.toArray⟩) (.int .i64 ct2) (.slice a1 m1 c1) (.slice a2 m2 c2) (.slice a3 m3 c3)) = wz at hRz hmz ⊢
        refine bodyPost_ret (results_cell_row rfl _ _ R _ _ _ _ rfl hRz Tryz.underlying36 rfl node_size) rfl ?_
        rw [hpost.out]
        have hRR := hR.out
        have hrsz := RS.keep h.out hP.out hmz (fun j e => by omega)
        have hsg := hmP.out.size
        have hnz := (hnc.out.mod hmz (fun j hj e => by have := hj.1; omega)).mono (F' := Since w wz) (fun j hj => ⟨by have := hj.1; omega, by have := hj.2; have := hmz.size; omega⟩)
        exact ⟨⟨kd2, tx2, nm2, ar2, ct2, .slice a1 m1 c1, .slice a2 m2 c2, .slice a3 m3 c3⟩, nd, k', bad', rfl, hnz, hrsz, hmd.out.then hmz (fun j hj e => by omega), loop_fin2 h8 hfo.out hndr.out⟩
    | false =>
      rw [hfo] at qf
      rw [decide_eq_false_iff_not] at hfo
      replace hfo := hid hfo
      cases hif : decide (nm = wIf) with
      | true =>
        rw [hif] at qif
        rw [decide_eq_true_eq] at hif
        replace hif := hid hif
        have hfi : Hid (nm = wFor ∨ nm = wIf) := hid (.inr hif.out)
        by_cases h8 : d = 8
        · skip
          obtain rfl := h8
          have q8 : (((8 : Nat) : Int) == 8) = true := rfl
          have hM := hid (rmisfit_any o w1 hrs1.out)
          go_wp2_with fail
          refine hM.out.mono ?_
          rintro e wg ⟨rfl, hrsg, hmg⟩
          have hRg := hmg.at hR0.out hBR
          have hmwg := hid (hm1.out.trans hmg)
          obtain ⟨b0, b1, b2, b3, b4, b5, b6, b7⟩ := cells8 hRg
          have z1 := free_of' hRg
          replace hrsg := hid hrsg
          clear hmg
          go_wp2_with fail

          change bodyPost _ _ _ _ _ (put8 wg R (.int .i64 0) (.string ⟨#[]⟩) (.string ⟨#[]⟩) (.string ⟨#[]⟩) (.int .i64 0) (.slice none 0 0) (.slice none 0 0) (.slice none 0 0))
          have hRz := put8_at (x0 := .int .i64 0) (x1 := .string ⟨#[]⟩) (x2 := .string ⟨#[]⟩) (x3 := .string ⟨#[]⟩) (x4 := .int .i64 0) (x5 := .slice none 0 0) (x6 := .slice none 0 0) (x7 := .slice none 0 0) hRg
          have hmz := put8_mod wg R (.int .i64 0) (.string ⟨#[]⟩) (.string ⟨#[]⟩) (.string ⟨#[]⟩) (.int .i64 0) (.slice none 0 0) (.slice none 0 0) (.slice none 0 0)
          generalize (put8 wg R (.int .i64 0) (.string ⟨#[]⟩) (.string ⟨#[]⟩) (.string ⟨#[]⟩) (.int .i64 0) (.slice none 0 0) (.slice none 0 0) (.slice none 0 0)) = wz at hRz hmz ⊢
          refine bodyPost_ret (results_cell_row rfl _ _ R _ _ _ _ rfl hRz Tryz.underlying36 rfl node_size) rfl ?_
          rw [hpost.out]
          have hRR := hR.out
          have hrsz := RS.keep h.out hrsg.out hmz (fun j e => by omega)
          exact ⟨⟨0, [], [], [], 0, .slice none 0 0, .slice none 0 0, .slice none 0 0⟩, .mk 0 [] [] [] 0 [] [] [], k, some o, rfl, .mk ⟨0, [], [], [], 0, .slice none 0 0, .slice none 0 0, .slice none 0 0⟩ [] [] [] (StrsAt.nil _ _) (NodesAt.nil _ _) (NodesAt.nil _ _), hrsz, hmwg.out.then hmz (fun j hj e => by omega), .inr ⟨o, by unfold nodeS; rw [if_pos hfi.out, if_pos rfl], rfl⟩⟩
        · skip
          have q8 : ((d : Int) == 8) = false := by rw [beq_eq_false_iff_ne]; omega
          have hdd : d ≤ 7 := by omega
          have hP := hrs1.out.put (k' := k) (d' := d + 1) (bad' := -1) 3 (.int .i64 ((d : Int) + 1)) hrs1.out.le rfl
          have hmP : Mod (Eq B) w1 (w1.setCell ⟨B, 3, none⟩ (.int .i64 ((d : Int) + 1))) := (Mod.refl (Eq B) w1).setCell (fun _ => rfl) _
          have hsP : (w1.setCell ⟨B, 3, none⟩ (.int .i64 ((d : Int) + 1))).heap.size = w1.heap.size := by simp [World.setCell]
          replace hP := hid hP
          replace hmP := hid hmP
          go_upto_region 13 with fail
          have hxa := Mod.alloc (Mod.refl (fun _ => False) (w1.setCell ⟨B, 3, none⟩ (.int .i64 ((d : Int) + 1)))) (.cells #[.int .i64 0, .string ⟨#[]⟩, .string ⟨#[]⟩, .string ⟨#[]⟩, .int .i64 0, .slice none 0 0, .slice none 0 0, .slice none 0 0] 36)
          have hQa := heap_alloc_new (w1.setCell ⟨B, 3, none⟩ (.int .i64 ((d : Int) + 1))) (.cells #[.int .i64 0, .string ⟨#[]⟩, .string ⟨#[]⟩, .string ⟨#[]⟩, .int .i64 0, .slice none 0 0, .slice none 0 0, .slice none 0 0] 36)
          have hRa := hxa.at (hmP.out.at hR0.out hBR) (fun h => h)
          have hrsa := hP.out.ext hxa
          have hma := hid ((hm1.out.trans hmP.out).then hxa (fun _ _ h => h.elim))
          obtain ⟨Q, hQ⟩ : ∃ Q, Q = R + 1 := ⟨_, rfl⟩
          have hRQ : R < Q := by omega
          rw [hsP, hs1, ← hQ] at hQa
          rw [← hQ]
          generalize ((w1.setCell ⟨B, 3, none⟩ (.int .i64 ((d : Int) + 1))).alloc (.cells #[.int .i64 0, .string ⟨#[]⟩, .string ⟨#[]⟩, .string ⟨#[]⟩, .int .i64 0, .slice none 0 0, .slice none 0 0, .slice none 0 0] 36)) = wa at hxa hQa hRa hrsa hma ⊢
          have hBQ : ¬ B = Q := by omega
          have hQR : ¬ Q = R := by omega
          have hRQ' : ¬ R = Q := by omega
          replace hQ := hid hQ
          clear hxa hP hmP hsP c0 c1 c2 c3 c4 z
          replace hRa := hid hRa
          replace hQa := hid hQa
          replace hrsa := hid hrsa
          go_wp2_with fail
          refine (rcond_any (f - 1) (ih.out (f - 1) (by omega)) (d + 1) wa hrsa.out hT.out (by omega) (by omega)).mono ?_
          rintro e wb ⟨cc, nd, k', bad', rfl, hnd, hrsb, hmb, hndr⟩
          have hRb := hmb.at hRa.out hBR
          have hQb := hmb.at hQa.out hBQ
          have hmwb := hid (hma.out.trans hmb)
          obtain ⟨kd2, tx2, nm2, ar2, ct2, a1, m1, c1, a2, m2, c2, a3, m3, c3, rfl⟩ := hnd.form
          obtain ⟨p0, p1, p2, p3, p4, p5, p6, p7⟩ := cells8 hQb
          have z2 := free_of' hQb
          have hQaw := lt_of_at hQa.out
          replace hnd := hid hnd
          rw [show f - 1 + 1 = f by omega] at hndr
          replace hndr := hid hndr
          replace hRb := hid hRb
          replace hQb := hid hQb
          replace hrsb := hid hrsb
          clear hmb
          unfold ncV ncC strV
          go_upto_region 16 with fail
          change Code.wp _ _ _ _ (put8 wb Q (.int .i64 kd2) (.string ⟨tx2.toArray⟩) (.string ⟨nm2.toArray⟩) (.string ⟨ar2.toArray⟩) (.int .i64 ct2) (.slice a1 m1 c1) (.slice a2 m2 c2) (.slice a3 m3 c3))
          have hQc := put8_at (x0 := .int .i64 kd2) (x1 := .string ⟨tx2.toArray⟩) (x2 := .string ⟨nm2.toArray⟩) (x3 := .string ⟨ar2.toArray⟩) (x4 := .int .i64 ct2) (x5 := .slice a1 m1 c1) (x6 := .slice a2 m2 c2) (x7 := .slice a3 m3 c3) hQb.out
          have hmc := put8_mod wb Q (.int .i64 kd2) (.string ⟨tx2.toArray⟩) (.string ⟨nm2.toArray⟩) (.string ⟨ar2.toArray⟩) (.int .i64 ct2) (.slice a1 m1 c1) (.slice a2 m2 c2) (.slice a3 m3 c3)
          clear p0 p1 p2 p3 p4 p5 p6 p7 z2
          generalize (put8 wb Q (.int .i64 kd2) (.string ⟨tx2.toArray⟩) (.string ⟨nm2.toArray⟩) (.string ⟨ar2.toArray⟩) (.int .i64 ct2) (.slice a1 m1 c1) (.slice a2 m2 c2) (.slice a3 m3 c3)) = wc at hQc hmc ⊢
          have hRc := hmc.at hRb.out hQR
          have hrsc := RS.keep h.out hrsb.out hmc (fun j e => by have := hR.out; omega)
          obtain ⟨c0, c1', c2', c3', c4⟩ := hrsc.cells
          have z := free_of' hrsc.cell
          have w9 : ((d + 1 : Nat) : Int) = (d : Int) + 1 := by omega
          rw [w9] at c3'
          have hP := hrsc.put (k' := k') (d' := d) (bad' := badI bad') 3 (.int .i64 (d : Int)) hrsc.le rfl
          have hmP : Mod (Eq B) wc (wc.setCell ⟨B, 3, none⟩ (.int .i64 (d : Int))) := (Mod.refl (Eq B) wc).setCell (fun _ => rfl) _
          have hmd := hid (((hmwb.out.then hmc (fun j hj e => by have := hR.out; omega))).trans hmP)
          have hRd := hmP.at hRc hBR
          have hQd := hmP.at hQc hBQ
          obtain ⟨a0', a1', a2', a3', a4', a5', a6', a7'⟩ := cells8 hQd
          obtain ⟨b0, b1, b2, b3, b4, b5, b6, b7⟩ := cells8 hRd
          have z1 := free_of' hRd
          have hnc := hid ((hnd.out.mod hmc (fun j hj e => by have := hj.1; omega)).mod hmP (fun j hj e => by have := hj.1; omega))
          have hszc := hmc.size
          replace hP := hid hP
          replace hmc := hid hmc
          replace hmP := hid hmP
          replace hRc := hid hRc
          replace hQc := hid hQc
          replace hrsc := hid hrsc
          replace hRd := hid hRd
          replace hQd := hid hQd
          go_upto_region 17 with fail
          generalize (wc.setCell ⟨B, 3, none⟩ (.int .i64 (d : Int))) = wg at hP hmP hmd hRd hQd a0' a1' a2' a3' a4' a5' a6' a7' b0 b1 b2 b3 b4 b5 b6 b7 z1 hnc ⊢
          go_wp2_with fail
          have hRg := hRd.out

          change bodyPost _ _ _ _ _ (put8 wg R (.int .i64 kd2) (.string ⟨tx2.toArray⟩) (.string ⟨nm2.toArray⟩) (.string ⟨ar2.toArray⟩) (.int .i64 ct2) (.slice a1 m1 c1) (.slice a2 m2 c2) (.slice a3 m3 c3))
          have hRz := put8_at (x0 := .int .i64 kd2) (x1 := .string ⟨tx2.toArray⟩) (x2 := .string ⟨nm2.toArray⟩) (x3 := .string ⟨ar2.toArray⟩) (x4 := .int .i64 ct2) (x5 := .slice a1 m1 c1) (x6 := .slice a2 m2 c2) (x7 := .slice a3 m3 c3) hRg
          have hmz := put8_mod wg R (.int .i64 kd2) (.string ⟨tx2.toArray⟩) (.string ⟨nm2.toArray⟩) (.string ⟨ar2.toArray⟩) (.int .i64 ct2) (.slice a1 m1 c1) (.slice a2 m2 c2) (.slice a3 m3 c3)
          generalize (put8 wg R (.int .i64 kd2) (.string ⟨tx2.toArray⟩) (.string ⟨nm2.toArray⟩) (.string ⟨ar2.toArray⟩) (.int .i64 ct2) (.slice a1 m1 c1) (.slice a2 m2 c2) (.slice a3 m3 c3)) = wz at hRz hmz ⊢
          refine bodyPost_ret (results_cell_row rfl _ _ R _ _ _ _ rfl hRz Tryz.underlying36 rfl node_size) rfl ?_
          rw [hpost.out]
          have hRR := hR.out
          have hrsz := RS.keep h.out hP.out hmz (fun j e => by omega)
          have hsg := hmP.out.size
          have hnz := (hnc.out.mod hmz (fun j hj e => by have := hj.1; omega)).mono (F' := Since w wz) (fun j hj => ⟨by have := hj.1; omega, by have := hj.2; have := hmz.size; omega⟩)
          exact ⟨⟨kd2, tx2, nm2, ar2, ct2, .slice a1 m1 c1, .slice a2 m2 c2, .slice a3 m3 c3⟩, nd, k', bad', rfl, hnz, hrsz, hmd.out.then hmz (fun j hj e => by omega), cond_fin2 h8 hif.out hndr.out⟩
      | false =>
        rw [hif] at qif
        rw [decide_eq_false_iff_not] at hif
        replace hif := hid hif
        have hfi : Hid (¬ (nm = wFor ∨ nm = wIf)) := hid (fun h => h.elim hfo.out hif.out)
        obtain ⟨Q, hQ⟩ : ∃ Q, Q = R + 1 := ⟨_, rfl⟩
        go_wp2_with fail
        have hxa := Mod.alloc (Mod.refl (fun _ => False) w1) (.cells #[.int .i64 2, .string ⟨#[]⟩, .string ⟨(nm : Bs).toArray⟩, .string ⟨#[]⟩, .int .i64 0, .slice none 0 0, .slice none 0 0, .slice none 0 0] 36)
        have hQa := heap_alloc_new w1 (.cells #[.int .i64 2, .string ⟨#[]⟩, .string ⟨(nm : Bs).toArray⟩, .string ⟨#[]⟩, .int .i64 0, .slice none 0 0, .slice none 0 0, .slice none 0 0] 36)
        have hsa : (w1.alloc (.cells #[.int .i64 2, .string ⟨#[]⟩, .string ⟨(nm : Bs).toArray⟩, .string ⟨#[]⟩, .int .i64 0, .slice none 0 0, .slice none 0 0, .slice none 0 0] 36)).heap.size = Q + 1 := by rw [World.size_alloc, hs1, hQ]
        rw [hs1, ← hQ] at hQa
        rw [← hQ]
        generalize (w1.alloc (.cells #[.int .i64 2, .string ⟨#[]⟩, .string ⟨(nm : Bs).toArray⟩, .string ⟨#[]⟩, .int .i64 0, .slice none 0 0, .slice none 0 0, .slice none 0 0] 36)) = wa at hxa hQa hsa ⊢
        have hBQ : ¬ B = Q := by omega
        have hQR : ¬ Q = R := by omega
        have hRQ' : ¬ R = Q := by omega
        have hQB : ¬ Q = B := by omega
        have hRa := hxa.at hR0.out (fun h => h)
        have hrsa := hrs1.out.ext hxa
        have hma := hid (hm1.out.then hxa (fun _ _ h => h.elim))
        clear c0 c1 c2 c3 c4 z hxa
        have hRQ : R < Q := by omega
        replace hQ := hid hQ
        replace hs1 := hid hs1
        replace hsa := hid hsa
        go_loopg [] (T.length - k + 1) (fun g wr => ∃ (k' f' : Nat) (acc : List Bs) (ao1 : Option Addr) (cap1 : Nat) (bad' : Option Nat), FlR T sz f k f' k' acc bad' ∧ wr.heap[R]? = some (.cells #[.int .i64 0, .string ⟨#[]⟩, .string ⟨#[]⟩, .string ⟨#[]⟩, .int .i64 0, .slice none 0 0, .slice none 0 0, .slice none 0 0] 36 (0, 0)) ∧ wr.heap[Q]? = some (.cells #[.int .i64 2, .string ⟨#[]⟩, .string ⟨(nm : Bs).toArray⟩, .string ⟨#[]⟩, .int .i64 0, .slice ao1 acc.length cap1, .slice none 0 0, .slice none 0 0] 36 (0, 0)) ∧
            Cdk.Own wr (Q + 1) 9 1 strC (.slice ao1 acc.length cap1) acc ∧ acc.length ≤ k' ∧ RS B ao cap T sz k' d (badI bad') wr ∧ Mod (Eq B) w wr ∧ k ≤ k' ∧ Q + 1 ≤ wr.heap.size ∧ g = gM T.length k' bad')
        case atStart => exact ⟨k, f, [], none, 0, none, .inl ⟨rfl, rfl, by omega, Nat.le_refl _⟩, hRa, hQa, Cdk.Own.nil _ _ _ _ _, Nat.zero_le _, hrsa, hma.out, Nat.le_refl _, by have := hsa.out; omega, rfl⟩
        case round =>
          clear hRa hQa hrsa
          obtain ⟨k', f', acc, ao1, cap1, bad', hfl, hRr, hQr, hown, hal, hrsr, hmr, hkk, hszr, hg⟩ := hrel
          cases bad' with
          | some a =>
            have i1 : decide ((a : Int) < 0) = false := decide_eq_false (by omega)
            have i2 : ¬ (a : Int) < 0 := by omega
            have hrsr' : RS B ao cap T sz k' d (a : Nat) wr := hrsr
            obtain ⟨c0, c1, c2, c3, c4⟩ := hrsr'.cells
            replace hfl := hid hfl
            replace hRr := hid hRr
            replace hQr := hid hQr
            replace hown := hid hown
            replace hrsr := hid hrsr
            replace hrsr' := hid hrsr'
            replace hmr := hid hmr
            replace hg := hid hg
            go_wp2_with fail
            refine (rtake_gen 7 (by decide) (some a) _ hrsr.out).mono ?_
            rintro e wg ⟨t7, k2, bad2, rfl, hrsg, hmg, htk2⟩
            have hRg := hmg.at hRr.out hBR
            have hQg := hmg.at hQr.out hBQ
            have hownz := hid (hown.out.mod hmg (fun j hj e => by have := (hown.out.block j hj).1; omega))
            have hmwg := hid (hmr.out.trans hmg)
            obtain ⟨a0, a1, a2, a3, a4, a5, a6, a7⟩ := cells8 hQg
            obtain ⟨b0, b1, b2, b3, b4, b5, b6, b7⟩ := cells8 hRg
            have z1 := free_of' hRg
            replace hQg := hid hQg
            replace htk2 := hid htk2
            replace hrsg := hid hrsg
            clear hmg
            go_wp2_with fail

            change bodyPost _ _ _ _ _ (put8 wg R (.int .i64 2) (.string ⟨#[]⟩) (.string ⟨(nm : Bs).toArray⟩) (.string ⟨#[]⟩) (.int .i64 0) (.slice ao1 acc.length cap1) (.slice none 0 0) (.slice none 0 0))
            have hRz := put8_at (x0 := .int .i64 2) (x1 := .string ⟨#[]⟩) (x2 := .string ⟨(nm : Bs).toArray⟩) (x3 := .string ⟨#[]⟩) (x4 := .int .i64 0) (x5 := .slice ao1 acc.length cap1) (x6 := .slice none 0 0) (x7 := .slice none 0 0) hRg
            have hmz := put8_mod wg R (.int .i64 2) (.string ⟨#[]⟩) (.string ⟨(nm : Bs).toArray⟩) (.string ⟨#[]⟩) (.int .i64 0) (.slice ao1 acc.length cap1) (.slice none 0 0) (.slice none 0 0)
            generalize (put8 wg R (.int .i64 2) (.string ⟨#[]⟩) (.string ⟨(nm : Bs).toArray⟩) (.string ⟨#[]⟩) (.int .i64 0) (.slice ao1 acc.length cap1) (.slice none 0 0) (.slice none 0 0)) = wz at hRz hmz ⊢
            refine bodyPost_ret (results_cell_row rfl _ _ R _ _ _ _ rfl hRz Tryz.underlying36 rfl node_size) rfl ?_
            rw [hpost.out]
            have hRR := hR.out
            have hrsz := RS.keep h.out hrsg.out hmz (fun j e => by omega)
            have hoz := hownz.out.mod hmz (fun j hj e => by have := (hownz.out.block j hj).1; omega)
            obtain ⟨ao9, cap9, hv9, hr9, hb9⟩ := hoz.row
            have hst : StrsAt (Since w wz) wz (.slice ao1 acc.length cap1) acc := ⟨ao9, cap9, hv9, hr9, fun b off e => ⟨by have := (hoz.block b (hb9 b off e)).1; omega, (hoz.block b (hb9 b off e)).2⟩, Own.capOk (hv9 ▸ hoz)⟩
            exact ⟨⟨2, [], nm, [], 0, .slice ao1 acc.length cap1, .slice none 0 0, .slice none 0 0⟩, .mk 2 [] nm [] 0 acc [] [], k2, bad2, rfl, .mk ⟨2, [], nm, [], 0, .slice ao1 acc.length cap1, .slice none 0 0, .slice none 0 0⟩ acc [] [] hst (NodesAt.nil _ _) (NodesAt.nil _ _), hrsz, hmwg.out.then hmz (fun j hj e => by omega), field_fin hfi.out hi.out hfl.out (fun h => by cases h) htk2.out⟩
          | none =>
            have hrsr' : RS B ao cap T sz k' d (-1) wr := hrsr
            obtain ⟨c0, c1, c2, c3, c4⟩ := hrsr'.cells
            have hkT := hrsr.le
            replace hfl := hid hfl
            replace hRr := hid hRr
            replace hQr := hid hQr
            replace hown := hid hown
            replace hrsr := hid hrsr
            replace hrsr' := hid hrsr'
            replace hmr := hid hmr
            replace hg := hid hg
            go_wp2_with fail
            refine (rnext_any _ hrsr'.out).mono ?_
            rintro e wb ⟨rfl, hxb⟩
            have q5 := more_hd (sz := sz) (kd := 5) (k := k') (T := T) (by decide)
            unfold tokV
            generalize hdT sz (T.drop k') = t5 at q5 ⊢
            have hRb := hid (hxb.at hRr.out (fun h => h))
            have hQb := hid (hxb.at hQr.out (fun h => h))
            have hownb := hid (hown.out.ext hxb)
            have hrsb := hrsr'.out.ext hxb
            have hmb := hid (hmr.out.then hxb (fun _ _ h => h.elim))
            have hszb := Nat.le_trans hszr hxb.size
            clear c0 c1 c2 c3 c4 hxb hRr hQr hown hrsr hrsr' hmr
            cases h5 : moreB 5 (T.drop k') with
            | true =>
              rw [h5] at q5
              obtain ⟨hk5, hkd5⟩ := more_hit h5
              replace h5 := hid h5
              replace hkd5 := hid hkd5
              obtain ⟨c0, c1, c2, c3, c4⟩ := hrsb.cells
              have z := free_of' hrsb.cell
              have hP := hrsb.put (k' := k' + 1) (d' := d) (bad' := -1) 1 (.int .i64 ((k' : Int) + 1)) (by omega) rfl
              have hmP : Mod (Eq B) wb (wb.setCell ⟨B, 1, none⟩ (.int .i64 ((k' : Int) + 1))) := (Mod.refl (Eq B) wb).setCell (fun _ => rfl) _
              replace hrsb := hid hrsb
              replace hP := hid hP
              replace hmP := hid hmP
              go_upto_region 21 with fail
              have hRc := hid (hmP.out.at hRb.out hBR)
              have hQc := hid (hmP.out.at hQb.out hBQ)
              have hownc := hid (hownb.out.mod hmP.out (fun j hj e => by have := (hownb.out.block j hj).1; omega))
              have hmc := hid (hmb.out.trans hmP.out)
              have hszc := Nat.le_trans hszb hmP.out.size
              generalize (wb.setCell ⟨B, 1, none⟩ (.int .i64 ((k' : Int) + 1))) = wc at hP hRc hQc hownc hmc hszc ⊢
              clear c0 c1 c2 c3 c4 z hmP hRb hQb hownb hmb hrsb hszb
              have c5 : wc.drew.cell? ⟨Q, 5, none⟩ = some (.slice ao1 acc.length cap1) := cell_of' ((Mod.drew0 (fun _ => False) wc).at hQc.out (fun h => h)) 5
              refine wp_region_schedE (fun w' => w'.cell? ⟨Q, 5, none⟩ = some (.slice ao1 acc.length cap1)) [(0, true), (1, true), (2, true), (3, false), (4, false), (5, false), (6, true), (7, false)] (by as_aux_lemma => kernel_rfl) (by as_aux_lemma => kernel_rfl) (by as_aux_lemma => kernel_rfl) (by decide) c5 ?_
              simp only [schedOps, List.map_cons, List.map_nil, List.getD_cons_zero, List.getD_cons_succ]
              repeat (first | (refine wpT_p (by rfl) (by rfl) ?_ (fun w' hC => ?_) ?_; rotate_left; (go_simp; try with_reducible rfl); try simp only [Act.put, List.setIfInBounds_toArray, List.set_cons_zero, List.set_cons_succ]) | (refine wpT_q (by rfl) (by rfl) ?_ (fun w' hC => ?_) ?_; rotate_left; (go_simp; try with_reducible rfl); try simp only [Act.put, List.setIfInBounds_toArray, List.set_cons_zero, List.set_cons_succ]))
              refine wpT_c (by rfl) (fun K hK => ?_)
              go_simp
              refine (rtake_gen 2 (by decide) none _ (hP.out.ext (Mod.drew0 _ _))).mono ?_
              rintro e wd ⟨tx, k2, bad2, rfl, hrsd, hmd, htk⟩
              replace hmd := (Mod.drew0 (Eq B) _).trans hmd
              have hRd := hmd.at hRc.out hBR
              have hQd := hmd.at hQc.out hBQ
              have hownd := hownc.out.mod hmd (fun j hj e => by have := (hownc.out.block j hj).1; omega)
              have hszd := Nat.le_trans hszc hmd.size
              have c5d : wd.cell? ⟨Q, 5, none⟩ = some (.slice ao1 acc.length cap1) := cell_of' hQd 5
              refine hK.out _ _ c5d ?_
              clear hK K c5
              replace hrsd := hid hrsd
              replace hmd := hid hmd
              replace hRd := hid hRd
              replace hQd := hid hQd
              replace hownd := hid hownd
              replace htk := hid htk
              try simp only [Act.put, List.setIfInBounds_toArray, List.set_cons_zero, List.set_cons_succ]
              repeat (first | (refine wpT_p (by rfl) (by rfl) ?_ (fun w' hC => ?_) ?_; rotate_left; (go_simp; try with_reducible rfl); try simp only [Act.put, List.setIfInBounds_toArray, List.set_cons_zero, List.set_cons_succ]) | (refine wpT_q (by rfl) (by rfl) ?_ (fun w' hC => ?_) ?_; rotate_left; (go_simp; try with_reducible rfl); try simp only [Act.put, List.setIfInBounds_toArray, List.set_cons_zero, List.set_cons_succ]))
              refine wpT_c (by rfl) (fun K hK => ?_)
              go_simp
              have hxe := Mod.alloc (Mod.refl (fun _ => False) wd) (.cells #[.string ⟨tx.toArray⟩] 9)
              refine hK.out _ _ (hxe.cell c5d (fun h => h)) ?_
              clear hK K
              try simp only [Act.put, List.setIfInBounds_toArray, List.set_cons_zero, List.set_cons_succ]
              repeat (first | (refine wpT_p (by rfl) (by rfl) ?_ (fun w' hC => ?_) ?_; rotate_left; (go_simp; try with_reducible rfl); try simp only [Act.put, List.setIfInBounds_toArray, List.set_cons_zero, List.set_cons_succ]) | (refine wpT_q (by rfl) (by rfl) ?_ (fun w' hC => ?_) ?_; rotate_left; (go_simp; try with_reducible rfl); try simp only [Act.put, List.setIfInBounds_toArray, List.set_cons_zero, List.set_cons_succ]))
              refine wpT_c (by rfl) (fun K hK => ?_)
              refine wp_app _ _ _ rfl Tryz.underlying25 el9 rfl (hownd.out.ext hxe) _ 1 1 rfl [tx] rfl (by exact RowIs.new _ _ _) strC_len (fun z hz u hu => ?_) (by simp only [List.length_singleton]; omega) (by rw [World.size_alloc]; omega) (by simp) (fun v6 w6 H6 => ?_)
              · simp only [List.mem_singleton] at hz; subst hz
                simp [strC] at hu
                subst hu; rfl
              try simp only [Act.put, List.setIfInBounds_toArray, List.set_cons_zero, List.set_cons_succ]
              have hnb : ¬ (Value.slice ao1 acc.length cap1).ownBlock = some Q := fun e => by have := (hownd.out.block _ e).1; omega
              refine hK.out _ _ (H6.out.2.cell (hxe.cell c5d (fun h => h)) hnb) ?_
              clear hK K
              obtain ⟨ao6, cap6, rfl, -, -⟩ := H6.out.1.row
              rw [List.length_append, List.length_singleton]
              repeat (first | (refine wpT_p (by rfl) (by rfl) ?_ (fun w' hC => ?_) ?_; rotate_left; (go_simp; try with_reducible rfl); try simp only [Act.put, List.setIfInBounds_toArray, List.set_cons_zero, List.set_cons_succ]) | (refine wpT_q (by rfl) (by rfl) ?_ (fun w' hC => ?_) ?_; rotate_left; (go_simp; try with_reducible rfl); try simp only [Act.put, List.setIfInBounds_toArray, List.set_cons_zero, List.set_cons_succ]))
              have hQ6 := H6.out.2.at (hxe.at hQd.out (fun h => h)) hnb
              have c56 : w6.cell? ⟨Q, 5, none⟩ = some (.slice ao1 acc.length cap1) := cell_of' hQ6 5
              have z6 := free_of' hQ6
              replace hQ6 := hid hQ6
              refine wpT_e (by rfl) (fun K hK => ?_)
              go_simp
              refine hK.out _ _ ?_
              clear hK K
              clear c56 z6
              go_wp2_with fail
              go_roundg (gM T.length k2 bad2)
              case measure =>
                have h9 : gk = T.length - k' + 1 := hg.out
                cases bad2 with
                | none =>
                  obtain ⟨e1, e2, -⟩ := htk.out.lt
                  show T.length - k2 + 1 < gk
                  omega
                | some a =>
                  show 0 < gk
                  omega
              case rel =>
                have hmS := (Mod.refl (Eq Q) w6).setCell (a := ⟨Q, 5, none⟩) (fun _ => rfl) (.slice ao6 (acc.length + 1) cap6)
                have hO := hownd.out
                have hRR := hR.out
                have hk2 := htk.out.le
                have hs6 := H6.out.2.size
                have hxs := hxe.size
                have hm6 : Mod (fun j => Q ≤ j) wd w6 := (hxe.mono (T := fun j => Q ≤ j) (fun _ h => h.elim)).then H6.out.2 (fun j _ e => by have := (hO.block j e).1; omega)
                have hm7 : Mod (fun j => Q ≤ j) wd (w6.setCell ⟨Q, 5, none⟩ (.slice ao6 (acc.length + 1) cap6)) := hm6.then hmS (fun j _ e => by have : Q = j := e; omega)
                refine ⟨k2, f' - 1, acc ++ [tx], ao6, cap6, bad2, filters_step hfl.out hk5 hkd5.out htk.out, hm7.at hRd.out (by omega), ?_, ?_, by simp only [List.length_append, List.length_singleton]; omega, RS.keep h.out hrsd.out hm7 (fun j e => by omega), (hmc.out.trans hmd.out).then hm7 (fun j hj e => by omega), by omega, ?_, rfl⟩
                · have := put_at hQ6.out 5 (.slice ao6 (acc.length + 1) cap6)
                  rw [List.length_append, List.length_singleton]
                  exact this
                · have h8 := H6.out.1.mod hmS (fun j hj e => by have := (H6.out.1.block j hj).1; omega)
                  rw [List.length_append, List.length_singleton]
                  simpa using h8
                · have := hmS.size; omega
            | false =>
              rw [h5] at q5
              replace h5 := hid h5
              have hRr := hRb
              have hQr := hQb
              have hmr := hmb
              have hown := hownb
              have hrsr : Hid (RS B ao cap T sz k' d (badI none) wb) := hid hrsb
              replace hrsb := hid hrsb
              go_wp2_with fail
              refine (rtake_gen 7 (by decide) none _ hrsr.out).mono ?_
              rintro e wg ⟨t7, k2, bad2, rfl, hrsg, hmg, htk2⟩
              have hRg := hmg.at hRr.out hBR
              have hQg := hmg.at hQr.out hBQ
              have hownz := hid (hown.out.mod hmg (fun j hj e => by have := (hown.out.block j hj).1; omega))
              have hmwg := hid (hmr.out.trans hmg)
              obtain ⟨a0, a1, a2, a3, a4, a5, a6, a7⟩ := cells8 hQg
              obtain ⟨b0, b1, b2, b3, b4, b5, b6, b7⟩ := cells8 hRg
              have z1 := free_of' hRg
              replace hQg := hid hQg
              replace htk2 := hid htk2
              replace hrsg := hid hrsg
              clear hmg
              go_wp2_with fail

              change bodyPost _ _ _ _ _ (put8 wg R (.int .i64 2) (.string ⟨#[]⟩) (.string ⟨(nm : Bs).toArray⟩) (.string ⟨#[]⟩) (.int .i64 0) (.slice ao1 acc.length cap1) (.slice none 0 0) (.slice none 0 0))
              have hRz := put8_at (x0 := .int .i64 2) (x1 := .string ⟨#[]⟩) (x2 := .string ⟨(nm : Bs).toArray⟩) (x3 := .string ⟨#[]⟩) (x4 := .int .i64 0) (x5 := .slice ao1 acc.length cap1) (x6 := .slice none 0 0) (x7 := .slice none 0 0) hRg
              have hmz := put8_mod wg R (.int .i64 2) (.string ⟨#[]⟩) (.string ⟨(nm : Bs).toArray⟩) (.string ⟨#[]⟩) (.int .i64 0) (.slice ao1 acc.length cap1) (.slice none 0 0) (.slice none 0 0)
              generalize (put8 wg R (.int .i64 2) (.string ⟨#[]⟩) (.string ⟨(nm : Bs).toArray⟩) (.string ⟨#[]⟩) (.int .i64 0) (.slice ao1 acc.length cap1) (.slice none 0 0) (.slice none 0 0)) = wz at hRz hmz ⊢
              refine bodyPost_ret (results_cell_row rfl _ _ R _ _ _ _ rfl hRz Tryz.underlying36 rfl node_size) rfl ?_
              rw [hpost.out]
              have hRR := hR.out
              have hrsz := RS.keep h.out hrsg.out hmz (fun j e => by omega)
              have hoz := hownz.out.mod hmz (fun j hj e => by have := (hownz.out.block j hj).1; omega)
              obtain ⟨ao9, cap9, hv9, hr9, hb9⟩ := hoz.row
              have hst : StrsAt (Since w wz) wz (.slice ao1 acc.length cap1) acc := ⟨ao9, cap9, hv9, hr9, fun b off e => ⟨by have := (hoz.block b (hb9 b off e)).1; omega, (hoz.block b (hb9 b off e)).2⟩, Own.capOk (hv9 ▸ hoz)⟩
              exact ⟨⟨2, [], nm, [], 0, .slice ao1 acc.length cap1, .slice none 0 0, .slice none 0 0⟩, .mk 2 [] nm [] 0 acc [] [], k2, bad2, rfl, .mk ⟨2, [], nm, [], 0, .slice ao1 acc.length cap1, .slice none 0 0, .slice none 0 0⟩ acc [] [] hst (NodesAt.nil _ _) (NodesAt.nil _ _), hrsz, hmwg.out.then hmz (fun j hj e => by omega), field_fin hfi.out hi.out hfl.out (fun _ => h5.out) htk2.out⟩
end Go.Proofs.YtpgniljgaknlpaaGreatDoor
