/- Proved here: ParserNest answers true whatever the two lists of integers are, and they read afterwards as they read before; the tied card. No condition beyond the given row's. -/
import Derived.Test.YtpgniljgaknlpaaGreatDoorK42
import Derived.Test.YtpgniljgaknlpaaGreatDoorK31
namespace Go.Proofs.YtpgniljgaknlpaaGreatDoor
open Go.ChangeShapes Go.WideShapes Go.ChangeAt Go.RowKit Cdk

set_option maxRecDepth 100000 in
/-- A slice of integers that came in. -/
theorem ints_open2 {H : Type} {enc : TypeId × Value → H} {W : World} {b0 : Nat} {v : Value} {d : DataW H} {p : List MemPlace} (hval : Value.okWide Tryz.prog W .any b0 22 v) (h : DataW.Trod enc Tryz.prog W 0 (fun _ => true) true 22 v d p) :
    ∃ ao cap l, v = .slice ao (l : List Int).length cap ∧ RowIs W ao (l.flatMap intC) ∧ (∀ z ∈ l, -9223372036854775808 ≤ z ∧ z ≤ 9223372036854775807) ∧ l.length ≤ cap ∧ cap ≤ 9223372036854775807 := by
  obtain ⟨ao, len, cap, rfl⟩ := okWide_slice Tryz.underlying22 hval
  obtain ⟨n, h⟩ := h
  rcases Go.Deep.open_slice Tryz.underlying22 h with ⟨h0, _⟩ | ⟨a, len', cap', m, n, D, Pl, hc, -, hl, hm, hmm, -, hx⟩
  · cases h0
    exact ⟨none, 0, [], rfl, RowIs.nil _ _, (fun o ho => nomatch ho), by simp, by decide⟩
  · cases hc
    rw [if_pos rfl] at hmm
    have hmx : maxLen ≤ 9223372036854775807 := by decide
    rw [show Tryz.prog.cellsOf 3 = 1 by kernel_rfl] at hx
    obtain ⟨V, hV⟩ := Go.Deep.choose_lt (α := Int) (p := fun i o => W.cells? 0 (a.add (i * 1)) 1 = some (intC o) ∧ (-9223372036854775808 ≤ o ∧ o ≤ 9223372036854775807)) (n := m) (fun i hi => by
      obtain ⟨cs', h1, h2⟩ := hx i hi
      obtain ⟨z, hz, _, wz⟩ := DataW.trod_int Tryz.underlying3 h2
      exact ⟨z, by rw [h1, hz]; rfl, in64_of_wf wz⟩)
    refine ⟨some a, cap, (List.range len).map V, by rw [List.length_map, List.length_range], fun j u hj => ?_, fun o ho => ?_, by rw [List.length_map, List.length_range]; exact hl, by omega⟩
    · have hj' : j < len := by
        have := (List.getElem?_eq_some_iff.1 hj).1
        rw [flat_length _ 1 intC_len, List.length_map, List.length_range] at this
        omega
      have hg := flat_get intC 1 intC_len ((List.range len).map V) j 0 (V j) (by rw [List.getElem?_map, List.getElem?_range hj']; rfl) (by decide)
      rw [show j * 1 + 0 = j by omega, hj] at hg
      have hcc := (World.cells?_some (hV j (by omega)).1).2.2 0 (by decide)
      rw [← hg, Go.Deep.add_add, show j * 1 + 0 = j by omega] at hcc
      have h00 := (World.cells?_some (hV 0 (by omega)).1).2.2 0 (by decide)
      obtain ⟨b, off, spot⟩ := a
      have hs : spot = none := by
        cases hsp : spot with
        | none => rfl
        | some s =>
          rw [hsp] at h00
          simp [Addr.add, World.cell?, intC] at h00
          split at h00 <;> simp at h00
      subst hs
      refine ⟨b, off, rfl, ?_⟩
      rw [← hcc]
      congr 1
      unfold Addr.add
      split
      · rename_i h0; rw [h0]; rfl
      · rfl
    · obtain ⟨i, hi, rfl⟩ := List.mem_map.1 ho
      exact (hV i (by have := List.mem_range.1 hi; omega)).2

set_option maxRecDepth 100000 in
theorem nests_lifted (os : Os) (started : os.Started) (H : Type) (enc : TypeId × Value → H) :
    ReturnsInHanded {} Tryz.checked os 7 .any (fun w args => (Rows.parserNestSpec.pre enc Tryz.prog Tryz.f7 Rows.parserNestRow.domain false w args ∧ laidMetH Tryz.prog laidL w) ∧ sizedMet enc Tryz.prog Tryz.f7 (OpenSpec.ofChange Rows.parserNestSpec) false w args)
      (Rows.parserNestSpec.post enc Tryz.prog Tryz.f7 false true false false) := by
  refine handed_shaped (C := Tryz.checked) (X := fun w _ => laidMetH Tryz.prog laidL w) (fun _ _ _ hh h => h.of_heap hh) own started (by kernel_rfl) Tryz.func7
    (ChangeSpec.witness_shaped (enc := enc) (C := Tryz.checked) (os := os) (X := fun w _ => laidMetH Tryz.prog laidL w) false (World.laidAll Tryz.prog os laidL) #[.slice none 0 0, .slice none 0 0] 8 (World.laidAll_os _ _ _)
      (World.shaped_of_ZipB (by kernel_rfl) (by kernel_rfl)) (by kernel_rfl) (by kernel_rfl) (by kernel_rfl)
      (by rw [MakeChecks.laidMetH_plain _ _ _ (by kernel_rfl)]; exact laidMet_laidAll _ (by kernel_rfl) (by kernel_rfl))) ?_
  intro W base args ds gs before hval0 hW hL hS
  have hval : ∀ (j : Nat) t v, Tryz.f7.params[j]? = some t → args[j]? = some v → Value.okWide Tryz.prog W .any base t v := hval0
  have hW' := hW
  obtain ⟨p, q, hA0, hV, rfl, hfz, hnd⟩ := hW
  have hA : DataW.TrodAll enc Tryz.prog W 0 (fun _ => true) true Tryz.f7.params.toList args.toList ds p := hA0
  rw [Tryz.params7] at hA hval
  obtain ⟨v0, v1, d0, d1, p0, p1, rfl, rfl, rfl, h0, h1⟩ := trodAll_two hA
  obtain ⟨rfl, rfl⟩ := trodVars_none hV
  obtain ⟨ao0, cap0, l0, rfl, hr0, hl0, hn0, hc0⟩ := ints_open2 (hval 0 22 v0 rfl rfl) h0
  obtain ⟨ao1, cap1, l1, rfl, hr1, hl1, hn1, hc1⟩ := ints_open2 (hval 1 22 v1 rfl rfl) h1
  refine (Nest_any l0 l1 ao0 ao1 cap0 cap1 W (gl_of hL hS) hr0 hl0 hn0 hc0 hr1 hl1 hn1 hc1).mono fun e W' ⟨he, hw⟩ => ?_
  exact ⟨_, he, post_true (P := Tryz.prog) laidOut Tryz.underlying4 hW' (by kernel_rfl) rfl (by kernel_rfl) rfl rfl rfl hw⟩

theorem nests_said : Rows.ParserNestSaid :=
  OpenClaim.holds_of_wide 7 Tryz.f7 rfl rfl rfl rfl rfl rfl rfl ⟨rfl, rfl, rfl, rfl, rfl⟩ rfl rfl rfl rfl rfl (by kernel_rfl) Tryz.func7 (by kernel_rfl)
    (of_decide_eq_true (by kernel_rfl)) (by unfold Func.isWrapper; first | (rw [if_pos (by decide +kernel)]; kernel_rfl) | (rw [if_neg (by decide +kernel)]; exact ⟨rfl, rfl⟩))
    (fun os started H enc _ => nests_lifted os started H enc)

theorem nests_holds : Rows.ParserNestCardSaid :=
  Claim7.holds_tied_plain_at .later [] [.data, .data, .data, .data, .sentinel, .sentinel, .pinned] true (true, "64135db9e72bdb75843e9bec9c7ff915638e33e702ea03f611bda70c79a47d1d") true
    nests_said (fun _ h => by cases h) (by kernel_rfl) (fun _ h => by cases h) parserNest_row_tie rfl ⟨rfl, rfl⟩ (by kernel_rfl) rfl
    (fun f fn hf hfn => by
      obtain rfl : f = 7 := Option.some.inj ((show Tryz.prog.funcNamed "copydesk/copydesklaw10.ParserNest" = some 7 by kernel_rfl).symm.trans hf) |>.symm
      obtain rfl : fn = Tryz.f7 := (Option.some.inj (Tryz.func7.symm.trans hfn)).symm
      exact ⟨by kernel_rfl, fun j t ht => by
        rw [Tryz.params7] at ht
        have hm : t ∈ [22, 22] := by simpa using Array.mem_of_getElem? ht
        have hall : ([22, 22].all fun u => !Tryz.prog.wantsStandIn u) = true := by kernel_rfl
        exact (show Tryz.prog.wantsStandIn t = false by simpa using List.all_eq_true.1 hall t hm)⟩)
    (by kernel_rfl)
end Go.Proofs.YtpgniljgaknlpaaGreatDoor
