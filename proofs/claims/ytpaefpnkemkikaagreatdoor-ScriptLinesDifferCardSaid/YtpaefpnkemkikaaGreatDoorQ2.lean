/- Proved here: ScriptLinesDiffer answers true whatever the two actions are, and the arguments read afterwards as they read before; the tied card. No condition beyond the given row's. -/
import Derived.Test.YtpaefpnkemkikaaGreatDoorF5
import Derived.Test.YtpaefpnkemkikaaGreatDoorG2
set_option maxRecDepth 100000
set_option maxHeartbeats 16000000
namespace Go.Proofs.YtpaefpnkemkikaaGreatDoor
open Go.ChangeShapes Go.WideShapes Go.ChangeAt Go.RowKit Cdk Scr
theorem differ_lifted (os : Os) (started : os.Started) (H : Type) (enc : TypeId × Value -> H) :
  ReturnsInHanded {} Tryz.checked os 8 .any (fun w args => (Rows.scriptLinesDifferSpec.pre enc Tryz.prog Tryz.f8 Rows.scriptLinesDifferRow.domain false w args /\ laidMetH Tryz.prog laidL w) /\ sizedMet enc Tryz.prog Tryz.f8 (OpenSpec.ofChange Rows.scriptLinesDifferSpec) false w args)
   (Rows.scriptLinesDifferSpec.post enc Tryz.prog Tryz.f8 false true false false) := by
 refine handed_sized (C := Tryz.checked) (X := fun w _ => laidMetH Tryz.prog laidL w) (fun _ _ _ hh h => h.of_heap hh) own started (by kernel_rfl) Tryz.func8
  (ChangeSpec.witness_shaped (enc := enc) (C := Tryz.checked) (os := os) (X := fun w _ => laidMetH Tryz.prog laidL w) false (wit os) #[.agg zA, .agg zA] 8 (wit_os _)
   (World.shaped_of_ZipB (by kernel_rfl) (by kernel_rfl)) (by kernel_rfl) (by kernel_rfl) (by kernel_rfl)
   (wit_met os _)) ?_
 intro W base args ds gs before hval0 hW hwt0 hL hS
 have hval : ∀ (j : Nat) t v, Tryz.f8.params[j]? = some t -> args[j]? = some v -> Value.okWide Tryz.prog W .any base t v := hval0
 have hW' := hW
 obtain ⟨p, q, hA0, hV, rfl, hfz, hnd⟩ := hW
 have hA : DataW.TrodAll enc Tryz.prog W 0 (fun _ => true) true Tryz.f8.params.toList args.toList ds p := hA0
 have hwt : (DataW.weightsEach Tryz.prog (Tryz.f8.params.toList ++ Rows.scriptLinesDifferSpec.plain.varTypes Tryz.prog) (ds ++ gs)).all (· <= reachBytes) = true := hwt0
 rw [Tryz.params8] at hA hval hwt
 obtain ⟨v0, v1, d0, d1, p0, p1, rfl, rfl, rfl, h0, h1⟩ := trodAll_two hA
 obtain ⟨rfl, rfl⟩ := trodVars_none hV
 obtain ⟨a1_0, n1_0, c1_0, a2_0, n2_0, c2_0, a3_0, n3_0, c3_0, a4_0, n4_0, c4_0, a5_0, n5_0, c5_0, a0, rfl, hr0, ho0⟩ := action_open (hval 0 32 v0 rfl rfl) h0 (Wl.of_each (j := 0) hwt rfl rfl)
 obtain ⟨a1_1, n1_1, c1_1, a2_1, n2_1, c2_1, a3_1, n3_1, c3_1, a4_1, n4_1, c4_1, a5_1, n5_1, c5_1, a1, rfl, hr1, ho1⟩ := action_open (hval 1 32 v1 rfl rfl) h1 (Wl.of_each (j := 1) hwt rfl rfl)
 refine (differL_any a1_0 n1_0 c1_0 a2_0 n2_0 c2_0 a3_0 n3_0 c3_0 a4_0 n4_0 c4_0 a5_0 n5_0 c5_0 a0 a1_1 n1_1 c1_1 a2_1 n2_1 c2_1 a3_1 n3_1 c3_1 a4_1 n4_1 c4_1 a5_1 n5_1 c5_1 a1 W (gl_of hL hS) hr0 hr1 (by have := ho0.tx; omega) (by have := ho0.ms.da; omega) (by have := ho1.tx; omega) (by have := ho1.ms.da; omega)).mono fun e W' ⟨he, hw⟩ => ?_
 exact ⟨_, he, post_true (P := Tryz.prog) laidOut Tryz.underlying4 hW' (by kernel_rfl) rfl (by kernel_rfl) rfl rfl rfl hw⟩
theorem differ_k0 : (Rows.scriptLinesDifferRow.wf (OpenSpec.ofChange Rows.scriptLinesDifferSpec)) = true := by kernel_rfl
theorem differ_k3 : (Tryz.f8.params.all (Tryz.prog.readableRec ·)) = true := by kernel_rfl
theorem differ_k4 : (namedTie Tryz.prog Rows.scriptLinesDifferRow.named Rows.scriptLinesDifferSpec.vars) = true := by kernel_rfl
theorem differ_k5 : (Rows.scriptLinesDifferRow.stops == []) = true := by kernel_rfl
theorem differ_k7 : (Rows.scriptLinesDifferRow.knobs == []) = true := by kernel_rfl
theorem differ_k9 : (Rows.scriptLinesDifferRow.inPlace == Tryz.prog.inPlace 8) = true := by kernel_rfl
theorem differ_k10 : (Rows.scriptLinesDifferRow.unfollowed == Tryz.prog.unfollowed 8) = true := by kernel_rfl
theorem differ_k11 : (Rows.scriptLinesDifferRow.recurses == Tryz.prog.recurses 8) = true := by kernel_rfl
theorem differ_k12 : (Rows.scriptLinesDifferRow.named == Tryz.prog.varsNamed 8) = true := by kernel_rfl
theorem differ_k13 : (Rows.scriptLinesDifferRow.maps == (Tryz.f8.params.toList ++ Rows.scriptLinesDifferSpec.plain.varTypes Tryz.prog).any (Tryz.prog.mapsRec ·)) = true := by kernel_rfl
theorem differ_k14 : (Rows.scriptLinesDifferRow.ifaces == (Tryz.f8.params.toList ++ Rows.scriptLinesDifferSpec.plain.varTypes Tryz.prog).any (Tryz.prog.ifacesRec ·)) = true := by kernel_rfl
theorem differ_k15 : (Rows.scriptLinesDifferRow.mapsOut == Tryz.prog.mapsAmong Tryz.f8.resultTypes.toList) = true := by kernel_rfl
theorem differ_k16 : (Rows.scriptLinesDifferRow.loops == (Tryz.f8.params.toList ++ Rows.scriptLinesDifferSpec.plain.varTypes Tryz.prog).any (Tryz.prog.loopsFrom ·)) = true := by kernel_rfl
theorem differ_k17 : (Rows.scriptLinesDifferRow.wideKeys == (Tryz.f8.params.toList ++ Rows.scriptLinesDifferSpec.plain.varTypes Tryz.prog ++ Tryz.f8.resultTypes.toList).any (Tryz.prog.wideKeysFrom ·)) = true := by kernel_rfl
theorem differ_k18 : (Rows.scriptLinesDifferSpec.vars.all (Tryz.prog.varReadable ·)) = true := by kernel_rfl
theorem differ_k19 : (Tryz.f8.resultTypes.all (fun t => Tryz.prog.readableRec t && decide (t < Tryz.prog.types.size))) = true := by kernel_rfl
theorem differ_k20 : (Rows.scriptLinesDifferRow.ifacesOut == Tryz.f8.resultTypes.toList.any (Tryz.prog.ifacesRec ·)) = true := by kernel_rfl
theorem differ_k21 : (Rows.scriptLinesDifferRow.loopsOut == Tryz.f8.resultTypes.toList.any (Tryz.prog.loopsFrom ·)) = true := by kernel_rfl
theorem differ_k23 : (Rows.scriptLinesDifferRow.shortTexts.isNone) = true := by kernel_rfl
theorem differ_k28 : (Rows.scriptLinesDifferRow.kinds == (if Rows.scriptLinesDifferRow.domain.isEmpty then [] else Tryz.f8.params.toList.map fun t => match Tryz.prog.underlying t with | some (.int k) => some k | _ => none)) = true := by kernel_rfl
theorem differ_k29 : (Rows.scriptLinesDifferRow.pinned == Rows.scriptLinesDifferRow.pinnedBy) = true := by kernel_rfl
theorem differ_k30 : (Rows.scriptLinesDifferRow.veiled == (Tryz.f8.params.toList ++ Rows.scriptLinesDifferSpec.plain.varTypes Tryz.prog ++ Tryz.f8.resultTypes.toList).any (Tryz.prog.veiledRec ·)) = true := by kernel_rfl
theorem differ_k31 : (Rows.scriptLinesDifferRow.veiledFits Tryz.prog Tryz.f8.params.toList (Tryz.f8.params.toList ++ Rows.scriptLinesDifferSpec.plain.varTypes Tryz.prog ++ Tryz.f8.resultTypes.toList)) = true := by kernel_rfl
theorem differ_closed : joinedFacts Tryz.prog 8 Tryz.f8 Rows.scriptLinesDifferSpec Rows.scriptLinesDifferRow = true := by
 unfold joinedFacts
 exact bt (bt (bt (bt (bt (bt (bt (bt (bt (bt (bt (bt (bt (bt (bt (bt (bt (bt (bt (bt (bt (bt (bt (bt (bt (bt (bt (bt (bt (bt (bt differ_k0 laidOut) g_maps) differ_k3) differ_k4) differ_k5) g_stops) differ_k7) g_knobs) differ_k9) differ_k10) differ_k11) differ_k12) differ_k13) differ_k14) differ_k15) differ_k16) differ_k17) differ_k18) differ_k19) differ_k20) differ_k21) g_plain) differ_k23) g_heard) g_enter) g_lifts) g_make) differ_k28) differ_k29) differ_k30) differ_k31
theorem differ_named : Tryz.prog.funcNamed "copydesk/copydesklaw28.ScriptLinesDiffer" = some 8 := by kernel_rfl
theorem differ_goes : false = Rows.scriptLinesDifferRow.goesBy Tryz.prog := by kernel_rfl
theorem differ_wft : Rows.scriptLinesDifferRow.wfByText (OpenSpec.ofChange Rows.scriptLinesDifferSpec) = true := by kernel_rfl
theorem differ_said : Rows.ScriptLinesDifferSaid :=
 OpenClaim.holds_of_wide 8 Tryz.f8 rfl rfl rfl rfl rfl rfl rfl ⟨rfl, rfl, rfl, rfl, rfl⟩ rfl rfl rfl rfl rfl differ_named Tryz.func8 differ_closed
  (of_decide_eq_true (by kernel_rfl)) (by unfold Func.isWrapper; first | (rw [if_pos (by decide +kernel)]; kernel_rfl) | (rw [if_neg (by decide +kernel)]; exact ⟨rfl, rfl⟩))
  (fun os started H enc _ => differ_lifted os started H enc)
theorem differ_stand : ∀ f fn, Tryz.prog.funcNamed "copydesk/copydesklaw28.ScriptLinesDiffer" = some f -> Tryz.prog.funcs[f]? = some fn -> true = Tryz.prog.looks [] /\ ∀ (j : Nat) t, fn.params[j]? = some t -> Tryz.prog.wantsStandIn t = false := fun f fn hf hfn => by
 obtain rfl : f = 8 := (Option.some.inj (differ_named.symm.trans hf)).symm
 obtain rfl : fn = Tryz.f8 := (Option.some.inj (Tryz.func8.symm.trans hfn)).symm
 exact ⟨g_looks, fun j t ht => by
  rw [Tryz.params8] at ht
  have hm : t ∈ [32, 32] := by simpa using Array.mem_of_getElem? ht
  have hall : ([32, 32].all fun u => !Tryz.prog.wantsStandIn u) = true := by kernel_rfl
  exact (show Tryz.prog.wantsStandIn t = false by simpa using List.all_eq_true.1 hall t hm)⟩
theorem differ_holds : Rows.ScriptLinesDifferCardSaid :=
 Claim7.holds_tied_plain_at .later [] [.data, .data, .data, .data, .handle, .data, .sentinel, .sentinel, .pinned] true (true, "4cf7673d7f0824c597bc1be1c6424031f8cc8997be29c3c5e4c9ab354cc86b93") true
  differ_said (fun _ h => by cases h) differ_wft (fun _ h => by cases h) scriptLinesDiffer_row_tie rfl ⟨rfl, rfl⟩ g_main rfl
  differ_stand differ_goes
end Go.Proofs.YtpaefpnkemkikaaGreatDoor
