/- Proved here: ScriptLimits answers true whatever the action and the number are, and the arguments read afterwards as they read before; the tied card. No condition beyond the given row's. -/
import Derived.Test.YtpaefpnkemkikaaGreatDoorF4
import Derived.Test.YtpaefpnkemkikaaGreatDoorG2
set_option maxRecDepth 100000
set_option maxHeartbeats 16000000
namespace Go.Proofs.YtpaefpnkemkikaaGreatDoor
open Go.ChangeShapes Go.WideShapes Go.ChangeAt Go.RowKit Cdk Scr
theorem limits_lifted (os : Os) (started : os.Started) (H : Type) (enc : TypeId × Value -> H) :
  ReturnsInHanded {} Tryz.checked os 11 .any (fun w args => (Rows.scriptLimitsSpec.pre enc Tryz.prog Tryz.f11 Rows.scriptLimitsRow.domain false w args /\ laidMetH Tryz.prog laidL w) /\ sizedMet enc Tryz.prog Tryz.f11 (OpenSpec.ofChange Rows.scriptLimitsSpec) false w args)
   (Rows.scriptLimitsSpec.post enc Tryz.prog Tryz.f11 false true false false) := by
 refine handed_sized (C := Tryz.checked) (X := fun w _ => laidMetH Tryz.prog laidL w) (fun _ _ _ hh h => h.of_heap hh) own started (by kernel_rfl) Tryz.func11
  (ChangeSpec.witness_shaped (enc := enc) (C := Tryz.checked) (os := os) (X := fun w _ => laidMetH Tryz.prog laidL w) false (wit os) #[.agg zA, .int .i64 0] 8 (wit_os _)
   (World.shaped_of_ZipB (by kernel_rfl) (by kernel_rfl)) (by kernel_rfl) (by kernel_rfl) (by kernel_rfl)
   (wit_met os _)) ?_
 intro W base args ds gs before hval0 hW hwt0 hL hS
 have hval : ∀ (j : Nat) t v, Tryz.f11.params[j]? = some t -> args[j]? = some v -> Value.okWide Tryz.prog W .any base t v := hval0
 have hW' := hW
 obtain ⟨p, q, hA0, hV, rfl, hfz, hnd⟩ := hW
 have hA : DataW.TrodAll enc Tryz.prog W 0 (fun _ => true) true Tryz.f11.params.toList args.toList ds p := hA0
 have hwt : (DataW.weightsEach Tryz.prog (Tryz.f11.params.toList ++ Rows.scriptLimitsSpec.plain.varTypes Tryz.prog) (ds ++ gs)).all (· <= reachBytes) = true := hwt0
 rw [Tryz.params11] at hA hval hwt
 obtain ⟨v0, v1, d0, d1, p0, p1, rfl, rfl, rfl, h0, h1⟩ := trodAll_two hA
 obtain ⟨rfl, rfl⟩ := trodVars_none hV
 obtain ⟨a1_0, n1_0, c1_0, a2_0, n2_0, c2_0, a3_0, n3_0, c3_0, a4_0, n4_0, c4_0, a5_0, n5_0, c5_0, a0, rfl, hr0, ho0⟩ := action_open (hval 0 32 v0 rfl rfl) h0 (Wl.of_each (j := 0) hwt rfl rfl)
 obtain ⟨a1, rfl, -, -, wa1⟩ := open_int Tryz.underlying3 (hval 1 3 v1 rfl rfl) h1
 refine (limitsL_any a1_0 n1_0 c1_0 a2_0 n2_0 c2_0 a3_0 n3_0 c3_0 a4_0 n4_0 c4_0 a5_0 n5_0 c5_0 a0 a1 (i64_of_wf wa1) W (gl_of hL hS) hr0 (by have := ho0.tx; omega) (by have := ho0.ms.da; omega)).mono fun e W' ⟨he, hw⟩ => ?_
 exact ⟨_, he, post_true (P := Tryz.prog) laidOut Tryz.underlying4 hW' (by kernel_rfl) rfl (by kernel_rfl) rfl rfl rfl hw⟩
theorem limits_k0 : (Rows.scriptLimitsRow.wf (OpenSpec.ofChange Rows.scriptLimitsSpec)) = true := by kernel_rfl
theorem limits_k3 : (Tryz.f11.params.all (Tryz.prog.readableRec ·)) = true := by kernel_rfl
theorem limits_k4 : (namedTie Tryz.prog Rows.scriptLimitsRow.named Rows.scriptLimitsSpec.vars) = true := by kernel_rfl
theorem limits_k5 : (Rows.scriptLimitsRow.stops == []) = true := by kernel_rfl
theorem limits_k7 : (Rows.scriptLimitsRow.knobs == []) = true := by kernel_rfl
theorem limits_k9 : (Rows.scriptLimitsRow.inPlace == Tryz.prog.inPlace 11) = true := by kernel_rfl
theorem limits_k10 : (Rows.scriptLimitsRow.unfollowed == Tryz.prog.unfollowed 11) = true := by kernel_rfl
theorem limits_k11 : (Rows.scriptLimitsRow.recurses == Tryz.prog.recurses 11) = true := by kernel_rfl
theorem limits_k12 : (Rows.scriptLimitsRow.named == Tryz.prog.varsNamed 11) = true := by kernel_rfl
theorem limits_k13 : (Rows.scriptLimitsRow.maps == (Tryz.f11.params.toList ++ Rows.scriptLimitsSpec.plain.varTypes Tryz.prog).any (Tryz.prog.mapsRec ·)) = true := by kernel_rfl
theorem limits_k14 : (Rows.scriptLimitsRow.ifaces == (Tryz.f11.params.toList ++ Rows.scriptLimitsSpec.plain.varTypes Tryz.prog).any (Tryz.prog.ifacesRec ·)) = true := by kernel_rfl
theorem limits_k15 : (Rows.scriptLimitsRow.mapsOut == Tryz.prog.mapsAmong Tryz.f11.resultTypes.toList) = true := by kernel_rfl
theorem limits_k16 : (Rows.scriptLimitsRow.loops == (Tryz.f11.params.toList ++ Rows.scriptLimitsSpec.plain.varTypes Tryz.prog).any (Tryz.prog.loopsFrom ·)) = true := by kernel_rfl
theorem limits_k17 : (Rows.scriptLimitsRow.wideKeys == (Tryz.f11.params.toList ++ Rows.scriptLimitsSpec.plain.varTypes Tryz.prog ++ Tryz.f11.resultTypes.toList).any (Tryz.prog.wideKeysFrom ·)) = true := by kernel_rfl
theorem limits_k18 : (Rows.scriptLimitsSpec.vars.all (Tryz.prog.varReadable ·)) = true := by kernel_rfl
theorem limits_k19 : (Tryz.f11.resultTypes.all (fun t => Tryz.prog.readableRec t && decide (t < Tryz.prog.types.size))) = true := by kernel_rfl
theorem limits_k20 : (Rows.scriptLimitsRow.ifacesOut == Tryz.f11.resultTypes.toList.any (Tryz.prog.ifacesRec ·)) = true := by kernel_rfl
theorem limits_k21 : (Rows.scriptLimitsRow.loopsOut == Tryz.f11.resultTypes.toList.any (Tryz.prog.loopsFrom ·)) = true := by kernel_rfl
theorem limits_k23 : (Rows.scriptLimitsRow.shortTexts.isNone) = true := by kernel_rfl
theorem limits_k28 : (Rows.scriptLimitsRow.kinds == (if Rows.scriptLimitsRow.domain.isEmpty then [] else Tryz.f11.params.toList.map fun t => match Tryz.prog.underlying t with | some (.int k) => some k | _ => none)) = true := by kernel_rfl
theorem limits_k29 : (Rows.scriptLimitsRow.pinned == Rows.scriptLimitsRow.pinnedBy) = true := by kernel_rfl
theorem limits_k30 : (Rows.scriptLimitsRow.veiled == (Tryz.f11.params.toList ++ Rows.scriptLimitsSpec.plain.varTypes Tryz.prog ++ Tryz.f11.resultTypes.toList).any (Tryz.prog.veiledRec ·)) = true := by kernel_rfl
theorem limits_k31 : (Rows.scriptLimitsRow.veiledFits Tryz.prog Tryz.f11.params.toList (Tryz.f11.params.toList ++ Rows.scriptLimitsSpec.plain.varTypes Tryz.prog ++ Tryz.f11.resultTypes.toList)) = true := by kernel_rfl
theorem limits_closed : joinedFacts Tryz.prog 11 Tryz.f11 Rows.scriptLimitsSpec Rows.scriptLimitsRow = true := by
 unfold joinedFacts
 exact bt (bt (bt (bt (bt (bt (bt (bt (bt (bt (bt (bt (bt (bt (bt (bt (bt (bt (bt (bt (bt (bt (bt (bt (bt (bt (bt (bt (bt (bt (bt limits_k0 laidOut) g_maps) limits_k3) limits_k4) limits_k5) g_stops) limits_k7) g_knobs) limits_k9) limits_k10) limits_k11) limits_k12) limits_k13) limits_k14) limits_k15) limits_k16) limits_k17) limits_k18) limits_k19) limits_k20) limits_k21) g_plain) limits_k23) g_heard) g_enter) g_lifts) g_make) limits_k28) limits_k29) limits_k30) limits_k31
theorem limits_named : Tryz.prog.funcNamed "copydesk/copydesklaw28.ScriptLimits" = some 11 := by kernel_rfl
theorem limits_goes : false = Rows.scriptLimitsRow.goesBy Tryz.prog := by kernel_rfl
theorem limits_wft : Rows.scriptLimitsRow.wfByText (OpenSpec.ofChange Rows.scriptLimitsSpec) = true := by kernel_rfl
theorem limits_said : Rows.ScriptLimitsSaid :=
 OpenClaim.holds_of_wide 11 Tryz.f11 rfl rfl rfl rfl rfl rfl rfl ⟨rfl, rfl, rfl, rfl, rfl⟩ rfl rfl rfl rfl rfl limits_named Tryz.func11 limits_closed
  (of_decide_eq_true (by kernel_rfl)) (by unfold Func.isWrapper; first | (rw [if_pos (by decide +kernel)]; kernel_rfl) | (rw [if_neg (by decide +kernel)]; exact ⟨rfl, rfl⟩))
  (fun os started H enc _ => limits_lifted os started H enc)
theorem limits_stand : ∀ f fn, Tryz.prog.funcNamed "copydesk/copydesklaw28.ScriptLimits" = some f -> Tryz.prog.funcs[f]? = some fn -> true = Tryz.prog.looks [] /\ ∀ (j : Nat) t, fn.params[j]? = some t -> Tryz.prog.wantsStandIn t = false := fun f fn hf hfn => by
 obtain rfl : f = 11 := (Option.some.inj (limits_named.symm.trans hf)).symm
 obtain rfl : fn = Tryz.f11 := (Option.some.inj (Tryz.func11.symm.trans hfn)).symm
 exact ⟨g_looks, fun j t ht => by
  rw [Tryz.params11] at ht
  have hm : t ∈ [32, 3] := by simpa using Array.mem_of_getElem? ht
  have hall : ([32, 3].all fun u => !Tryz.prog.wantsStandIn u) = true := by kernel_rfl
  exact (show Tryz.prog.wantsStandIn t = false by simpa using List.all_eq_true.1 hall t hm)⟩
theorem limits_holds : Rows.ScriptLimitsCardSaid :=
 Claim7.holds_tied_plain_at .later [] [.data, .data, .data, .data, .handle, .data, .sentinel, .sentinel, .pinned] true (true, "4cf7673d7f0824c597bc1be1c6424031f8cc8997be29c3c5e4c9ab354cc86b93") true
  limits_said (fun _ h => by cases h) limits_wft (fun _ h => by cases h) scriptLimits_row_tie rfl ⟨rfl, rfl⟩ g_main rfl
  limits_stand limits_goes
end Go.Proofs.YtpaefpnkemkikaaGreatDoor
