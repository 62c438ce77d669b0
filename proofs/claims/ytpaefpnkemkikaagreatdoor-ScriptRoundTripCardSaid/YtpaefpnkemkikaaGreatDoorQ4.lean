/- Proved here: ScriptRoundTrip answers true whatever the list of actions is, and the arguments read afterwards as they read before; the tied card. No condition beyond the given row's. -/
import Derived.Test.YtpaefpnkemkikaaGreatDoorF8
import Derived.Test.YtpaefpnkemkikaaGreatDoorG2
set_option maxRecDepth 100000
set_option maxHeartbeats 16000000
namespace Go.Proofs.YtpaefpnkemkikaaGreatDoor
open Go.ChangeShapes Go.WideShapes Go.ChangeAt Go.RowKit Cdk Scr
theorem round_lifted (os : Os) (started : os.Started) (H : Type) (enc : TypeId × Value -> H) :
  ReturnsInHanded {} Tryz.checked os 6 .any (fun w args => (Rows.scriptRoundTripSpec.pre enc Tryz.prog Tryz.f6 Rows.scriptRoundTripRow.domain false w args /\ laidMetH Tryz.prog laidL w) /\ sizedMet enc Tryz.prog Tryz.f6 (OpenSpec.ofChange Rows.scriptRoundTripSpec) false w args)
   (Rows.scriptRoundTripSpec.post enc Tryz.prog Tryz.f6 false true false false) := by
 refine handed_sized (C := Tryz.checked) (X := fun w _ => laidMetH Tryz.prog laidL w) (fun _ _ _ hh h => h.of_heap hh) own started (by kernel_rfl) Tryz.func6
  (ChangeSpec.witness_shaped (enc := enc) (C := Tryz.checked) (os := os) (X := fun w _ => laidMetH Tryz.prog laidL w) false (wit os) #[.slice none 0 0] 8 (wit_os _)
   (World.shaped_of_ZipB (by kernel_rfl) (by kernel_rfl)) (by kernel_rfl) (by kernel_rfl) (by kernel_rfl)
   (wit_met os _)) ?_
 intro W base args ds gs before hval0 hW hwt0 hL hS
 have hval : ∀ (j : Nat) t v, Tryz.f6.params[j]? = some t -> args[j]? = some v -> Value.okWide Tryz.prog W .any base t v := hval0
 have hW' := hW
 obtain ⟨p, q, hA0, hV, rfl, hfz, hnd⟩ := hW
 have hA : DataW.TrodAll enc Tryz.prog W 0 (fun _ => true) true Tryz.f6.params.toList args.toList ds p := hA0
 have hwt : (DataW.weightsEach Tryz.prog (Tryz.f6.params.toList ++ Rows.scriptRoundTripSpec.plain.varTypes Tryz.prog) (ds ++ gs)).all (· <= reachBytes) = true := hwt0
 rw [Tryz.params6] at hA hval hwt
 obtain ⟨v0, d0, rfl, rfl, h0⟩ := trodAll_one hA
 obtain ⟨rfl, rfl⟩ := trodVars_none hV
 obtain ⟨ao0, cap0, l0, rfl, hr0, ho0⟩ := actions_open (hval 0 37 v0 rfl rfl) h0 (Wl.of_each (j := 0) hwt rfl rfl)
 refine (roundL_any l0 ao0 cap0 W (gl_of hL hS) hr0 (fun a ha => ⟨by have := (ho0 a ha).tx; omega, by have := (ho0 a ha).ms.da; omega⟩)).mono fun e W' ⟨he, hw⟩ => ?_
 exact ⟨_, he, post_true (P := Tryz.prog) laidOut Tryz.underlying4 hW' (by kernel_rfl) rfl (by kernel_rfl) rfl rfl rfl hw⟩
theorem round_k0 : (Rows.scriptRoundTripRow.wf (OpenSpec.ofChange Rows.scriptRoundTripSpec)) = true := by kernel_rfl
theorem round_k3 : (Tryz.f6.params.all (Tryz.prog.readableRec ·)) = true := by kernel_rfl
theorem round_k4 : (namedTie Tryz.prog Rows.scriptRoundTripRow.named Rows.scriptRoundTripSpec.vars) = true := by kernel_rfl
theorem round_k5 : (Rows.scriptRoundTripRow.stops == []) = true := by kernel_rfl
theorem round_k7 : (Rows.scriptRoundTripRow.knobs == []) = true := by kernel_rfl
theorem round_k9 : (Rows.scriptRoundTripRow.inPlace == Tryz.prog.inPlace 6) = true := by kernel_rfl
theorem round_k10 : (Rows.scriptRoundTripRow.unfollowed == Tryz.prog.unfollowed 6) = true := by kernel_rfl
theorem round_k11 : (Rows.scriptRoundTripRow.recurses == Tryz.prog.recurses 6) = true := by kernel_rfl
theorem round_k12 : (Rows.scriptRoundTripRow.named == Tryz.prog.varsNamed 6) = true := by kernel_rfl
theorem round_k13 : (Rows.scriptRoundTripRow.maps == (Tryz.f6.params.toList ++ Rows.scriptRoundTripSpec.plain.varTypes Tryz.prog).any (Tryz.prog.mapsRec ·)) = true := by kernel_rfl
theorem round_k14 : (Rows.scriptRoundTripRow.ifaces == (Tryz.f6.params.toList ++ Rows.scriptRoundTripSpec.plain.varTypes Tryz.prog).any (Tryz.prog.ifacesRec ·)) = true := by kernel_rfl
theorem round_k15 : (Rows.scriptRoundTripRow.mapsOut == Tryz.prog.mapsAmong Tryz.f6.resultTypes.toList) = true := by kernel_rfl
theorem round_k16 : (Rows.scriptRoundTripRow.loops == (Tryz.f6.params.toList ++ Rows.scriptRoundTripSpec.plain.varTypes Tryz.prog).any (Tryz.prog.loopsFrom ·)) = true := by kernel_rfl
theorem round_k17 : (Rows.scriptRoundTripRow.wideKeys == (Tryz.f6.params.toList ++ Rows.scriptRoundTripSpec.plain.varTypes Tryz.prog ++ Tryz.f6.resultTypes.toList).any (Tryz.prog.wideKeysFrom ·)) = true := by kernel_rfl
theorem round_k18 : (Rows.scriptRoundTripSpec.vars.all (Tryz.prog.varReadable ·)) = true := by kernel_rfl
theorem round_k19 : (Tryz.f6.resultTypes.all (fun t => Tryz.prog.readableRec t && decide (t < Tryz.prog.types.size))) = true := by kernel_rfl
theorem round_k20 : (Rows.scriptRoundTripRow.ifacesOut == Tryz.f6.resultTypes.toList.any (Tryz.prog.ifacesRec ·)) = true := by kernel_rfl
theorem round_k21 : (Rows.scriptRoundTripRow.loopsOut == Tryz.f6.resultTypes.toList.any (Tryz.prog.loopsFrom ·)) = true := by kernel_rfl
theorem round_k23 : (Rows.scriptRoundTripRow.shortTexts.isNone) = true := by kernel_rfl
theorem round_k28 : (Rows.scriptRoundTripRow.kinds == (if Rows.scriptRoundTripRow.domain.isEmpty then [] else Tryz.f6.params.toList.map fun t => match Tryz.prog.underlying t with | some (.int k) => some k | _ => none)) = true := by kernel_rfl
theorem round_k29 : (Rows.scriptRoundTripRow.pinned == Rows.scriptRoundTripRow.pinnedBy) = true := by kernel_rfl
theorem round_k30 : (Rows.scriptRoundTripRow.veiled == (Tryz.f6.params.toList ++ Rows.scriptRoundTripSpec.plain.varTypes Tryz.prog ++ Tryz.f6.resultTypes.toList).any (Tryz.prog.veiledRec ·)) = true := by kernel_rfl
theorem round_k31 : (Rows.scriptRoundTripRow.veiledFits Tryz.prog Tryz.f6.params.toList (Tryz.f6.params.toList ++ Rows.scriptRoundTripSpec.plain.varTypes Tryz.prog ++ Tryz.f6.resultTypes.toList)) = true := by kernel_rfl
theorem round_closed : joinedFacts Tryz.prog 6 Tryz.f6 Rows.scriptRoundTripSpec Rows.scriptRoundTripRow = true := by
 unfold joinedFacts
 exact bt (bt (bt (bt (bt (bt (bt (bt (bt (bt (bt (bt (bt (bt (bt (bt (bt (bt (bt (bt (bt (bt (bt (bt (bt (bt (bt (bt (bt (bt (bt round_k0 laidOut) g_maps) round_k3) round_k4) round_k5) g_stops) round_k7) g_knobs) round_k9) round_k10) round_k11) round_k12) round_k13) round_k14) round_k15) round_k16) round_k17) round_k18) round_k19) round_k20) round_k21) g_plain) round_k23) g_heard) g_enter) g_lifts) g_make) round_k28) round_k29) round_k30) round_k31
theorem round_named : Tryz.prog.funcNamed "copydesk/copydesklaw28.ScriptRoundTrip" = some 6 := by kernel_rfl
theorem round_goes : false = Rows.scriptRoundTripRow.goesBy Tryz.prog := by kernel_rfl
theorem round_wft : Rows.scriptRoundTripRow.wfByText (OpenSpec.ofChange Rows.scriptRoundTripSpec) = true := by kernel_rfl
theorem round_said : Rows.ScriptRoundTripSaid :=
 OpenClaim.holds_of_wide 6 Tryz.f6 rfl rfl rfl rfl rfl rfl rfl ⟨rfl, rfl, rfl, rfl, rfl⟩ rfl rfl rfl rfl rfl round_named Tryz.func6 round_closed
  (of_decide_eq_true (by kernel_rfl)) (by unfold Func.isWrapper; first | (rw [if_pos (by decide +kernel)]; kernel_rfl) | (rw [if_neg (by decide +kernel)]; exact ⟨rfl, rfl⟩))
  (fun os started H enc _ => round_lifted os started H enc)
theorem round_stand : ∀ f fn, Tryz.prog.funcNamed "copydesk/copydesklaw28.ScriptRoundTrip" = some f -> Tryz.prog.funcs[f]? = some fn -> true = Tryz.prog.looks [] /\ ∀ (j : Nat) t, fn.params[j]? = some t -> Tryz.prog.wantsStandIn t = false := fun f fn hf hfn => by
 obtain rfl : f = 6 := (Option.some.inj (round_named.symm.trans hf)).symm
 obtain rfl : fn = Tryz.f6 := (Option.some.inj (Tryz.func6.symm.trans hfn)).symm
 exact ⟨g_looks, fun j t ht => by
  rw [Tryz.params6] at ht
  have hm : t ∈ [37] := by simpa using Array.mem_of_getElem? ht
  have hall : ([37].all fun u => !Tryz.prog.wantsStandIn u) = true := by kernel_rfl
  exact (show Tryz.prog.wantsStandIn t = false by simpa using List.all_eq_true.1 hall t hm)⟩
theorem round_holds : Rows.ScriptRoundTripCardSaid :=
 Claim7.holds_tied_plain_at .later [] [.data, .data, .data, .data, .handle, .data, .sentinel, .sentinel, .pinned] true (true, "4cf7673d7f0824c597bc1be1c6424031f8cc8997be29c3c5e4c9ab354cc86b93") true
  round_said (fun _ h => by cases h) round_wft (fun _ h => by cases h) scriptRoundTrip_row_tie rfl ⟨rfl, rfl⟩ g_main rfl
  round_stand round_goes
end Go.Proofs.YtpaefpnkemkikaaGreatDoor
