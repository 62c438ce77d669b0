/- Proved here: ScriptParsedAgain answers true whatever the string is, and the arguments read afterwards as they read before; the tied card. No condition beyond the given row's. -/
import Derived.Test.YtpaefpnkemkikaaGreatDoorF6
import Derived.Test.YtpaefpnkemkikaaGreatDoorG2
set_option maxRecDepth 100000
set_option maxHeartbeats 16000000
namespace Go.Proofs.YtpaefpnkemkikaaGreatDoor
open Go.ChangeShapes Go.WideShapes Go.ChangeAt Go.RowKit Cdk Scr
theorem again_lifted (os : Os) (started : os.Started) (H : Type) (enc : TypeId × Value -> H) :
  ReturnsInHanded {} Tryz.checked os 7 .any (fun w args => (Rows.scriptParsedAgainSpec.pre enc Tryz.prog Tryz.f7 Rows.scriptParsedAgainRow.domain false w args /\ laidMetH Tryz.prog laidL w) /\ sizedMet enc Tryz.prog Tryz.f7 (OpenSpec.ofChange Rows.scriptParsedAgainSpec) false w args)
   (Rows.scriptParsedAgainSpec.post enc Tryz.prog Tryz.f7 false true false false) := by
 refine handed_sized (C := Tryz.checked) (X := fun w _ => laidMetH Tryz.prog laidL w) (fun _ _ _ hh h => h.of_heap hh) own started (by kernel_rfl) Tryz.func7
  (ChangeSpec.witness_shaped (enc := enc) (C := Tryz.checked) (os := os) (X := fun w _ => laidMetH Tryz.prog laidL w) false (wit os) #[.string .empty] 8 (wit_os _)
   (World.shaped_of_ZipB (by kernel_rfl) (by kernel_rfl)) (by kernel_rfl) (by kernel_rfl) (by kernel_rfl)
   (wit_met os _)) ?_
 intro W base args ds gs before hval0 hW hwt0 hL hS
 have hval : ∀ (j : Nat) t v, Tryz.f7.params[j]? = some t -> args[j]? = some v -> Value.okWide Tryz.prog W .any base t v := hval0
 have hW' := hW
 obtain ⟨p, q, hA0, hV, rfl, hfz, hnd⟩ := hW
 have hA : DataW.TrodAll enc Tryz.prog W 0 (fun _ => true) true Tryz.f7.params.toList args.toList ds p := hA0
 have hwt : (DataW.weightsEach Tryz.prog (Tryz.f7.params.toList ++ Rows.scriptParsedAgainSpec.plain.varTypes Tryz.prog) (ds ++ gs)).all (· <= reachBytes) = true := hwt0
 rw [Tryz.params7] at hA hval hwt
 obtain ⟨v0, d0, rfl, rfl, h0⟩ := trodAll_one hA
 obtain ⟨rfl, rfl⟩ := trodVars_none hV
 obtain ⟨s0, rfl, hz0⟩ := string_open (hval 0 9 v0 rfl rfl) h0 (Wl.of_each (j := 0) hwt rfl rfl)
 refine (againL_any s0 hz0 W (gl_of hL hS)).mono fun e W' ⟨he, hw⟩ => ?_
 exact ⟨_, he, post_true (P := Tryz.prog) laidOut Tryz.underlying4 hW' (by kernel_rfl) rfl (by kernel_rfl) rfl rfl rfl hw⟩
theorem again_k0 : (Rows.scriptParsedAgainRow.wf (OpenSpec.ofChange Rows.scriptParsedAgainSpec)) = true := by kernel_rfl
theorem again_k3 : (Tryz.f7.params.all (Tryz.prog.readableRec ·)) = true := by kernel_rfl
theorem again_k4 : (namedTie Tryz.prog Rows.scriptParsedAgainRow.named Rows.scriptParsedAgainSpec.vars) = true := by kernel_rfl
theorem again_k5 : (Rows.scriptParsedAgainRow.stops == []) = true := by kernel_rfl
theorem again_k7 : (Rows.scriptParsedAgainRow.knobs == []) = true := by kernel_rfl
theorem again_k9 : (Rows.scriptParsedAgainRow.inPlace == Tryz.prog.inPlace 7) = true := by kernel_rfl
theorem again_k10 : (Rows.scriptParsedAgainRow.unfollowed == Tryz.prog.unfollowed 7) = true := by kernel_rfl
theorem again_k11 : (Rows.scriptParsedAgainRow.recurses == Tryz.prog.recurses 7) = true := by kernel_rfl
theorem again_k12 : (Rows.scriptParsedAgainRow.named == Tryz.prog.varsNamed 7) = true := by kernel_rfl
theorem again_k13 : (Rows.scriptParsedAgainRow.maps == (Tryz.f7.params.toList ++ Rows.scriptParsedAgainSpec.plain.varTypes Tryz.prog).any (Tryz.prog.mapsRec ·)) = true := by kernel_rfl
theorem again_k14 : (Rows.scriptParsedAgainRow.ifaces == (Tryz.f7.params.toList ++ Rows.scriptParsedAgainSpec.plain.varTypes Tryz.prog).any (Tryz.prog.ifacesRec ·)) = true := by kernel_rfl
theorem again_k15 : (Rows.scriptParsedAgainRow.mapsOut == Tryz.prog.mapsAmong Tryz.f7.resultTypes.toList) = true := by kernel_rfl
theorem again_k16 : (Rows.scriptParsedAgainRow.loops == (Tryz.f7.params.toList ++ Rows.scriptParsedAgainSpec.plain.varTypes Tryz.prog).any (Tryz.prog.loopsFrom ·)) = true := by kernel_rfl
theorem again_k17 : (Rows.scriptParsedAgainRow.wideKeys == (Tryz.f7.params.toList ++ Rows.scriptParsedAgainSpec.plain.varTypes Tryz.prog ++ Tryz.f7.resultTypes.toList).any (Tryz.prog.wideKeysFrom ·)) = true := by kernel_rfl
theorem again_k18 : (Rows.scriptParsedAgainSpec.vars.all (Tryz.prog.varReadable ·)) = true := by kernel_rfl
theorem again_k19 : (Tryz.f7.resultTypes.all (fun t => Tryz.prog.readableRec t && decide (t < Tryz.prog.types.size))) = true := by kernel_rfl
theorem again_k20 : (Rows.scriptParsedAgainRow.ifacesOut == Tryz.f7.resultTypes.toList.any (Tryz.prog.ifacesRec ·)) = true := by kernel_rfl
theorem again_k21 : (Rows.scriptParsedAgainRow.loopsOut == Tryz.f7.resultTypes.toList.any (Tryz.prog.loopsFrom ·)) = true := by kernel_rfl
theorem again_k23 : (Rows.scriptParsedAgainRow.shortTexts.isNone) = true := by kernel_rfl
theorem again_k28 : (Rows.scriptParsedAgainRow.kinds == (if Rows.scriptParsedAgainRow.domain.isEmpty then [] else Tryz.f7.params.toList.map fun t => match Tryz.prog.underlying t with | some (.int k) => some k | _ => none)) = true := by kernel_rfl
theorem again_k29 : (Rows.scriptParsedAgainRow.pinned == Rows.scriptParsedAgainRow.pinnedBy) = true := by kernel_rfl
theorem again_k30 : (Rows.scriptParsedAgainRow.veiled == (Tryz.f7.params.toList ++ Rows.scriptParsedAgainSpec.plain.varTypes Tryz.prog ++ Tryz.f7.resultTypes.toList).any (Tryz.prog.veiledRec ·)) = true := by kernel_rfl
theorem again_k31 : (Rows.scriptParsedAgainRow.veiledFits Tryz.prog Tryz.f7.params.toList (Tryz.f7.params.toList ++ Rows.scriptParsedAgainSpec.plain.varTypes Tryz.prog ++ Tryz.f7.resultTypes.toList)) = true := by kernel_rfl
theorem again_closed : joinedFacts Tryz.prog 7 Tryz.f7 Rows.scriptParsedAgainSpec Rows.scriptParsedAgainRow = true := by
 unfold joinedFacts
 exact bt (bt (bt (bt (bt (bt (bt (bt (bt (bt (bt (bt (bt (bt (bt (bt (bt (bt (bt (bt (bt (bt (bt (bt (bt (bt (bt (bt (bt (bt (bt again_k0 laidOut) g_maps) again_k3) again_k4) again_k5) g_stops) again_k7) g_knobs) again_k9) again_k10) again_k11) again_k12) again_k13) again_k14) again_k15) again_k16) again_k17) again_k18) again_k19) again_k20) again_k21) g_plain) again_k23) g_heard) g_enter) g_lifts) g_make) again_k28) again_k29) again_k30) again_k31
theorem again_named : Tryz.prog.funcNamed "copydesk/copydesklaw28.ScriptParsedAgain" = some 7 := by kernel_rfl
theorem again_goes : false = Rows.scriptParsedAgainRow.goesBy Tryz.prog := by kernel_rfl
theorem again_wft : Rows.scriptParsedAgainRow.wfByText (OpenSpec.ofChange Rows.scriptParsedAgainSpec) = true := by kernel_rfl
theorem again_said : Rows.ScriptParsedAgainSaid :=
 OpenClaim.holds_of_wide 7 Tryz.f7 rfl rfl rfl rfl rfl rfl rfl ⟨rfl, rfl, rfl, rfl, rfl⟩ rfl rfl rfl rfl rfl again_named Tryz.func7 again_closed
  (of_decide_eq_true (by kernel_rfl)) (by unfold Func.isWrapper; first | (rw [if_pos (by decide +kernel)]; kernel_rfl) | (rw [if_neg (by decide +kernel)]; exact ⟨rfl, rfl⟩))
  (fun os started H enc _ => again_lifted os started H enc)
theorem again_stand : ∀ f fn, Tryz.prog.funcNamed "copydesk/copydesklaw28.ScriptParsedAgain" = some f -> Tryz.prog.funcs[f]? = some fn -> true = Tryz.prog.looks [] /\ ∀ (j : Nat) t, fn.params[j]? = some t -> Tryz.prog.wantsStandIn t = false := fun f fn hf hfn => by
 obtain rfl : f = 7 := (Option.some.inj (again_named.symm.trans hf)).symm
 obtain rfl : fn = Tryz.f7 := (Option.some.inj (Tryz.func7.symm.trans hfn)).symm
 exact ⟨g_looks, fun j t ht => by
  rw [Tryz.params7] at ht
  have hm : t ∈ [9] := by simpa using Array.mem_of_getElem? ht
  have hall : ([9].all fun u => !Tryz.prog.wantsStandIn u) = true := by kernel_rfl
  exact (show Tryz.prog.wantsStandIn t = false by simpa using List.all_eq_true.1 hall t hm)⟩
theorem again_holds : Rows.ScriptParsedAgainCardSaid :=
 Claim7.holds_tied_plain_at .later [] [.data, .data, .data, .data, .handle, .data, .sentinel, .sentinel, .pinned] true (true, "4cf7673d7f0824c597bc1be1c6424031f8cc8997be29c3c5e4c9ab354cc86b93") true
  again_said (fun _ h => by cases h) again_wft (fun _ h => by cases h) scriptParsedAgain_row_tie rfl ⟨rfl, rfl⟩ g_main rfl
  again_stand again_goes
end Go.Proofs.YtpaefpnkemkikaaGreatDoor
