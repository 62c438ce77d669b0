/- Proved here: ScriptJoined answers true whatever the two strings are, and the arguments read afterwards as they read before; the tied card. No condition beyond the given row's. -/
import Derived.Test.YtpaefpnkemkikaaGreatDoorF10
import Derived.Test.YtpaefpnkemkikaaGreatDoorG2
set_option maxRecDepth 100000
set_option maxHeartbeats 16000000
namespace Go.Proofs.YtpaefpnkemkikaaGreatDoor
open Go.ChangeShapes Go.WideShapes Go.ChangeAt Go.RowKit Cdk Scr
theorem joineds_lifted (os : Os) (started : os.Started) (H : Type) (enc : TypeId × Value -> H) :
  ReturnsInHanded {} Tryz.checked os 10 .any (fun w args => (Rows.scriptJoinedSpec.pre enc Tryz.prog Tryz.f10 Rows.scriptJoinedRow.domain false w args /\ laidMetH Tryz.prog laidL w) /\ sizedMet enc Tryz.prog Tryz.f10 (OpenSpec.ofChange Rows.scriptJoinedSpec) false w args)
   (Rows.scriptJoinedSpec.post enc Tryz.prog Tryz.f10 false true false false) := by
 refine handed_sized (C := Tryz.checked) (X := fun w _ => laidMetH Tryz.prog laidL w) (fun _ _ _ hh h => h.of_heap hh) own started (by kernel_rfl) Tryz.func10
  (ChangeSpec.witness_shaped (enc := enc) (C := Tryz.checked) (os := os) (X := fun w _ => laidMetH Tryz.prog laidL w) false (wit os) #[.string .empty, .string .empty] 8 (wit_os _)
   (World.shaped_of_ZipB (by kernel_rfl) (by kernel_rfl)) (by kernel_rfl) (by kernel_rfl) (by kernel_rfl)
   (wit_met os _)) ?_
 intro W base args ds gs before hval0 hW hwt0 hL hS
 have hval : ∀ (j : Nat) t v, Tryz.f10.params[j]? = some t -> args[j]? = some v -> Value.okWide Tryz.prog W .any base t v := hval0
 have hW' := hW
 obtain ⟨p, q, hA0, hV, rfl, hfz, hnd⟩ := hW
 have hA : DataW.TrodAll enc Tryz.prog W 0 (fun _ => true) true Tryz.f10.params.toList args.toList ds p := hA0
 have hwt : (DataW.weightsEach Tryz.prog (Tryz.f10.params.toList ++ Rows.scriptJoinedSpec.plain.varTypes Tryz.prog) (ds ++ gs)).all (· <= reachBytes) = true := hwt0
 rw [Tryz.params10] at hA hval hwt
 obtain ⟨v0, v1, d0, d1, p0, p1, rfl, rfl, rfl, h0, h1⟩ := trodAll_two hA
 obtain ⟨rfl, rfl⟩ := trodVars_none hV
 obtain ⟨s0, rfl, hz0⟩ := string_open (hval 0 9 v0 rfl rfl) h0 (Wl.of_each (j := 0) hwt rfl rfl)
 obtain ⟨s1, rfl, hz1⟩ := string_open (hval 1 9 v1 rfl rfl) h1 (Wl.of_each (j := 1) hwt rfl rfl)
 refine (joinedL_any s0 s1 hz0 hz1 W (gl_of hL hS)).mono fun e W' ⟨he, hw⟩ => ?_
 exact ⟨_, he, post_true (P := Tryz.prog) laidOut Tryz.underlying4 hW' (by kernel_rfl) rfl (by kernel_rfl) rfl rfl rfl hw⟩
theorem joineds_k0 : (Rows.scriptJoinedRow.wf (OpenSpec.ofChange Rows.scriptJoinedSpec)) = true := by kernel_rfl
theorem joineds_k3 : (Tryz.f10.params.all (Tryz.prog.readableRec ·)) = true := by kernel_rfl
theorem joineds_k4 : (namedTie Tryz.prog Rows.scriptJoinedRow.named Rows.scriptJoinedSpec.vars) = true := by kernel_rfl
theorem joineds_k5 : (Rows.scriptJoinedRow.stops == []) = true := by kernel_rfl
theorem joineds_k7 : (Rows.scriptJoinedRow.knobs == []) = true := by kernel_rfl
theorem joineds_k9 : (Rows.scriptJoinedRow.inPlace == Tryz.prog.inPlace 10) = true := by kernel_rfl
theorem joineds_k10 : (Rows.scriptJoinedRow.unfollowed == Tryz.prog.unfollowed 10) = true := by kernel_rfl
theorem joineds_k11 : (Rows.scriptJoinedRow.recurses == Tryz.prog.recurses 10) = true := by kernel_rfl
theorem joineds_k12 : (Rows.scriptJoinedRow.named == Tryz.prog.varsNamed 10) = true := by kernel_rfl
theorem joineds_k13 : (Rows.scriptJoinedRow.maps == (Tryz.f10.params.toList ++ Rows.scriptJoinedSpec.plain.varTypes Tryz.prog).any (Tryz.prog.mapsRec ·)) = true := by kernel_rfl
theorem joineds_k14 : (Rows.scriptJoinedRow.ifaces == (Tryz.f10.params.toList ++ Rows.scriptJoinedSpec.plain.varTypes Tryz.prog).any (Tryz.prog.ifacesRec ·)) = true := by kernel_rfl
theorem joineds_k15 : (Rows.scriptJoinedRow.mapsOut == Tryz.prog.mapsAmong Tryz.f10.resultTypes.toList) = true := by kernel_rfl
theorem joineds_k16 : (Rows.scriptJoinedRow.loops == (Tryz.f10.params.toList ++ Rows.scriptJoinedSpec.plain.varTypes Tryz.prog).any (Tryz.prog.loopsFrom ·)) = true := by kernel_rfl
theorem joineds_k17 : (Rows.scriptJoinedRow.wideKeys == (Tryz.f10.params.toList ++ Rows.scriptJoinedSpec.plain.varTypes Tryz.prog ++ Tryz.f10.resultTypes.toList).any (Tryz.prog.wideKeysFrom ·)) = true := by kernel_rfl
theorem joineds_k18 : (Rows.scriptJoinedSpec.vars.all (Tryz.prog.varReadable ·)) = true := by kernel_rfl
theorem joineds_k19 : (Tryz.f10.resultTypes.all (fun t => Tryz.prog.readableRec t && decide (t < Tryz.prog.types.size))) = true := by kernel_rfl
theorem joineds_k20 : (Rows.scriptJoinedRow.ifacesOut == Tryz.f10.resultTypes.toList.any (Tryz.prog.ifacesRec ·)) = true := by kernel_rfl
theorem joineds_k21 : (Rows.scriptJoinedRow.loopsOut == Tryz.f10.resultTypes.toList.any (Tryz.prog.loopsFrom ·)) = true := by kernel_rfl
theorem joineds_k23 : (Rows.scriptJoinedRow.shortTexts.isNone) = true := by kernel_rfl
theorem joineds_k28 : (Rows.scriptJoinedRow.kinds == (if Rows.scriptJoinedRow.domain.isEmpty then [] else Tryz.f10.params.toList.map fun t => match Tryz.prog.underlying t with | some (.int k) => some k | _ => none)) = true := by kernel_rfl
theorem joineds_k29 : (Rows.scriptJoinedRow.pinned == Rows.scriptJoinedRow.pinnedBy) = true := by kernel_rfl
theorem joineds_k30 : (Rows.scriptJoinedRow.veiled == (Tryz.f10.params.toList ++ Rows.scriptJoinedSpec.plain.varTypes Tryz.prog ++ Tryz.f10.resultTypes.toList).any (Tryz.prog.veiledRec ·)) = true := by kernel_rfl
theorem joineds_k31 : (Rows.scriptJoinedRow.veiledFits Tryz.prog Tryz.f10.params.toList (Tryz.f10.params.toList ++ Rows.scriptJoinedSpec.plain.varTypes Tryz.prog ++ Tryz.f10.resultTypes.toList)) = true := by kernel_rfl
theorem joineds_closed : joinedFacts Tryz.prog 10 Tryz.f10 Rows.scriptJoinedSpec Rows.scriptJoinedRow = true := by
 unfold joinedFacts
 exact bt (bt (bt (bt (bt (bt (bt (bt (bt (bt (bt (bt (bt (bt (bt (bt (bt (bt (bt (bt (bt (bt (bt (bt (bt (bt (bt (bt (bt (bt (bt joineds_k0 laidOut) g_maps) joineds_k3) joineds_k4) joineds_k5) g_stops) joineds_k7) g_knobs) joineds_k9) joineds_k10) joineds_k11) joineds_k12) joineds_k13) joineds_k14) joineds_k15) joineds_k16) joineds_k17) joineds_k18) joineds_k19) joineds_k20) joineds_k21) g_plain) joineds_k23) g_heard) g_enter) g_lifts) g_make) joineds_k28) joineds_k29) joineds_k30) joineds_k31
theorem joineds_named : Tryz.prog.funcNamed "copydesk/copydesklaw28.ScriptJoined" = some 10 := by kernel_rfl
theorem joineds_goes : false = Rows.scriptJoinedRow.goesBy Tryz.prog := by kernel_rfl
theorem joineds_wft : Rows.scriptJoinedRow.wfByText (OpenSpec.ofChange Rows.scriptJoinedSpec) = true := by kernel_rfl
theorem joineds_said : Rows.ScriptJoinedSaid :=
 OpenClaim.holds_of_wide 10 Tryz.f10 rfl rfl rfl rfl rfl rfl rfl ⟨rfl, rfl, rfl, rfl, rfl⟩ rfl rfl rfl rfl rfl joineds_named Tryz.func10 joineds_closed
  (of_decide_eq_true (by kernel_rfl)) (by unfold Func.isWrapper; first | (rw [if_pos (by decide +kernel)]; kernel_rfl) | (rw [if_neg (by decide +kernel)]; exact ⟨rfl, rfl⟩))
  (fun os started H enc _ => joineds_lifted os started H enc)
theorem joineds_stand : ∀ f fn, Tryz.prog.funcNamed "copydesk/copydesklaw28.ScriptJoined" = some f -> Tryz.prog.funcs[f]? = some fn -> true = Tryz.prog.looks [] /\ ∀ (j : Nat) t, fn.params[j]? = some t -> Tryz.prog.wantsStandIn t = false := fun f fn hf hfn => by
 obtain rfl : f = 10 := (Option.some.inj (joineds_named.symm.trans hf)).symm
 obtain rfl : fn = Tryz.f10 := (Option.some.inj (Tryz.func10.symm.trans hfn)).symm
 exact ⟨g_looks, fun j t ht => by
  rw [Tryz.params10] at ht
  have hm : t ∈ [9, 9] := by simpa using Array.mem_of_getElem? ht
  have hall : ([9, 9].all fun u => !Tryz.prog.wantsStandIn u) = true := by kernel_rfl
  exact (show Tryz.prog.wantsStandIn t = false by simpa using List.all_eq_true.1 hall t hm)⟩
theorem joineds_holds : Rows.ScriptJoinedCardSaid :=
 Claim7.holds_tied_plain_at .later [] [.data, .data, .data, .data, .handle, .data, .sentinel, .sentinel, .pinned] true (true, "4cf7673d7f0824c597bc1be1c6424031f8cc8997be29c3c5e4c9ab354cc86b93") true
  joineds_said (fun _ h => by cases h) joineds_wft (fun _ h => by cases h) scriptJoined_row_tie rfl ⟨rfl, rfl⟩ g_main rfl
  joineds_stand joineds_goes
end Go.Proofs.YtpaefpnkemkikaaGreatDoor
