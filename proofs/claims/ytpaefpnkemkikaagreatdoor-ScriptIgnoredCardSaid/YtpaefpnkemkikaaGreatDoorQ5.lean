/- Proved here: ScriptIgnored answers true whatever the two strings are, and the arguments read afterwards as they read before; the tied card. No condition beyond the given row's. -/
import Derived.Test.YtpaefpnkemkikaaGreatDoorF9
import Derived.Test.YtpaefpnkemkikaaGreatDoorG2
set_option maxRecDepth 100000
set_option maxHeartbeats 16000000
namespace Go.Proofs.YtpaefpnkemkikaaGreatDoor
open Go.ChangeShapes Go.WideShapes Go.ChangeAt Go.RowKit Cdk Scr
theorem ignoreds_lifted (os : Os) (started : os.Started) (H : Type) (enc : TypeId × Value -> H) :
  ReturnsInHanded {} Tryz.checked os 9 .any (fun w args => (Rows.scriptIgnoredSpec.pre enc Tryz.prog Tryz.f9 Rows.scriptIgnoredRow.domain false w args /\ laidMetH Tryz.prog laidL w) /\ sizedMet enc Tryz.prog Tryz.f9 (OpenSpec.ofChange Rows.scriptIgnoredSpec) false w args)
   (Rows.scriptIgnoredSpec.post enc Tryz.prog Tryz.f9 false true false false) := by
 refine handed_sized (C := Tryz.checked) (X := fun w _ => laidMetH Tryz.prog laidL w) (fun _ _ _ hh h => h.of_heap hh) own started (by kernel_rfl) Tryz.func9
  (ChangeSpec.witness_shaped (enc := enc) (C := Tryz.checked) (os := os) (X := fun w _ => laidMetH Tryz.prog laidL w) false (wit os) #[.string .empty, .string .empty] 8 (wit_os _)
   (World.shaped_of_ZipB (by kernel_rfl) (by kernel_rfl)) (by kernel_rfl) (by kernel_rfl) (by kernel_rfl)
   (wit_met os _)) ?_
 intro W base args ds gs before hval0 hW hwt0 hL hS
 have hval : ∀ (j : Nat) t v, Tryz.f9.params[j]? = some t -> args[j]? = some v -> Value.okWide Tryz.prog W .any base t v := hval0
 have hW' := hW
 obtain ⟨p, q, hA0, hV, rfl, hfz, hnd⟩ := hW
 have hA : DataW.TrodAll enc Tryz.prog W 0 (fun _ => true) true Tryz.f9.params.toList args.toList ds p := hA0
 have hwt : (DataW.weightsEach Tryz.prog (Tryz.f9.params.toList ++ Rows.scriptIgnoredSpec.plain.varTypes Tryz.prog) (ds ++ gs)).all (· <= reachBytes) = true := hwt0
 rw [Tryz.params9] at hA hval hwt
 obtain ⟨v0, v1, d0, d1, p0, p1, rfl, rfl, rfl, h0, h1⟩ := trodAll_two hA
 obtain ⟨rfl, rfl⟩ := trodVars_none hV
 obtain ⟨s0, rfl, hz0⟩ := string_open (hval 0 9 v0 rfl rfl) h0 (Wl.of_each (j := 0) hwt rfl rfl)
 obtain ⟨s1, rfl, hz1⟩ := string_open (hval 1 9 v1 rfl rfl) h1 (Wl.of_each (j := 1) hwt rfl rfl)
 refine (ignoredL_any s0 s1 hz0 hz1 W (gl_of hL hS)).mono fun e W' ⟨he, hw⟩ => ?_
 exact ⟨_, he, post_true (P := Tryz.prog) laidOut Tryz.underlying4 hW' (by kernel_rfl) rfl (by kernel_rfl) rfl rfl rfl hw⟩
theorem ignoreds_k0 : (Rows.scriptIgnoredRow.wf (OpenSpec.ofChange Rows.scriptIgnoredSpec)) = true := by kernel_rfl
theorem ignoreds_k3 : (Tryz.f9.params.all (Tryz.prog.readableRec ·)) = true := by kernel_rfl
theorem ignoreds_k4 : (namedTie Tryz.prog Rows.scriptIgnoredRow.named Rows.scriptIgnoredSpec.vars) = true := by kernel_rfl
theorem ignoreds_k5 : (Rows.scriptIgnoredRow.stops == []) = true := by kernel_rfl
theorem ignoreds_k7 : (Rows.scriptIgnoredRow.knobs == []) = true := by kernel_rfl
theorem ignoreds_k9 : (Rows.scriptIgnoredRow.inPlace == Tryz.prog.inPlace 9) = true := by kernel_rfl
theorem ignoreds_k10 : (Rows.scriptIgnoredRow.unfollowed == Tryz.prog.unfollowed 9) = true := by kernel_rfl
theorem ignoreds_k11 : (Rows.scriptIgnoredRow.recurses == Tryz.prog.recurses 9) = true := by kernel_rfl
theorem ignoreds_k12 : (Rows.scriptIgnoredRow.named == Tryz.prog.varsNamed 9) = true := by kernel_rfl
theorem ignoreds_k13 : (Rows.scriptIgnoredRow.maps == (Tryz.f9.params.toList ++ Rows.scriptIgnoredSpec.plain.varTypes Tryz.prog).any (Tryz.prog.mapsRec ·)) = true := by kernel_rfl
theorem ignoreds_k14 : (Rows.scriptIgnoredRow.ifaces == (Tryz.f9.params.toList ++ Rows.scriptIgnoredSpec.plain.varTypes Tryz.prog).any (Tryz.prog.ifacesRec ·)) = true := by kernel_rfl
theorem ignoreds_k15 : (Rows.scriptIgnoredRow.mapsOut == Tryz.prog.mapsAmong Tryz.f9.resultTypes.toList) = true := by kernel_rfl
theorem ignoreds_k16 : (Rows.scriptIgnoredRow.loops == (Tryz.f9.params.toList ++ Rows.scriptIgnoredSpec.plain.varTypes Tryz.prog).any (Tryz.prog.loopsFrom ·)) = true := by kernel_rfl
theorem ignoreds_k17 : (Rows.scriptIgnoredRow.wideKeys == (Tryz.f9.params.toList ++ Rows.scriptIgnoredSpec.plain.varTypes Tryz.prog ++ Tryz.f9.resultTypes.toList).any (Tryz.prog.wideKeysFrom ·)) = true := by kernel_rfl
theorem ignoreds_k18 : (Rows.scriptIgnoredSpec.vars.all (Tryz.prog.varReadable ·)) = true := by kernel_rfl
theorem ignoreds_k19 : (Tryz.f9.resultTypes.all (fun t => Tryz.prog.readableRec t && decide (t < Tryz.prog.types.size))) = true := by kernel_rfl
theorem ignoreds_k20 : (Rows.scriptIgnoredRow.ifacesOut == Tryz.f9.resultTypes.toList.any (Tryz.prog.ifacesRec ·)) = true := by kernel_rfl
theorem ignoreds_k21 : (Rows.scriptIgnoredRow.loopsOut == Tryz.f9.resultTypes.toList.any (Tryz.prog.loopsFrom ·)) = true := by kernel_rfl
theorem ignoreds_k23 : (Rows.scriptIgnoredRow.shortTexts.isNone) = true := by kernel_rfl
theorem ignoreds_k28 : (Rows.scriptIgnoredRow.kinds == (if Rows.scriptIgnoredRow.domain.isEmpty then [] else Tryz.f9.params.toList.map fun t => match Tryz.prog.underlying t with | some (.int k) => some k | _ => none)) = true := by kernel_rfl
theorem ignoreds_k29 : (Rows.scriptIgnoredRow.pinned == Rows.scriptIgnoredRow.pinnedBy) = true := by kernel_rfl
theorem ignoreds_k30 : (Rows.scriptIgnoredRow.veiled == (Tryz.f9.params.toList ++ Rows.scriptIgnoredSpec.plain.varTypes Tryz.prog ++ Tryz.f9.resultTypes.toList).any (Tryz.prog.veiledRec ·)) = true := by kernel_rfl
theorem ignoreds_k31 : (Rows.scriptIgnoredRow.veiledFits Tryz.prog Tryz.f9.params.toList (Tryz.f9.params.toList ++ Rows.scriptIgnoredSpec.plain.varTypes Tryz.prog ++ Tryz.f9.resultTypes.toList)) = true := by kernel_rfl
theorem ignoreds_closed : joinedFacts Tryz.prog 9 Tryz.f9 Rows.scriptIgnoredSpec Rows.scriptIgnoredRow = true := by
 unfold joinedFacts
 exact bt (bt (bt (bt (bt (bt (bt (bt (bt (bt (bt (bt (bt (bt (bt (bt (bt (bt (bt (bt (bt (bt (bt (bt (bt (bt (bt (bt (bt (bt (bt ignoreds_k0 laidOut) g_maps) ignoreds_k3) ignoreds_k4) ignoreds_k5) g_stops) ignoreds_k7) g_knobs) ignoreds_k9) ignoreds_k10) ignoreds_k11) ignoreds_k12) ignoreds_k13) ignoreds_k14) ignoreds_k15) ignoreds_k16) ignoreds_k17) ignoreds_k18) ignoreds_k19) ignoreds_k20) ignoreds_k21) g_plain) ignoreds_k23) g_heard) g_enter) g_lifts) g_make) ignoreds_k28) ignoreds_k29) ignoreds_k30) ignoreds_k31
theorem ignoreds_named : Tryz.prog.funcNamed "copydesk/copydesklaw28.ScriptIgnored" = some 9 := by kernel_rfl
theorem ignoreds_goes : false = Rows.scriptIgnoredRow.goesBy Tryz.prog := by kernel_rfl
theorem ignoreds_wft : Rows.scriptIgnoredRow.wfByText (OpenSpec.ofChange Rows.scriptIgnoredSpec) = true := by kernel_rfl
theorem ignoreds_said : Rows.ScriptIgnoredSaid :=
 OpenClaim.holds_of_wide 9 Tryz.f9 rfl rfl rfl rfl rfl rfl rfl ⟨rfl, rfl, rfl, rfl, rfl⟩ rfl rfl rfl rfl rfl ignoreds_named Tryz.func9 ignoreds_closed
  (of_decide_eq_true (by kernel_rfl)) (by unfold Func.isWrapper; first | (rw [if_pos (by decide +kernel)]; kernel_rfl) | (rw [if_neg (by decide +kernel)]; exact ⟨rfl, rfl⟩))
  (fun os started H enc _ => ignoreds_lifted os started H enc)
theorem ignoreds_stand : ∀ f fn, Tryz.prog.funcNamed "copydesk/copydesklaw28.ScriptIgnored" = some f -> Tryz.prog.funcs[f]? = some fn -> true = Tryz.prog.looks [] /\ ∀ (j : Nat) t, fn.params[j]? = some t -> Tryz.prog.wantsStandIn t = false := fun f fn hf hfn => by
 obtain rfl : f = 9 := (Option.some.inj (ignoreds_named.symm.trans hf)).symm
 obtain rfl : fn = Tryz.f9 := (Option.some.inj (Tryz.func9.symm.trans hfn)).symm
 exact ⟨g_looks, fun j t ht => by
  rw [Tryz.params9] at ht
  have hm : t ∈ [9, 9] := by simpa using Array.mem_of_getElem? ht
  have hall : ([9, 9].all fun u => !Tryz.prog.wantsStandIn u) = true := by kernel_rfl
  exact (show Tryz.prog.wantsStandIn t = false by simpa using List.all_eq_true.1 hall t hm)⟩
theorem ignoreds_holds : Rows.ScriptIgnoredCardSaid :=
 Claim7.holds_tied_plain_at .later [] [.data, .data, .data, .data, .handle, .data, .sentinel, .sentinel, .pinned] true (true, "4cf7673d7f0824c597bc1be1c6424031f8cc8997be29c3c5e4c9ab354cc86b93") true
  ignoreds_said (fun _ h => by cases h) ignoreds_wft (fun _ h => by cases h) scriptIgnored_row_tie rfl ⟨rfl, rfl⟩ g_main rfl
  ignoreds_stand ignoreds_goes
end Go.Proofs.YtpaefpnkemkikaaGreatDoor
