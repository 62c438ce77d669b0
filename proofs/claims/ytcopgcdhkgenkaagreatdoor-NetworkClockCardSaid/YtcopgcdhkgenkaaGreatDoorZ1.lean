/- Proved here: NetworkClock answers true whatever the list of numbers is, and the arguments read afterwards as they read before; the tied card. No condition beyond the given row's. -/
import Derived.Test.YtcopgcdhkgenkaaGreatDoorY1
import Derived.Test.YtcopgcdhkgenkaaGreatDoorG2
import Derived.Test.YtcopgcdhkgenkaaGreatDoorW9
import Derived.Test.YtcopgcdhkgenkaaGreatDoorW11
set_option linter.all false
set_option maxRecDepth 100000
set_option maxHeartbeats 16000000
namespace Go.Proofs.YtcopgcdhkgenkaaGreatDoor
open Go.ChangeShapes Go.WideShapes Go.ChangeAt Go.RowKit Cdk Scr
theorem clocks_lifted (os:Os) (started:os.Started) (H:Type) (enc:TypeId × Value -> H):
  ReturnsInHanded {} Tryz.checked os 7 .any (fun w args=>(Rows.networkClockSpec.pre enc Tryz.prog Tryz.f7 Rows.networkClockRow.domain false w args/\laidMetH Tryz.prog laidL w)/\sizedMet enc Tryz.prog Tryz.f7 (OpenSpec.ofChange Rows.networkClockSpec) false w args)
   (Rows.networkClockSpec.post enc Tryz.prog Tryz.f7 false true false false):=by
 refine handed_sized (C:=Tryz.checked) (X:=fun w _=>laidMetH Tryz.prog laidL w) (fun _ _ _ hh h=>h.of_heap hh) own started (by kernel_rfl) Tryz.func7
  (ChangeSpec.witness_shaped (enc:=enc) (C:=Tryz.checked) (os:=os) (X:=fun w _=>laidMetH Tryz.prog laidL w) false (wit os) #[.slice none 0 0] 8 (wit_os _)
   (wit_shaped os _) (by kernel_rfl) (by kernel_rfl) (by kernel_rfl)
   (wit_met os _)) ?_
 intro W base args ds gs before hval0 hW hwt0 hL hS;have hval:∀ (j:Nat) t v,Tryz.f7.params[j]?=some t -> args[j]?=some v -> Value.okWide Tryz.prog W .any base t v:=hval0;have hW':=hW;obtain ⟨p,q,hA0,hV,rfl,hfz,hnd⟩:=hW;have hA:DataW.TrodAll enc Tryz.prog W 0 (fun _=>true) true Tryz.f7.params.toList args.toList ds p:=hA0;have hwt:(DataW.weightsEach Tryz.prog (Tryz.f7.params.toList++Rows.networkClockSpec.plain.varTypes Tryz.prog) (ds++gs)).all (·<=reachBytes)=true:=hwt0;rw [Tryz.params7] at hA hval hwt;obtain ⟨v0,d0,rfl,rfl,h0⟩:=trodAll_one hA;obtain ⟨rfl,rfl⟩:=trodVars_none hV;obtain ⟨l0,hr0,hq0⟩:=intsA_open (hval 0 31 v0 rfl rfl) h0 (Wl.of_each (j:=0) hwt rfl rfl);refine (clock_law v0 l0 W (gl_of hL hS) hr0).mono fun e W' ⟨he,hw⟩=>?_
 exact ⟨_,he,post_true (P:=Tryz.prog) laidOut Tryz.underlying4 hW' (by kernel_rfl) rfl (by kernel_rfl) rfl rfl rfl hw⟩
theorem clocks_k0:(Rows.networkClockRow.wf (OpenSpec.ofChange Rows.networkClockSpec))=true:=by kernel_rfl
theorem clocks_k3:(Tryz.f7.params.all (Tryz.prog.readableRec ·))=true:=by kernel_rfl
theorem clocks_k4:(namedTie Tryz.prog Rows.networkClockRow.named Rows.networkClockSpec.vars)=true:=by kernel_rfl
theorem clocks_k5:(Rows.networkClockRow.stops==[])=true:=by kernel_rfl
theorem clocks_k7:(Rows.networkClockRow.knobs==[])=true:=by kernel_rfl
theorem clocks_k13:(Rows.networkClockRow.maps==(Tryz.f7.params.toList++Rows.networkClockSpec.plain.varTypes Tryz.prog).any (Tryz.prog.mapsRec ·))=true:=by kernel_rfl
theorem clocks_k14:(Rows.networkClockRow.ifaces==(Tryz.f7.params.toList++Rows.networkClockSpec.plain.varTypes Tryz.prog).any (Tryz.prog.ifacesRec ·))=true:=by kernel_rfl
theorem clocks_k15:(Rows.networkClockRow.mapsOut==Tryz.prog.mapsAmong Tryz.f7.resultTypes.toList)=true:=by kernel_rfl
theorem clocks_k16:(Rows.networkClockRow.loops==(Tryz.f7.params.toList++Rows.networkClockSpec.plain.varTypes Tryz.prog).any (Tryz.prog.loopsFrom ·))=true:=by kernel_rfl
theorem clocks_k17:(Rows.networkClockRow.wideKeys==(Tryz.f7.params.toList++Rows.networkClockSpec.plain.varTypes Tryz.prog++Tryz.f7.resultTypes.toList).any (Tryz.prog.wideKeysFrom ·))=true:=by kernel_rfl
theorem clocks_k18:(Rows.networkClockSpec.vars.all (Tryz.prog.varReadable ·))=true:=by kernel_rfl
theorem clocks_k19:(Tryz.f7.resultTypes.all (fun t=>Tryz.prog.readableRec t && decide (t < Tryz.prog.types.size)))=true:=by kernel_rfl
theorem clocks_k20:(Rows.networkClockRow.ifacesOut==Tryz.f7.resultTypes.toList.any (Tryz.prog.ifacesRec ·))=true:=by kernel_rfl
theorem clocks_k21:(Rows.networkClockRow.loopsOut==Tryz.f7.resultTypes.toList.any (Tryz.prog.loopsFrom ·))=true:=by kernel_rfl
theorem clocks_k23:(Rows.networkClockRow.shortTexts.isNone)=true:=by kernel_rfl
theorem clocks_k28:(Rows.networkClockRow.kinds==(if Rows.networkClockRow.domain.isEmpty then [] else Tryz.f7.params.toList.map fun t=>match Tryz.prog.underlying t with | some (.int k)=>some k | _=>none))=true:=by kernel_rfl
theorem clocks_k29:(Rows.networkClockRow.pinned==Rows.networkClockRow.pinnedBy)=true:=by kernel_rfl
theorem clocks_k30:(Rows.networkClockRow.veiled==(Tryz.f7.params.toList++Rows.networkClockSpec.plain.varTypes Tryz.prog++Tryz.f7.resultTypes.toList).any (Tryz.prog.veiledRec ·))=true:=by kernel_rfl
theorem clocks_k31:(Rows.networkClockRow.veiledFits Tryz.prog Tryz.f7.params.toList (Tryz.f7.params.toList++Rows.networkClockSpec.plain.varTypes Tryz.prog++Tryz.f7.resultTypes.toList))=true:=by kernel_rfl
theorem clocks_closed:joinedFacts Tryz.prog 7 Tryz.f7 Rows.networkClockSpec Rows.networkClockRow=true:=by
 unfold joinedFacts;exact bt (bt (bt (bt (bt (bt (bt (bt (bt (bt (bt (bt (bt (bt (bt (bt (bt (bt (bt (bt (bt (bt (bt (bt (bt (bt (bt (bt (bt (bt (bt clocks_k0 laidOut) g_maps) clocks_k3) clocks_k4) clocks_k5) g_stops) clocks_k7) g_knobs) clocks_k9) clocks_k10) clocks_k11) clocks_k12) clocks_k13) clocks_k14) clocks_k15) clocks_k16) clocks_k17) clocks_k18) clocks_k19) clocks_k20) clocks_k21) g_plain) clocks_k23) g_heard) g_enter) g_lifts) g_make) clocks_k28) clocks_k29) clocks_k30) clocks_k31
theorem clocks_named : Tryz.prog.funcNamed "copydesk/copydesklaw27.NetworkClock" = some 7 := by kernel_rfl
theorem clocks_wft:Rows.networkClockRow.wfByText (OpenSpec.ofChange Rows.networkClockSpec)=true:=by kernel_rfl
theorem clocks_said:Rows.NetworkClockSaid:=
 OpenClaim.holds_of_wide 7 Tryz.f7 rfl rfl rfl rfl rfl rfl rfl ⟨rfl,rfl,rfl,rfl,rfl⟩ rfl rfl rfl rfl rfl clocks_named Tryz.func7 clocks_closed
  (of_decide_eq_true (by kernel_rfl)) (by unfold Func.isWrapper;first | (rw [if_pos (by decide+kernel)];kernel_rfl) | (rw [if_neg (by decide+kernel)];exact ⟨rfl,rfl⟩))
  (fun os started H enc _=>clocks_lifted os started H enc)
theorem clocks_stand : ∀ f fn, Tryz.prog.funcNamed "copydesk/copydesklaw27.NetworkClock" = some f -> Tryz.prog.funcs[f]? = some fn -> true = Tryz.prog.looks [] /\ ∀ (j : Nat) t, fn.params[j]? = some t -> Tryz.prog.wantsStandIn t = false := fun f fn hf hfn => by
 obtain rfl:f=7:=(Option.some.inj (clocks_named.symm.trans hf)).symm
 obtain rfl:fn=Tryz.f7:=(Option.some.inj (Tryz.func7.symm.trans hfn)).symm
 exact ⟨g_looks,fun j t ht=>by
  rw [Tryz.params7] at ht;have hm:t ∈ [31]:=by simpa using Array.mem_of_getElem? ht
  have hall:([31].all fun u=>!Tryz.prog.wantsStandIn u)=true:=by kernel_rfl
  exact (show Tryz.prog.wantsStandIn t=false by simpa using List.all_eq_true.1 hall t hm)⟩
theorem clocks_holds:Rows.NetworkClockCardSaid:=
 Claim7.holds_tied_plain_at .later [] [.data, .pinned, .data, .handle, .sentinel, .sentinel, .data, .data, .data, .sentinel, .sentinel] true (true, "4f9b2a5e01fe620100502aad89a6c374947310d4e56a0e79ec735a6c60a7907e") true
  clocks_said (fun _ h=>by cases h) clocks_wft (fun _ h=>by cases h) networkClock_row_tie rfl ⟨rfl,rfl⟩ g_main rfl
  clocks_stand (goes_row _)
end Go.Proofs.YtcopgcdhkgenkaaGreatDoor
