/- Proved here: NetworkRefuses answers true whatever the list of numbers, the number and the string are, and the arguments read afterwards as they read before; the tied card. No condition beyond the given row's. -/
import Derived.Test.YtcopgcdhkgenkaaGreatDoorY6
import Derived.Test.YtcopgcdhkgenkaaGreatDoorG2
import Derived.Test.YtcopgcdhkgenkaaGreatDoorW16
import Derived.Test.YtcopgcdhkgenkaaGreatDoorW11
set_option linter.all false
set_option maxRecDepth 100000
set_option maxHeartbeats 16000000
namespace Go.Proofs.YtcopgcdhkgenkaaGreatDoor
open Go
set_option maxRecDepth 100000 in
theorem networkRefuses_row_tie:Rows.networkRefusesRow.laidByTextAt .later Tryz.pinned [.data,.pinned,.data,.handle,.sentinel,.sentinel,.data,.data,.data,.sentinel,.sentinel] true:=
 OpenClaim.laidByTextAt_pinned rfl rfl tie rfl rfl rfl rfl (fun y hy _e=>by
  simp only [Rows.networkRefusesRow,List.zip_cons_cons,List.zip_nil_right,List.mem_cons,List.mem_nil_iff,or_false] at hy;rcases hy with rfl | rfl | rfl | rfl | rfl | rfl | rfl | rfl | rfl | rfl | rfl
  ·cases _e
  ·exact ⟨pin_laid_unicode_utf8_first,by kernel_rfl⟩
  ·cases _e
  ·cases _e
  ·cases _e
  ·cases _e
  ·cases _e
  ·cases _e
  ·cases _e
  ·cases _e
  ·cases _e) fits1
end Go.Proofs.YtcopgcdhkgenkaaGreatDoor
namespace Go.Proofs.YtcopgcdhkgenkaaGreatDoor
open Go.ChangeShapes Go.WideShapes Go.ChangeAt Go.RowKit Cdk Scr
theorem refusals_lifted (os:Os) (started:os.Started) (H:Type) (enc:TypeId × Value -> H):
  ReturnsInHanded {} Tryz.checked os 8 .any (fun w args=>(Rows.networkRefusesSpec.pre enc Tryz.prog Tryz.f8 Rows.networkRefusesRow.domain false w args/\laidMetH Tryz.prog laidL w)/\sizedMet enc Tryz.prog Tryz.f8 (OpenSpec.ofChange Rows.networkRefusesSpec) false w args)
   (Rows.networkRefusesSpec.post enc Tryz.prog Tryz.f8 false true false false):=by
 refine handed_sized (C:=Tryz.checked) (X:=fun w _=>laidMetH Tryz.prog laidL w) (fun _ _ _ hh h=>h.of_heap hh) own started (by kernel_rfl) Tryz.func8
  (ChangeSpec.witness_shaped (enc:=enc) (C:=Tryz.checked) (os:=os) (X:=fun w _=>laidMetH Tryz.prog laidL w) false (wit os) #[.slice none 0 0,.int .i64 0,.string .empty] 8 (wit_os _)
   (wit_shaped os _) (by kernel_rfl) (by kernel_rfl) (by kernel_rfl)
   (wit_met os _)) ?_
 intro W base args ds gs before hval0 hW hwt0 hL hS;have hval:∀ (j:Nat) t v,Tryz.f8.params[j]?=some t -> args[j]?=some v -> Value.okWide Tryz.prog W .any base t v:=hval0;have hW':=hW;obtain ⟨p,q,hA0,hV,rfl,hfz,hnd⟩:=hW;have hA:DataW.TrodAll enc Tryz.prog W 0 (fun _=>true) true Tryz.f8.params.toList args.toList ds p:=hA0;have hwt:(DataW.weightsEach Tryz.prog (Tryz.f8.params.toList++Rows.networkRefusesSpec.plain.varTypes Tryz.prog) (ds++gs)).all (·<=reachBytes)=true:=hwt0;rw [Tryz.params8] at hA hval hwt;obtain ⟨v0,v1,v2,d0,d1,d2,p0,p1,p2,rfl,rfl,rfl,h0,h1,h2⟩:=trodAll_three hA;obtain ⟨rfl,rfl⟩:=trodVars_none hV;obtain ⟨l0,hr0,hq0⟩:=intsA_open (hval 0 31 v0 rfl rfl) h0 (Wl.of_each (j:=0) hwt rfl rfl);obtain ⟨a1,rfl,-,-,wa1⟩:=open_int Tryz.underlying3 (hval 1 3 v1 rfl rfl) h1;obtain ⟨s2,rfl,hz2⟩:=string_open (hval 2 9 v2 rfl rfl) h2 (Wl.of_each (j:=2) hwt rfl rfl);refine (refuses_walk v0 l0 a1 s2 (i64_of_wf wa1) hz2 W (gl_of hL hS) hr0).mono fun e W' ⟨he,hw⟩=>?_
 exact ⟨_,he,post_true (P:=Tryz.prog) laidOut Tryz.underlying4 hW' (by kernel_rfl) rfl (by kernel_rfl) rfl rfl rfl hw⟩
theorem refusals_k0:(Rows.networkRefusesRow.wf (OpenSpec.ofChange Rows.networkRefusesSpec))=true:=by kernel_rfl
theorem refusals_k3:(Tryz.f8.params.all (Tryz.prog.readableRec ·))=true:=by kernel_rfl
theorem refusals_k4:(namedTie Tryz.prog Rows.networkRefusesRow.named Rows.networkRefusesSpec.vars)=true:=by kernel_rfl
theorem refusals_k5:(Rows.networkRefusesRow.stops==[])=true:=by kernel_rfl
theorem refusals_k7:(Rows.networkRefusesRow.knobs==[])=true:=by kernel_rfl
theorem refusals_k13:(Rows.networkRefusesRow.maps==(Tryz.f8.params.toList++Rows.networkRefusesSpec.plain.varTypes Tryz.prog).any (Tryz.prog.mapsRec ·))=true:=by kernel_rfl
theorem refusals_k14:(Rows.networkRefusesRow.ifaces==(Tryz.f8.params.toList++Rows.networkRefusesSpec.plain.varTypes Tryz.prog).any (Tryz.prog.ifacesRec ·))=true:=by kernel_rfl
theorem refusals_k15:(Rows.networkRefusesRow.mapsOut==Tryz.prog.mapsAmong Tryz.f8.resultTypes.toList)=true:=by kernel_rfl
theorem refusals_k16:(Rows.networkRefusesRow.loops==(Tryz.f8.params.toList++Rows.networkRefusesSpec.plain.varTypes Tryz.prog).any (Tryz.prog.loopsFrom ·))=true:=by kernel_rfl
theorem refusals_k17:(Rows.networkRefusesRow.wideKeys==(Tryz.f8.params.toList++Rows.networkRefusesSpec.plain.varTypes Tryz.prog++Tryz.f8.resultTypes.toList).any (Tryz.prog.wideKeysFrom ·))=true:=by kernel_rfl
theorem refusals_k18:(Rows.networkRefusesSpec.vars.all (Tryz.prog.varReadable ·))=true:=by kernel_rfl
theorem refusals_k19:(Tryz.f8.resultTypes.all (fun t=>Tryz.prog.readableRec t && decide (t < Tryz.prog.types.size)))=true:=by kernel_rfl
theorem refusals_k20:(Rows.networkRefusesRow.ifacesOut==Tryz.f8.resultTypes.toList.any (Tryz.prog.ifacesRec ·))=true:=by kernel_rfl
theorem refusals_k21:(Rows.networkRefusesRow.loopsOut==Tryz.f8.resultTypes.toList.any (Tryz.prog.loopsFrom ·))=true:=by kernel_rfl
theorem refusals_k23:(Rows.networkRefusesRow.shortTexts.isNone)=true:=by kernel_rfl
theorem refusals_k28:(Rows.networkRefusesRow.kinds==(if Rows.networkRefusesRow.domain.isEmpty then [] else Tryz.f8.params.toList.map fun t=>match Tryz.prog.underlying t with | some (.int k)=>some k | _=>none))=true:=by kernel_rfl
theorem refusals_k29:(Rows.networkRefusesRow.pinned==Rows.networkRefusesRow.pinnedBy)=true:=by kernel_rfl
theorem refusals_k30:(Rows.networkRefusesRow.veiled==(Tryz.f8.params.toList++Rows.networkRefusesSpec.plain.varTypes Tryz.prog++Tryz.f8.resultTypes.toList).any (Tryz.prog.veiledRec ·))=true:=by kernel_rfl
theorem refusals_k31:(Rows.networkRefusesRow.veiledFits Tryz.prog Tryz.f8.params.toList (Tryz.f8.params.toList++Rows.networkRefusesSpec.plain.varTypes Tryz.prog++Tryz.f8.resultTypes.toList))=true:=by kernel_rfl
theorem refusals_closed:joinedFacts Tryz.prog 8 Tryz.f8 Rows.networkRefusesSpec Rows.networkRefusesRow=true:=by
 unfold joinedFacts;exact bt (bt (bt (bt (bt (bt (bt (bt (bt (bt (bt (bt (bt (bt (bt (bt (bt (bt (bt (bt (bt (bt (bt (bt (bt (bt (bt (bt (bt (bt (bt refusals_k0 laidOut) g_maps) refusals_k3) refusals_k4) refusals_k5) g_stops) refusals_k7) g_knobs) refusals_k9) refusals_k10) refusals_k11) refusals_k12) refusals_k13) refusals_k14) refusals_k15) refusals_k16) refusals_k17) refusals_k18) refusals_k19) refusals_k20) refusals_k21) g_plain) refusals_k23) g_heard) g_enter) g_lifts) g_make) refusals_k28) refusals_k29) refusals_k30) refusals_k31
theorem refusals_named : Tryz.prog.funcNamed "copydesk/copydesklaw27.NetworkRefuses" = some 8 := by kernel_rfl
theorem refusals_wft:Rows.networkRefusesRow.wfByText (OpenSpec.ofChange Rows.networkRefusesSpec)=true:=by kernel_rfl
theorem refusals_said:Rows.NetworkRefusesSaid:=
 OpenClaim.holds_of_wide 8 Tryz.f8 rfl rfl rfl rfl rfl rfl rfl ⟨rfl,rfl,rfl,rfl,rfl⟩ rfl rfl rfl rfl rfl refusals_named Tryz.func8 refusals_closed
  (of_decide_eq_true (by kernel_rfl)) (by unfold Func.isWrapper;first | (rw [if_pos (by decide+kernel)];kernel_rfl) | (rw [if_neg (by decide+kernel)];exact ⟨rfl,rfl⟩))
  (fun os started H enc _=>refusals_lifted os started H enc)
theorem refusals_stand : ∀ f fn, Tryz.prog.funcNamed "copydesk/copydesklaw27.NetworkRefuses" = some f -> Tryz.prog.funcs[f]? = some fn -> true = Tryz.prog.looks [] /\ ∀ (j : Nat) t, fn.params[j]? = some t -> Tryz.prog.wantsStandIn t = false := fun f fn hf hfn => by
 obtain rfl:f=8:=(Option.some.inj (refusals_named.symm.trans hf)).symm
 obtain rfl:fn=Tryz.f8:=(Option.some.inj (Tryz.func8.symm.trans hfn)).symm
 exact ⟨g_looks,fun j t ht=>by
  rw [Tryz.params8] at ht;have hm:t ∈ [31,3,9]:=by simpa using Array.mem_of_getElem? ht
  have hall:([31,3,9].all fun u=>!Tryz.prog.wantsStandIn u)=true:=by kernel_rfl
  exact (show Tryz.prog.wantsStandIn t=false by simpa using List.all_eq_true.1 hall t hm)⟩
theorem refusals_holds:Rows.NetworkRefusesCardSaid:=
 Claim7.holds_tied_plain_at .later [] [.data, .pinned, .data, .handle, .sentinel, .sentinel, .data, .data, .data, .sentinel, .sentinel] true (true, "4f9b2a5e01fe620100502aad89a6c374947310d4e56a0e79ec735a6c60a7907e") true
  refusals_said (fun _ h=>by cases h) refusals_wft (fun _ h=>by cases h) networkRefuses_row_tie rfl ⟨rfl,rfl⟩ g_main rfl
  refusals_stand (goes_row _)
end Go.Proofs.YtcopgcdhkgenkaaGreatDoor
