/- Proved here: NetworkLatest answers true whatever the list of numbers and the number are, and the arguments read afterwards as they read before; the tied card. No condition beyond the given row's. -/
import Derived.Test.YtcopgcdhkgenkaaGreatDoorY5
import Derived.Test.YtcopgcdhkgenkaaGreatDoorG2
import Derived.Test.YtcopgcdhkgenkaaGreatDoorW15
import Derived.Test.YtcopgcdhkgenkaaGreatDoorW11
set_option linter.all false
set_option maxRecDepth 100000
set_option maxHeartbeats 16000000
namespace Go.Proofs.YtcopgcdhkgenkaaGreatDoor
open Go
set_option maxRecDepth 100000 in
theorem networkLatest_row_tie:Rows.networkLatestRow.laidByTextAt .later Tryz.pinned [.data,.pinned,.data,.handle,.sentinel,.sentinel,.data,.data,.data,.sentinel,.sentinel] true:=
 OpenClaim.laidByTextAt_pinned rfl rfl tie rfl rfl rfl rfl (fun y hy _e=>by
  simp only [Rows.networkLatestRow,List.zip_cons_cons,List.zip_nil_right,List.mem_cons,List.mem_nil_iff,or_false] at hy;rcases hy with rfl | rfl | rfl | rfl | rfl | rfl | rfl | rfl | rfl | rfl | rfl
  ·cases _e
  ·exact ⟨pin_laid_unicode_utf8_first,by kernel_rfl⟩
  ·cases _e
  ·cases _e
  ·cases _e
  ·cases _e
  ·cases _e
  ·cases _e
  ·cases _e
  ·cases _e
  ·cases _e) fits1
end Go.Proofs.YtcopgcdhkgenkaaGreatDoor
namespace Go.Proofs.YtcopgcdhkgenkaaGreatDoor
open Go.ChangeShapes Go.WideShapes Go.ChangeAt Go.RowKit Cdk Scr
theorem lasts_lifted (os:Os) (started:os.Started) (H:Type) (enc:TypeId × Value -> H):
  ReturnsInHanded {} Tryz.checked os 5 .any (fun w args=>(Rows.networkLatestSpec.pre enc Tryz.prog Tryz.f5 Rows.networkLatestRow.domain false w args/\laidMetH Tryz.prog laidL w)/\sizedMet enc Tryz.prog Tryz.f5 (OpenSpec.ofChange Rows.networkLatestSpec) false w args)
   (Rows.networkLatestSpec.post enc Tryz.prog Tryz.f5 false true false false):=by
 refine handed_sized (C:=Tryz.checked) (X:=fun w _=>laidMetH Tryz.prog laidL w) (fun _ _ _ hh h=>h.of_heap hh) own started (by kernel_rfl) Tryz.func5
  (ChangeSpec.witness_shaped (enc:=enc) (C:=Tryz.checked) (os:=os) (X:=fun w _=>laidMetH Tryz.prog laidL w) false (wit os) #[.slice none 0 0,.int .i64 0] 8 (wit_os _)
   (wit_shaped os _) (by kernel_rfl) (by kernel_rfl) (by kernel_rfl)
   (wit_met os _)) ?_
 intro W base args ds gs before hval0 hW hwt0 hL hS;have hval:∀ (j:Nat) t v,Tryz.f5.params[j]?=some t -> args[j]?=some v -> Value.okWide Tryz.prog W .any base t v:=hval0;have hW':=hW;obtain ⟨p,q,hA0,hV,rfl,hfz,hnd⟩:=hW;have hA:DataW.TrodAll enc Tryz.prog W 0 (fun _=>true) true Tryz.f5.params.toList args.toList ds p:=hA0;have hwt:(DataW.weightsEach Tryz.prog (Tryz.f5.params.toList++Rows.networkLatestSpec.plain.varTypes Tryz.prog) (ds++gs)).all (·<=reachBytes)=true:=hwt0;rw [Tryz.params5] at hA hval hwt;obtain ⟨v0,v1,d0,d1,p0,p1,rfl,rfl,rfl,h0,h1⟩:=trodAll_two hA;obtain ⟨rfl,rfl⟩:=trodVars_none hV;obtain ⟨l0,hr0,hq0⟩:=intsA_open (hval 0 31 v0 rfl rfl) h0 (Wl.of_each (j:=0) hwt rfl rfl);obtain ⟨a1,rfl,-,-,wa1⟩:=open_int Tryz.underlying3 (hval 1 3 v1 rfl rfl) h1;refine (latest_walk v0 l0 a1 (i64_of_wf wa1) hq0 W (gl_of hL hS) hr0).mono fun e W' ⟨he,hw⟩=>?_
 exact ⟨_,he,post_true (P:=Tryz.prog) laidOut Tryz.underlying4 hW' (by kernel_rfl) rfl (by kernel_rfl) rfl rfl rfl hw⟩
theorem lasts_k0:(Rows.networkLatestRow.wf (OpenSpec.ofChange Rows.networkLatestSpec))=true:=by kernel_rfl
theorem lasts_k3:(Tryz.f5.params.all (Tryz.prog.readableRec ·))=true:=by kernel_rfl
theorem lasts_k4:(namedTie Tryz.prog Rows.networkLatestRow.named Rows.networkLatestSpec.vars)=true:=by kernel_rfl
theorem lasts_k5:(Rows.networkLatestRow.stops==[])=true:=by kernel_rfl
theorem lasts_k7:(Rows.networkLatestRow.knobs==[])=true:=by kernel_rfl
theorem lasts_k13:(Rows.networkLatestRow.maps==(Tryz.f5.params.toList++Rows.networkLatestSpec.plain.varTypes Tryz.prog).any (Tryz.prog.mapsRec ·))=true:=by kernel_rfl
theorem lasts_k14:(Rows.networkLatestRow.ifaces==(Tryz.f5.params.toList++Rows.networkLatestSpec.plain.varTypes Tryz.prog).any (Tryz.prog.ifacesRec ·))=true:=by kernel_rfl
theorem lasts_k15:(Rows.networkLatestRow.mapsOut==Tryz.prog.mapsAmong Tryz.f5.resultTypes.toList)=true:=by kernel_rfl
theorem lasts_k16:(Rows.networkLatestRow.loops==(Tryz.f5.params.toList++Rows.networkLatestSpec.plain.varTypes Tryz.prog).any (Tryz.prog.loopsFrom ·))=true:=by kernel_rfl
theorem lasts_k17:(Rows.networkLatestRow.wideKeys==(Tryz.f5.params.toList++Rows.networkLatestSpec.plain.varTypes Tryz.prog++Tryz.f5.resultTypes.toList).any (Tryz.prog.wideKeysFrom ·))=true:=by kernel_rfl
theorem lasts_k18:(Rows.networkLatestSpec.vars.all (Tryz.prog.varReadable ·))=true:=by kernel_rfl
theorem lasts_k19:(Tryz.f5.resultTypes.all (fun t=>Tryz.prog.readableRec t && decide (t < Tryz.prog.types.size)))=true:=by kernel_rfl
theorem lasts_k20:(Rows.networkLatestRow.ifacesOut==Tryz.f5.resultTypes.toList.any (Tryz.prog.ifacesRec ·))=true:=by kernel_rfl
theorem lasts_k21:(Rows.networkLatestRow.loopsOut==Tryz.f5.resultTypes.toList.any (Tryz.prog.loopsFrom ·))=true:=by kernel_rfl
theorem lasts_k23:(Rows.networkLatestRow.shortTexts.isNone)=true:=by kernel_rfl
theorem lasts_k28:(Rows.networkLatestRow.kinds==(if Rows.networkLatestRow.domain.isEmpty then [] else Tryz.f5.params.toList.map fun t=>match Tryz.prog.underlying t with | some (.int k)=>some k | _=>none))=true:=by kernel_rfl
theorem lasts_k29:(Rows.networkLatestRow.pinned==Rows.networkLatestRow.pinnedBy)=true:=by kernel_rfl
theorem lasts_k30:(Rows.networkLatestRow.veiled==(Tryz.f5.params.toList++Rows.networkLatestSpec.plain.varTypes Tryz.prog++Tryz.f5.resultTypes.toList).any (Tryz.prog.veiledRec ·))=true:=by kernel_rfl
theorem lasts_k31:(Rows.networkLatestRow.veiledFits Tryz.prog Tryz.f5.params.toList (Tryz.f5.params.toList++Rows.networkLatestSpec.plain.varTypes Tryz.prog++Tryz.f5.resultTypes.toList))=true:=by kernel_rfl
theorem lasts_closed:joinedFacts Tryz.prog 5 Tryz.f5 Rows.networkLatestSpec Rows.networkLatestRow=true:=by
 unfold joinedFacts;exact bt (bt (bt (bt (bt (bt (bt (bt (bt (bt (bt (bt (bt (bt (bt (bt (bt (bt (bt (bt (bt (bt (bt (bt (bt (bt (bt (bt (bt (bt (bt lasts_k0 laidOut) g_maps) lasts_k3) lasts_k4) lasts_k5) g_stops) lasts_k7) g_knobs) lasts_k9) lasts_k10) lasts_k11) lasts_k12) lasts_k13) lasts_k14) lasts_k15) lasts_k16) lasts_k17) lasts_k18) lasts_k19) lasts_k20) lasts_k21) g_plain) lasts_k23) g_heard) g_enter) g_lifts) g_make) lasts_k28) lasts_k29) lasts_k30) lasts_k31
theorem lasts_named : Tryz.prog.funcNamed "copydesk/copydesklaw27.NetworkLatest" = some 5 := by kernel_rfl
theorem lasts_wft:Rows.networkLatestRow.wfByText (OpenSpec.ofChange Rows.networkLatestSpec)=true:=by kernel_rfl
theorem lasts_said:Rows.NetworkLatestSaid:=
 OpenClaim.holds_of_wide 5 Tryz.f5 rfl rfl rfl rfl rfl rfl rfl ⟨rfl,rfl,rfl,rfl,rfl⟩ rfl rfl rfl rfl rfl lasts_named Tryz.func5 lasts_closed
  (of_decide_eq_true (by kernel_rfl)) (by unfold Func.isWrapper;first | (rw [if_pos (by decide+kernel)];kernel_rfl) | (rw [if_neg (by decide+kernel)];exact ⟨rfl,rfl⟩))
  (fun os started H enc _=>lasts_lifted os started H enc)
theorem lasts_stand : ∀ f fn, Tryz.prog.funcNamed "copydesk/copydesklaw27.NetworkLatest" = some f -> Tryz.prog.funcs[f]? = some fn -> true = Tryz.prog.looks [] /\ ∀ (j : Nat) t, fn.params[j]? = some t -> Tryz.prog.wantsStandIn t = false := fun f fn hf hfn => by
 obtain rfl:f=5:=(Option.some.inj (lasts_named.symm.trans hf)).symm
 obtain rfl:fn=Tryz.f5:=(Option.some.inj (Tryz.func5.symm.trans hfn)).symm
 exact ⟨g_looks,fun j t ht=>by
  rw [Tryz.params5] at ht;have hm:t ∈ [31,3]:=by simpa using Array.mem_of_getElem? ht
  have hall:([31,3].all fun u=>!Tryz.prog.wantsStandIn u)=true:=by kernel_rfl
  exact (show Tryz.prog.wantsStandIn t=false by simpa using List.all_eq_true.1 hall t hm)⟩
theorem lasts_holds:Rows.NetworkLatestCardSaid:=
 Claim7.holds_tied_plain_at .later [] [.data, .pinned, .data, .handle, .sentinel, .sentinel, .data, .data, .data, .sentinel, .sentinel] true (true, "4f9b2a5e01fe620100502aad89a6c374947310d4e56a0e79ec735a6c60a7907e") true
  lasts_said (fun _ h=>by cases h) lasts_wft (fun _ h=>by cases h) networkLatest_row_tie rfl ⟨rfl,rfl⟩ g_main rfl
  lasts_stand (goes_row _)
end Go.Proofs.YtcopgcdhkgenkaaGreatDoor
