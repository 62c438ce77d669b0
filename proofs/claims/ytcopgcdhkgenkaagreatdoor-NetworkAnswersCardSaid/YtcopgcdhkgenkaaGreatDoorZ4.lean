/- Proved here: NetworkAnswers answers true whatever the list of numbers and the number are, and the arguments read afterwards as they read before; the tied card. No condition beyond the given row's. -/
import Derived.Test.YtcopgcdhkgenkaaGreatDoorY4
import Derived.Test.YtcopgcdhkgenkaaGreatDoorG2
import Derived.Test.YtcopgcdhkgenkaaGreatDoorW14
import Derived.Test.YtcopgcdhkgenkaaGreatDoorW11
set_option linter.all false
set_option maxRecDepth 100000
set_option maxHeartbeats 16000000
namespace Go.Proofs.YtcopgcdhkgenkaaGreatDoor
open Go
set_option maxRecDepth 100000 in
theorem networkAnswers_row_tie:Rows.networkAnswersRow.laidByTextAt .later Tryz.pinned [.data,.pinned,.data,.handle,.sentinel,.sentinel,.data,.data,.data,.sentinel,.sentinel] true:=
 OpenClaim.laidByTextAt_pinned rfl rfl tie rfl rfl rfl rfl (fun y hy _e=>by
  simp only [Rows.networkAnswersRow,List.zip_cons_cons,List.zip_nil_right,List.mem_cons,List.mem_nil_iff,or_false] at hy;rcases hy with rfl | rfl | rfl | rfl | rfl | rfl | rfl | rfl | rfl | rfl | rfl
  ·cases _e
  ·exact ⟨pin_laid_unicode_utf8_first,by kernel_rfl⟩
  ·cases _e
  ·cases _e
  ·cases _e
  ·cases _e
  ·cases _e
  ·cases _e
  ·cases _e
  ·cases _e
  ·cases _e) fits1
end Go.Proofs.YtcopgcdhkgenkaaGreatDoor
namespace Go.Proofs.YtcopgcdhkgenkaaGreatDoor
open Go.ChangeShapes Go.WideShapes Go.ChangeAt Go.RowKit Cdk Scr
theorem replies_lifted (os:Os) (started:os.Started) (H:Type) (enc:TypeId × Value -> H):
  ReturnsInHanded {} Tryz.checked os 6 .any (fun w args=>(Rows.networkAnswersSpec.pre enc Tryz.prog Tryz.f6 Rows.networkAnswersRow.domain false w args/\laidMetH Tryz.prog laidL w)/\sizedMet enc Tryz.prog Tryz.f6 (OpenSpec.ofChange Rows.networkAnswersSpec) false w args)
   (Rows.networkAnswersSpec.post enc Tryz.prog Tryz.f6 false true false false):=by
 refine handed_sized (C:=Tryz.checked) (X:=fun w _=>laidMetH Tryz.prog laidL w) (fun _ _ _ hh h=>h.of_heap hh) own started (by kernel_rfl) Tryz.func6
  (ChangeSpec.witness_shaped (enc:=enc) (C:=Tryz.checked) (os:=os) (X:=fun w _=>laidMetH Tryz.prog laidL w) false (wit os) #[.slice none 0 0,.int .i64 0] 8 (wit_os _)
   (wit_shaped os _) (by kernel_rfl) (by kernel_rfl) (by kernel_rfl)
   (wit_met os _)) ?_
 intro W base args ds gs before hval0 hW hwt0 hL hS;have hval:∀ (j:Nat) t v,Tryz.f6.params[j]?=some t -> args[j]?=some v -> Value.okWide Tryz.prog W .any base t v:=hval0;have hW':=hW;obtain ⟨p,q,hA0,hV,rfl,hfz,hnd⟩:=hW;have hA:DataW.TrodAll enc Tryz.prog W 0 (fun _=>true) true Tryz.f6.params.toList args.toList ds p:=hA0;have hwt:(DataW.weightsEach Tryz.prog (Tryz.f6.params.toList++Rows.networkAnswersSpec.plain.varTypes Tryz.prog) (ds++gs)).all (·<=reachBytes)=true:=hwt0;rw [Tryz.params6] at hA hval hwt;obtain ⟨v0,v1,d0,d1,p0,p1,rfl,rfl,rfl,h0,h1⟩:=trodAll_two hA;obtain ⟨rfl,rfl⟩:=trodVars_none hV;obtain ⟨l0,hr0,hq0⟩:=intsA_open (hval 0 31 v0 rfl rfl) h0 (Wl.of_each (j:=0) hwt rfl rfl);obtain ⟨a1,rfl,-,-,wa1⟩:=open_int Tryz.underlying3 (hval 1 3 v1 rfl rfl) h1;refine (answers_walk v0 l0 a1 (i64_of_wf wa1) hq0 W (gl_of hL hS) hr0).mono fun e W' ⟨he,hw⟩=>?_
 exact ⟨_,he,post_true (P:=Tryz.prog) laidOut Tryz.underlying4 hW' (by kernel_rfl) rfl (by kernel_rfl) rfl rfl rfl hw⟩
theorem replies_k0:(Rows.networkAnswersRow.wf (OpenSpec.ofChange Rows.networkAnswersSpec))=true:=by kernel_rfl
theorem replies_k3:(Tryz.f6.params.all (Tryz.prog.readableRec ·))=true:=by kernel_rfl
theorem replies_k4:(namedTie Tryz.prog Rows.networkAnswersRow.named Rows.networkAnswersSpec.vars)=true:=by kernel_rfl
theorem replies_k5:(Rows.networkAnswersRow.stops==[])=true:=by kernel_rfl
theorem replies_k7:(Rows.networkAnswersRow.knobs==[])=true:=by kernel_rfl
theorem replies_k13:(Rows.networkAnswersRow.maps==(Tryz.f6.params.toList++Rows.networkAnswersSpec.plain.varTypes Tryz.prog).any (Tryz.prog.mapsRec ·))=true:=by kernel_rfl
theorem replies_k14:(Rows.networkAnswersRow.ifaces==(Tryz.f6.params.toList++Rows.networkAnswersSpec.plain.varTypes Tryz.prog).any (Tryz.prog.ifacesRec ·))=true:=by kernel_rfl
theorem replies_k15:(Rows.networkAnswersRow.mapsOut==Tryz.prog.mapsAmong Tryz.f6.resultTypes.toList)=true:=by kernel_rfl
theorem replies_k16:(Rows.networkAnswersRow.loops==(Tryz.f6.params.toList++Rows.networkAnswersSpec.plain.varTypes Tryz.prog).any (Tryz.prog.loopsFrom ·))=true:=by kernel_rfl
theorem replies_k17:(Rows.networkAnswersRow.wideKeys==(Tryz.f6.params.toList++Rows.networkAnswersSpec.plain.varTypes Tryz.prog++Tryz.f6.resultTypes.toList).any (Tryz.prog.wideKeysFrom ·))=true:=by kernel_rfl
theorem replies_k18:(Rows.networkAnswersSpec.vars.all (Tryz.prog.varReadable ·))=true:=by kernel_rfl
theorem replies_k19:(Tryz.f6.resultTypes.all (fun t=>Tryz.prog.readableRec t && decide (t < Tryz.prog.types.size)))=true:=by kernel_rfl
theorem replies_k20:(Rows.networkAnswersRow.ifacesOut==Tryz.f6.resultTypes.toList.any (Tryz.prog.ifacesRec ·))=true:=by kernel_rfl
theorem replies_k21:(Rows.networkAnswersRow.loopsOut==Tryz.f6.resultTypes.toList.any (Tryz.prog.loopsFrom ·))=true:=by kernel_rfl
theorem replies_k23:(Rows.networkAnswersRow.shortTexts.isNone)=true:=by kernel_rfl
theorem replies_k28:(Rows.networkAnswersRow.kinds==(if Rows.networkAnswersRow.domain.isEmpty then [] else Tryz.f6.params.toList.map fun t=>match Tryz.prog.underlying t with | some (.int k)=>some k | _=>none))=true:=by kernel_rfl
theorem replies_k29:(Rows.networkAnswersRow.pinned==Rows.networkAnswersRow.pinnedBy)=true:=by kernel_rfl
theorem replies_k30:(Rows.networkAnswersRow.veiled==(Tryz.f6.params.toList++Rows.networkAnswersSpec.plain.varTypes Tryz.prog++Tryz.f6.resultTypes.toList).any (Tryz.prog.veiledRec ·))=true:=by kernel_rfl
theorem replies_k31:(Rows.networkAnswersRow.veiledFits Tryz.prog Tryz.f6.params.toList (Tryz.f6.params.toList++Rows.networkAnswersSpec.plain.varTypes Tryz.prog++Tryz.f6.resultTypes.toList))=true:=by kernel_rfl
theorem replies_closed:joinedFacts Tryz.prog 6 Tryz.f6 Rows.networkAnswersSpec Rows.networkAnswersRow=true:=by
 unfold joinedFacts;exact bt (bt (bt (bt (bt (bt (bt (bt (bt (bt (bt (bt (bt (bt (bt (bt (bt (bt (bt (bt (bt (bt (bt (bt (bt (bt (bt (bt (bt (bt (bt replies_k0 laidOut) g_maps) replies_k3) replies_k4) replies_k5) g_stops) replies_k7) g_knobs) replies_k9) replies_k10) replies_k11) replies_k12) replies_k13) replies_k14) replies_k15) replies_k16) replies_k17) replies_k18) replies_k19) replies_k20) replies_k21) g_plain) replies_k23) g_heard) g_enter) g_lifts) g_make) replies_k28) replies_k29) replies_k30) replies_k31
theorem replies_named : Tryz.prog.funcNamed "copydesk/copydesklaw27.NetworkAnswers" = some 6 := by kernel_rfl
theorem replies_wft:Rows.networkAnswersRow.wfByText (OpenSpec.ofChange Rows.networkAnswersSpec)=true:=by kernel_rfl
theorem replies_said:Rows.NetworkAnswersSaid:=
 OpenClaim.holds_of_wide 6 Tryz.f6 rfl rfl rfl rfl rfl rfl rfl ⟨rfl,rfl,rfl,rfl,rfl⟩ rfl rfl rfl rfl rfl replies_named Tryz.func6 replies_closed
  (of_decide_eq_true (by kernel_rfl)) (by unfold Func.isWrapper;first | (rw [if_pos (by decide+kernel)];kernel_rfl) | (rw [if_neg (by decide+kernel)];exact ⟨rfl,rfl⟩))
  (fun os started H enc _=>replies_lifted os started H enc)
theorem replies_stand : ∀ f fn, Tryz.prog.funcNamed "copydesk/copydesklaw27.NetworkAnswers" = some f -> Tryz.prog.funcs[f]? = some fn -> true = Tryz.prog.looks [] /\ ∀ (j : Nat) t, fn.params[j]? = some t -> Tryz.prog.wantsStandIn t = false := fun f fn hf hfn => by
 obtain rfl:f=6:=(Option.some.inj (replies_named.symm.trans hf)).symm
 obtain rfl:fn=Tryz.f6:=(Option.some.inj (Tryz.func6.symm.trans hfn)).symm
 exact ⟨g_looks,fun j t ht=>by
  rw [Tryz.params6] at ht;have hm:t ∈ [31,3]:=by simpa using Array.mem_of_getElem? ht
  have hall:([31,3].all fun u=>!Tryz.prog.wantsStandIn u)=true:=by kernel_rfl
  exact (show Tryz.prog.wantsStandIn t=false by simpa using List.all_eq_true.1 hall t hm)⟩
theorem replies_holds:Rows.NetworkAnswersCardSaid:=
 Claim7.holds_tied_plain_at .later [] [.data, .pinned, .data, .handle, .sentinel, .sentinel, .data, .data, .data, .sentinel, .sentinel] true (true, "4f9b2a5e01fe620100502aad89a6c374947310d4e56a0e79ec735a6c60a7907e") true
  replies_said (fun _ h=>by cases h) replies_wft (fun _ h=>by cases h) networkAnswers_row_tie rfl ⟨rfl,rfl⟩ g_main rfl
  replies_stand (goes_row _)
end Go.Proofs.YtcopgcdhkgenkaaGreatDoor
