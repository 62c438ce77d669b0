/- Proved here: NetworkHeld answers true whatever the three numbers are, and the arguments read afterwards as they read before; the tied card. No condition beyond the given row's. -/
import Derived.Test.YtcopgcdhkgenkaaGreatDoorY3
import Derived.Test.YtcopgcdhkgenkaaGreatDoorG2
import Derived.Test.YtcopgcdhkgenkaaGreatDoorW13
import Derived.Test.YtcopgcdhkgenkaaGreatDoorW11
set_option linter.all false
set_option maxRecDepth 100000
set_option maxHeartbeats 16000000
namespace Go.Proofs.YtcopgcdhkgenkaaGreatDoor
open Go
set_option maxRecDepth 100000 in
theorem networkHeld_row_tie:Rows.networkHeldRow.laidByTextAt .later Tryz.pinned [.data,.pinned,.data,.handle,.sentinel,.sentinel,.data,.data,.data,.sentinel,.sentinel] true:=
 OpenClaim.laidByTextAt_pinned rfl rfl tie rfl rfl rfl rfl (fun y hy _e=>by
  simp only [Rows.networkHeldRow,List.zip_cons_cons,List.zip_nil_right,List.mem_cons,List.mem_nil_iff,or_false] at hy;rcases hy with rfl | rfl | rfl | rfl | rfl | rfl | rfl | rfl | rfl | rfl | rfl
  ·cases _e
  ·exact ⟨pin_laid_unicode_utf8_first,by kernel_rfl⟩
  ·cases _e
  ·cases _e
  ·cases _e
  ·cases _e
  ·cases _e
  ·cases _e
  ·cases _e
  ·cases _e
  ·cases _e) fits1
end Go.Proofs.YtcopgcdhkgenkaaGreatDoor
namespace Go.Proofs.YtcopgcdhkgenkaaGreatDoor
open Go.ChangeShapes Go.WideShapes Go.ChangeAt Go.RowKit Cdk Scr
theorem helds_lifted (os:Os) (started:os.Started) (H:Type) (enc:TypeId × Value -> H):
  ReturnsInHanded {} Tryz.checked os 4 .any (fun w args=>(Rows.networkHeldSpec.pre enc Tryz.prog Tryz.f4 Rows.networkHeldRow.domain false w args/\laidMetH Tryz.prog laidL w)/\sizedMet enc Tryz.prog Tryz.f4 (OpenSpec.ofChange Rows.networkHeldSpec) false w args)
   (Rows.networkHeldSpec.post enc Tryz.prog Tryz.f4 false true false false):=by
 refine handed_sized (C:=Tryz.checked) (X:=fun w _=>laidMetH Tryz.prog laidL w) (fun _ _ _ hh h=>h.of_heap hh) own started (by kernel_rfl) Tryz.func4
  (ChangeSpec.witness_shaped (enc:=enc) (C:=Tryz.checked) (os:=os) (X:=fun w _=>laidMetH Tryz.prog laidL w) false (wit os) #[.int .i64 0,.int .i64 0,.int .i64 0] 8 (wit_os _)
   (wit_shaped os _) (by kernel_rfl) (by kernel_rfl) (by kernel_rfl)
   (wit_met os _)) ?_
 intro W base args ds gs before hval0 hW hwt0 hL hS;have hval:∀ (j:Nat) t v,Tryz.f4.params[j]?=some t -> args[j]?=some v -> Value.okWide Tryz.prog W .any base t v:=hval0;have hW':=hW;obtain ⟨p,q,hA0,hV,rfl,hfz,hnd⟩:=hW;have hA:DataW.TrodAll enc Tryz.prog W 0 (fun _=>true) true Tryz.f4.params.toList args.toList ds p:=hA0;have hwt:(DataW.weightsEach Tryz.prog (Tryz.f4.params.toList++Rows.networkHeldSpec.plain.varTypes Tryz.prog) (ds++gs)).all (·<=reachBytes)=true:=hwt0;rw [Tryz.params4] at hA hval hwt;obtain ⟨v0,v1,v2,d0,d1,d2,p0,p1,p2,rfl,rfl,rfl,h0,h1,h2⟩:=trodAll_three hA;obtain ⟨rfl,rfl⟩:=trodVars_none hV;obtain ⟨a0,rfl,-,-,wa0⟩:=open_int Tryz.underlying3 (hval 0 3 v0 rfl rfl) h0;obtain ⟨a1,rfl,-,-,wa1⟩:=open_int Tryz.underlying3 (hval 1 3 v1 rfl rfl) h1;obtain ⟨a2,rfl,-,-,wa2⟩:=open_int Tryz.underlying3 (hval 2 3 v2 rfl rfl) h2;refine (held_walk a0 a1 a2 (i64_of_wf wa0) (i64_of_wf wa1) (i64_of_wf wa2) W (gl_of hL hS)).mono fun e W' ⟨he,hw⟩=>?_
 exact ⟨_,he,post_true (P:=Tryz.prog) laidOut Tryz.underlying4 hW' (by kernel_rfl) rfl (by kernel_rfl) rfl rfl rfl hw⟩
theorem helds_k0:(Rows.networkHeldRow.wf (OpenSpec.ofChange Rows.networkHeldSpec))=true:=by kernel_rfl
theorem helds_k3:(Tryz.f4.params.all (Tryz.prog.readableRec ·))=true:=by kernel_rfl
theorem helds_k4:(namedTie Tryz.prog Rows.networkHeldRow.named Rows.networkHeldSpec.vars)=true:=by kernel_rfl
theorem helds_k5:(Rows.networkHeldRow.stops==[])=true:=by kernel_rfl
theorem helds_k7:(Rows.networkHeldRow.knobs==[])=true:=by kernel_rfl
theorem helds_k13:(Rows.networkHeldRow.maps==(Tryz.f4.params.toList++Rows.networkHeldSpec.plain.varTypes Tryz.prog).any (Tryz.prog.mapsRec ·))=true:=by kernel_rfl
theorem helds_k14:(Rows.networkHeldRow.ifaces==(Tryz.f4.params.toList++Rows.networkHeldSpec.plain.varTypes Tryz.prog).any (Tryz.prog.ifacesRec ·))=true:=by kernel_rfl
theorem helds_k15:(Rows.networkHeldRow.mapsOut==Tryz.prog.mapsAmong Tryz.f4.resultTypes.toList)=true:=by kernel_rfl
theorem helds_k16:(Rows.networkHeldRow.loops==(Tryz.f4.params.toList++Rows.networkHeldSpec.plain.varTypes Tryz.prog).any (Tryz.prog.loopsFrom ·))=true:=by kernel_rfl
theorem helds_k17:(Rows.networkHeldRow.wideKeys==(Tryz.f4.params.toList++Rows.networkHeldSpec.plain.varTypes Tryz.prog++Tryz.f4.resultTypes.toList).any (Tryz.prog.wideKeysFrom ·))=true:=by kernel_rfl
theorem helds_k18:(Rows.networkHeldSpec.vars.all (Tryz.prog.varReadable ·))=true:=by kernel_rfl
theorem helds_k19:(Tryz.f4.resultTypes.all (fun t=>Tryz.prog.readableRec t && decide (t < Tryz.prog.types.size)))=true:=by kernel_rfl
theorem helds_k20:(Rows.networkHeldRow.ifacesOut==Tryz.f4.resultTypes.toList.any (Tryz.prog.ifacesRec ·))=true:=by kernel_rfl
theorem helds_k21:(Rows.networkHeldRow.loopsOut==Tryz.f4.resultTypes.toList.any (Tryz.prog.loopsFrom ·))=true:=by kernel_rfl
theorem helds_k23:(Rows.networkHeldRow.shortTexts.isNone)=true:=by kernel_rfl
theorem helds_k28:(Rows.networkHeldRow.kinds==(if Rows.networkHeldRow.domain.isEmpty then [] else Tryz.f4.params.toList.map fun t=>match Tryz.prog.underlying t with | some (.int k)=>some k | _=>none))=true:=by kernel_rfl
theorem helds_k29:(Rows.networkHeldRow.pinned==Rows.networkHeldRow.pinnedBy)=true:=by kernel_rfl
theorem helds_k30:(Rows.networkHeldRow.veiled==(Tryz.f4.params.toList++Rows.networkHeldSpec.plain.varTypes Tryz.prog++Tryz.f4.resultTypes.toList).any (Tryz.prog.veiledRec ·))=true:=by kernel_rfl
theorem helds_k31:(Rows.networkHeldRow.veiledFits Tryz.prog Tryz.f4.params.toList (Tryz.f4.params.toList++Rows.networkHeldSpec.plain.varTypes Tryz.prog++Tryz.f4.resultTypes.toList))=true:=by kernel_rfl
theorem helds_closed:joinedFacts Tryz.prog 4 Tryz.f4 Rows.networkHeldSpec Rows.networkHeldRow=true:=by
 unfold joinedFacts;exact bt (bt (bt (bt (bt (bt (bt (bt (bt (bt (bt (bt (bt (bt (bt (bt (bt (bt (bt (bt (bt (bt (bt (bt (bt (bt (bt (bt (bt (bt (bt helds_k0 laidOut) g_maps) helds_k3) helds_k4) helds_k5) g_stops) helds_k7) g_knobs) helds_k9) helds_k10) helds_k11) helds_k12) helds_k13) helds_k14) helds_k15) helds_k16) helds_k17) helds_k18) helds_k19) helds_k20) helds_k21) g_plain) helds_k23) g_heard) g_enter) g_lifts) g_make) helds_k28) helds_k29) helds_k30) helds_k31
theorem helds_named : Tryz.prog.funcNamed "copydesk/copydesklaw27.NetworkHeld" = some 4 := by kernel_rfl
theorem helds_wft:Rows.networkHeldRow.wfByText (OpenSpec.ofChange Rows.networkHeldSpec)=true:=by kernel_rfl
theorem helds_said:Rows.NetworkHeldSaid:=
 OpenClaim.holds_of_wide 4 Tryz.f4 rfl rfl rfl rfl rfl rfl rfl ⟨rfl,rfl,rfl,rfl,rfl⟩ rfl rfl rfl rfl rfl helds_named Tryz.func4 helds_closed
  (of_decide_eq_true (by kernel_rfl)) (by unfold Func.isWrapper;first | (rw [if_pos (by decide+kernel)];kernel_rfl) | (rw [if_neg (by decide+kernel)];exact ⟨rfl,rfl⟩))
  (fun os started H enc _=>helds_lifted os started H enc)
theorem helds_stand : ∀ f fn, Tryz.prog.funcNamed "copydesk/copydesklaw27.NetworkHeld" = some f -> Tryz.prog.funcs[f]? = some fn -> true = Tryz.prog.looks [] /\ ∀ (j : Nat) t, fn.params[j]? = some t -> Tryz.prog.wantsStandIn t = false := fun f fn hf hfn => by
 obtain rfl:f=4:=(Option.some.inj (helds_named.symm.trans hf)).symm
 obtain rfl:fn=Tryz.f4:=(Option.some.inj (Tryz.func4.symm.trans hfn)).symm
 exact ⟨g_looks,fun j t ht=>by
  rw [Tryz.params4] at ht;have hm:t ∈ [3,3,3]:=by simpa using Array.mem_of_getElem? ht
  have hall:([3,3,3].all fun u=>!Tryz.prog.wantsStandIn u)=true:=by kernel_rfl
  exact (show Tryz.prog.wantsStandIn t=false by simpa using List.all_eq_true.1 hall t hm)⟩
theorem helds_holds:Rows.NetworkHeldCardSaid:=
 Claim7.holds_tied_plain_at .later [] [.data, .pinned, .data, .handle, .sentinel, .sentinel, .data, .data, .data, .sentinel, .sentinel] true (true, "4f9b2a5e01fe620100502aad89a6c374947310d4e56a0e79ec735a6c60a7907e") true
  helds_said (fun _ h=>by cases h) helds_wft (fun _ h=>by cases h) networkHeld_row_tie rfl ⟨rfl,rfl⟩ g_main rfl
  helds_stand (goes_row _)
end Go.Proofs.YtcopgcdhkgenkaaGreatDoor
