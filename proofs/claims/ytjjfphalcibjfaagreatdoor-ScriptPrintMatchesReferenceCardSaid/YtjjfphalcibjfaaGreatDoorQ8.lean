/- Proved here: ScriptPrintMatchesReference answers true whatever the list of actions is, and the arguments read afterwards as they read before; the tied card. No condition beyond the given row's. -/
import Derived.Test.YtjjfphalcibjfaaGreatDoorF12
import Derived.Test.YtjjfphalcibjfaaGreatDoorG3
set_option maxRecDepth 100000
set_option maxHeartbeats 16000000
namespace Go.Proofs.YtjjfphalcibjfaaGreatDoor
open Go.ChangeShapes Go.WideShapes Go.ChangeAt Go.RowKit Cdk Scr
theorem zfG (os:Os) (started:os.Started) (H:Type) (enc:TypeId × Value -> H):
  ReturnsInHanded {} Tryz.checked os 4 .any (fun w args=>(Rows.scriptPrintMatchesReferenceSpec.pre enc Tryz.prog Tryz.f4 Rows.scriptPrintMatchesReferenceRow.domain false w args/\laidMetH Tryz.prog zeV w)/\sizedMet enc Tryz.prog Tryz.f4 (OpenSpec.ofChange Rows.scriptPrintMatchesReferenceSpec) false w args)
   (Rows.scriptPrintMatchesReferenceSpec.post enc Tryz.prog Tryz.f4 false true false false):=by
 refine zdT (C:=Tryz.checked) (X:=fun w _=>laidMetH Tryz.prog zeV w) (fun _ _ _ hh h=>h.of_heap hh) own started (by kernel_rfl) Tryz.func4
  (ChangeSpec.witness_shaped (enc:=enc) (C:=Tryz.checked) (os:=os) (X:=fun w _=>laidMetH Tryz.prog zeV w) false (wit os) #[.slice none 0 0] 8 (zl4 _)
   (World.shaped_of_ZipB (by kernel_rfl) (by kernel_rfl)) (by kernel_rfl) (by kernel_rfl) (by kernel_rfl)
   (zkv os _)) ?_
 intro W base args ds gs before hval0 hW hwt0 hL hS;have hval:∀ (j:Nat) t v,Tryz.f4.params[j]?=some t -> args[j]?=some v -> Value.okWide Tryz.prog W .any base t v:=hval0;have hW':=hW;obtain ⟨p,q,hA0,hV,rfl,hfz,hnd⟩:=hW;have hA:DataW.TrodAll enc Tryz.prog W 0 (fun _=>true) true Tryz.f4.params.toList args.toList ds p:=hA0;have hwt:(DataW.weightsEach Tryz.prog (Tryz.f4.params.toList++Rows.scriptPrintMatchesReferenceSpec.plain.varTypes Tryz.prog) (ds++gs)).all (·<=reachBytes)=true:=hwt0;rw [Tryz.params4] at hA hval hwt;obtain ⟨v0,d0,rfl,rfl,h0⟩:=trodAll_one hA;obtain ⟨rfl,rfl⟩:=trodVars_none hV;obtain ⟨ao0,cap0,l0,rfl,hr0,ho0⟩:=zgF (hval 0 37 v0 rfl rfl) h0 (Wl.of_each (j:=0) hwt rfl rfl);refine (ziE l0 ao0 cap0 W (znF hL hS) hr0 (fun a ha=>⟨(ho0 a ha).sz,by have:=(ho0 a ha).tx;omega,by have:=(ho0 a ha).ms.da;omega⟩)).mono fun e W' ⟨he,hw⟩=>?_
 exact ⟨_,he,zgL (P:=Tryz.prog) laidOut Tryz.underlying4 hW' (by kernel_rfl) rfl (by kernel_rfl) rfl rfl rfl hw⟩
theorem zj8:(Rows.scriptPrintMatchesReferenceRow.wf (OpenSpec.ofChange Rows.scriptPrintMatchesReferenceSpec))=true:=by kernel_rfl
theorem zi4:(Tryz.f4.params.all (Tryz.prog.readableRec ·))=true:=by kernel_rfl
theorem zje:(namedTie Tryz.prog Rows.scriptPrintMatchesReferenceRow.named Rows.scriptPrintMatchesReferenceSpec.vars)=true:=by kernel_rfl
theorem zjK:(Rows.scriptPrintMatchesReferenceRow.stops==[])=true:=by kernel_rfl
theorem zi7:(Rows.scriptPrintMatchesReferenceRow.knobs==[])=true:=by kernel_rfl
theorem zj3:(Rows.scriptPrintMatchesReferenceRow.inPlace==Tryz.prog.inPlace 4)=true:=by kernel_rfl
theorem zid:(Rows.scriptPrintMatchesReferenceRow.unfollowed==Tryz.prog.unfollowed 4)=true:=by kernel_rfl
theorem zis:(Rows.scriptPrintMatchesReferenceRow.recurses==Tryz.prog.recurses 4)=true:=by kernel_rfl
theorem zij:(Rows.scriptPrintMatchesReferenceRow.named==Tryz.prog.varsNamed 4)=true:=by kernel_rfl
theorem ziJ:(Rows.scriptPrintMatchesReferenceRow.maps==(Tryz.f4.params.toList++Rows.scriptPrintMatchesReferenceSpec.plain.varTypes Tryz.prog).any (Tryz.prog.mapsRec ·))=true:=by kernel_rfl
theorem zhY:(Rows.scriptPrintMatchesReferenceRow.ifaces==(Tryz.f4.params.toList++Rows.scriptPrintMatchesReferenceSpec.plain.varTypes Tryz.prog).any (Tryz.prog.ifacesRec ·))=true:=by kernel_rfl
theorem zh3:(Rows.scriptPrintMatchesReferenceRow.mapsOut==Tryz.prog.mapsAmong Tryz.f4.resultTypes.toList)=true:=by kernel_rfl
theorem ziV:(Rows.scriptPrintMatchesReferenceRow.loops==(Tryz.f4.params.toList++Rows.scriptPrintMatchesReferenceSpec.plain.varTypes Tryz.prog).any (Tryz.prog.loopsFrom ·))=true:=by kernel_rfl
theorem ziu:(Rows.scriptPrintMatchesReferenceRow.wideKeys==(Tryz.f4.params.toList++Rows.scriptPrintMatchesReferenceSpec.plain.varTypes Tryz.prog++Tryz.f4.resultTypes.toList).any (Tryz.prog.wideKeysFrom ·))=true:=by kernel_rfl
theorem ziy:(Rows.scriptPrintMatchesReferenceSpec.vars.all (Tryz.prog.varReadable ·))=true:=by kernel_rfl
theorem ziC:(Tryz.f4.resultTypes.all (fun t=>Tryz.prog.readableRec t && decide (t < Tryz.prog.types.size)))=true:=by kernel_rfl
theorem ziD:(Rows.scriptPrintMatchesReferenceRow.ifacesOut==Tryz.f4.resultTypes.toList.any (Tryz.prog.ifacesRec ·))=true:=by kernel_rfl
theorem zh9:(Rows.scriptPrintMatchesReferenceRow.loopsOut==Tryz.f4.resultTypes.toList.any (Tryz.prog.loopsFrom ·))=true:=by kernel_rfl
theorem ziM:(Rows.scriptPrintMatchesReferenceRow.shortTexts.isNone)=true:=by kernel_rfl
theorem ziN:(Rows.scriptPrintMatchesReferenceRow.kinds==(if Rows.scriptPrintMatchesReferenceRow.domain.isEmpty then [] else Tryz.f4.params.toList.map fun t=>match Tryz.prog.underlying t with | some (.int k)=>some k | _=>none))=true:=by kernel_rfl
theorem zh5:(Rows.scriptPrintMatchesReferenceRow.pinned==Rows.scriptPrintMatchesReferenceRow.pinnedBy)=true:=by kernel_rfl
theorem ziP:(Rows.scriptPrintMatchesReferenceRow.veiled==(Tryz.f4.params.toList++Rows.scriptPrintMatchesReferenceSpec.plain.varTypes Tryz.prog++Tryz.f4.resultTypes.toList).any (Tryz.prog.veiledRec ·))=true:=by kernel_rfl
theorem zh2:(Rows.scriptPrintMatchesReferenceRow.veiledFits Tryz.prog Tryz.f4.params.toList (Tryz.f4.params.toList++Rows.scriptPrintMatchesReferenceSpec.plain.varTypes Tryz.prog++Tryz.f4.resultTypes.toList))=true:=by kernel_rfl
theorem zfF:joinedFacts Tryz.prog 4 Tryz.f4 Rows.scriptPrintMatchesReferenceSpec Rows.scriptPrintMatchesReferenceRow=true:=by
 unfold joinedFacts;exact bt (bt (bt (bt (bt (bt (bt (bt (bt (bt (bt (bt (bt (bt (bt (bt (bt (bt (bt (bt (bt (bt (bt (bt (bt (bt (bt (bt (bt (bt (bt zj8 laidOut) zmd) zi4) zje) zjK) zjG) zi7) zkb) zj3) zid) zis) zij) ziJ) zhY) zh3) ziV) ziu) ziy) ziC) ziD) zh9) zko) ziM) zjN) zjr) zjd) zl5) ziN) zh5) ziP) zh2
theorem zdH : Tryz.prog.funcNamed "copydesk/copydesklaw28.ScriptPrintMatchesReference" = some 4 := by kernel_rfl
theorem zg6:false=Rows.scriptPrintMatchesReferenceRow.goesBy Tryz.prog:=by kernel_rfl
theorem zh8:Rows.scriptPrintMatchesReferenceRow.wfByText (OpenSpec.ofChange Rows.scriptPrintMatchesReferenceSpec)=true:=by kernel_rfl
theorem zhf:Rows.ScriptPrintMatchesReferenceSaid:=
 OpenClaim.holds_of_wide 4 Tryz.f4 rfl rfl rfl rfl rfl rfl rfl ⟨rfl,rfl,rfl,rfl,rfl⟩ rfl rfl rfl rfl rfl zdH Tryz.func4 zfF
  (of_decide_eq_true (by kernel_rfl)) (by unfold Func.isWrapper;first | (rw [if_pos (by decide+kernel)];kernel_rfl) | (rw [if_neg (by decide+kernel)];exact ⟨rfl,rfl⟩))
  (fun os started H enc _=>zfG os started H enc)
theorem zgv : ∀ f fn, Tryz.prog.funcNamed "copydesk/copydesklaw28.ScriptPrintMatchesReference" = some f -> Tryz.prog.funcs[f]? = some fn -> true = Tryz.prog.looks [] /\ ∀ (j : Nat) t, fn.params[j]? = some t -> Tryz.prog.wantsStandIn t = false := fun f fn hf hfn => by
 obtain rfl:f=4:=(Option.some.inj (zdH.symm.trans hf)).symm
 obtain rfl:fn=Tryz.f4:=(Option.some.inj (Tryz.func4.symm.trans hfn)).symm
 exact ⟨zjt,fun j t ht=>by
  rw [Tryz.params4] at ht;have hm:t ∈ [37]:=by simpa using Array.mem_of_getElem? ht
  have hall:([37].all fun u=>!Tryz.prog.wantsStandIn u)=true:=by kernel_rfl
  exact (show Tryz.prog.wantsStandIn t=false by simpa using List.all_eq_true.1 hall t hm)⟩
theorem prints_holds:Rows.ScriptPrintMatchesReferenceCardSaid:=
 Claim7.holds_tied_plain_at .later [] [.data, .data, .data, .data, .handle, .data, .sentinel, .sentinel, .pinned] true (true, "4cf7673d7f0824c597bc1be1c6424031f8cc8997be29c3c5e4c9ab354cc86b93") true
  zhf (fun _ h=>by cases h) zh8 (fun _ h=>by cases h) scriptPrintMatchesReference_row_tie rfl ⟨rfl,rfl⟩ zl0 rfl
  zgv zg6
end Go.Proofs.YtjjfphalcibjfaaGreatDoor
