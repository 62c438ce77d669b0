/- Proved here: ScriptValidMatchesReference answers true whatever the two actions are, and the arguments read afterwards as they read before; the tied card. No condition beyond the given row's. -/
import Derived.Test.YtjjfphalcibjfaaGreatDoorF11
import Derived.Test.YtjjfphalcibjfaaGreatDoorG3
set_option maxRecDepth 100000
set_option maxHeartbeats 16000000
namespace Go.Proofs.YtjjfphalcibjfaaGreatDoor
open Go.ChangeShapes Go.WideShapes Go.ChangeAt Go.RowKit Cdk Scr
theorem zfp (os:Os) (started:os.Started) (H:Type) (enc:TypeId × Value -> H):
  ReturnsInHanded {} Tryz.checked os 3 .any (fun w args=>(Rows.scriptValidMatchesReferenceSpec.pre enc Tryz.prog Tryz.f3 Rows.scriptValidMatchesReferenceRow.domain false w args/\laidMetH Tryz.prog zeV w)/\sizedMet enc Tryz.prog Tryz.f3 (OpenSpec.ofChange Rows.scriptValidMatchesReferenceSpec) false w args)
   (Rows.scriptValidMatchesReferenceSpec.post enc Tryz.prog Tryz.f3 false true false false):=by
 refine zdT (C:=Tryz.checked) (X:=fun w _=>laidMetH Tryz.prog zeV w) (fun _ _ _ hh h=>h.of_heap hh) own started (by kernel_rfl) Tryz.func3
  (ChangeSpec.witness_shaped (enc:=enc) (C:=Tryz.checked) (os:=os) (X:=fun w _=>laidMetH Tryz.prog zeV w) false (wit os) #[.agg zA,.agg zA] 8 (zl4 _)
   (World.shaped_of_ZipB (by kernel_rfl) (by kernel_rfl)) (by kernel_rfl) (by kernel_rfl) (by kernel_rfl)
   (zkv os _)) ?_
 intro W base args ds gs before hval0 hW hwt0 hL hS;have hval:∀ (j:Nat) t v,Tryz.f3.params[j]?=some t -> args[j]?=some v -> Value.okWide Tryz.prog W .any base t v:=hval0;have hW':=hW;obtain ⟨p,q,hA0,hV,rfl,hfz,hnd⟩:=hW;have hA:DataW.TrodAll enc Tryz.prog W 0 (fun _=>true) true Tryz.f3.params.toList args.toList ds p:=hA0;have hwt:(DataW.weightsEach Tryz.prog (Tryz.f3.params.toList++Rows.scriptValidMatchesReferenceSpec.plain.varTypes Tryz.prog) (ds++gs)).all (·<=reachBytes)=true:=hwt0;rw [Tryz.params3] at hA hval hwt;obtain ⟨v0,v1,d0,d1,p0,p1,rfl,rfl,rfl,h0,h1⟩:=trodAll_two hA;obtain ⟨rfl,rfl⟩:=trodVars_none hV;obtain ⟨a1_0,n1_0,c1_0,a2_0,n2_0,c2_0,a3_0,n3_0,c3_0,a4_0,n4_0,c4_0,a5_0,n5_0,c5_0,a0,rfl,hr0,ho0⟩:=zen (hval 0 32 v0 rfl rfl) h0 (Wl.of_each (j:=0) hwt rfl rfl);obtain ⟨a1_1,n1_1,c1_1,a2_1,n2_1,c2_1,a3_1,n3_1,c3_1,a4_1,n4_1,c4_1,a5_1,n5_1,c5_1,a1,rfl,hr1,ho1⟩:=zen (hval 1 32 v1 rfl rfl) h1 (Wl.of_each (j:=1) hwt rfl rfl);refine (ziH a1_0 n1_0 c1_0 a2_0 n2_0 c2_0 a3_0 n3_0 c3_0 a4_0 n4_0 c4_0 a5_0 n5_0 c5_0 a0 a1_1 n1_1 c1_1 a2_1 n2_1 c2_1 a3_1 n3_1 c3_1 a4_1 n4_1 c4_1 a5_1 n5_1 c5_1 a1 W (znF hL hS) hr0 hr1 ho0.sz.fc (by have:=ho0.tx;omega) (by have:=ho0.ms.da;omega) (by have:=ho1.tx;omega) (by have:=ho1.ms.da;omega)).mono fun e W' ⟨he,hw⟩=>?_
 exact ⟨_,he,zgL (P:=Tryz.prog) laidOut Tryz.underlying4 hW' (by kernel_rfl) rfl (by kernel_rfl) rfl rfl rfl hw⟩
theorem zjU:(Rows.scriptValidMatchesReferenceRow.wf (OpenSpec.ofChange Rows.scriptValidMatchesReferenceSpec))=true:=by kernel_rfl
theorem zkc:(Tryz.f3.params.all (Tryz.prog.readableRec ·))=true:=by kernel_rfl
theorem zjF:(namedTie Tryz.prog Rows.scriptValidMatchesReferenceRow.named Rows.scriptValidMatchesReferenceSpec.vars)=true:=by kernel_rfl
theorem zjs:(Rows.scriptValidMatchesReferenceRow.stops==[])=true:=by kernel_rfl
theorem zjf:(Rows.scriptValidMatchesReferenceRow.knobs==[])=true:=by kernel_rfl
theorem zkd:(Rows.scriptValidMatchesReferenceRow.inPlace==Tryz.prog.inPlace 3)=true:=by kernel_rfl
theorem zil:(Rows.scriptValidMatchesReferenceRow.unfollowed==Tryz.prog.unfollowed 3)=true:=by kernel_rfl
theorem zib:(Rows.scriptValidMatchesReferenceRow.recurses==Tryz.prog.recurses 3)=true:=by kernel_rfl
theorem ziY:(Rows.scriptValidMatchesReferenceRow.named==Tryz.prog.varsNamed 3)=true:=by kernel_rfl
theorem ziq:(Rows.scriptValidMatchesReferenceRow.maps==(Tryz.f3.params.toList++Rows.scriptValidMatchesReferenceSpec.plain.varTypes Tryz.prog).any (Tryz.prog.mapsRec ·))=true:=by kernel_rfl
theorem ziX:(Rows.scriptValidMatchesReferenceRow.ifaces==(Tryz.f3.params.toList++Rows.scriptValidMatchesReferenceSpec.plain.varTypes Tryz.prog).any (Tryz.prog.ifacesRec ·))=true:=by kernel_rfl
theorem ziz:(Rows.scriptValidMatchesReferenceRow.mapsOut==Tryz.prog.mapsAmong Tryz.f3.resultTypes.toList)=true:=by kernel_rfl
theorem zh7:(Rows.scriptValidMatchesReferenceRow.loops==(Tryz.f3.params.toList++Rows.scriptValidMatchesReferenceSpec.plain.varTypes Tryz.prog).any (Tryz.prog.loopsFrom ·))=true:=by kernel_rfl
theorem ziS:(Rows.scriptValidMatchesReferenceRow.wideKeys==(Tryz.f3.params.toList++Rows.scriptValidMatchesReferenceSpec.plain.varTypes Tryz.prog++Tryz.f3.resultTypes.toList).any (Tryz.prog.wideKeysFrom ·))=true:=by kernel_rfl
theorem ziO:(Rows.scriptValidMatchesReferenceSpec.vars.all (Tryz.prog.varReadable ·))=true:=by kernel_rfl
theorem ziL:(Tryz.f3.resultTypes.all (fun t=>Tryz.prog.readableRec t && decide (t < Tryz.prog.types.size)))=true:=by kernel_rfl
theorem zif:(Rows.scriptValidMatchesReferenceRow.ifacesOut==Tryz.f3.resultTypes.toList.any (Tryz.prog.ifacesRec ·))=true:=by kernel_rfl
theorem ziG:(Rows.scriptValidMatchesReferenceRow.loopsOut==Tryz.f3.resultTypes.toList.any (Tryz.prog.loopsFrom ·))=true:=by kernel_rfl
theorem zii:(Rows.scriptValidMatchesReferenceRow.shortTexts.isNone)=true:=by kernel_rfl
theorem zhZ:(Rows.scriptValidMatchesReferenceRow.kinds==(if Rows.scriptValidMatchesReferenceRow.domain.isEmpty then [] else Tryz.f3.params.toList.map fun t=>match Tryz.prog.underlying t with | some (.int k)=>some k | _=>none))=true:=by kernel_rfl
theorem zin:(Rows.scriptValidMatchesReferenceRow.pinned==Rows.scriptValidMatchesReferenceRow.pinnedBy)=true:=by kernel_rfl
theorem ziw:(Rows.scriptValidMatchesReferenceRow.veiled==(Tryz.f3.params.toList++Rows.scriptValidMatchesReferenceSpec.plain.varTypes Tryz.prog++Tryz.f3.resultTypes.toList).any (Tryz.prog.veiledRec ·))=true:=by kernel_rfl
theorem zh1:(Rows.scriptValidMatchesReferenceRow.veiledFits Tryz.prog Tryz.f3.params.toList (Tryz.f3.params.toList++Rows.scriptValidMatchesReferenceSpec.plain.varTypes Tryz.prog++Tryz.f3.resultTypes.toList))=true:=by kernel_rfl
theorem zfw:joinedFacts Tryz.prog 3 Tryz.f3 Rows.scriptValidMatchesReferenceSpec Rows.scriptValidMatchesReferenceRow=true:=by
 unfold joinedFacts;exact bt (bt (bt (bt (bt (bt (bt (bt (bt (bt (bt (bt (bt (bt (bt (bt (bt (bt (bt (bt (bt (bt (bt (bt (bt (bt (bt (bt (bt (bt (bt zjU laidOut) zmd) zkc) zjF) zjs) zjG) zjf) zkb) zkd) zil) zib) ziY) ziq) ziX) ziz) zh7) ziS) ziO) ziL) zif) ziG) zko) zii) zjN) zjr) zjd) zl5) zhZ) zin) ziw) zh1
theorem zdG : Tryz.prog.funcNamed "copydesk/copydesklaw28.ScriptValidMatchesReference" = some 3 := by kernel_rfl
theorem zgW:false=Rows.scriptValidMatchesReferenceRow.goesBy Tryz.prog:=by kernel_rfl
theorem zic:Rows.scriptValidMatchesReferenceRow.wfByText (OpenSpec.ofChange Rows.scriptValidMatchesReferenceSpec)=true:=by kernel_rfl
theorem zhz:Rows.ScriptValidMatchesReferenceSaid:=
 OpenClaim.holds_of_wide 3 Tryz.f3 rfl rfl rfl rfl rfl rfl rfl ⟨rfl,rfl,rfl,rfl,rfl⟩ rfl rfl rfl rfl rfl zdG Tryz.func3 zfw
  (of_decide_eq_true (by kernel_rfl)) (by unfold Func.isWrapper;first | (rw [if_pos (by decide+kernel)];kernel_rfl) | (rw [if_neg (by decide+kernel)];exact ⟨rfl,rfl⟩))
  (fun os started H enc _=>zfp os started H enc)
theorem zfW : ∀ f fn, Tryz.prog.funcNamed "copydesk/copydesklaw28.ScriptValidMatchesReference" = some f -> Tryz.prog.funcs[f]? = some fn -> true = Tryz.prog.looks [] /\ ∀ (j : Nat) t, fn.params[j]? = some t -> Tryz.prog.wantsStandIn t = false := fun f fn hf hfn => by
 obtain rfl:f=3:=(Option.some.inj (zdG.symm.trans hf)).symm
 obtain rfl:fn=Tryz.f3:=(Option.some.inj (Tryz.func3.symm.trans hfn)).symm
 exact ⟨zjt,fun j t ht=>by
  rw [Tryz.params3] at ht;have hm:t ∈ [32,32]:=by simpa using Array.mem_of_getElem? ht
  have hall:([32,32].all fun u=>!Tryz.prog.wantsStandIn u)=true:=by kernel_rfl
  exact (show Tryz.prog.wantsStandIn t=false by simpa using List.all_eq_true.1 hall t hm)⟩
theorem valids_holds:Rows.ScriptValidMatchesReferenceCardSaid:=
 Claim7.holds_tied_plain_at .later [] [.data, .data, .data, .data, .handle, .data, .sentinel, .sentinel, .pinned] true (true, "4cf7673d7f0824c597bc1be1c6424031f8cc8997be29c3c5e4c9ab354cc86b93") true
  zhz (fun _ h=>by cases h) zic (fun _ h=>by cases h) scriptValidMatchesReference_row_tie rfl ⟨rfl,rfl⟩ zl0 rfl
  zfW zgW
end Go.Proofs.YtjjfphalcibjfaaGreatDoor
