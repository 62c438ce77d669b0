/- Proved here: NetworkDelay answers true whatever the four numbers and the string are, and the arguments read afterwards as they read before; the tied card. No condition beyond the given row's. -/
import Derived.Test.YtcopgcdhkgenkaaGreatDoorY2
import Derived.Test.YtcopgcdhkgenkaaGreatDoorG2
import Derived.Test.YtcopgcdhkgenkaaGreatDoorW12
import Derived.Test.YtcopgcdhkgenkaaGreatDoorW11
set_option linter.all false
set_option maxRecDepth 100000
set_option maxHeartbeats 16000000
namespace Go.Proofs.YtcopgcdhkgenkaaGreatDoor
open Go.ChangeShapes Go.WideShapes Go.ChangeAt Go.RowKit Cdk Scr
theorem trodAll_five {H:Type} {enc:TypeId × Value -> H} {P:Program} {w:World} {base:Nat} {spare:Nat -> Bool} {held:Bool} {t t1 t2 t3 t4:TypeId} {args:Array Value} {ds:List (DataW H)} {ps:List MemPlace} (h:DataW.TrodAll enc P w base spare held [t,t1,t2,t3,t4] args.toList ds ps):
  ∃ v v1 v2 v3 v4 d d1 d2 d3 d4 p p1 p2 p3 p4,args=#[v,v1,v2,v3,v4]/\ds=[d,d1,d2,d3,d4]/\ps=p++p1++p2++p3++p4/\DataW.Trod enc P w base spare held t v d p/\DataW.Trod enc P w base spare held t1 v1 d1 p1/\DataW.Trod enc P w base spare held t2 v2 d2 p2/\DataW.Trod enc P w base spare held t3 v3 d3 p3/\DataW.Trod enc P w base spare held t4 v4 d4 p4:=by
 obtain ⟨v,vs,d,ds',p,q,hargs,rfl,rfl,hd,hrest⟩:=trodAll_cons h;obtain ⟨v1,v2,v3,v4,d1,d2,d3,d4,p1,p2,p3,p4,ha,rfl,rfl,h1,h2,h3,h4⟩:=trodAll_four (args:=vs.toArray) hrest;exact ⟨v,v1,v2,v3,v4,d,d1,d2,d3,d4,p,p1,p2,p3,p4,by cases args;simp_all,rfl,by simp,hd,h1,h2,h3,h4⟩
theorem delays_lifted (os:Os) (started:os.Started) (H:Type) (enc:TypeId × Value -> H):
  ReturnsInHanded {} Tryz.checked os 3 .any (fun w args=>(Rows.networkDelaySpec.pre enc Tryz.prog Tryz.f3 Rows.networkDelayRow.domain false w args/\laidMetH Tryz.prog laidL w)/\sizedMet enc Tryz.prog Tryz.f3 (OpenSpec.ofChange Rows.networkDelaySpec) false w args)
   (Rows.networkDelaySpec.post enc Tryz.prog Tryz.f3 false true false false):=by
 refine handed_sized (C:=Tryz.checked) (X:=fun w _=>laidMetH Tryz.prog laidL w) (fun _ _ _ hh h=>h.of_heap hh) own started (by kernel_rfl) Tryz.func3
  (ChangeSpec.witness_shaped (enc:=enc) (C:=Tryz.checked) (os:=os) (X:=fun w _=>laidMetH Tryz.prog laidL w) false (wit os) #[.int .i64 0,.int .i64 0,.int .i64 0,.string .empty,.int .i64 0] 8 (wit_os _)
   (wit_shaped os _) (by kernel_rfl) (by kernel_rfl) (by kernel_rfl)
   (wit_met os _)) ?_
 intro W base args ds gs before hval0 hW hwt0 hL hS;have hval:∀ (j:Nat) t v,Tryz.f3.params[j]?=some t -> args[j]?=some v -> Value.okWide Tryz.prog W .any base t v:=hval0;have hW':=hW;obtain ⟨p,q,hA0,hV,rfl,hfz,hnd⟩:=hW;have hA:DataW.TrodAll enc Tryz.prog W 0 (fun _=>true) true Tryz.f3.params.toList args.toList ds p:=hA0;have hwt:(DataW.weightsEach Tryz.prog (Tryz.f3.params.toList++Rows.networkDelaySpec.plain.varTypes Tryz.prog) (ds++gs)).all (·<=reachBytes)=true:=hwt0;rw [Tryz.params3] at hA hval hwt;obtain ⟨v0,v1,v2,v3,v4,d0,d1,d2,d3,d4,p0,p1,p2,p3,p4,rfl,rfl,rfl,h0,h1,h2,h3,h4⟩:=trodAll_five hA;obtain ⟨rfl,rfl⟩:=trodVars_none hV;obtain ⟨a0,rfl,-,-,wa0⟩:=open_int Tryz.underlying3 (hval 0 3 v0 rfl rfl) h0;obtain ⟨a1,rfl,-,-,wa1⟩:=open_int Tryz.underlying3 (hval 1 3 v1 rfl rfl) h1;obtain ⟨a2,rfl,-,-,wa2⟩:=open_int Tryz.underlying3 (hval 2 3 v2 rfl rfl) h2;obtain ⟨s3,rfl,hz3⟩:=string_open (hval 3 9 v3 rfl rfl) h3 (Wl.of_each (j:=3) hwt rfl rfl);obtain ⟨a4,rfl,-,-,wa4⟩:=open_int Tryz.underlying3 (hval 4 3 v4 rfl rfl) h4;refine (delay_walk a0 a1 a2 a4 s3 (i64_of_wf wa0) (i64_of_wf wa1) (i64_of_wf wa2) (i64_of_wf wa4) hz3 W (gl_of hL hS)).mono fun e W' ⟨he,hw⟩=>?_
 exact ⟨_,he,post_true (P:=Tryz.prog) laidOut Tryz.underlying4 hW' (by kernel_rfl) rfl (by kernel_rfl) rfl rfl rfl hw⟩
theorem delays_k0:(Rows.networkDelayRow.wf (OpenSpec.ofChange Rows.networkDelaySpec))=true:=by kernel_rfl
theorem delays_k3:(Tryz.f3.params.all (Tryz.prog.readableRec ·))=true:=by kernel_rfl
theorem delays_k4:(namedTie Tryz.prog Rows.networkDelayRow.named Rows.networkDelaySpec.vars)=true:=by kernel_rfl
theorem delays_k5:(Rows.networkDelayRow.stops==[])=true:=by kernel_rfl
theorem delays_k7:(Rows.networkDelayRow.knobs==[])=true:=by kernel_rfl
theorem delays_k13:(Rows.networkDelayRow.maps==(Tryz.f3.params.toList++Rows.networkDelaySpec.plain.varTypes Tryz.prog).any (Tryz.prog.mapsRec ·))=true:=by kernel_rfl
theorem delays_k14:(Rows.networkDelayRow.ifaces==(Tryz.f3.params.toList++Rows.networkDelaySpec.plain.varTypes Tryz.prog).any (Tryz.prog.ifacesRec ·))=true:=by kernel_rfl
theorem delays_k15:(Rows.networkDelayRow.mapsOut==Tryz.prog.mapsAmong Tryz.f3.resultTypes.toList)=true:=by kernel_rfl
theorem delays_k16:(Rows.networkDelayRow.loops==(Tryz.f3.params.toList++Rows.networkDelaySpec.plain.varTypes Tryz.prog).any (Tryz.prog.loopsFrom ·))=true:=by kernel_rfl
theorem delays_k17:(Rows.networkDelayRow.wideKeys==(Tryz.f3.params.toList++Rows.networkDelaySpec.plain.varTypes Tryz.prog++Tryz.f3.resultTypes.toList).any (Tryz.prog.wideKeysFrom ·))=true:=by kernel_rfl
theorem delays_k18:(Rows.networkDelaySpec.vars.all (Tryz.prog.varReadable ·))=true:=by kernel_rfl
theorem delays_k19:(Tryz.f3.resultTypes.all (fun t=>Tryz.prog.readableRec t && decide (t < Tryz.prog.types.size)))=true:=by kernel_rfl
theorem delays_k20:(Rows.networkDelayRow.ifacesOut==Tryz.f3.resultTypes.toList.any (Tryz.prog.ifacesRec ·))=true:=by kernel_rfl
theorem delays_k21:(Rows.networkDelayRow.loopsOut==Tryz.f3.resultTypes.toList.any (Tryz.prog.loopsFrom ·))=true:=by kernel_rfl
theorem delays_k23:(Rows.networkDelayRow.shortTexts.isNone)=true:=by kernel_rfl
theorem delays_k28:(Rows.networkDelayRow.kinds==(if Rows.networkDelayRow.domain.isEmpty then [] else Tryz.f3.params.toList.map fun t=>match Tryz.prog.underlying t with | some (.int k)=>some k | _=>none))=true:=by kernel_rfl
theorem delays_k29:(Rows.networkDelayRow.pinned==Rows.networkDelayRow.pinnedBy)=true:=by kernel_rfl
theorem delays_k30:(Rows.networkDelayRow.veiled==(Tryz.f3.params.toList++Rows.networkDelaySpec.plain.varTypes Tryz.prog++Tryz.f3.resultTypes.toList).any (Tryz.prog.veiledRec ·))=true:=by kernel_rfl
theorem delays_k31:(Rows.networkDelayRow.veiledFits Tryz.prog Tryz.f3.params.toList (Tryz.f3.params.toList++Rows.networkDelaySpec.plain.varTypes Tryz.prog++Tryz.f3.resultTypes.toList))=true:=by kernel_rfl
theorem delays_closed:joinedFacts Tryz.prog 3 Tryz.f3 Rows.networkDelaySpec Rows.networkDelayRow=true:=by
 unfold joinedFacts;exact bt (bt (bt (bt (bt (bt (bt (bt (bt (bt (bt (bt (bt (bt (bt (bt (bt (bt (bt (bt (bt (bt (bt (bt (bt (bt (bt (bt (bt (bt (bt delays_k0 laidOut) g_maps) delays_k3) delays_k4) delays_k5) g_stops) delays_k7) g_knobs) delays_k9) delays_k10) delays_k11) delays_k12) delays_k13) delays_k14) delays_k15) delays_k16) delays_k17) delays_k18) delays_k19) delays_k20) delays_k21) g_plain) delays_k23) g_heard) g_enter) g_lifts) g_make) delays_k28) delays_k29) delays_k30) delays_k31
theorem delays_named : Tryz.prog.funcNamed "copydesk/copydesklaw27.NetworkDelay" = some 3 := by kernel_rfl
theorem delays_wft:Rows.networkDelayRow.wfByText (OpenSpec.ofChange Rows.networkDelaySpec)=true:=by kernel_rfl
theorem delays_said:Rows.NetworkDelaySaid:=
 OpenClaim.holds_of_wide 3 Tryz.f3 rfl rfl rfl rfl rfl rfl rfl ⟨rfl,rfl,rfl,rfl,rfl⟩ rfl rfl rfl rfl rfl delays_named Tryz.func3 delays_closed
  (of_decide_eq_true (by kernel_rfl)) (by unfold Func.isWrapper;first | (rw [if_pos (by decide+kernel)];kernel_rfl) | (rw [if_neg (by decide+kernel)];exact ⟨rfl,rfl⟩))
  (fun os started H enc _=>delays_lifted os started H enc)
theorem delays_stand : ∀ f fn, Tryz.prog.funcNamed "copydesk/copydesklaw27.NetworkDelay" = some f -> Tryz.prog.funcs[f]? = some fn -> true = Tryz.prog.looks [] /\ ∀ (j : Nat) t, fn.params[j]? = some t -> Tryz.prog.wantsStandIn t = false := fun f fn hf hfn => by
 obtain rfl:f=3:=(Option.some.inj (delays_named.symm.trans hf)).symm
 obtain rfl:fn=Tryz.f3:=(Option.some.inj (Tryz.func3.symm.trans hfn)).symm
 exact ⟨g_looks,fun j t ht=>by
  rw [Tryz.params3] at ht;have hm:t ∈ [3,3,3,9,3]:=by simpa using Array.mem_of_getElem? ht
  have hall:([3,3,3,9,3].all fun u=>!Tryz.prog.wantsStandIn u)=true:=by kernel_rfl
  exact (show Tryz.prog.wantsStandIn t=false by simpa using List.all_eq_true.1 hall t hm)⟩
theorem delays_holds:Rows.NetworkDelayCardSaid:=
 Claim7.holds_tied_plain_at .later [] [.data, .pinned, .data, .handle, .sentinel, .sentinel, .data, .data, .data, .sentinel, .sentinel] true (true, "4f9b2a5e01fe620100502aad89a6c374947310d4e56a0e79ec735a6c60a7907e") true
  delays_said (fun _ h=>by cases h) delays_wft (fun _ h=>by cases h) networkDelay_row_tie rfl ⟨rfl,rfl⟩ g_main rfl
  delays_stand (goes_row _)
end Go.Proofs.YtcopgcdhkgenkaaGreatDoor
