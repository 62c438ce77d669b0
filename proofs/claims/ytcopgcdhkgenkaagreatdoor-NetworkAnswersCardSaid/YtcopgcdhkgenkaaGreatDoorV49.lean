import Derived.Test.YtcopgcdhkgenkaaGreatDoorE2
import Derived.Test.YtcopgcdhkgenkaaGreatDoorR3
import Derived.Test.YtcopgcdhkgenkaaGreatDoorQ3
import Derived.Test.YtcopgcdhkgenkaaGreatDoorJ5
set_option linter.all false
set_option maxRecDepth 100000
set_option maxHeartbeats 16000000
namespace Go.Proofs.YtcopgcdhkgenkaaGreatDoor
open Go.Shelf Go.RowKit Cdk Scr
theorem nrTick_any:NrTickSpec:=by
 intro U m w r tk x hG hU hmw hR hx htk
 obtain ⟨j,s,now,built,cl0,bf,xf,mf,hNr,hUj,hrm,hnow,hbt0,hmode⟩:=hR
 have hjs:=hNr.js
 have hsr:=hNr.sr
 obtain ⟨nw,hnw⟩:∃ nw,nw=max now x:=⟨_,rfl⟩
 have hms:=hid (nrMissing_any w hNr)
 have hit:=hid (fun W=>isTime_any x hx W)
 have hps:=hid (pass_any x w hNr)
 rw [<- hnw] at hps
 have hnwb:Hid (0<=nw/\nw<=1000000000):=hid (by omega)
 replace hnw:=hid hnw
 have hG0:=hid hG
 obtain ⟨md,hmd⟩:∃ md:Bool,(md=true/\built=0/\(∀ c,c < 4 -> ClNew w r (cl0 c) c (bf c) (xf c) (mf c))/\(∀ c d,c < d -> d < 4 -> bf c < mf d)/\bf 3 < m) \/ (md=false/\∀ c,c < 4 -> ClDone w r m (cl0 c) (bf c)):=by
  rcases hmode with ⟨h1,h2,h3,h4⟩ | h1
  ·exact ⟨true,.inl ⟨rfl,h1,h2,cls_order (fun c hc=>(h2 c hc).mb) h3,h4⟩⟩
  ·exact ⟨false,.inr ⟨rfl,h1⟩⟩
 have hmd0:=hid hmd
 have hbt':=hid hbt0
 have hvs:=hid (fun (k:Nat) (hk:k < 4) W=>Visible_any none 0 (k:Int) nw (by omega) W)
 have hNr0:=hid hNr
 have hlen:=hid (And.intro hUj (And.intro hrm (And.intro hjs (And.intro hsr (And.intro hU hmw)))))
 clear hmode hmd hbt0 hNr hG hUj hrm hjs hsr hU hmw
 go_enter Tryz.func38,Tryz.ntmps38
 go_wp2_with fail
 refine hms.out.mono ?_;rintro e w0 ⟨rfl,hw0⟩
 obtain rfl:w=w0:=hw0
 go_wp2_with fail
 refine (hit.out w).mono ?_;rintro e w0 ⟨rfl,hw0⟩
 obtain rfl:w=w0:=hw0
 go_wp2_with fail
 refine hps.out.mono ?_;rintro e w1 ⟨rfl,hN1,hm1⟩
 have hN1':=hid hN1
 have hm1':=hid hm1
 obtain ⟨V1,hV1,hnV1⟩:=hN1.at_
 have t3:w1.cell? ⟨r,3,none⟩=some (.int .i64 tk):=(cellN hV1 3).trans hnV1.c3
 have z3:=freeN hV1 3
 have htk1:=htk.1
 have htk2:=htk.2
 have hm2:=hid (hm1.setCell (a:=⟨r,3,none⟩) (fun _=>rfl) (.int .i64 (tk+1)))
 have hN2:Hid (NrAt (w1.setCell ⟨r,3,none⟩ (.int .i64 (tk+1))) r j s nw (tk+1) cl0 (.slice none 0 0) built):=hid ⟨⟨_,put_at' hV1 3 _,hnV1.setTick _⟩,(NrAt.keep hNr0.out hm2.out).1,(NrAt.keep hNr0.out hm2.out).2,hNr0.out.js,hNr0.out.sr⟩
 clear hN1 hm1 hV1 hnV1 hN1' hm1' hps hms
 go_upto_region 7 with fail
 generalize w1.setCell ⟨r,3,none⟩ (.int .i64 (tk+1))=w2 at hm2 hN2 ⊢
 obtain ⟨en,dd,dz,hjn⟩:=hN2.out.jn
 obtain ⟨V2,hV2,hnV2⟩:=hN2.out.at_
 have j0:w2.cell? ⟨r,0,none⟩=some (.pointer (some ⟨j,0,none⟩)):=(cellN hV2 0).trans hnV2.c0
 have hfc:=hid (facts_nil w2 hjn)
 clear hjn hV2 hnV2 t3 z3
 go_wp2_with fail
 refine hfc.out.mono ?_;rintro e w0 ⟨rfl,hw0⟩
 obtain rfl:w2=w0:=hw0
 have hLM:Hid (Cdk.Mod (fun q=>U<=q/\q < m) w w2):=hid (hm2.out.mono (fun q e=>by have:=hlen.out;omega))
 clear j0 hfc
 go_wp2_with fail
 go_loopg [34] 4 (fun g i wr=>∃ (k:Nat) (cl:Nat -> Array Value) (bt:Int),k+g=4/\i=.int .i64 k/\NrAt wr r j s nw (tk+1) cl (.slice none 0 0) bt/\(∀ c,c < k -> ClDone wr r m (cl c) (bf c))/\((md=true/\bt=2*k/\∀ c,k<=c -> c < 4 -> ClNew wr r (cl c) c (bf c) (xf c) (mf c)) \/ (md=false/\(0<=bt/\bt<=1000)/\∀ c,k<=c -> c < 4 -> ClDone wr r m (cl c) (bf c)))/\Cdk.Mod (fun q=>U<=q/\q < m) w wr)
 case atStart=>
  refine ⟨0,cl0,built,rfl,rfl,hN2.out,fun c hc=>absurd hc (Nat.not_lt_zero c),?_,hLM.out⟩
  rcases hmd0.out with ⟨e,h1,h2,h3,h4⟩ | ⟨e,h1⟩
  ·refine .inl ⟨e,h1,fun c _ hc=>(h2 c hc).mod hm2.out (fun e=>?_) (fun e=>?_)⟩
   ·have:=(h2 c hc).rm;have:=(h2 c hc).mb;omega
   ·have:=(h2 c hc).rm;omega
  ·exact .inr ⟨e,hbt'.out,fun c _ hc=>(h1 c hc).mod hm2.out (fun e=>by have:=(h1 c hc).rb;omega)⟩
 case round=>
  obtain ⟨k,cl,bt,hkg,rfl,hNk,hdone,hmk,hMk⟩:=hrel
  replace hkg:=hid hkg
  by_cases hk4:k < 4
  ·have hki:(k:Int) < 4:=by omega
   have hd:decide ((k:Int) < 4)=true:=decide_eq_true hki
   obtain ⟨V,hV,hnV⟩:=hNk.at_
   have n2:=hid (show wr.cell? ⟨r,2,none⟩=some (.int .i64 nw) from (cellN hV 2).trans hnV.c2)
   have nb:=hid (show wr.cell? ⟨r,298,none⟩=some (.int .i64 bt) from (cellN hV 298).trans hnV.built)
   have hVr:=hid hV
   have hnV':=hid hnV
   have hNk':=hid hNk
   have hMk':=hid hMk
   have hdone':=hid hdone
   have hmk':=hid hmk
   clear hV hnV hNk hMk hdone hmk
   rcases hmk'.out with ⟨hmt,hb2,hnew⟩ | ⟨hmf,hbb,hold⟩
   ·have hbt1:0<=bt/\bt<=8:=by omega
    replace hb2:=hid hb2
    obtain ⟨ho,hb3⟩:(∀ c d,c < d -> d < 4 -> bf c < mf d)/\bf 3 < m:=by
     rcases hmd0.out with ⟨-,-,-,h3,h4⟩ | ⟨e,-⟩
     ·exact ⟨h3,h4⟩
     ·rw [hmt] at e;cases e
    have hN:=hid (hnew k (Nat.le_refl _) hk4)
    have hbm:Hid (bf k < m):=hid (by
     rcases (show k=3 \/ k < 3 by omega) with h | h
     ·rw [h];exact hb3
     ·have h1:=ho k 3 h (by decide)
      have h2:=(hnew 3 (by omega) (by decide)).mb
      omega)
    have hord:=hid ho
    have hnew':=hid hnew
    have hl:=hlen.out
    have hrb:=hid (show r < bf k/\r ≠ mf k from ⟨by have:=hN.out.rm;have:=hN.out.mb;omega,by have:=hN.out.rm;omega⟩)
    have hrb12:=hid (show 12<=r by omega)
    have hGr:=hid (hG0.out.mod hMk'.out (fun q h=>by omega))
    have hcg:=classV_get (some ⟨bf k,0,none⟩) (some ⟨xf k,0,none⟩) (k:Int)
    rw [<- hN.out.cells] at hcg
    obtain ⟨q0,q1,⟨vq2,q2⟩,q3,q4,q70⟩:=hcg
    have v0:V[4+k*71]?=some (.pointer (some ⟨bf k,0,none⟩)):=(hnV'.out.get (i:=0) hk4 (by decide)).trans q0
    have v2:V[4+k*71+2]?=some vq2:=(hnV'.out.get (i:=2) hk4 (by decide)).trans q2
    have v3:V[4+k*71+3]?=some (.bool false):=(hnV'.out.get (i:=3) hk4 (by decide)).trans q3
    have v4:V[4+k*71+4]?=some (.bool false):=(hnV'.out.get (i:=4) hk4 (by decide)).trans q4
    have hwz:Hid (r < wr.heap.size/\bf k < wr.heap.size/\m<=wr.heap.size):=hid ⟨lt_of_at hVr.out,lt_of_at hN.out.bld,by have:=hMk'.out.size;omega⟩
    replace q0:=hid q0
    replace q1:=hid q1
    replace q70:=hid q70
    replace v0:=hid v0
    replace v2:=hid v2
    replace v3:=hid v3
    replace v4:=hid v4
    clear ho hb3 hnew hl q2 q3 q4
    go_upto_region 12 with fail
    try simp only [List.append_eq,List.cons_append,List.nil_append]
    refine wp_region_tree (.s (.q 0 (.q 1 (.q 2 (.q 3 (.q 4 (.q 5 (.q 6 (.q 7 (.c1 8 (.c1 9 (.c1 10 .done)))))))))))) (by as_aux_lemma=>kernel_rfl) (by as_aux_lemma=>kernel_rfl) (by as_aux_lemma=>kernel_rfl) (by decide) ?_
    have hv0:=hid (Mod.drew0 (fun _=>False) wr)
    refine wpTr_s (fun _=>True) (fun _ _=>trivial) trivial ?_
    generalize hWd:World.drew wr=V0 at hv0 ⊢
    iterate 8 (refine wpTr_q _ (by simp only [List.getD_cons_succ,List.getD_cons_zero];rfl) (by rfl) ?_ (fun w' hC=>?_) ?_;rotate_left;(go_simp;first | done | with_reducible rfl | exact rfl);try simp only [Act.put,sA,sZ,sS])
    refine wpTr_c1 _ (by simp only [List.getD_cons_succ,List.getD_cons_zero];rfl) ?_
    have n2v:V0.cell? ⟨r,2,none⟩=some (.int .i64 nw):=hv0.out.cell n2.out (fun h=>h)
    refine wpN_c (by rfl) (fun K hK=>?_)
    go_simp
    refine hK.out _ _ trivial ?_
    clear n2v
    clear hK K
    try simp only [Act.put,sA,sZ,sS]
    refine wpTr_c1 _ (by simp only [List.getD_cons_succ,List.getD_cons_zero];rfl) ?_
    refine wpN_c (by rfl) (fun K hK=>?_)
    go_simp
    refine (hvs.out k hk4 V0).mono ?_;rintro e V1 ⟨rfl,hxn⟩
    have hv1:=hid (hv0.out.trans hxn)
    refine hK.out _ _ trivial ?_
    clear hxn
    clear hK K
    try simp only [Act.put,sA,sZ,sS]
    refine wpTr_c1 _ (by simp only [List.getD_cons_succ,List.getD_cons_zero];rfl) ?_
    have hVv:=hv1.out.at hVr.out (fun h=>h)
    refine wpN_c (by rfl) (fun K hK=>?_)
    go_simp
    refine (take_new r (4+k*71) (bf k) (mf k) V _ V1 (hGr.out.ext hv1.out) hVv _ v0.out v2.out v3.out v4.out (hv1.out.at hN.out.bld (fun h=>h)) (hN.out.map.mod hv1.out (fun h=>h)) hrb.out.1 hrb.out.2 hrb12.out).mono ?_;rintro e V2 ⟨rfl,hV2,hB2,hm2⟩
    have hV2':=hid hV2
    have hB2':=hid hB2
    have hm2':=hid hm2
    refine hK.out _ _ trivial ?_
    clear hVv hV2 hB2 hm2
    clear hK K
    try simp only [Act.put,sA,sZ,sS]
    refine wpTr_done ?_
    obtain ⟨cl1,hn1,ha1,hb1⟩:=hnV'.out.setCls hk4 (i:=2) (by decide) (.slice none 0 0) rfl
    obtain ⟨cl2,hn2,ha2,hc2⟩:=hn1.setCls hk4 (i:=3) (by decide) (.bool true) rfl
    obtain ⟨cl3,hn3,ha3,hb3⟩:=hn2.setCls hk4 (i:=4) (by decide) (.bool false) rfl
    have hcs:=hid (hnV'.out.cls k hk4).1
    have hk3:Hid (cl3 k=(((cl k).setIfInBounds 2 (.slice none 0 0)).setIfInBounds 3 (.bool true)).setIfInBounds 4 (.bool false)):=hid (by rw [ha3,ha2,ha1])
    have hk3':Hid (∀ c,c ≠ k -> cl3 c=cl c):=hid (fun c hc=>by rw [hb3 c hc,hc2 c hc,hb1 c hc])
    have hn3':=hid hn3
    obtain ⟨lo,hlo⟩:∃ lo,lo=V1.heap.size:=⟨_,rfl⟩
    have hmsz:=hid hm2'.out.size
    rw [<- hlo] at hB2' hm2'
    have hlw:Hid (wr.heap.size<=lo):=hid (by have:=hv1.out.size;omega)
    have hx2:Hid (Cdk.Mod (fun q=>q=r \/ q=bf k \/ wr.heap.size<=q) wr V2):=hid ((hv1.out.mono (fun _ h=>h.elim)).trans (hm2'.out.mono (fun q h=>by have:=hlw.out;omega)))
    have hBsz:Hid (lo<=V2.heap.size):=hid (by have:=hmsz.out;omega)
    replace hlo:=hid hlo
    have g3:Hid ((cl3 k)[0]?=some (.pointer (some ⟨bf k,0,none⟩))/\(cl3 k)[1]?=some (.pointer (some ⟨xf k,0,none⟩))/\(cl3 k)[2]?=some (.slice none 0 0)/\(cl3 k)[3]?=some (.bool true)/\(cl3 k)[4]?=some (.bool false)/\(cl3 k)[70]?=some (.int .i64 (k:Int))):=hid (by
     rw [hk3.out]
     have h71:=hcs.out
     refine ⟨?_,?_,?_,?_,?_,?_⟩
     ·rw [set_ne _ (by decide),set_ne _ (by decide),set_ne _ (by decide)];exact q0.out
     ·rw [set_ne _ (by decide),set_ne _ (by decide),set_ne _ (by decide)];exact q1.out
     ·rw [set_ne _ (by decide),set_ne _ (by decide),set_self _ (by omega)]
     ·rw [set_ne _ (by decide),set_self _ (by rw [Array.size_setIfInBounds];omega)]
     ·rw [set_self _ (by rw [Array.size_setIfInBounds,Array.size_setIfInBounds];omega)]
     ·rw [set_ne _ (by decide),set_ne _ (by decide),set_ne _ (by decide)];exact q70.out)
    generalize hV3e:((V.setIfInBounds (4+k*71+2) (.slice none 0 0)).setIfInBounds (4+k*71+3) (.bool true)).setIfInBounds (4+k*71+4) (.bool false)=V3 at hV2' hn3 hn3'
    clear hV3e hn1 hn2 hn3 ha1 ha2 ha3 hb1 hc2 hb3 n2 nb hVr v0 v2 v3 v4 q0 q1 q70 hm2' hv0
    have hwr:IntKind.i64.wrap (bt+2)=bt+2:=IntWalk.i64_in _ (by omega)
    go_upto_region 13 with fail
    try simp only [List.append_eq,List.cons_append,List.nil_append]
    refine wp_region_tree (.s (.q 0 (.q 1 (.q 2 (.q 4 (.q 5 (.q 6 (.c2 3 (.c1 7 (.q 8 (.q 9 (.q 10 (.c1 11 .done))))) 7 (.c1 3 (.q 8 (.q 9 (.q 10 (.c1 11 .done))))))))))))) (by as_aux_lemma=>kernel_rfl) (by as_aux_lemma=>kernel_rfl) (by as_aux_lemma=>kernel_rfl) (by decide) ?_
    have hw0:=hid (Mod.drew0 (fun _=>False) V2)
    refine wpTr_s (fun _=>True) (fun _ _=>trivial) trivial ?_
    generalize hWe:World.drew V2=W0 at hw0 ⊢
    have hV0w:=hid (hw0.out.at hV2'.out (fun h=>h))
    have hGW:=hid ((hGr.out.mod hx2.out (fun q h=>by have:=hrb12.out;have:=hrb.out;have:=hwz.out;omega)).ext hw0.out)
    have hlW:Hid (lo<=W0.heap.size):=hid (by have h1:=hBsz.out;have h2:=hw0.out.size;omega)
    iterate 6 (refine wpTr_q _ (by simp only [List.getD_cons_succ,List.getD_cons_zero];rfl) (by rfl) ?_ (fun w' hC=>?_) ?_;rotate_left;(go_simp;first | done | with_reducible rfl | exact rfl);try simp only [Act.put,sA,sZ,sS])
    refine wpTr_c2 _ _ (by simp only [List.getD_cons_succ,List.getD_cons_zero];rfl) (by simp only [List.getD_cons_succ,List.getD_cons_zero];rfl) ?_ ?_
    ·have nbv:W0.cell? ⟨r,298,none⟩=some (.int .i64 bt):=(cellN hV0w.out 298).trans hn3'.out.built
     refine wpN_c (by rfl) (fun K hK=>?_)
     go_simp
     refine hK.out _ _ trivial ?_
     clear nbv
     clear hK K
     try simp only [Act.put,sA,sZ,sS]
     refine wpTr_c1 _ (by simp only [List.getD_cons_succ,List.getD_cons_zero];rfl) ?_
     have e0v:W0.cell? ⟨r,4+k*71,none⟩=some (.pointer (some ⟨bf k,0,none⟩)):=(cellN hV0w.out _).trans ((hn3'.out.get (i:=0) hk4 (by decide)).trans g3.out.1)
     refine wpN_c (by rfl) (fun K hK=>?_)
     go_simp
     refine (step_new render_any lo r (4+k*71) (bf k) (mf k) W0 hGW.out (by have:=hrb12.out;have:=hwz.out;have:=hlw.out;omega) (by have:=hrb12.out;have:=hrb.out;omega) (by have:=hwz.out;have:=hlw.out;omega) hlW.out e0v (hB2'.out.ext hw0.out)).mono ?_;rintro e W1 ⟨rfl,vST,hST⟩
     have hST':=hid hST
     have hV1w:=hid (hST.2.2.at hV0w.out (by have:=hrb.out;have:=hwz.out;have:=hlw.out;omega))
     have hW1m:Hid (Cdk.Mod (fun q=>q=r \/ q=bf k \/ wr.heap.size<=q) wr W1):=hid ((hx2.out.trans (hw0.out.mono (fun _ h=>h.elim))).trans (hST.2.2.mono (fun q h=>by have:=hlw.out;omega)))
     refine hK.out _ _ trivial ?_
     clear hST e0v
     clear hK K
     try simp only [Act.put,sA,sZ,sS]
     iterate 3 (refine wpTr_q _ (by simp only [List.getD_cons_succ,List.getD_cons_zero];rfl) (by rfl) ?_ (fun w' hC=>?_) ?_;rotate_left;(go_simp;first | done | with_reducible rfl | exact rfl);try simp only [Act.put,sA,sZ,sS])
     refine wpTr_c1 _ (by simp only [List.getD_cons_succ,List.getD_cons_zero];rfl) ?_
     have nbv:W1.cell? ⟨r,298,none⟩=some (.int .i64 bt):=(cellN hV1w.out 298).trans hn3'.out.built
     have nbf:=freeN hV1w.out 298
     refine wpN_c (by rfl) (fun K hK=>?_)
     go_simp
     refine hK.out _ _ trivial ?_
     clear nbv nbf
     clear hK K
     try simp only [Act.put,sA,sZ,sS]
     refine wpTr_done ?_
     have hW1e:=hW1m
     obtain ⟨hg,⟨k',last,tx1,p1,rs1,tx2,p2,rs2,hBl,hMp,hr1,hn1,hr2,hn2,hlok⟩,hmS⟩:=hST'.out
     have hl:=hlen.out
     have hz:=hwz.out
     have hzl:=hlw.out
     have hrb':=hrb.out
     have hmn:=hid ((Mod.refl (Eq r) W1).setCell (a:=⟨r,298,none⟩) (fun _=>rfl) (.int .i64 (bt+2)))
     have hVn:=hid (put_at' hV1w.out 298 (.int .i64 (bt+2)))
     have hBn:BldrAt (W1.setCell ⟨r,298,none⟩ (.int .i64 (bt+2))) (bf k) k' (.pointer none) last:=hmn.out.at hBl (by omega)
     have hMn:=hid (pages_two _ _ ▸ hMp.mod hmn.out (by omega))
     have hr1n:=hid (hr1.mod hmn.out (fun q h e=>by omega))
     have hr2n:=hid (hr2.mod hmn.out (fun q h e=>by omega))
     have hxn:Hid (Cdk.Mod (fun q=>q=r \/ q=bf k \/ wr.heap.size<=q) wr (W1.setCell ⟨r,298,none⟩ (.int .i64 (bt+2)))):=hid (hW1e.out.trans (hmn.out.mono (fun q e=>.inl e.symm)))
     obtain ⟨y0,y1,y2,y3,y4,hSr⟩:=hNk'.out.st
     have hS:=hid (hxn.out.at hSr (fun h=>by omega))
     have hdn:=hid (done_none (bf k) k' last _ hBn)
     obtain ⟨ao1,ac1,rfl,-⟩:=hr1n.out
     obtain ⟨ao2,ac2,rfl,-⟩:=hr2n.out
     have hnB:=hid (hn3'.out.setBuilt (bt+2))
     generalize hVB:V3.setIfInBounds 298 (.int .i64 (bt+2))=V4 at hVn hnB
     have h0:=(hnB.out.get (i:=0) hk4 (by decide)).trans g3.out.1
     have h1:=(hnB.out.get (i:=1) hk4 (by decide)).trans g3.out.2.1
     have h2:=(hnB.out.get (i:=2) hk4 (by decide)).trans g3.out.2.2.1
     have h4:=(hnB.out.get (i:=4) hk4 (by decide)).trans g3.out.2.2.2.2.1
     have h70:=(hnB.out.get (i:=70) hk4 (by decide)).trans g3.out.2.2.2.2.2
     rw [Nat.add_zero] at h0
     generalize W1.setCell ⟨r,298,none⟩ (.int .i64 (bt+2))=wn at hVn hmn hdn hBn hMn hr1n hr2n hxn hS ⊢
     have hpb:=hid (publish_any r (4+k*71) (bf k) k' k s y4 V4 _ hk4 wn hVn.out h0 h1 h2 h4 h70 hBn hMn.out hr1n.out hn1 hr2n.out hn2 hS.out (by omega))
     have c0:wn.cell? ⟨r,4+k*71,none⟩=some (.pointer (some ⟨bf k,0,none⟩)):=(cellN hVn.out _).trans h0
     have c4:wn.cell? ⟨r,4+k*71+4,none⟩=some (.bool false):=(cellN hVn.out _).trans h4
     have cs:wn.cell? ⟨r,1,none⟩=some (.pointer (some ⟨s,0,none⟩)):=(cellN hVn.out _).trans hnB.out.c1
     replace hBn:=hid hBn
     clear hBl hMp hr1 hr2 hmS hg h0 h1 h2 h4 h70 hVB hMn hr1n hr2n hS hSr hl hz hzl hrb'
     go_wp2_with fail
     refine hdn.out.mono ?_;rintro e wn' ⟨rfl,hwn⟩
     obtain rfl:wn=wn':=hwn
     go_wp2_with fail
     refine hpb.out.mono ?_;rintro e wf ⟨rfl,⟨xp,hVf⟩,hSf,hmf⟩
     obtain ⟨cl4,hn4,ha4,hb4⟩:=hnB.out.setCls hk4 (i:=1) (by decide) (.pointer (some xp)) rfl
     obtain ⟨cl5,hn5,ha5,hb5⟩:=hn4.setCls hk4 (i:=4) (by decide) (.bool true) rfl
     have hVf':=hid hVf
     have hSf':=hid hSf
     have hmf':=hid hmf
     have hn5':=hid hn5
     have hk5:Hid (cl5 k=((cl3 k).setIfInBounds 1 (.pointer (some xp))).setIfInBounds 4 (.bool true)):=hid (by rw [ha5,ha4])
     have hk5':Hid (∀ c,c ≠ k -> cl5 c=cl c):=hid (fun c hc=>by rw [hb5 c hc,hb4 c hc,hk3'.out c hc])
     clear hVf hSf hmf hn4 hn5 ha4 ha5 hb4 hb5 c0 c4 cs hpb hdn
     go_wp2_with fail
     go_roundg (gk - 1)
     case measure=>have:=hkg.out;omega
     case rel=>
      have hl:=hlen.out
      have hz:=hwz.out
      have hrb':=hrb.out
      have hbm':=hbm.out
      have hxf:Cdk.Mod (fun q=>q=s \/ q=r \/ q=bf k \/ wr.heap.size<=q) wr wf:=(hxn.out.mono (fun q h=>.inr h)).trans (hmf'.out.mono (fun q h=>by omega))
      have hjr:¬ (j=s \/ j=r \/ j=bf k \/ wr.heap.size<=j):=by omega
      obtain ⟨en',d',sz',hjn⟩:=hNk'.out.jn
      refine ⟨k+1,cl5,bt+2,by have:=hkg.out;omega,by go_num,⟨⟨_,hVf'.out,hn5'.out⟩,⟨en',d',sz',hxf.at hjn hjr⟩,?_,hNk'.out.js,hNk'.out.sr⟩,fun c hc=>?_,.inl ⟨hmt,by have:=hb2.out;omega,fun c h1 h2=>?_⟩,hMk'.out.then hxf (fun q hq h=>by have:=hMk'.out.size;omega)⟩
      ·obtain ⟨z0,z1,z2,z3,hz4⟩:=hSf'.out
       exact ⟨z0,z1,z2,z3,y4,hz4⟩
      ·rcases Nat.lt_succ_iff_lt_or_eq.1 hc with h | h
       ·rw [hk5'.out c (by omega)]
        have hdc:=hdone'.out c h
        obtain ⟨Mc,lc,hbc⟩:=hdc.bld
        have hbl:=lt_of_at hbc
        have hoc:=hord.out c k h hk4
        have hmk:=hN.out.mb
        exact hdc.mod hxf (by have:=hdc.rb;omega)
       ·subst h
        have h71:(cl3 c).size=71:=(hn3'.out.cls c hk4).1
        refine ⟨by rw [hk5.out,Array.size_setIfInBounds,Array.size_setIfInBounds];exact h71,?_,?_,?_,?_,⟨k',last,hmf'.out.at hBn.out (by omega)⟩,hrb'.1,hbm'⟩
        ·rw [hk5.out,set_ne _ (by decide),set_ne _ (by decide)];exact g3.out.1
        ·rw [hk5.out,set_ne _ (by decide),set_ne _ (by decide)];exact g3.out.2.2.1
        ·rw [hk5.out,set_ne _ (by decide),set_ne _ (by decide)];exact g3.out.2.2.2.1
        ·rw [hk5.out,set_self _ (by rw [Array.size_setIfInBounds];omega)]
      ·rw [hk5'.out c (by omega)]
       have hnc:=hnew'.out c (by omega) h2
       have hoc:=hord.out k c (by omega) h2
       have h3:=hnc.mb
       have h4:=lt_of_at hnc.bld
       exact hnc.mod hxf (by omega) (by omega)
    ·have e0v:W0.cell? ⟨r,4+k*71,none⟩=some (.pointer (some ⟨bf k,0,none⟩)):=(cellN hV0w.out _).trans ((hn3'.out.get (i:=0) hk4 (by decide)).trans g3.out.1)
     refine wpN_c (by rfl) (fun K hK=>?_)
     go_simp
     refine (step_new render_any lo r (4+k*71) (bf k) (mf k) W0 hGW.out (by have:=hrb12.out;have:=hwz.out;have:=hlw.out;omega) (by have:=hrb12.out;have:=hrb.out;omega) (by have:=hwz.out;have:=hlw.out;omega) hlW.out e0v (hB2'.out.ext hw0.out)).mono ?_;rintro e W1 ⟨rfl,vST,hST⟩
     have hST':=hid hST
     have hV1w:=hid (hST.2.2.at hV0w.out (by have:=hrb.out;have:=hwz.out;have:=hlw.out;omega))
     have hW1m:Hid (Cdk.Mod (fun q=>q=r \/ q=bf k \/ wr.heap.size<=q) wr W1):=hid ((hx2.out.trans (hw0.out.mono (fun _ h=>h.elim))).trans (hST.2.2.mono (fun q h=>by have:=hlw.out;omega)))
     refine hK.out _ _ trivial ?_
     clear hST e0v
     clear hK K
     try simp only [Act.put,sA,sZ,sS]
     refine wpTr_c1 _ (by simp only [List.getD_cons_succ,List.getD_cons_zero];rfl) ?_
     have nbv:W1.cell? ⟨r,298,none⟩=some (.int .i64 bt):=(cellN hV1w.out 298).trans hn3'.out.built
     refine wpN_c (by rfl) (fun K hK=>?_)
     go_simp
     refine hK.out _ _ trivial ?_
     clear nbv
     clear hK K
     try simp only [Act.put,sA,sZ,sS]
     iterate 3 (refine wpTr_q _ (by simp only [List.getD_cons_succ,List.getD_cons_zero];rfl) (by rfl) ?_ (fun w' hC=>?_) ?_;rotate_left;(go_simp;first | done | with_reducible rfl | exact rfl);try simp only [Act.put,sA,sZ,sS])
     refine wpTr_c1 _ (by simp only [List.getD_cons_succ,List.getD_cons_zero];rfl) ?_
     have nbv:W1.cell? ⟨r,298,none⟩=some (.int .i64 bt):=(cellN hV1w.out 298).trans hn3'.out.built
     have nbf:=freeN hV1w.out 298
     refine wpN_c (by rfl) (fun K hK=>?_)
     go_simp
     refine hK.out _ _ trivial ?_
     clear nbv nbf
     clear hK K
     try simp only [Act.put,sA,sZ,sS]
     refine wpTr_done ?_
     have hW1e:=hW1m
     obtain ⟨hg,⟨k',last,tx1,p1,rs1,tx2,p2,rs2,hBl,hMp,hr1,hn1,hr2,hn2,hlok⟩,hmS⟩:=hST'.out
     have hl:=hlen.out
     have hz:=hwz.out
     have hzl:=hlw.out
     have hrb':=hrb.out
     have hmn:=hid ((Mod.refl (Eq r) W1).setCell (a:=⟨r,298,none⟩) (fun _=>rfl) (.int .i64 (bt+2)))
     have hVn:=hid (put_at' hV1w.out 298 (.int .i64 (bt+2)))
     have hBn:BldrAt (W1.setCell ⟨r,298,none⟩ (.int .i64 (bt+2))) (bf k) k' (.pointer none) last:=hmn.out.at hBl (by omega)
     have hMn:=hid (pages_two _ _ ▸ hMp.mod hmn.out (by omega))
     have hr1n:=hid (hr1.mod hmn.out (fun q h e=>by omega))
     have hr2n:=hid (hr2.mod hmn.out (fun q h e=>by omega))
     have hxn:Hid (Cdk.Mod (fun q=>q=r \/ q=bf k \/ wr.heap.size<=q) wr (W1.setCell ⟨r,298,none⟩ (.int .i64 (bt+2)))):=hid (hW1e.out.trans (hmn.out.mono (fun q e=>.inl e.symm)))
     obtain ⟨y0,y1,y2,y3,y4,hSr⟩:=hNk'.out.st
     have hS:=hid (hxn.out.at hSr (fun h=>by omega))
     have hdn:=hid (done_none (bf k) k' last _ hBn)
     obtain ⟨ao1,ac1,rfl,-⟩:=hr1n.out
     obtain ⟨ao2,ac2,rfl,-⟩:=hr2n.out
     have hnB:=hid (hn3'.out.setBuilt (bt+2))
     generalize hVB:V3.setIfInBounds 298 (.int .i64 (bt+2))=V4 at hVn hnB
     have h0:=(hnB.out.get (i:=0) hk4 (by decide)).trans g3.out.1
     have h1:=(hnB.out.get (i:=1) hk4 (by decide)).trans g3.out.2.1
     have h2:=(hnB.out.get (i:=2) hk4 (by decide)).trans g3.out.2.2.1
     have h4:=(hnB.out.get (i:=4) hk4 (by decide)).trans g3.out.2.2.2.2.1
     have h70:=(hnB.out.get (i:=70) hk4 (by decide)).trans g3.out.2.2.2.2.2
     rw [Nat.add_zero] at h0
     generalize W1.setCell ⟨r,298,none⟩ (.int .i64 (bt+2))=wn at hVn hmn hdn hBn hMn hr1n hr2n hxn hS ⊢
     have hpb:=hid (publish_any r (4+k*71) (bf k) k' k s y4 V4 _ hk4 wn hVn.out h0 h1 h2 h4 h70 hBn hMn.out hr1n.out hn1 hr2n.out hn2 hS.out (by omega))
     have c0:wn.cell? ⟨r,4+k*71,none⟩=some (.pointer (some ⟨bf k,0,none⟩)):=(cellN hVn.out _).trans h0
     have c4:wn.cell? ⟨r,4+k*71+4,none⟩=some (.bool false):=(cellN hVn.out _).trans h4
     have cs:wn.cell? ⟨r,1,none⟩=some (.pointer (some ⟨s,0,none⟩)):=(cellN hVn.out _).trans hnB.out.c1
     replace hBn:=hid hBn
     clear hBl hMp hr1 hr2 hmS hg h0 h1 h2 h4 h70 hVB hMn hr1n hr2n hS hSr hl hz hzl hrb'
     go_wp2_with fail
     refine hdn.out.mono ?_;rintro e wn' ⟨rfl,hwn⟩
     obtain rfl:wn=wn':=hwn
     go_wp2_with fail
     refine hpb.out.mono ?_;rintro e wf ⟨rfl,⟨xp,hVf⟩,hSf,hmf⟩
     obtain ⟨cl4,hn4,ha4,hb4⟩:=hnB.out.setCls hk4 (i:=1) (by decide) (.pointer (some xp)) rfl
     obtain ⟨cl5,hn5,ha5,hb5⟩:=hn4.setCls hk4 (i:=4) (by decide) (.bool true) rfl
     have hVf':=hid hVf
     have hSf':=hid hSf
     have hmf':=hid hmf
     have hn5':=hid hn5
     have hk5:Hid (cl5 k=((cl3 k).setIfInBounds 1 (.pointer (some xp))).setIfInBounds 4 (.bool true)):=hid (by rw [ha5,ha4])
     have hk5':Hid (∀ c,c ≠ k -> cl5 c=cl c):=hid (fun c hc=>by rw [hb5 c hc,hb4 c hc,hk3'.out c hc])
     clear hVf hSf hmf hn4 hn5 ha4 ha5 hb4 hb5 c0 c4 cs hpb hdn
     go_wp2_with fail
     go_roundg (gk - 1)
     case measure=>have:=hkg.out;omega
     case rel=>
      have hl:=hlen.out
      have hz:=hwz.out
      have hrb':=hrb.out
      have hbm':=hbm.out
      have hxf:Cdk.Mod (fun q=>q=s \/ q=r \/ q=bf k \/ wr.heap.size<=q) wr wf:=(hxn.out.mono (fun q h=>.inr h)).trans (hmf'.out.mono (fun q h=>by omega))
      have hjr:¬ (j=s \/ j=r \/ j=bf k \/ wr.heap.size<=j):=by omega
      obtain ⟨en',d',sz',hjn⟩:=hNk'.out.jn
      refine ⟨k+1,cl5,bt+2,by have:=hkg.out;omega,by go_num,⟨⟨_,hVf'.out,hn5'.out⟩,⟨en',d',sz',hxf.at hjn hjr⟩,?_,hNk'.out.js,hNk'.out.sr⟩,fun c hc=>?_,.inl ⟨hmt,by have:=hb2.out;omega,fun c h1 h2=>?_⟩,hMk'.out.then hxf (fun q hq h=>by have:=hMk'.out.size;omega)⟩
      ·obtain ⟨z0,z1,z2,z3,hz4⟩:=hSf'.out
       exact ⟨z0,z1,z2,z3,y4,hz4⟩
      ·rcases Nat.lt_succ_iff_lt_or_eq.1 hc with h | h
       ·rw [hk5'.out c (by omega)]
        have hdc:=hdone'.out c h
        obtain ⟨Mc,lc,hbc⟩:=hdc.bld
        have hbl:=lt_of_at hbc
        have hoc:=hord.out c k h hk4
        have hmk:=hN.out.mb
        exact hdc.mod hxf (by have:=hdc.rb;omega)
       ·subst h
        have h71:(cl3 c).size=71:=(hn3'.out.cls c hk4).1
        refine ⟨by rw [hk5.out,Array.size_setIfInBounds,Array.size_setIfInBounds];exact h71,?_,?_,?_,?_,⟨k',last,hmf'.out.at hBn.out (by omega)⟩,hrb'.1,hbm'⟩
        ·rw [hk5.out,set_ne _ (by decide),set_ne _ (by decide)];exact g3.out.1
        ·rw [hk5.out,set_ne _ (by decide),set_ne _ (by decide)];exact g3.out.2.2.1
        ·rw [hk5.out,set_ne _ (by decide),set_ne _ (by decide)];exact g3.out.2.2.2.1
        ·rw [hk5.out,set_self _ (by rw [Array.size_setIfInBounds];omega)]
      ·rw [hk5'.out c (by omega)]
       have hnc:=hnew'.out c (by omega) h2
       have hoc:=hord.out k c (by omega) h2
       have h3:=hnc.mb
       have h4:=lt_of_at hnc.bld
       exact hnc.mod hxf (by omega) (by omega)
   ·have hC:=hold k (Nat.le_refl _) hk4
    obtain ⟨M,last,hbl0⟩:=hC.bld
    have e0:=hid (show wr.cell? ⟨r,4+k*71,none⟩=some (.pointer (some ⟨bf k,0,none⟩)) from (cellN hVr.out _).trans ((hnV'.out.get (i:=0) hk4 (by decide)).trans hC.c0))
    have e2:=hid (show wr.cell? ⟨r,4+k*71+2,none⟩=some (.slice none 0 0) from (cellN hVr.out _).trans ((hnV'.out.get (i:=2) hk4 (by decide)).trans hC.c2))
    have e3:=hid (show wr.cell? ⟨r,4+k*71+3,none⟩=some (.bool true) from (cellN hVr.out _).trans ((hnV'.out.get (i:=3) hk4 (by decide)).trans hC.c3))
    have e4:=hid (show wr.cell? ⟨r,4+k*71+4,none⟩=some (.bool true) from (cellN hVr.out _).trans ((hnV'.out.get (i:=4) hk4 (by decide)).trans hC.c4))
    have hbl:=hid hbl0
    have hold':=hid hold
    have hb1:=hbb.1
    have hb2:=hbb.2
    clear hC hbl0 hold hbb
    go_upto_region 12 with fail
    try simp only [List.append_eq,List.cons_append,List.nil_append]
    refine wp_region_tree (.s (.q 0 (.q 1 (.q 2 (.q 3 (.q 4 (.q 5 (.q 6 (.q 7 (.c1 8 (.c1 9 (.c1 10 .done)))))))))))) (by as_aux_lemma=>kernel_rfl) (by as_aux_lemma=>kernel_rfl) (by as_aux_lemma=>kernel_rfl) (by decide) ?_
    have hv0:=hid (Mod.drew0 (fun _=>False) wr)
    refine wpTr_s (fun _=>True) (fun _ _=>trivial) trivial ?_
    generalize hWd:World.drew wr=V0 at hv0 ⊢
    iterate 8 (refine wpTr_q _ (by simp only [List.getD_cons_succ,List.getD_cons_zero];rfl) (by rfl) ?_ (fun w' hC=>?_) ?_;rotate_left;(go_simp;first | done | with_reducible rfl | exact rfl);try simp only [Act.put,sA,sZ,sS])
    refine wpTr_c1 _ (by simp only [List.getD_cons_succ,List.getD_cons_zero];rfl) ?_
    have n2v:V0.cell? ⟨r,2,none⟩=some (.int .i64 nw):=hv0.out.cell n2.out (fun h=>h)
    refine wpN_c (by rfl) (fun K hK=>?_)
    go_simp
    refine hK.out _ _ trivial ?_
    clear n2v
    clear hK K
    try simp only [Act.put,sA,sZ,sS]
    refine wpTr_c1 _ (by simp only [List.getD_cons_succ,List.getD_cons_zero];rfl) ?_
    refine wpN_c (by rfl) (fun K hK=>?_)
    go_simp
    refine (hvs.out k hk4 V0).mono ?_;rintro e V1 ⟨rfl,hxn⟩
    have hv1:=hid (hv0.out.trans hxn)
    refine hK.out _ _ trivial ?_
    clear hxn
    clear hK K
    try simp only [Act.put,sA,sZ,sS]
    refine wpTr_c1 _ (by simp only [List.getD_cons_succ,List.getD_cons_zero];rfl) ?_
    have e2v:=hv1.out.cell e2.out (fun h=>h)
    have e3v:=hv1.out.cell e3.out (fun h=>h)
    refine wpN_c (by rfl) (fun K hK=>?_)
    go_simp
    refine (take_old r (4+k*71) V1 e2v e3v).mono ?_;rintro e V2 ⟨rfl,hwn⟩
    obtain rfl:V1=V2:=hwn
    refine hK.out _ _ trivial ?_
    clear e2v e3v
    clear hK K
    try simp only [Act.put,sA,sZ,sS]
    refine wpTr_done ?_
    have hE1:=hv1
    have e0':=hid (hE1.out.cell e0.out (fun h=>h))
    have e4':=hid (hE1.out.cell e4.out (fun h=>h))
    have nb':=hid (hE1.out.cell nb.out (fun h=>h))
    have hbl':=hid (hE1.out.at hbl.out (fun h=>h))
    have hVr':=hid (hE1.out.at hVr.out (fun h=>h))
    have hwr:IntKind.i64.wrap bt=bt:=IntWalk.i64_in _ (by omega)
    clear e0 e2 e3 e4 n2 nb hbl hVr hv0
    go_upto_region 13 with fail
    try simp only [List.append_eq,List.cons_append,List.nil_append]
    refine wp_region_tree (.s (.q 0 (.q 1 (.q 2 (.q 4 (.q 5 (.q 6 (.c2 3 (.c1 7 (.q 8 (.q 9 (.q 10 (.c1 11 .done))))) 7 (.c1 3 (.q 8 (.q 9 (.q 10 (.c1 11 .done))))))))))))) (by as_aux_lemma=>kernel_rfl) (by as_aux_lemma=>kernel_rfl) (by as_aux_lemma=>kernel_rfl) (by decide) ?_
    have hw0:=hid (Mod.drew0 (fun _=>False) V1)
    refine wpTr_s (fun _=>True) (fun _ _=>trivial) trivial ?_
    generalize hWe:World.drew V1=W0 at hw0 ⊢
    iterate 6 (refine wpTr_q _ (by simp only [List.getD_cons_succ,List.getD_cons_zero];rfl) (by rfl) ?_ (fun w' hC=>?_) ?_;rotate_left;(go_simp;first | done | with_reducible rfl | exact rfl);try simp only [Act.put,sA,sZ,sS])
    refine wpTr_c2 _ _ (by simp only [List.getD_cons_succ,List.getD_cons_zero];rfl) (by simp only [List.getD_cons_succ,List.getD_cons_zero];rfl) ?_ ?_
    ·have nbv:W0.cell? ⟨r,298,none⟩=some (.int .i64 bt):=hw0.out.cell nb'.out (fun h=>h)
     refine wpN_c (by rfl) (fun K hK=>?_)
     go_simp
     refine hK.out _ _ trivial ?_
     clear nbv
     clear hK K
     try simp only [Act.put,sA,sZ,sS]
     refine wpTr_c1 _ (by simp only [List.getD_cons_succ,List.getD_cons_zero];rfl) ?_
     have e0v:=hw0.out.cell e0'.out (fun h=>h)
     refine wpN_c (by rfl) (fun K hK=>?_)
     go_simp
     refine (step_old r (4+k*71) (bf k) M last W0 e0v (hw0.out.at hbl'.out (fun h=>h))).mono ?_;rintro e Wq ⟨rfl,hwn⟩
     obtain rfl:W0=Wq:=hwn
     refine hK.out _ _ trivial ?_
     clear e0v
     clear hK K
     try simp only [Act.put,sA,sZ,sS]
     iterate 3 (refine wpTr_q _ (by simp only [List.getD_cons_succ,List.getD_cons_zero];rfl) (by rfl) ?_ (fun w' hC=>?_) ?_;rotate_left;(go_simp;first | done | with_reducible rfl | exact rfl);try simp only [Act.put,sA,sZ,sS])
     refine wpTr_c1 _ (by simp only [List.getD_cons_succ,List.getD_cons_zero];rfl) ?_
     have nbv:W0.cell? ⟨r,298,none⟩=some (.int .i64 bt):=hw0.out.cell nb'.out (fun h=>h)
     have nbf:=freeN (hw0.out.at hVr'.out (fun h=>h)) 298
     refine wpN_c (by rfl) (fun K hK=>?_)
     go_simp
     refine hK.out _ _ trivial ?_
     clear nbv nbf
     clear hK K
     try simp only [Act.put,sA,sZ,sS]
     refine wpTr_done ?_
     have hxW:=hid (hE1.out.trans hw0.out)
     have hVw:=hw0.out.at hVr'.out (fun h=>h)
     have hmn:Hid (Cdk.Mod (Eq r) wr (W0.setCell ⟨r,298,none⟩ (.int .i64 bt))):=hid ((hxW.out.mono (fun _ h=>h.elim)).setCell (a:=⟨r,298,none⟩) (fun _=>rfl) _)
     have hVn:=hid (put_at' hVw 298 (.int .i64 bt))
     have hblw:=hw0.out.at hbl'.out (fun h=>h)
     have hrb:=(hold'.out k (Nat.le_refl _) hk4).rb
     have hbln:BldrAt (W0.setCell ⟨r,298,none⟩ (.int .i64 bt)) (bf k) M (.pointer none) last:=(put_ne' W0 298 _ (by omega)).trans hblw
     have hdn:=hid (done_none (bf k) M last _ hbln)
     generalize W0.setCell ⟨r,298,none⟩ (.int .i64 bt)=wn at hVn hmn hdn hbln ⊢
     have g0:wn.cell? ⟨r,4+k*71,none⟩=some (.pointer (some ⟨bf k,0,none⟩)):=(cellN hVn.out _).trans (((hnV'.out.setBuilt bt).get (i:=0) hk4 (by decide)).trans (hold'.out k (Nat.le_refl _) hk4).c0)
     have g4:wn.cell? ⟨r,4+k*71+4,none⟩=some (.bool true):=(cellN hVn.out _).trans (((hnV'.out.setBuilt bt).get (i:=4) hk4 (by decide)).trans (hold'.out k (Nat.le_refl _) hk4).c4)
     clear e0' e4' nb' hbl' hVr' hVw hblw hbln hw0
     go_wp2_with fail
     refine hdn.out.mono ?_;rintro e wn' ⟨rfl,hwn⟩
     obtain rfl:wn=wn':=hwn
     go_wp2_with fail
     go_roundg (gk - 1)
     case measure=>have:=hkg.out;omega
     case rel=>
      refine ⟨k+1,cl,bt,by have:=hkg.out;omega,by go_num,⟨⟨_,hVn.out,hnV'.out.setBuilt bt⟩,(NrAt.keep hNk'.out hmn.out).1,(NrAt.keep hNk'.out hmn.out).2,hNk'.out.js,hNk'.out.sr⟩,fun c hc=>?_,.inr ⟨hmf,⟨hb1,hb2⟩,fun c h1 h2=>(hold'.out c (by omega) h2).mod hmn.out (fun e=>by have:=(hold'.out c (by omega) h2).rb;omega)⟩,hMk'.out.trans (hmn.out.mono (fun q e=>by have:=hlen.out;omega))⟩
      rcases Nat.lt_succ_iff_lt_or_eq.1 hc with h | h
      ·exact (hdone'.out c h).mod hmn.out (fun e=>by have:=(hdone'.out c h).rb;omega)
      ·subst h;exact (hold'.out c (Nat.le_refl _) hk4).mod hmn.out (fun e=>by omega)
    ·have e0v:=hw0.out.cell e0'.out (fun h=>h)
     refine wpN_c (by rfl) (fun K hK=>?_)
     go_simp
     refine (step_old r (4+k*71) (bf k) M last W0 e0v (hw0.out.at hbl'.out (fun h=>h))).mono ?_;rintro e Wq ⟨rfl,hwn⟩
     obtain rfl:W0=Wq:=hwn
     refine hK.out _ _ trivial ?_
     clear e0v
     clear hK K
     try simp only [Act.put,sA,sZ,sS]
     refine wpTr_c1 _ (by simp only [List.getD_cons_succ,List.getD_cons_zero];rfl) ?_
     have nbv:W0.cell? ⟨r,298,none⟩=some (.int .i64 bt):=hw0.out.cell nb'.out (fun h=>h)
     refine wpN_c (by rfl) (fun K hK=>?_)
     go_simp
     refine hK.out _ _ trivial ?_
     clear nbv
     clear hK K
     try simp only [Act.put,sA,sZ,sS]
     iterate 3 (refine wpTr_q _ (by simp only [List.getD_cons_succ,List.getD_cons_zero];rfl) (by rfl) ?_ (fun w' hC=>?_) ?_;rotate_left;(go_simp;first | done | with_reducible rfl | exact rfl);try simp only [Act.put,sA,sZ,sS])
     refine wpTr_c1 _ (by simp only [List.getD_cons_succ,List.getD_cons_zero];rfl) ?_
     have nbv:W0.cell? ⟨r,298,none⟩=some (.int .i64 bt):=hw0.out.cell nb'.out (fun h=>h)
     have nbf:=freeN (hw0.out.at hVr'.out (fun h=>h)) 298
     refine wpN_c (by rfl) (fun K hK=>?_)
     go_simp
     refine hK.out _ _ trivial ?_
     clear nbv nbf
     clear hK K
     try simp only [Act.put,sA,sZ,sS]
     refine wpTr_done ?_
     have hxW:=hid (hE1.out.trans hw0.out)
     have hVw:=hw0.out.at hVr'.out (fun h=>h)
     have hmn:Hid (Cdk.Mod (Eq r) wr (W0.setCell ⟨r,298,none⟩ (.int .i64 bt))):=hid ((hxW.out.mono (fun _ h=>h.elim)).setCell (a:=⟨r,298,none⟩) (fun _=>rfl) _)
     have hVn:=hid (put_at' hVw 298 (.int .i64 bt))
     have hblw:=hw0.out.at hbl'.out (fun h=>h)
     have hrb:=(hold'.out k (Nat.le_refl _) hk4).rb
     have hbln:BldrAt (W0.setCell ⟨r,298,none⟩ (.int .i64 bt)) (bf k) M (.pointer none) last:=(put_ne' W0 298 _ (by omega)).trans hblw
     have hdn:=hid (done_none (bf k) M last _ hbln)
     generalize W0.setCell ⟨r,298,none⟩ (.int .i64 bt)=wn at hVn hmn hdn hbln ⊢
     have g0:wn.cell? ⟨r,4+k*71,none⟩=some (.pointer (some ⟨bf k,0,none⟩)):=(cellN hVn.out _).trans (((hnV'.out.setBuilt bt).get (i:=0) hk4 (by decide)).trans (hold'.out k (Nat.le_refl _) hk4).c0)
     have g4:wn.cell? ⟨r,4+k*71+4,none⟩=some (.bool true):=(cellN hVn.out _).trans (((hnV'.out.setBuilt bt).get (i:=4) hk4 (by decide)).trans (hold'.out k (Nat.le_refl _) hk4).c4)
     clear e0' e4' nb' hbl' hVr' hVw hblw hbln hw0
     go_wp2_with fail
     refine hdn.out.mono ?_;rintro e wn' ⟨rfl,hwn⟩
     obtain rfl:wn=wn':=hwn
     go_wp2_with fail
     go_roundg (gk - 1)
     case measure=>have:=hkg.out;omega
     case rel=>
      refine ⟨k+1,cl,bt,by have:=hkg.out;omega,by go_num,⟨⟨_,hVn.out,hnV'.out.setBuilt bt⟩,(NrAt.keep hNk'.out hmn.out).1,(NrAt.keep hNk'.out hmn.out).2,hNk'.out.js,hNk'.out.sr⟩,fun c hc=>?_,.inr ⟨hmf,⟨hb1,hb2⟩,fun c h1 h2=>(hold'.out c (by omega) h2).mod hmn.out (fun e=>by have:=(hold'.out c (by omega) h2).rb;omega)⟩,hMk'.out.trans (hmn.out.mono (fun q e=>by have:=hlen.out;omega))⟩
      rcases Nat.lt_succ_iff_lt_or_eq.1 hc with h | h
      ·exact (hdone'.out c h).mod hmn.out (fun e=>by have:=(hdone'.out c h).rb;omega)
      ·subst h;exact (hold'.out c (Nat.le_refl _) hk4).mod hmn.out (fun e=>by omega)
  ·have hk44:k=4:=by have:=hkg.out;omega
   have hndi:¬ (k:Int) < 4:=by omega
   have hd:decide ((k:Int) < 4)=false:=decide_eq_false hndi
   obtain ⟨V,hV,hnV⟩:=hNk.at_
   have n2:wr.cell? ⟨r,2,none⟩=some (.int .i64 nw):=(cellN hV 2).trans hnV.c2
   have hxA:=Mod.alloc (Mod.refl (fun _=>False) wr) (.cells #[.slice none 0 0,.int .i64 nw,.bool false,.bool false,.bool false,.bool false,.slice none 0 0,.slice none 0 0,.slice none 0 0,.slice none 0 0] 157)
   have hNA:=hid (hNk.mod hxA (fun h=>h) (fun h=>h) (fun h=>h))
   have hVA:=hid (hxA.at hV (fun h=>h))
   have hMA:=hid (hMk.trans (hxA.mono (fun _ h=>h.elim)))
   have hdA:Hid (∀ c,c < 4 -> ClDone (wr.alloc (.cells #[.slice none 0 0,.int .i64 nw,.bool false,.bool false,.bool false,.bool false,.slice none 0 0,.slice none 0 0,.slice none 0 0,.slice none 0 0] 157)) r m (cl c) (bf c)):=hid (fun c hc=>(hdone c (by omega)).mod hxA (fun h=>h))
   have hbt4:Hid (0<=bt/\bt<=1000):=hid (by rcases hmk with ⟨-,e,-⟩ | ⟨-,e,-⟩ <;> omega)
   have hnV':=hid hnV
   clear hNk hV hnV hMk hdone hmk
   go_upto_region 18 with fail
   generalize wr.alloc (.cells #[.slice none 0 0,.int .i64 nw,.bool false,.bool false,.bool false,.bool false,.slice none 0 0,.slice none 0 0,.slice none 0 0,.slice none 0 0] 157)=wA at hxA hNA hVA hMA hdA ⊢
   clear n2 hxA
   have s0:wA.cell? ⟨r,288,none⟩=some (.pointer none):=(cellN hVA.out _).trans (hnV'.out.sen 0 (by decide))
   have s1:wA.cell? ⟨r,289,none⟩=some (.pointer none):=(cellN hVA.out _).trans (hnV'.out.sen 1 (by decide))
   have s2:wA.cell? ⟨r,290,none⟩=some (.pointer none):=(cellN hVA.out _).trans (hnV'.out.sen 2 (by decide))
   have s3:wA.cell? ⟨r,291,none⟩=some (.pointer none):=(cellN hVA.out _).trans (hnV'.out.sen 3 (by decide))
   have s4:wA.cell? ⟨r,292,none⟩=some (.pointer none):=(cellN hVA.out _).trans (hnV'.out.sen 4 (by decide))
   have s5:wA.cell? ⟨r,293,none⟩=some (.pointer none):=(cellN hVA.out _).trans (hnV'.out.sen 5 (by decide))
   have s6:wA.cell? ⟨r,294,none⟩=some (.pointer none):=(cellN hVA.out _).trans (hnV'.out.sen 6 (by decide))
   have s7:wA.cell? ⟨r,295,none⟩=some (.pointer none):=(cellN hVA.out _).trans (hnV'.out.sen 7 (by decide))
   have s8:wA.cell? ⟨r,296,none⟩=some (.pointer none):=(cellN hVA.out _).trans (hnV'.out.sen 8 (by decide))
   have hidx:Hid (∀ (q:Nat) (W:World),q < 9 -> (Instr.index 132 (.agg #[.pointer none,.pointer none,.pointer none,.pointer none,.pointer none,.pointer none,.pointer none,.pointer none,.pointer none]) (.int .i64 (q:Int))).run Tryz.prog W=.ok (.pointer none) W):=hid (fun q W hq=>by
    rcases (show q=0 \/ q=1 \/ q=2 \/ q=3 \/ q=4 \/ q=5 \/ q=6 \/ q=7 \/ q=8 by omega) with rfl | rfl | rfl | rfl | rfl | rfl | rfl | rfl | rfl <;> kernel_rfl)
   have hadm:=hid (fun (n:Int) W=>admission_nil n W)
   go_wp2_with fail
   go_loopg [9,95] 9 (fun g s9 i wz=>∃ q:Nat,q+g=9/\s9=.slice none 0 0/\i=.int .i64 q/\Ext wA wz)
   case atStart=>exact ⟨0,rfl,rfl,rfl,Mod.refl _ _⟩
   case round=>
    obtain ⟨q,hq,rfl,rfl,hxz⟩:=hrel
    replace hq:=hid hq
    have hxz':=hid hxz
    clear hxz
    by_cases hq9:q < 9
    ·have hqi:(q:Int) < 9:=by omega
     have hdq:decide ((q:Int) < 9)=true:=decide_eq_true hqi
     have hix:=hidx.out q wr hq9
     go_wp2_with fail
     refine (hadm.out (q:Int) wr).mono ?_;rintro e wb ⟨rfl,hxb⟩
     have hxb':=hid ((hxz'.out.trans hxb).trans (Mod.alloc (Mod.refl (fun _=>False) wb) (.cells #[.int .i64 0,.int .i64 0] 138)))
     clear hxb hix
     go_wp2_with fail
     go_roundg (gk - 1)
     case measure=>have:=hq.out;omega
     case rel=>exact ⟨q+1,by have:=hq.out;omega,rfl,by go_num,hxb'.out⟩
    ·have hqi:¬ (q:Int) < 9:=by omega
     have hdq:decide ((q:Int) < 9)=false:=decide_eq_false hqi
     have hVz:=hxz'.out.at hVA.out (fun h=>h)
     have o7:wr.cell? ⟨r,297,none⟩=some (.slice none 0 0):=(cellN hVz 297).trans hnV'.out.out
     have z7:=freeN hVz 297
     have hVf:=hid (put_at' hVz 297 (.slice none 0 0))
     have hmf:=hid ((Mod.refl (Eq r) wr).setCell (a:=⟨r,297,none⟩) (fun _=>rfl) (.slice none 0 0))
     clear hVz
     go_wp2_with fail
     go_ret
     have hl:=hlen.out
     have hNz:=hNA.out.mod hxz'.out (fun h=>h) (fun h=>h) (fun h=>h)
     refine ⟨rfl,⟨j,s,nw,bt,cl,bf,xf,mf,⟨⟨_,hVf.out,hnV'.out.setOut _⟩,(NrAt.keep hNz hmf.out).1,(NrAt.keep hNz hmf.out).2,hNz.js,hNz.sr⟩,hl.1,hl.2.1,hnwb.out,hbt4.out,.inr (fun c hc=>((hdA.out c hc).mod hxz'.out (fun h=>h)).mod hmf.out (fun e=>by have:=(hdA.out c hc).rb;omega))⟩,?_⟩
     exact (hMA.out.trans (hxz'.out.mono (fun _ h=>h.elim))).trans (hmf.out.mono (fun q e=>by omega))
end Go.Proofs.YtcopgcdhkgenkaaGreatDoor
