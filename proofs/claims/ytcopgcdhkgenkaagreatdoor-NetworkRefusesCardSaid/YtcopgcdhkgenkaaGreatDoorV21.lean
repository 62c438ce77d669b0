import Derived.Test.YtcopgcdhkgenkaaGreatDoorV12
set_option linter.all false
set_option maxRecDepth 100000
set_option maxHeartbeats 16000000
namespace Go.Proofs.YtcopgcdhkgenkaaGreatDoor
open Go.Shelf Go.RowKit Cdk Scr
theorem bldPages_any {F:Nat -> Prop} {b k:Nat} {last:Value} {t1 t2:ByteArray} {o1 o2:Option Addr} {n1 n2 c1 c2:Nat} {rs1 rs2:List (ByteArray × Int)} (w:World) (hB:BldrAt w b k (.pointer none) last) (hM:MapAt w Value.string k [(adrS 1,.agg #[.string (adrS 1),.string t1,.slice o1 n1 c1]),(adrS 6,.agg #[.string (adrS 6),.string t2,.slice o2 n2 c2])])
  (h1:RowAt F w rdC (.slice o1 n1 c1) rs1) (hn1:1<=rs1.length/\rs1.length<=12) (h2:RowAt F w rdC (.slice o2 n2 c2) rs2) (hn2:1<=rs2.length/\rs2.length<=12):
  Calls Tryz.prog 118 #[.pointer (some ⟨b,0,none⟩)] w fun e w'=>(∃ g cap y1 y2 m1 m2,e=.returned (.slice (some ⟨g,0,none⟩) 2 cap)/\w'.cell? ⟨g,0,none⟩=some (.string (adrS 1))/\w'.cell? ⟨g,1,none⟩=some (.string t1)/\w'.cell? ⟨g,2,none⟩=some (.slice y1 m1 m1)/\w'.cell? ⟨g,3,none⟩=some (.string (adrS 6))/\w'.cell? ⟨g,4,none⟩=some (.string t2)/\w'.cell? ⟨g,5,none⟩=some (.slice y2 m2 m2))/\Ext w w':=by
 have hv1:=hid (fun W (h:Ext w W)=>h1.ext h);have hv2:=hid (fun W (h:Ext w W)=>h2.ext h);have hl1:Hid (n1=rs1.length):=by obtain ⟨_,_,e,_⟩:=h1;injection e
 have hl2:Hid (n2=rs2.length):=by obtain ⟨_,_,e,_⟩:=h2;injection e
 replace hn1:=hid hn1;replace hn2:=hid hn2;have b1:w.cell? ⟨b,1,none⟩=some (.map (some k)):=cellN hB 1;have hls:=hid (pagesTwo_any w hM);clear h1 h2 hB hM;go_enter Tryz.func118,Tryz.ntmps118;go_wp2_with fail
 refine hls.out.mono ?_;rintro e w1 ⟨⟨g,cap,rfl,⟨cs,hgc,hkc⟩,hgw⟩,hx⟩;have hx1:=hid hx;have hg1:=hid hgc;have kc1:=hid hkc;replace hgw:=hid hgw;clear hx hgc hkc hls b1;go_wp2_with fail
 refine wp_loop_rounds 3 ?_;rw [rounds_succ];have e12:w1.cell? ⟨g,2,none⟩=some (.slice o1 n1 c1):=by rw [cellN hg1.out 2];exact kc1.out 2 _ rfl
 have hcy:=hid (copyR_any w1 (hv1.out w1 hx1.out) hn1.out);rw [<- hl1.out] at hcy;go_wp2_with fail
 refine hcy.out.mono ?_;rintro e wr1 ⟨⟨q1,rfl,hq1,hqw1⟩,hx⟩;have hxr1:=hid (hx1.out.trans hx);have hgr1:=hx.at hg1.out (fun h=>h);have f12:=freeN hgr1 2;have s12:wr1.cell? ⟨g,2,none⟩=some (.slice o1 n1 c1):=by rw [cellN hgr1 2];exact kc1.out 2 _ rfl
 have hg2:=hid (put_at' hgr1 2 (.slice (some ⟨q1,0,none⟩) n1 n1));have hx2:=hid (hxr1.out.setCell (a:=⟨g,2,none⟩) (fun h=>by have:=hgw.out;have h:g < w.heap.size:=h;omega) (.slice (some ⟨q1,0,none⟩) n1 n1));replace hq1:=hid hq1;clear e12 hcy hx hgr1;go_wp2_with fail
 generalize wr1.setCell ⟨g,2,none⟩ (.slice (some ⟨q1,0,none⟩) n1 n1)=w2 at hg2 hx2 ⊢
 have kc2:=hid (fun (j:Nat) (u:Value) (h:([.string (adrS 1),.string t1,.slice (some ⟨q1,0,none⟩) n1 n1,.string (adrS 6),.string t2,.slice o2 n2 c2]:List Value)[j]?=some u)=>show (cs.setIfInBounds 2 (.slice (some ⟨q1,0,none⟩) n1 n1))[j]?=some u by
  rw [Array.getElem?_setIfInBounds]
  by_cases e:2=j
  ·subst e
   have hj:2 < cs.size:=by
    have:=kc1.out 2 _ rfl;exact (Array.getElem?_eq_some_iff.1 this).1
   rw [if_pos rfl,if_pos hj];exact h
  ·rw [if_neg e]
   refine kc1.out j u ?_
   match j,e,h with
   | 0,_,h=>exact h
   | 1,_,h=>exact h
   | 2,e,_=>exact absurd rfl e
   | 3,_,h=>exact h
   | 4,_,h=>exact h
   | 5,_,h=>exact h
   | j+6,_,h=>simp at h)
 clear s12 f12;rw [rounds_succ];have e22:w2.cell? ⟨g,5,none⟩=some (.slice o2 n2 c2):=by rw [cellN hg2.out 5];exact kc2.out 5 _ rfl
 have hcy:=hid (copyR_any w2 (hv2.out w2 hx2.out) hn2.out);rw [<- hl2.out] at hcy;go_wp2_with fail
 refine hcy.out.mono ?_;rintro e wr2 ⟨⟨q2,rfl,hq2,hqw2⟩,hx⟩;have hxr2:=hid (hx2.out.trans hx);have hgr2:=hx.at hg2.out (fun h=>h);have f22:=freeN hgr2 5;have s22:wr2.cell? ⟨g,5,none⟩=some (.slice o2 n2 c2):=by rw [cellN hgr2 5];exact kc2.out 5 _ rfl
 have hg3:=hid (put_at' hgr2 5 (.slice (some ⟨q2,0,none⟩) n2 n2));have hx3:=hid (hxr2.out.setCell (a:=⟨g,5,none⟩) (fun h=>by have:=hgw.out;have h:g < w.heap.size:=h;omega) (.slice (some ⟨q2,0,none⟩) n2 n2));replace hq2:=hid hq2;clear e22 hcy hx hgr2;go_wp2_with fail
 generalize wr2.setCell ⟨g,5,none⟩ (.slice (some ⟨q2,0,none⟩) n2 n2)=w3 at hg3 hx3 ⊢
 have kc3:=hid (fun (j:Nat) (u:Value) (h:([.string (adrS 1),.string t1,.slice (some ⟨q1,0,none⟩) n1 n1,.string (adrS 6),.string t2,.slice (some ⟨q2,0,none⟩) n2 n2]:List Value)[j]?=some u)=>show ((cs.setIfInBounds 2 (.slice (some ⟨q1,0,none⟩) n1 n1)).setIfInBounds 5 (.slice (some ⟨q2,0,none⟩) n2 n2))[j]?=some u by
  rw [Array.getElem?_setIfInBounds]
  by_cases e:5=j
  ·subst e
   have hj:5 < (cs.setIfInBounds 2 (.slice (some ⟨q1,0,none⟩) n1 n1)).size:=by
    have:=kc2.out 5 _ rfl;exact (Array.getElem?_eq_some_iff.1 this).1
   rw [if_pos rfl,if_pos hj];exact h
  ·rw [if_neg e]
   refine kc2.out j u ?_
   match j,e,h with
   | 0,_,h=>exact h
   | 1,_,h=>exact h
   | 2,_,h=>exact h
   | 3,_,h=>exact h
   | 4,_,h=>exact h
   | 5,e,_=>exact absurd rfl e
   | j+6,_,h=>simp at h)
 clear s22 f22;rw [rounds_succ];go_wp2_with fail
 go_ret;refine ⟨⟨g,cap,some ⟨q1,0,none⟩,some ⟨q2,0,none⟩,n1,n2,rfl,?_,?_,?_,?_,?_,?_⟩,hx3.out⟩
 ·rw [cellN hg3.out 0];exact kc3.out 0 _ rfl
 ·rw [cellN hg3.out 1];exact kc3.out 1 _ rfl
 ·rw [cellN hg3.out 2];exact kc3.out 2 _ rfl
 ·rw [cellN hg3.out 3];exact kc3.out 3 _ rfl
 ·rw [cellN hg3.out 4];exact kc3.out 4 _ rfl
 ·rw [cellN hg3.out 5];exact kc3.out 5 _ rfl
theorem eqf_nil (fv:Value) (w:World):Calls Tryz.prog 155 #[.slice none 0 0,.slice none 0 0,fv] w fun e w'=>e=.returned (.bool true)/\w=w':=by
 go_enter Tryz.func155,Tryz.ntmps155;go_wp2_with fail
 refine wp_loop_rounds 1 ?_;rw [rounds_succ];go_wp2_with fail
 go_ret;exact ⟨rfl,rfl⟩
theorem same_nil (w:World):Calls Tryz.prog 111 #[.slice none 0 0,.slice none 0 0] w fun e w'=>e=.returned (.bool true)/\w=w':=by
 have he:=hid (fun fv=>eqf_nil fv w);go_enter Tryz.func111,Tryz.ntmps111;go_wp2_with fail
 refine (he.out _).mono ?_;rintro e w1 ⟨rfl,rfl⟩;go_wp2_with fail
 go_ret;exact ⟨rfl,rfl⟩
theorem take_old (r o:Nat) (w:World) (h2:w.cell? ⟨r,o+2,none⟩=some (.slice none 0 0)) (h3:w.cell? ⟨r,o+3,none⟩=some (.bool true)):Calls Tryz.prog 69 #[.pointer (some ⟨r,o,none⟩),.slice none 0 0] w fun e w'=>e=.returned (.tuple #[])/\w=w':=by
 have hs:=hid (same_nil w);go_enter Tryz.func69,Tryz.ntmps69;go_wp2_with fail
 refine hs.out.mono ?_;rintro e w1 ⟨rfl,rfl⟩;go_wp2_with fail
 refine bodyPost_ret (results_none rfl _ _ _) rfl ⟨rfl,rfl⟩
theorem step_old (r o b k:Nat) (last:Value) (w:World) (h0:w.cell? ⟨r,o,none⟩=some (.pointer (some ⟨b,0,none⟩))) (hB:BldrAt w b k (.pointer none) last):Calls Tryz.prog 71 #[.pointer (some ⟨r,o,none⟩)] w fun e w'=>e=.returned (.int .i64 0)/\w=w':=by
 have hs:=hid (step_none b k last w hB);clear hB;go_enter Tryz.func71,Tryz.ntmps71;go_wp2_with fail
 refine hs.out.mono ?_;rintro e w1 ⟨rfl,rfl⟩;go_wp2_with fail
 go_ret;exact ⟨rfl,rfl⟩
theorem step_new (hR:RenderSpec) (lo r o b M:Nat) (w:World) (hG:Gl w) (h12:12<=lo) (h12b:12<=b) (hbl:b < lo) (hlw:lo<=w.heap.size) (h0:w.cell? ⟨r,o,none⟩=some (.pointer (some ⟨b,0,none⟩))) (hB:BusyAt w lo b M):Calls Tryz.prog 71 #[.pointer (some ⟨r,o,none⟩)] w fun e w'=>e=.returned (.int .i64 2)/\∃ v,StepP lo b w v w':=by
 have hs:=hid (step_any hR lo b M w hG h12 h12b hbl hlw hB);clear hB;go_enter Tryz.func71,Tryz.ntmps71;go_wp2_with fail
 refine hs.out.mono ?_;rintro e w1 ⟨⟨g,rfl⟩,hst⟩;replace hst:=hid hst;go_wp2_with fail
 go_ret;exact ⟨rfl,_,⟨g,rfl⟩,hst.out⟩
theorem take_new (r o b M:Nat) (V:Array Value) (t:TypeId) (w:World) (hG:Gl w) (hV:w.heap[r]?=some (.cells V t (0,0))) (v2:Value) (h0:V[o]?=some (.pointer (some ⟨b,0,none⟩))) (h2:V[o+2]?=some v2) (h3:V[o+3]?=some (.bool false)) (h4:V[o+4]?=some (.bool false))
  (hB:BldrAt w b M (.pointer none) (.pointer none)) (hm:MapAt w Value.string M ([]:List (ByteArray × Value))) (hrb:r < b) (hrM:r ≠ M) (h12:12<=r):
  Calls Tryz.prog 69 #[.pointer (some ⟨r,o,none⟩),.slice none 0 0] w fun e w'=>e=.returned (.tuple #[])/\w'.heap[r]?=some (.cells (((V.setIfInBounds (o+2) (.slice none 0 0)).setIfInBounds (o+3) (.bool true)).setIfInBounds (o+4) (.bool false)) t (0,0))/\BusyAt w' w.heap.size b M/\Cdk.Mod (fun k=>k=r \/ k=b \/ w.heap.size<=k) w w':=by
 have c0:w.cell? ⟨r,o,none⟩=some (.pointer (some ⟨b,0,none⟩)):=by rw [cellN hV o,h0]
 have c2:w.cell? ⟨r,o+2,none⟩=some v2:=by rw [cellN hV (o+2),h2]
 have c3:w.cell? ⟨r,o+3,none⟩=some (.bool false):=by rw [cellN hV (o+3),h3]
 have f2:=freeN hV (o+2);have hV1:=put_at' hV (o+2) (.slice none 0 0);have c31:(w.setCell ⟨r,o+2,none⟩ (.slice none 0 0)).cell? ⟨r,o+3,none⟩=some (.bool false):=by rw [cellN hV1 (o+3),Array.getElem?_setIfInBounds,if_neg (by omega),h3]
 have f3:=freeN hV1 (o+3);have hV2:=put_at' hV1 (o+3) (.bool true);have c42:((w.setCell ⟨r,o+2,none⟩ (.slice none 0 0)).setCell ⟨r,o+3,none⟩ (.bool true)).cell? ⟨r,o+4,none⟩=some (.bool false):=by rw [cellN hV2 (o+4),Array.getElem?_setIfInBounds,if_neg (by omega),Array.getElem?_setIfInBounds,if_neg (by omega),h4]
 have f4:=freeN hV2 (o+4);have hV3:=put_at' hV2 (o+4) (.bool false);have hM3:=(((Mod.refl (Eq r) w).setCell (a:=⟨r,o+2,none⟩) (fun _=>rfl) (.slice none 0 0)).setCell (a:=⟨r,o+3,none⟩) (fun _=>rfl) (.bool true)).setCell (a:=⟨r,o+4,none⟩) (fun _=>rfl) (.bool false);have c03:(((w.setCell ⟨r,o+2,none⟩ (.slice none 0 0)).setCell ⟨r,o+3,none⟩ (.bool true)).setCell ⟨r,o+4,none⟩ (.bool false)).cell? ⟨r,o,none⟩=some (.pointer (some ⟨b,0,none⟩)):=by rw [cellN hV3 o,Array.getElem?_setIfInBounds,if_neg (by omega),Array.getElem?_setIfInBounds,if_neg (by omega),Array.getElem?_setIfInBounds,if_neg (by omega),h0]
 have hz3:(((w.setCell ⟨r,o+2,none⟩ (.slice none 0 0)).setCell ⟨r,o+3,none⟩ (.bool true)).setCell ⟨r,o+4,none⟩ (.bool false)).heap.size=w.heap.size:=by simp [World.setCell]
 have hG3:=hG.mod hM3 (fun k e=>by omega);have hB3:=hM3.at hB (by omega);have hm3:=hm.mod hM3 (fun e=>hrM e);have hrw:r < w.heap.size:=lt_of_at hV;go_enter Tryz.func69,Tryz.ntmps69;go_upto_region 4 with fail
 generalize (((w.setCell ⟨r,o+2,none⟩ (.slice none 0 0)).setCell ⟨r,o+3,none⟩ (.bool true)).setCell ⟨r,o+4,none⟩ (.bool false))=w3 at hV3 hM3 c03 hz3 hG3 hB3 hm3 ⊢;clear c2 c3 f2 c31 f3 c42 f4 hV1 hV2 hV c0;replace hz3:=hid hz3;have nrS:Hid (¬ (r=b \/ w.heap.size<=r)):=hid (by omega);replace c03:=hid c03;have c03':=c03.out;replace hM3:=hid hM3;replace hV3:=hid hV3;have hfo:=hid (fun W=>Fold_any none 0 W);have htg:=hid (fun W (hx:Ext w3 W)=>target_any b M none none 0 0 W (hG3.ext hx) (hx.at hB3 (fun h=>h)) (hm3.mod hx (fun h=>h)) (by omega));unfold stV at htg;go_wp2_with fail
 refine wp_loop_rounds 1 ?_;rw [rounds_succ];go_upto_region 10 with fail
 try simp only [List.append_eq,List.cons_append,List.nil_append]
 refine wp_region_tree (.s (.q 0 (.q 1 (.q 2 (.q 3 (.q 4 (.c1 5 (.c1 6 .done)))))))) (by as_aux_lemma=>kernel_rfl) (by as_aux_lemma=>kernel_rfl) (by as_aux_lemma=>kernel_rfl) (by decide) ?_;have hv0:=hid (Mod.drew0 (fun k=>k=b \/ w.heap.size<=k) w3);refine wpTr_s (fun Wx=>Cdk.Mod (fun k=>k=b \/ w.heap.size<=k) w3 Wx) (fun _ _=>trivial) hv0.out ?_;generalize hWd:World.drew w3=V0 at hv0 ⊢
 iterate 5 (refine wpTr_q _ (by simp only [List.getD_cons_succ,List.getD_cons_zero];rfl) (by rfl) ?_ (fun w' hC=>?_) ?_;rotate_left;(have q0:w'.cell? ⟨r,o,none⟩=some (.pointer (some ⟨b,0,none⟩)):=hC.cell c03.out (fun e=>nrS.out e);go_simp;first | done | with_reducible rfl | exact rfl);try simp only [Act.put,sA,sZ,sS])
 refine wpTr_c1 _ (by simp only [List.getD_cons_succ,List.getD_cons_zero];rfl) ?_;refine wpN_c (by rfl) (fun K hK=>?_);go_simp;refine (hfo.out V0).mono ?_;rintro e V1 ⟨rfl,hxn⟩;have hvx1:=hid ((Mod.drew0 (fun _=>False) w3).trans (hWd ▸ hxn));have hv1:=hid (hv0.out.then hxn (fun _ _ h=>h.elim));refine hK.out _ _ hv1.out ?_;clear hxn;clear hK K;try simp only [Act.put,sA,sZ,sS]
 refine wpTr_c1 _ (by simp only [List.getD_cons_succ,List.getD_cons_zero];rfl) ?_;refine wpN_c (by rfl) (fun K hK=>?_);go_simp;refine (htg.out V1 hvx1.out).mono ?_;rintro e V2 ⟨rfl,hbz,hmn⟩;have hz1:w3.heap.size<=V1.heap.size:=hvx1.out.size;have hv2:=hid (hv1.out.then hmn (fun j hj e=>e.elim .inl (fun e=>.inr (by have:=hz3.out;omega))));refine hK.out _ _ hv2.out ?_;clear hK K;try simp only [Act.put,sA,sZ,sS]
 refine wpTr_done ?_;have hbz':=hid hbz;have hV4:=hid (hv2.out.at hV3.out (fun e=>nrS.out e));have hM4:=hid ((hM3.out.mono (T:=fun k=>k=r \/ k=b \/ w.heap.size<=k) (fun k e=>.inl e.symm)).then hv2.out (fun j hj e=>.inr e));have hz4:w.heap.size<=V1.heap.size:=by have:=hz3.out;omega
 go_wp2_with fail
 go_end0
 exact ⟨rfl,hV4.out,by
  obtain ⟨J,k,rb,ro,rc,st,b1,b2,g1,g2,g3,g4,g5,g6,g7,g8⟩:=hbz'.out
  exact ⟨J,k,rb,ro,rc,st,b1,b2,g1,g2,g3,g4,g5,g6,by omega,g8⟩,hM4.out⟩
theorem listed_any (a1 a2:Option Addr) (c1 c2:Nat) (w:World):Calls Tryz.prog 122 #[stV a1 a2 c1 c2] w fun e w'=>e=.returned (.func (.func 187) #[] #[.pointer (some ⟨w.heap.size,0,none⟩)])/\w'=w.alloc (.cells #[.slice a1 0 c1,.slice a2 0 c2] 235):=by
 unfold stV;go_enter Tryz.func122,Tryz.ntmps122;go_wp2_with fail
 go_ret;exact ⟨rfl,rfl⟩
theorem listedNone (B:Nat) (a1:Option Addr) (c1:Nat) (w:World) (hz:w.cell? ⟨B,0,none⟩=some (.slice a1 0 c1)):SeqNone 187 #[.pointer (some ⟨B,0,none⟩)] w:=fun n l W hW=>by
 refine callsIn_wide.2 ?_
 have hz2:W.cell? ⟨B,0,none⟩=some (.slice a1 0 c1):=(hW.cell (p:=⟨B,0,none⟩) (World.block_lt_of_cell? _ _ hz)).trans hz
 go_enter Tryz.func187,Tryz.ntmps187
 go_wp2_with fail
 refine wp_loop_rounds 1 ?_
 rw [rounds_succ]
 go_wp2_with fail
 try simp only [Exit.noGoto_normal]
 go_end0
 exact ⟨⟨_,rfl⟩,Mod.refl _ _⟩
theorem newIndex_any (a1 a2:Option Addr) (c1 c2:Nat) (w:World):Calls Tryz.prog 119 #[stV a1 a2 c1 c2] w fun e w'=>(∃ p,e=.returned (.pointer (some ⟨p,0,none⟩)))/\Ext w w':=by
 refine (callsIn_wide (n:=3)).1 ?_;refine callsIn_of_wp_marks Tryz.func119 rfl trivial ?_ rfl;simp only [Tryz.ntmps119,List.size_toArray,List.length_cons,List.length_nil,Nat.reduceAdd,Nat.reduceSub,Array.replicate_succ,Array.replicate_zero,List.push_toArray,List.append_toArray,List.nil_append,List.cons_append];refine (wpIn_wide (n:=3)).2 ?_;have hq:=hid (fun W=>listed_any a1 a2 c1 c2 W);have hix:=hid (fun W=>indexNew_any W);unfold stV at hq ⊢;obtain ⟨A,hAe⟩:∃ A,A=w.heap.size:=⟨_,rfl⟩;have hxA:=Mod.alloc (Mod.refl (fun _=>False) w) (.cells #[.slice a1 0 c1,.slice a2 0 c2] 235);have hA:=heap_alloc_new w (.cells #[.slice a1 0 c1,.slice a2 0 c2] 235);rw [<- hAe] at hA;replace hAe:=hid hAe;go_upto_region 1 with fail
 try simp only [<- hAe.out]
 generalize w.alloc (.cells #[.slice a1 0 c1,.slice a2 0 c2] 235)=w1 at hxA hA ⊢;replace hxA:=hid hxA;replace hA:=hid hA;go_wp2_with fail
 refine (hix.out w1).mono ?_;rintro e w2 ⟨⟨p,rfl⟩,hx⟩;have hx2:=hid (hxA.out.trans hx);have hA2:=hx.at hA.out (fun h=>h);obtain ⟨T,hT⟩:∃ T,T=w2.heap.size:=⟨_,rfl⟩;have hxT:=Mod.alloc (Mod.refl (fun _=>False) w2) (.cells #[.pointer (some ⟨p,0,none⟩)] 123);have hTc:=heap_alloc_new w2 (.cells #[.pointer (some ⟨p,0,none⟩)] 123);rw [<- hT] at hTc;have hA3:=hxT.at hA2 (fun h=>h);replace hT:=hid hT;clear hx;go_upto_region 2 with fail
 try simp only [<- hT.out]
 generalize w2.alloc (.cells #[.pointer (some ⟨p,0,none⟩)] 123)=w3 at hxT hTc hA3 ⊢;have s0:w3.cell? ⟨A,0,none⟩=some (.slice a1 0 c1):=cellN hA3 0;have s1:w3.cell? ⟨A,1,none⟩=some (.slice a2 0 c2):=cellN hA3 1;have hx3:=hid (hx2.out.trans hxT);have hl3:=hid hTc;clear hxT hTc hA3 hA2;go_wp2_with fail
 refine (hq.out w3).mono ?_;rintro e w4 ⟨rfl,rfl⟩;have hxB:=Mod.alloc (Mod.refl (fun _=>False) w3) (.cells #[.slice a1 0 c1,.slice a2 0 c2] 235);have hB:=heap_alloc_new w3 (.cells #[.slice a1 0 c1,.slice a2 0 c2] 235);have hT4:=hid (hxB.at hl3.out (fun h=>h));have hx4:=hid (hx3.out.trans hxB);obtain ⟨B,hBe⟩:∃ B,B=w3.heap.size:=⟨_,rfl⟩;rw [<- hBe] at hB ⊢;replace hBe:=hid hBe;clear s0 s1 hxB;generalize w3.alloc (.cells #[.slice a1 0 c1,.slice a2 0 c2] 235)=w4 at hB hT4 hx4 ⊢;have hs:=listedNone B a1 c1 w4 (cellN hB 0);have hsz:w.heap.size<=w4.heap.size:=hx4.out.size;go_wp2_with fail
 refine (wpIn_wide (n:=3)).1 ?_;refine wpIn_rangeFunc_none (F:=Fence.wide) rfl (by omega) (gf:=187) (lb:=#[.pointer (some ⟨B,0,none⟩)]) rfl trivial (enters_of Tryz.func187 (by kernel_rfl) rfl) (fun l W hW=>hs 2 l W hW) (fun D W hD hX hd=>?_);have d1:=hX.at hT4.out (fun h=>h);have hx5:=hid (hx4.out.trans hX);replace hd:=hid hd;clear hs hX hB;have c0:W.cell? ⟨T,0,none⟩=some (.pointer (some ⟨p,0,none⟩)):=cellN d1 0;go_wp2_with fail
 have hgD:W.grownBy (W.putObj D (.deferred none)) (some D):=grownBy_putObj' W D _;refine ⟨by simp,.inl ⟨_,_,rfl,run_takeDeferred hd.out,?_⟩⟩;refine ⟨_,by simp [results,Tryz.func119,go_sem];rfl,?_⟩;exact ⟨⟨p,rfl⟩,Ext.ofGrown hx5.out hgD (fun r e=>by cases e;omega)⟩
theorem publish_any {Fp:Nat -> Prop} (r o b k c s m:Nat) (V:Array Value) (t:TypeId) {last v1 v4 z0 z1 z2 z3:Value} {t1 t2:ByteArray} {o1 o2:Option Addr} {n1 n2 c1 c2:Nat} {rs1 rs2:List (ByteArray × Int)} (hc:c < 4) (w:World) (hV:w.heap[r]?=some (.cells V t (0,0))) (h0:V[o]?=some (.pointer (some ⟨b,0,none⟩))) (h1:V[o+1]?=some v1) (h2:V[o+2]?=some (.slice none 0 0)) (h4:V[o+4]?=some v4) (h70:V[o+70]?=some (.int .i64 (c:Int)))
  (hB:BldrAt w b k (.pointer none) last) (hM:MapAt w Value.string k [(adrS 1,.agg #[.string (adrS 1),.string t1,.slice o1 n1 c1]),(adrS 6,.agg #[.string (adrS 6),.string t2,.slice o2 n2 c2])])
  (hr1:RowAt Fp w rdC (.slice o1 n1 c1) rs1) (hn1:1<=rs1.length/\rs1.length<=12) (hr2:RowAt Fp w rdC (.slice o2 n2 c2) rs2) (hn2:1<=rs2.length/\rs2.length<=12) (hS:w.heap[s]?=some (.cells (siteC z0 z1 z2 z3 m) 217 (0,0))) (hrs:r ≠ s):
  Calls Tryz.prog 73 #[.pointer (some ⟨r,o,none⟩),.pointer (some ⟨s,0,none⟩),.bool false] w fun e w'=>e=.returned (.tuple #[])/\(∃ x,w'.heap[r]?=some (.cells ((V.setIfInBounds (o+1) (.pointer (some x))).setIfInBounds (o+4) (.bool true)) t (0,0)))/\(∃ z0 z1 z2 z3,w'.heap[s]?=some (.cells (siteC z0 z1 z2 z3 m) 217 (0,0)))/\Cdk.Mod (fun j=>j=r \/ j=s) w w':=by
 have c0:=hid (show w.cell? ⟨r,o,none⟩=some (.pointer (some ⟨b,0,none⟩)) by rw [cellN hV o,h0]);have c70:=hid (show w.cell? ⟨r,o+70,none⟩=some (.int .i64 (c:Int)) by rw [cellN hV (o+70),h70]);have nrs:=hid hrs;have hpg:=hid (fun W (hx:Ext w W)=>bldPages_any W (hx.at hB (fun h=>h)) (hM.mod hx (fun h=>h)) (hr1.ext hx) hn1 (hr2.ext hx) hn2);have hfo:=hid (fun W=>Fold_any none 0 W);have hni:=hid (fun W=>newIndex_any none none 0 0 W);unfold stV at hni;replace hV:=hid hV;replace hS:=hid hS;clear hB hM hr1 hr2;go_enter Tryz.func73,Tryz.ntmps73;go_upto_region 0 with fail
 try simp only [List.append_eq,List.cons_append,List.nil_append]
 refine wp_region_tree (.s (.q 0 (.q 1 (.q 2 (.q 3 (.q 4 (.q 5 (.q 6 (.q 7 (.q 8 (.q 9 (.q 11 (.c1 10 (.c1 12 .done)))))))))))))) (by as_aux_lemma=>kernel_rfl) (by as_aux_lemma=>kernel_rfl) (by as_aux_lemma=>kernel_rfl) (by decide) ?_;have hv0:=hid (Mod.drew0 (Eq s) w);have hvx0:=hid (Mod.drew0 (fun _=>False) w);refine wpTr_s (fun Wx=>Cdk.Mod (Eq s) w Wx) (fun _ _=>trivial) hv0.out ?_;generalize hWd:World.drew w=V0 at hv0 hvx0 ⊢
 iterate 11 (refine wpTr_q _ (by simp only [List.getD_cons_succ,List.getD_cons_zero];rfl) (by rfl) ?_ (fun w' hC=>?_) ?_;rotate_left;(have q0:w'.cell? ⟨r,o,none⟩=some (.pointer (some ⟨b,0,none⟩)):=hC.cell c0.out (fun e=>nrs.out e.symm);have q1:w'.cell? ⟨r,o+70,none⟩=some (.int .i64 (c:Int)):=hC.cell c70.out (fun e=>nrs.out e.symm);go_simp;first | done | with_reducible rfl | exact rfl);try simp only [Act.put,sA,sZ,sS])
 refine wpTr_c1 _ (by simp only [List.getD_cons_succ,List.getD_cons_zero];rfl) ?_;refine wpN_c (by rfl) (fun K hK=>?_);go_simp;refine (hpg.out V0 hvx0.out).mono ?_;rintro e V1 ⟨⟨g,cap,y1,y2,m1,m2,rfl,g0,g1,g2,g3,g4,g5⟩,hxn⟩;have hvx1:=hid (hvx0.out.trans hxn);have hv1:=hid (hv0.out.then hxn (fun _ _ h=>h.elim));refine hK.out _ _ hv1.out ?_;have hpb:=hid (sitePublish_any s c g cap hc z0 z1 z2 z3 m t1 t2 y1 y2 m1 m2 m1 m2 V1 (hvx1.out.at hS.out (fun h=>h)) g0 g1 g2 g3 g4 g5);clear hxn g0 g1 g2 g3 g4 g5;clear hK K;try simp only [Act.put,sA,sZ,sS]
 refine wpTr_c1 _ (by simp only [List.getD_cons_succ,List.getD_cons_zero];rfl) ?_;refine wpN_c (by rfl) (fun K hK=>?_);go_simp;refine hpb.out.mono ?_;rintro e V2 ⟨rfl,⟨x0,x1,x2,x3,hS2⟩,hmn⟩;have hv2:=hid (hv1.out.trans hmn);refine hK.out _ _ hv2.out ?_;clear hK K;try simp only [Act.put,sA,sZ,sS]
 refine wpTr_done ?_;have hSf:=hid hS2;have hMv:=hid (hv2.out);have hVv:=hid (hv2.out.at hV.out (fun e=>nrs.out e.symm));clear hS2 hmn hv0 hv1;generalize V2=w2 at hSf hMv hVv hv2 ⊢;clear hv2;have d2:w2.cell? ⟨r,o+2,none⟩=some (.slice none 0 0):=by rw [cellN hVv.out (o+2),h2]
 go_wp2_with fail
 refine (hfo.out w2).mono ?_;rintro e w3 ⟨rfl,hxa⟩;have hV3:=hid (hxa.at hVv.out (fun h=>h));have hS3:=hid (hxa.at hSf.out (fun h=>h));have hM3:=hid (hMv.out.then hxa (fun _ _ h=>h.elim));clear hxa d2;go_wp2_with fail
 refine (hni.out w3).mono ?_;rintro e w4 ⟨⟨p,rfl⟩,hxb⟩;have hV4:=hxb.at hV3.out (fun h=>h);have hS4:=hid (hxb.at hS3.out (fun h=>h));have hM4:=hid (hM3.out.then hxb (fun _ _ h=>h.elim));have e1:w4.cell? ⟨r,o+1,none⟩=some v1:=by rw [cellN hV4 (o+1),h1]
 have f1:=freeN hV4 (o+1);have hV5:=put_at' hV4 (o+1) (.pointer (some ⟨p,0,none⟩));have e4:(w4.setCell ⟨r,o+1,none⟩ (.pointer (some ⟨p,0,none⟩))).cell? ⟨r,o+4,none⟩=some v4:=by rw [cellN hV5 (o+4),Array.getElem?_setIfInBounds,if_neg (by omega),h4]
 have f4:=freeN hV5 (o+4);have hV6:=hid (put_at' hV5 (o+4) (.bool true));have hm6:=hid ((((hM4.out.mono (T:=fun j=>j=r \/ j=s) (fun k e=>.inr e.symm)).setCell (a:=⟨r,o+1,none⟩) (fun _=>.inl rfl) (.pointer (some ⟨p,0,none⟩)))).setCell (a:=⟨r,o+4,none⟩) (fun _=>.inl rfl) (.bool true));have hS6:=hid ((put_ne' (w4.setCell ⟨r,o+1,none⟩ (.pointer (some ⟨p,0,none⟩))) (o+4) (.bool true) nrs.out).trans ((put_ne' w4 (o+1) (.pointer (some ⟨p,0,none⟩)) nrs.out).trans hS4.out));clear hxb hV4 hV5;go_wp2_with fail
 go_end0
 exact ⟨rfl,⟨⟨p,0,none⟩,hV6.out⟩,⟨_,_,_,_,hS6.out⟩,hm6.out⟩
def kwB (k:Int):Bs:=if k=1 then [102,114,111,110,116] else [109,97,112]
def ktB (k:Int):Bs:=if k=1 then [70,114,111,110,116,32,112,97,103,101,10,123,102,111,114,32,108,97,116,101,115,116,32,53,125,123,116,105,116,108,101,124,115,104,111,114,116,125,10,123,101,110,100,125] else [123,116,111,112,105,99,115,125,10,123,97,117,116,104,111,114,115,125,10,123,102,111,114,32,108,97,116,101,115,116,32,54,52,125,123,117,114,108,125,10,123,101,110,100,125]
theorem kindWord_any (k:Int) (hk:k=1 \/ k=6) (w:World):Calls Tryz.prog 246 #[.int .i64 k] w fun e w'=>e=.returned (.tuple #[.string ⟨(kwB k).toArray⟩,.string ⟨(ktB k).toArray⟩])/\w=w':=by
 rcases hk with rfl | rfl
 ·go_enter Tryz.func246,Tryz.ntmps246
  go_wp2_with fail
  go_ret2
  exact ⟨rfl,rfl⟩
 ·go_enter Tryz.func246,Tryz.ntmps246
  go_wp2_with fail
  go_ret2
  exact ⟨rfl,rfl⟩
def formsC (A:Nat):Array Value:=#[.string ⟨#[116,101,109,112,108,97,116,101]⟩,.int .i64 2,.func (.func 464) #[] #[.pointer (some ⟨A,0,none⟩)],.string ⟨#[115,116,111,114,121]⟩,.int .i64 3,.func (.func 466) #[] #[.pointer (some ⟨A,0,none⟩)],.string ⟨#[108,97,116,101,115,116]⟩,.int .i64 3,.func (.func 470) #[] #[.pointer (some ⟨A,0,none⟩)],.string ⟨#[112,97,103,101]⟩,.int .i64 3,.func (.func 474) #[] #[.pointer (some ⟨A,0,none⟩)],.string ⟨#[98,121]⟩,.int .i64 2,.func (.func 476) #[] #[.pointer (some ⟨A,0,none⟩)],.string ⟨#[114,101,108,97,116,101,100]⟩,.int .i64 3,.func (.func 478) #[] #[.pointer (some ⟨A,0,none⟩)],.string ⟨#[116,111,112,105,99,115]⟩,.int .i64 1,.func (.func 482) #[] #[.pointer (some ⟨A,0,none⟩)],.string ⟨#[97,117,116,104,111,114,115]⟩,.int .i64 1,.func (.func 483) #[] #[.pointer (some ⟨A,0,none⟩)],.string ⟨#[99,111,117,110,116]⟩,.int .i64 2,.func (.func 484) #[] #[.pointer (some ⟨A,0,none⟩)]]
theorem forms_any (a1 a2:Option Addr) (c1 c2:Nat) (w:World):Calls Tryz.prog 396 #[stV a1 a2 c1 c2] w fun e w'=>e=.returned (.slice (some ⟨w.heap.size+1,0,none⟩) 9 9)/\w'=(w.alloc (.cells #[.slice a1 0 c1,.slice a2 0 c2] 235)).alloc (.cells (formsC w.heap.size) 598):=by
 have hmf:∀ (fn:Fn) (first cap:Array Value) (w:World),(Instr.makeFunc fn first cap).run Tryz.prog w=.ok (.func fn first cap) w:=fun _ _ _ _=>rfl
 unfold stV formsC;go_enter Tryz.func396,Tryz.ntmps396;go_wp2_with fail
 go_ret;exact ⟨rfl,rfl⟩
theorem existing_any (k:Int) (hk:k=1 \/ k=6) (a1 a2:Option Addr) (c1 c2:Nat) (w:World) (hG:Gl w):Calls Tryz.prog 395 #[stV a1 a2 c1 c2,.string (adrS k)] w fun e w'=>e=.returned (.string ⟨#[49]⟩)/\Ext w w':=by
 have hcmp:((adrS 1).toList==(adrS 6).toList)=false:=by kernel_rfl
 have hxA:=Mod.alloc (Mod.refl (fun _=>False) w) (.cells #[.slice a1 0 c1,.slice a2 0 c2] 235);have hA:=heap_alloc_new w (.cells #[.slice a1 0 c1,.slice a2 0 c2] 235);have hal:=hid (fun W (h:Gl W)=>adrAll_any a1 a2 c1 c2 W h);unfold stV at hal ⊢;obtain ⟨Z,hZ⟩:∃ Z,Z=adrS k:=⟨_,rfl⟩;rw [<- hZ];replace hZ:=hid hZ;obtain ⟨A,hAe⟩:∃ A,A=w.heap.size:=⟨_,rfl⟩;rw [<- hAe] at hA;replace hAe:=hid hAe;go_enter Tryz.func395,Tryz.ntmps395;go_upto_region 1 with fail
 try simp only [<- hAe.out]
 generalize w.alloc (.cells #[.slice a1 0 c1,.slice a2 0 c2] 235)=w1 at hxA hA ⊢;have a0:w1.cell? ⟨A,0,none⟩=some (.slice a1 0 c1):=cellN hA 0;have a0':w1.cell? ⟨A,1,none⟩=some (.slice a2 0 c2):=cellN hA 1;have hG1:=hG.ext hxA;replace hxA:=hid hxA;clear hA;go_wp2_with fail
 refine (hal.out w1 hG1).mono ?_;rintro e w2 ⟨⟨v,rfl,hv⟩,hx⟩;obtain ⟨sa,scap,rfl,hsr,hsb,hsc⟩:=hv;simp only [List.flatMap_cons,List.flatMap_nil,strC,List.cons_append,List.nil_append] at hsr;obtain ⟨rb,ro,rfl,hrc⟩:=hsr.at (by simp);have e0:w2.cell? ⟨rb,ro,none⟩=some (.string (adrS 1)):=hrc 0 _ rfl;have e1:w2.cell? ⟨rb,ro+1,none⟩=some (.string (adrS 6)):=hrc 1 _ rfl;have hx2:=hid (hxA.out.trans hx);obtain ⟨X,hX⟩:∃ X,X=adrS 1:=⟨_,rfl⟩;obtain ⟨Y,hY⟩:∃ Y,Y=adrS 6:=⟨_,rfl⟩;rw [<- hX] at e0 hcmp;rw [<- hY] at e1 hcmp;clear hal hx hsb hsc hrc hsr a0 a0';rcases hk with rfl | rfl
 ·have hz:Z=X:=by rw [hX];exact hZ.out
  subst hz;replace hX:=hid hX;replace hY:=hid hY;go_wp2_with fail
  refine wp_loop_rounds 3 ?_;rw [rounds_succ];go_wp2_with fail
  go_ret;exact ⟨rfl,hx2.out⟩
 ·have hz:Z=Y:=by rw [hY];exact hZ.out
  subst hz;replace hX:=hid hX;replace hY:=hid hY;go_wp2_with fail
  refine wp_loop_rounds 3 ?_;rw [rounds_succ];go_wp2_with fail
  rw [rounds_succ];go_wp2_with fail
  go_ret;exact ⟨rfl,hx2.out⟩
theorem joinNil_any (x:ByteArray) (w:World):Calls Tryz.prog 378 #[.slice none 0 0,.string x] w fun e w'=>e=.returned (.string .empty)/\w=w':=by
 go_enter Tryz.func378,Tryz.ntmps378;go_wp2_with fail
 go_ret;exact ⟨rfl,rfl⟩
theorem joinedNil_any (w:World):Calls Tryz.prog 472 #[.slice none 0 0] w fun e w'=>e=.returned (.string .empty)/\w=w':=by
 have hj:=hid (fun x=>joinNil_any x w);go_enter Tryz.func472,Tryz.ntmps472;go_wp2_with fail
 refine wp_loop_rounds 1 ?_;rw [rounds_succ];go_wp2_with fail
 refine (hj.out _).mono ?_;rintro e w1 ⟨rfl,rfl⟩;go_wp2_with fail
 go_ret;exact ⟨rfl,rfl⟩
theorem formTopics_any (A:Nat) (a1 a2:Option Addr) (c1 c2:Nat) (x y:ByteArray) (w:World) (hA:w.heap[A]?=some (.cells #[.slice a1 0 c1,.slice a2 0 c2] 235 (0,0))):Calls Tryz.prog 482 #[.string x,.string y,.pointer (some ⟨A,0,none⟩)] w fun e w'=>e=.returned (.string .empty)/\Ext w w':=by
 have a0:w.cell? ⟨A,0,none⟩=some (.slice a1 0 c1):=cellN hA 0;have a0':w.cell? ⟨A,1,none⟩=some (.slice a2 0 c2):=cellN hA 1;have hq:=hid (qTopics_any a1 a2 c1 c2 w);have hj:=hid (fun x W=>joinNil_any x W);unfold stV at hq;clear hA;go_enter Tryz.func482,Tryz.ntmps482;go_wp2_with fail
 refine hq.out.mono ?_;rintro e w1 ⟨rfl,hx⟩;replace hx:=hid hx;clear a0 a0';go_wp2_with fail
 refine (hj.out _ _).mono ?_;rintro e w2 ⟨rfl,rfl⟩;go_wp2_with fail
 go_ret;exact ⟨rfl,hx.out⟩
theorem formAuthors_any (A:Nat) (a1 a2:Option Addr) (c1 c2:Nat) (x y:ByteArray) (w:World) (hA:w.heap[A]?=some (.cells #[.slice a1 0 c1,.slice a2 0 c2] 235 (0,0))):Calls Tryz.prog 483 #[.string x,.string y,.pointer (some ⟨A,0,none⟩)] w fun e w'=>e=.returned (.string .empty)/\Ext w w':=by
 have a0:w.cell? ⟨A,0,none⟩=some (.slice a1 0 c1):=cellN hA 0;have a0':w.cell? ⟨A,1,none⟩=some (.slice a2 0 c2):=cellN hA 1;have hq:=hid (qAuthors_any a1 a2 c1 c2 w);have hj:=hid (fun x W=>joinNil_any x W);unfold stV at hq;clear hA;go_enter Tryz.func483,Tryz.ntmps483;go_wp2_with fail
 refine hq.out.mono ?_;rintro e w1 ⟨rfl,hx⟩;replace hx:=hid hx;clear a0 a0';go_wp2_with fail
 refine (hj.out _ _).mono ?_;rintro e w2 ⟨rfl,rfl⟩;go_wp2_with fail
 go_ret;exact ⟨rfl,hx.out⟩
end Go.Proofs.YtcopgcdhkgenkaaGreatDoor
