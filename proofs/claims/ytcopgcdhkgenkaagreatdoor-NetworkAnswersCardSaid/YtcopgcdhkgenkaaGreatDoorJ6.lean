import Derived.Test.YtcopgcdhkgenkaaGreatDoorJ5
import Derived.Test.YtcopgcdhkgenkaaGreatDoorSC4
set_option linter.all false
set_option maxRecDepth 100000
set_option maxHeartbeats 16000000
namespace Go.Proofs.YtcopgcdhkgenkaaGreatDoor
open Go.Shelf Go.RowKit Cdk Scr
def fnC (v:Value):List Value:=[v]
theorem fnC_len (v:Value):(fnC v).length=1:=rfl
theorem elFn:El Tryz.prog 29 .nilFunc 1 8:=⟨by kernel_rfl,rfl,by decide,by decide⟩
theorem fn_one {b1 b2 d:Nat} {y u:Value} (hy:y ∈ [wrF b1,syF d,wrF b2,syF d]) (hu:u ∈ fnC y):u.oneCell'=true:=by
 simp only [fnC,List.mem_singleton] at hu
 subst hu
 simp only [List.mem_cons,List.not_mem_nil,or_false] at hy
 rcases hy with rfl | rfl | rfl | rfl <;> rfl
theorem flat_fn (l:List Value):l.flatMap fnC=l:=by induction l with | nil=>rfl | cons a t ih=>rw [List.flatMap_cons,ih];rfl
theorem row_of {w:World} {s:Nat} {t:TypeId} {l:List Value} (h:w.heap[s]?=some (.cells l.toArray t (0,0))):RowIs w (some ⟨s,0,none⟩) (l.flatMap fnC):=by
 rw [flat_fn]
 exact RowIs.block h
theorem extract_size (Y:ByteArray):(Y.extract 1 Y.size).size=Y.size - 1:=by simp [ByteArray.size_extract]
theorem extract_size1 (Y:ByteArray):(Y.extract 0 1).size=min 1 Y.size:=by simp [ByteArray.size_extract]
theorem DiskAt.mod3 {S:Nat -> Prop} {w w':World} {d db vb n:Nat} {cd cv:Array Value} {pv:Value} (h:DiskAt w d db vb n cd cv pv) (hm:Mod S w w') (hS:¬ S d/\¬ S db/\¬ S vb):DiskAt w' d db vb n cd cv pv:=⟨hm.at h.at_ hS.1,h.dur.mod hm hS.2.1,h.vis.mod hm hS.2.2,h.ne⟩
theorem open_zero {d db vb n h:Nat} (w:World) (hA:DiskAt w d db vb n (zeroC n) (zeroC n) (.slice none 0 0)) (hG:Gl w) (hn:n=h+h) (hh:32<=h/\h<=2097152):
  Calls Tryz.prog 59 #[.pointer (some ⟨d,0,none⟩)] w fun e w'=>(∃ j en,e=.returned (.tuple #[.pointer (some ⟨j,0,none⟩),.int .i64 0])/\JnAt w' j 1 (.slice none 0 0) en d h 0 false/\w.heap.size<=j)/\Mod (fun k=>k=d \/ k=db \/ k=vb) w w':=by
 have hs:=hid (size_any w hA)
 have hn0:¬ (n:Int)=0:=by omega
 have hn64:¬ (n:Int) < 64:=by omega
 have hq:(n:Int).tdiv 2=(h:Int):=by rw [Int.tdiv_eq_ediv_of_nonneg (by omega)];omega
 have hqw:IntKind.i64.wrap (h:Int)=(h:Int):=IntWalk.i64_in _ (by omega)
 have hrd:=fun (W:World) off (hW:DiskAt W d db vb n (zeroC n) (zeroC n) (.slice none 0 0)) (ho:off+h<=n)=>read_zero off h W hW (by omega) (by omega) (by omega) ho
 have hrd0:∀ W:World,DiskAt W d db vb n (zeroC n) (zeroC n) (.slice none 0 0) -> Calls Tryz.prog 96 #[.pointer (some ⟨d,0,none⟩),.int .i64 0,.int .i64 h] W fun e w'=>e=.returned (.tuple #[strV (zeroS h),.int .i64 0])/\W=w':=fun W hW=>hrd W 0 hW (by omega)
 have hrd1:=fun (W:World) hW=>hrd W h hW (by omega)
 have hst0:∀ (W:World),JnAt W w.heap.size 0 (.slice none 0 0) 0 d h 0 false -> Calls Tryz.prog 97 #[.pointer (some ⟨w.heap.size,0,none⟩),.int .i64 0] W fun e w'=>e=.returned (.int .i64 0)/\W=w':=fun W hW=>by
  have:=start_any 0 W hW (by omega)
  rw [Nat.zero_mul] at this;exact this
 have hst1:∀ (W:World),JnAt W w.heap.size 0 (.slice none 0 0) 0 d h 0 false -> Calls Tryz.prog 97 #[.pointer (some ⟨w.heap.size,0,none⟩),.int .i64 1] W fun e w'=>e=.returned (.int .i64 h)/\W=w':=fun W hW=>by
  have:=start_any 1 W hW (by omega)
  rw [Nat.one_mul] at this;exact this
 clear hrd
 have hps:=fun (W:World)=>parsed_zero h (by omega) W
 have hcl:=fun (W:World) (hJ:JnAt W w.heap.size 0 (.slice none 0 0) 0 d h 0 false)=>cleaning_zero (k:=h) (by omega) W hJ
 have hpi:∀ W:World,Calls Tryz.prog 45 #[.int .i64 1] W fun e w'=>e=.returned (.tuple #[strV (putI 1),.int .i64 0])/\Ext W w':=fun W=>putInt_any 1 (by decide) (by decide) W
 have hfr:=fun (W:World) hG=>framing_any (putI 1) 0 W hG (by decide) (by decide)
 have hpl:(putI 1).length<=10:=putI_len 1
 replace hpi:=hid hpi
 replace hfr:=hid hfr
 have hsf:∀ (W:World) (Y:ByteArray),JnAt W w.heap.size 0 (.slice none 0 0) 0 d h 0 false -> 2<=Y.size -> Y.size<=1000 -> Calls Tryz.prog 101 #[.pointer (some ⟨w.heap.size,0,none⟩),.int .i64 0,.string Y] W fun e w'=>(∃ s b1 b2,e=.returned (.slice (some ⟨s,0,none⟩) 4 4) ∧
   w'.heap[s]?=some (.cells #[wrF b1,syF d,wrF b2,syF d] 29 (0,0))/\WrAt w' b1 w.heap.size (0+1) (Y.extract 1 Y.size)/\WrAt w' b2 w.heap.size 0 (Y.extract 0 1)/\(W.heap.size<=b1/\b1+2 < w'.heap.size/\W.heap.size<=b2/\b2+2 < w'.heap.size/\W.heap.size<=s/\s < w'.heap.size))/\Ext W w':=fun W Y hJ h1 h2=>safely_any 0 Y W hJ h1 h2 (by decide)
 obtain ⟨X,hX⟩:∃ X,strV (zeroS h)=.string X:=⟨_,rfl⟩
 rw [hX] at hrd0 hrd1 hps hcl
 have hdl:=hid (show d < w.heap.size/\db < w.heap.size/\vb < w.heap.size from ⟨lt_of_at hA.at_,lt_of_at hA.dur.at_,lt_of_at hA.vis.at_⟩)
 obtain ⟨N,hN⟩:∃ N,N=w.heap.size:=⟨_,rfl⟩
 rw [<- hN] at hcl hdl hst0 hst1 hsf
 replace hX:=hid hX
 replace hsf:=hid hsf
 replace hrd0:=hid hrd0
 replace hrd1:=hid hrd1
 replace hst0:=hid hst0
 replace hst1:=hid hst1
 replace hps:=hid hps
 replace hcl:=hid hcl
 replace hn:=hid hn
 replace hG:=hid hG
 have hx0:=allocs_ext (S:=fun _=>False) [.cells #[.int .i64 0,.slice none 0 0,.int .i64 0,.pointer (some ⟨d,0,none⟩),.int .i64 h,.int .i64 0,.bool false] 201,.cells #[.string ⟨#[]⟩,.string ⟨#[]⟩] 202] w
 have hg:=allocs_get [.cells #[.int .i64 0,.slice none 0 0,.int .i64 0,.pointer (some ⟨d,0,none⟩),.int .i64 h,.int .i64 0,.bool false] 201,.cells #[.string ⟨#[]⟩,.string ⟨#[]⟩] 202] w
 have hz:=allocs_size [.cells #[.int .i64 0,.slice none 0 0,.int .i64 0,.pointer (some ⟨d,0,none⟩),.int .i64 h,.int .i64 0,.bool false] 201,.cells #[.string ⟨#[]⟩,.string ⟨#[]⟩] 202] w
 have hJ0:=hg 0 (by simp)
 have hI0:=hg 1 (by simp)
 have hA0:=hA.ext hx0
 simp only [allocs,<- hN,Nat.add_zero,List.length_cons,List.length_nil] at hx0 hJ0 hI0 hz hA0
 clear hg
 replace hA:=hid hA
 go_enter Tryz.func59,Tryz.ntmps59
 go_wp2_with fail
 refine hs.out.mono ?_;rintro e w1 ⟨rfl,rfl⟩
 go_wp2_with fail
 refine hs.out.mono ?_;rintro e w1 ⟨rfl,rfl⟩
 go_wp2_with fail
 refine hs.out.mono ?_;rintro e w1 ⟨rfl,rfl⟩
 go_upto_region 7 with fail
 try simp only [World.size_alloc]
 simp only [<- hN]
 generalize ((w.alloc (.cells #[.int .i64 0,.slice none 0 0,.int .i64 0,.pointer (some ⟨d,0,none⟩),.int .i64 h,.int .i64 0,.bool false] 201)).alloc (.cells #[.string ⟨#[]⟩,.string ⟨#[]⟩] 202))=w2 at hx0 hJ0 hI0 hz hA0 ⊢
 replace hN:=hid hN
 replace hx0:=hid hx0
 replace hJ0:=hid hJ0
 replace hI0:=hid hI0
 replace hA0:=hid hA0
 clear hq hqw hn0 hn64
 go_wp2_with fail
 refine wp_loop_rounds 3 ?_
 rw [rounds_succ]
 go_upto_region 10 with fail
 try simp only [List.append_eq,List.cons_append,List.nil_append]
 refine wp_region_tree (.s (.q 0 (.q 1 (.q 2 (.q 4 (.q 5 (.q 6 (.q 7 (.c1 3 (.c1 8 (.q 9 (.q 10 (.q 11 (.q 12 (.q 13 .done))))))))))))))) (by as_aux_lemma=>kernel_rfl) (by as_aux_lemma=>kernel_rfl) (by as_aux_lemma=>kernel_rfl) (by decide) ?_
 have hv0:=hid (Mod.drew0 (fun _=>False) w2)
 refine wpTr_s (fun Wx=>Ext w2 Wx) (fun _ _=>trivial) hv0.out ?_
 generalize hWd:World.drew w2=V0 at hv0 ⊢
 iterate 7 (refine wpTr_q _ (by simp only [List.getD_cons_succ,List.getD_cons_zero];rfl) (by rfl) ?_ (fun w' hC=>?_) ?_;rotate_left;(have q_j:w'.cell? ⟨N,4,none⟩=some (.int .i64 h):=hC.cell (cellN hJ0.out 4) (fun h=>h);go_simp;try with_reducible rfl);try simp only [Act.put,sA,sZ,sS])
 refine wpTr_c1 _ (by simp only [List.getD_cons_succ,List.getD_cons_zero];rfl) ?_
 refine wpN_c (by rfl) (fun K hK=>?_)
 go_simp
 refine (hst0.out V0 (hv0.out.at hJ0.out (fun h=>h))).mono ?_;rintro e Wt ⟨rfl,rfl⟩
 refine hK.out _ _ hv0.out ?_
 clear hK K
 try simp only [Act.put,sA,sZ,sS]
 refine wpTr_c1 _ (by simp only [List.getD_cons_succ,List.getD_cons_zero];rfl) ?_
 refine wpN_c (by rfl) (fun K hK=>?_)
 go_simp
 refine (hrd0.out V0 (hA0.out.ext hv0.out)).mono ?_;rintro e Wt ⟨rfl,rfl⟩
 refine hK.out _ _ hv0.out ?_
 clear hK K
 try simp only [Act.put,sA,sZ,sS]
 iterate 5 (refine wpTr_q _ (by simp only [List.getD_cons_succ,List.getD_cons_zero];rfl) (by rfl) ?_ (fun w' hC=>?_) ?_;rotate_left;(have q_j:w'.cell? ⟨N,4,none⟩=some (.int .i64 h):=hC.cell (cellN hJ0.out 4) (fun h=>h);go_simp;try with_reducible rfl);try simp only [Act.put,sA,sZ,sS])
 refine wpTr_done ?_
 have hJa:=hid (hv0.out.at hJ0.out (fun h=>h))
 have hIa:=hid (hv0.out.at hI0.out (fun h=>h))
 have hAa:=hid (hA0.out.ext hv0.out)
 have hxa:=hid (hx0.out.trans hv0.out)
 have ca:V0.cell? ⟨N+1,0,none⟩=some (.string ⟨#[]⟩):=cellN hIa.out 0
 have za:=freeN hIa.out 0
 have hM:=(Mod.refl (Eq (N+1)) V0).setCell (a:=⟨N+1,0,none⟩) (fun _=>rfl) (.string X)
 have hJ1:=hid (hM.at hJa.out (by omega))
 have hI1:=hid (put_at' hIa.out 0 (.string X))
 have hA1:=hid (hAa.out.mod3 hM (by have:=hdl.out;omega))
 have hx1:=hid (hxa.out.then hM (fun k hk e=>by have:=hN.out;omega))
 clear hM hv0
 go_upto_region 14 with fail
 generalize V0.setCell ⟨N+1,0,none⟩ (.string X)=U0 at hJ1 hI1 hA1 hx1 ⊢
 clear ca za
 go_wp2_with fail
 rw [rounds_succ]
 go_upto_region 10 with fail
 try simp only [List.append_eq,List.cons_append,List.nil_append]
 refine wp_region_tree (.s (.q 0 (.q 1 (.q 2 (.q 4 (.q 5 (.q 6 (.q 7 (.c1 3 (.c1 8 (.q 9 (.q 10 (.q 11 (.q 12 (.q 13 .done))))))))))))))) (by as_aux_lemma=>kernel_rfl) (by as_aux_lemma=>kernel_rfl) (by as_aux_lemma=>kernel_rfl) (by decide) ?_
 have hv0:=hid (Mod.drew0 (fun _=>False) U0)
 refine wpTr_s (fun Wx=>Ext U0 Wx) (fun _ _=>trivial) hv0.out ?_
 generalize hWd:World.drew U0=Y0 at hv0 ⊢
 iterate 7 (refine wpTr_q _ (by simp only [List.getD_cons_succ,List.getD_cons_zero];rfl) (by rfl) ?_ (fun w' hC=>?_) ?_;rotate_left;(have q_j:w'.cell? ⟨N,4,none⟩=some (.int .i64 h):=hC.cell (cellN hJ1.out 4) (fun h=>h);go_simp;try with_reducible rfl);try simp only [Act.put,sA,sZ,sS])
 refine wpTr_c1 _ (by simp only [List.getD_cons_succ,List.getD_cons_zero];rfl) ?_
 refine wpN_c (by rfl) (fun K hK=>?_)
 go_simp
 refine (hst1.out Y0 (hv0.out.at hJ1.out (fun h=>h))).mono ?_;rintro e Wt ⟨rfl,rfl⟩
 refine hK.out _ _ hv0.out ?_
 clear hK K
 try simp only [Act.put,sA,sZ,sS]
 refine wpTr_c1 _ (by simp only [List.getD_cons_succ,List.getD_cons_zero];rfl) ?_
 refine wpN_c (by rfl) (fun K hK=>?_)
 go_simp
 refine (hrd1.out Y0 (hA1.out.ext hv0.out)).mono ?_;rintro e Wt ⟨rfl,rfl⟩
 refine hK.out _ _ hv0.out ?_
 clear hK K
 try simp only [Act.put,sA,sZ,sS]
 iterate 5 (refine wpTr_q _ (by simp only [List.getD_cons_succ,List.getD_cons_zero];rfl) (by rfl) ?_ (fun w' hC=>?_) ?_;rotate_left;(have q_j:w'.cell? ⟨N,4,none⟩=some (.int .i64 h):=hC.cell (cellN hJ1.out 4) (fun h=>h);go_simp;try with_reducible rfl);try simp only [Act.put,sA,sZ,sS])
 refine wpTr_done ?_
 have hJa:=hid (hv0.out.at hJ1.out (fun h=>h))
 have hIa:=hid (hv0.out.at hI1.out (fun h=>h))
 have hAa:=hid (hA1.out.ext hv0.out)
 have hxa:=hid (hx1.out.trans hv0.out)
 have ca:Y0.cell? ⟨N+1,1,none⟩=some (.string ⟨#[]⟩):=cellN hIa.out 1
 have za:=freeN hIa.out 1
 have hM:=(Mod.refl (Eq (N+1)) Y0).setCell (a:=⟨N+1,1,none⟩) (fun _=>rfl) (.string X)
 have hJ2:=hid (hM.at hJa.out (by omega))
 have hI2:=hid (put_at' hIa.out 1 (.string X))
 have hA2:=hid (hAa.out.mod3 hM (by have:=hdl.out;omega))
 have hx2:=hid (hxa.out.then hM (fun k hk e=>by have:=hN.out;omega))
 clear hM hv0
 go_upto_region 14 with fail
 generalize Y0.setCell ⟨N+1,1,none⟩ (.string X)=U1 at hJ2 hI2 hA2 hx2 ⊢
 clear ca za
 go_wp2_with fail
 rw [rounds_succ]
 go_upto_region 15 with fail
 have hM:=Mod.alloc (Mod.refl (fun _=>False) U1) (.cells #[.int .i64 0,.slice none 0 0,.int .i64 0,.int .i64 0,.slice none 0 0,.int .i64 0] 205)
 have hH0:=hid (heap_alloc_new U1 (.cells #[.int .i64 0,.slice none 0 0,.int .i64 0,.int .i64 0,.slice none 0 0,.int .i64 0] 205))
 have hJ2':=hid (hM.at hJ2.out (fun h=>h))
 have hI2':=hid (hM.at hI2.out (fun h=>h))
 have hA2':=hid (hA2.out.ext hM)
 have hx2':=hid (hx2.out.trans hM)
 have hTN:N+1 < U1.heap.size:=lt_of_at hI2.out
 clear hM
 go_upto_region 16 with fail
 generalize U1.heap.size=T at hH0 hTN ⊢
 generalize U1.alloc (.cells #[.int .i64 0,.slice none 0 0,.int .i64 0,.int .i64 0,.slice none 0 0,.int .i64 0] 205)=R0 at hH0 hJ2' hI2' hA2' hx2' ⊢
 have a0:R0.cell? ⟨N+1,0,none⟩=some (.string X):=cellN hI2'.out 0
 have a1:R0.cell? ⟨N+1,1,none⟩=some (.string X):=cellN hI2'.out 1
 have hix0:∀ W:World,(Instr.index 202 (.agg #[.string X,.string X]) (.int .i64 0)).run Tryz.prog W=.ok (.string X) W:=fun W=>by kernel_rfl
 have hix1:∀ W:World,(Instr.index 202 (.agg #[.string X,.string X]) (.int .i64 1)).run Tryz.prog W=.ok (.string X) W:=fun W=>by kernel_rfl
 go_wp2_with fail
 refine wp_loop_rounds 3 ?_
 rw [rounds_succ]
 clear a0 a1
 go_wp2_with fail
 refine (hps.out _).mono ?_;rintro e P0 ⟨rfl,hxn⟩
 have hM:=hxn.alloc (.cells #[.int .i64 0,.slice none 0 0,.int .i64 0] 199)
 have hF:=hid (heap_alloc_new P0 (.cells #[.int .i64 0,.slice none 0 0,.int .i64 0] 199))
 have hJn:=hid (hM.at hJ2'.out (fun h=>h))
 have hIn:=hid (hM.at hI2'.out (fun h=>h))
 have hAn:=hid (hA2'.out.ext hM)
 have hxn2:=hid (hx2'.out.trans hM)
 have hHn:=hid (hM.at hH0.out (fun h=>h))
 have hlt:T < P0.heap.size:=lt_of_at (hxn.at hH0.out (fun h=>h))
 clear hM hxn
 go_upto_region 20 with fail
 generalize P0.heap.size=F at hF hlt ⊢
 generalize P0.alloc (.cells #[.int .i64 0,.slice none 0 0,.int .i64 0] 199)=G0 at hF hJn hIn hAn hxn2 hHn ⊢
 have f0:G0.cell? ⟨F,0,none⟩=some (.int .i64 0):=cellN hF.out 0
 have f1:G0.cell? ⟨F,1,none⟩=some (.slice none 0 0):=cellN hF.out 1
 have f2:G0.cell? ⟨F,2,none⟩=some (.int .i64 0):=cellN hF.out 2
 have t0:G0.cell? ⟨T,0,none⟩=some (.int .i64 0):=cellN hHn.out 0
 have t1:G0.cell? ⟨T,1,none⟩=some (.slice none 0 0):=cellN hHn.out 1
 have t2:G0.cell? ⟨T,2,none⟩=some (.int .i64 0):=cellN hHn.out 2
 have z0:=freeN hHn.out 0
 have z1:=freeN hHn.out 1
 have z2:=freeN hHn.out 2
 have hH4:=hid (put_at' (put_at' (put_at' hHn.out 0 (.int .i64 0)) 1 (.slice none 0 0)) 2 (.int .i64 0))
 have hM2:=(((Mod.refl (Eq T) G0).setCell (a:=⟨T,0,none⟩) (fun _=>rfl) (.int .i64 0)).setCell (a:=⟨T,1,none⟩) (fun _=>rfl) (.slice none 0 0)).setCell (a:=⟨T,2,none⟩) (fun _=>rfl) (.int .i64 0)
 have hJ4:=hid (hM2.at hJn.out (by omega))
 have hI4:=hid (hM2.at hIn.out (by omega))
 have hA4:=hid (hAn.out.mod3 hM2 (by have:=hdl.out;omega))
 have hx4:=hid (hxn2.out.then hM2 (fun k hk e=>by have:=hN.out;omega))
 clear hM2 hHn hJn hIn hAn hxn2
 go_upto_region 23 with fail
 generalize ((G0.setCell ⟨T,0,none⟩ (.int .i64 0)).setCell ⟨T,1,none⟩ (.slice none 0 0)).setCell ⟨T,2,none⟩ (.int .i64 0)=R1 at hH4 hJ4 hI4 hA4 hx4 ⊢
 clear f0 f1 f2 t0 t1 t2 z0 z1 z2 hF hlt
 go_wp2_with fail
 rw [rounds_succ]
 go_wp2_with fail
 refine (hps.out _).mono ?_;rintro e P1 ⟨rfl,hxn⟩
 have hM:=hxn.alloc (.cells #[.int .i64 0,.slice none 0 0,.int .i64 0] 199)
 have hF:=hid (heap_alloc_new P1 (.cells #[.int .i64 0,.slice none 0 0,.int .i64 0] 199))
 have hJn:=hid (hM.at hJ4.out (fun h=>h))
 have hIn:=hid (hM.at hI4.out (fun h=>h))
 have hAn:=hid (hA4.out.ext hM)
 have hxn2:=hid (hx4.out.trans hM)
 have hHn:=hid (hM.at hH4.out (fun h=>h))
 have hlt:T < P1.heap.size:=lt_of_at (hxn.at hH4.out (fun h=>h))
 clear hM hxn
 go_upto_region 20 with fail
 generalize P1.heap.size=F at hF hlt ⊢
 generalize P1.alloc (.cells #[.int .i64 0,.slice none 0 0,.int .i64 0] 199)=G1 at hF hJn hIn hAn hxn2 hHn ⊢
 have f0:G1.cell? ⟨F,0,none⟩=some (.int .i64 0):=cellN hF.out 0
 have f1:G1.cell? ⟨F,1,none⟩=some (.slice none 0 0):=cellN hF.out 1
 have f2:G1.cell? ⟨F,2,none⟩=some (.int .i64 0):=cellN hF.out 2
 have t0:G1.cell? ⟨T,3,none⟩=some (.int .i64 0):=cellN hHn.out 3
 have t1:G1.cell? ⟨T,4,none⟩=some (.slice none 0 0):=cellN hHn.out 4
 have t2:G1.cell? ⟨T,5,none⟩=some (.int .i64 0):=cellN hHn.out 5
 have z0:=freeN hHn.out 3
 have z1:=freeN hHn.out 4
 have z2:=freeN hHn.out 5
 have hH5:=hid (put_at' (put_at' (put_at' hHn.out 3 (.int .i64 0)) 4 (.slice none 0 0)) 5 (.int .i64 0))
 have hM2:=(((Mod.refl (Eq T) G1).setCell (a:=⟨T,3,none⟩) (fun _=>rfl) (.int .i64 0)).setCell (a:=⟨T,4,none⟩) (fun _=>rfl) (.slice none 0 0)).setCell (a:=⟨T,5,none⟩) (fun _=>rfl) (.int .i64 0)
 have hJ5:=hid (hM2.at hJn.out (by omega))
 have hI5:=hid (hM2.at hIn.out (by omega))
 have hA5:=hid (hAn.out.mod3 hM2 (by have:=hdl.out;omega))
 have hx5:=hid (hxn2.out.then hM2 (fun k hk e=>by have:=hN.out;omega))
 clear hM2 hHn hJn hIn hAn hxn2
 go_upto_region 23 with fail
 generalize ((G1.setCell ⟨T,3,none⟩ (.int .i64 0)).setCell ⟨T,4,none⟩ (.slice none 0 0)).setCell ⟨T,5,none⟩ (.int .i64 0)=R2 at hH5 hJ5 hI5 hA5 hx5 ⊢
 clear f0 f1 f2 t0 t1 t2 z0 z1 z2 hF hlt
 go_wp2_with fail
 rw [rounds_succ]
 go_wp2_with fail
 try simp only [List.append_eq,List.cons_append,List.nil_append]
 refine wp_region_tree (.s (.q 0 (.q 1 (.q 2 (.q 3 (.q 4 (.q 5 (.q 6 (.q 7 .done))))))))) (by as_aux_lemma=>kernel_rfl) (by as_aux_lemma=>kernel_rfl) (by as_aux_lemma=>kernel_rfl) (by decide) ?_
 have hv0:=hid (Mod.drew0 (fun _=>False) R2)
 refine wpTr_s (fun Wx=>Ext R2 Wx) (fun _ _=>trivial) hv0.out ?_
 generalize hWd:World.drew R2=S0 at hv0 ⊢
 iterate 8 (refine wpTr_q _ (by simp only [List.getD_cons_succ,List.getD_cons_zero];rfl) (by rfl) ?_ (fun w' hC=>?_) ?_;rotate_left;(have q_0:w'.cell? ⟨T,0,none⟩=some (.int .i64 0):=hC.cell (cellN hH5.out 0) (fun h=>h);have q_3:w'.cell? ⟨T,3,none⟩=some (.int .i64 0):=hC.cell (cellN hH5.out 3) (fun h=>h);go_simp;try with_reducible rfl);try simp only [Act.put,sA,sZ,sS])
 refine wpTr_done ?_
 have hH6:=hid (hv0.out.at hH5.out (fun h=>h))
 have hJ6:=hid (hv0.out.at hJ5.out (fun h=>h))
 have hI6:=hid (hv0.out.at hI5.out (fun h=>h))
 have hA6:=hid (hA5.out.ext hv0.out)
 have hx6:=hid (hx5.out.trans hv0.out)
 clear hv0 hWd
 have t0:S0.cell? ⟨T,0,none⟩=some (.int .i64 0):=cellN hH6.out 0
 have t1:S0.cell? ⟨T,1,none⟩=some (.slice none 0 0):=cellN hH6.out 1
 have t2:S0.cell? ⟨T,2,none⟩=some (.int .i64 0):=cellN hH6.out 2
 have n0:S0.cell? ⟨N,0,none⟩=some (.int .i64 0):=cellN hJ6.out 0
 have n1:S0.cell? ⟨N,1,none⟩=some (.slice none 0 0):=cellN hJ6.out 1
 have n2:S0.cell? ⟨N,2,none⟩=some (.int .i64 0):=cellN hJ6.out 2
 have n5:S0.cell? ⟨N,5,none⟩=some (.int .i64 0):=cellN hJ6.out 5
 have z0:=freeN hJ6.out 0
 have z1:=freeN hJ6.out 1
 have z2:=freeN hJ6.out 2
 have hJ7:=hid (put_at' (put_at' (put_at' hJ6.out 0 (.int .i64 0)) 1 (.slice none 0 0)) 2 (.int .i64 0))
 have hM2:=(((Mod.refl (Eq N) S0).setCell (a:=⟨N,0,none⟩) (fun _=>rfl) (.int .i64 0)).setCell (a:=⟨N,1,none⟩) (fun _=>rfl) (.slice none 0 0)).setCell (a:=⟨N,2,none⟩) (fun _=>rfl) (.int .i64 0)
 have hI7:=hid (hM2.at hI6.out (by omega))
 have hA7:=hid (hA6.out.mod3 hM2 (by have:=hdl.out;omega))
 have hx7:=hid (hx6.out.then hM2 (fun k hk e=>by have:=hN.out;omega))
 clear hM2
 go_upto_region 30 with fail
 generalize ((S0.setCell ⟨N,0,none⟩ (.int .i64 0)).setCell ⟨N,1,none⟩ (.slice none 0 0)).setCell ⟨N,2,none⟩ (.int .i64 0)=S1 at hJ7 hI7 hA7 hx7 ⊢
 clear t0 t1 t2 n0 n1 n2 n5 z0 z1 z2 hH6 hJ6 hI6 hA6 hx6 hH5 hJ5 hI5 hA5 hx5
 have i0:S1.cell? ⟨N+1,0,none⟩=some (.string X):=cellN hI7.out 0
 have i1:S1.cell? ⟨N+1,1,none⟩=some (.string X):=cellN hI7.out 1
 go_wp2_with fail
 refine (hcl.out _ hJ7.out).mono ?_;rintro e S2 ⟨rfl,hxn⟩
 have hJ8:=hid (hxn.at hJ7.out (fun h=>h))
 have hA8:=hid (hA7.out.ext hxn)
 have hx8:=hid (hx7.out.trans hxn)
 clear hxn i0 i1 hI7 hJ7 hA7 hx7
 have n0:S2.cell? ⟨N,0,none⟩=some (.int .i64 0):=cellN hJ8.out 0
 go_wp2_with fail
 refine (hpi.out _).mono ?_;rintro e S3 ⟨rfl,hxn⟩
 have hJ9:=hid (hxn.at hJ8.out (fun h=>h))
 have hA9:=hid (hA8.out.ext hxn)
 have hx9:=hid (hx8.out.trans hxn)
 clear hxn hJ8 hA8 hx8 n0
 go_wp2_with fail
 refine (hfr.out S3 (hG.out.ext hx9.out)).mono ?_;rintro e S4 ⟨⟨u,rfl,hu1,hu2⟩,hxn⟩
 have hJ10:=hid (hxn.at hJ9.out (fun h=>h))
 have hA10:=hid (hA9.out.ext hxn)
 have hx10:=hid (hx9.out.trans hxn)
 clear hxn hJ9 hA9 hx9
 obtain ⟨Y,hY⟩:∃ Y:ByteArray,Y=⟨u.toArray⟩:=⟨_,rfl⟩
 have hYs:Y.size=u.length:=by rw [hY];rfl
 rw [show strV u=.string Y by rw [hY];rfl]
 have hY2:2<=Y.size/\Y.size<=30:=by omega
 clear hYs hY hu1 hu2
 go_wp2_with fail
 refine (hsf.out S4 Y hJ10.out hY2.1 (by omega)).mono ?_;rintro e S5 ⟨⟨s,b1,b2,rfl,hsr,hw1,hw2,hbd⟩,hxn⟩
 have hJ11:=hid (hxn.at hJ10.out (fun h=>h))
 have hA11:=hid (hA10.out.ext hxn)
 have hx11:=hid (hx10.out.trans hxn)
 have hNs:N < S4.heap.size:=lt_of_at hJ10.out
 clear hxn hJ10 hA10 hx10
 replace hsr:=hid hsr
 replace hw1:=hid hw1
 replace hw2:=hid hw2
 go_wp2_with (at_builtin;refine wpList_app rfl _ _ 208 rfl Tryz.underlying208 elFn rfl (Own.nil S5 S5.heap.size _ 1 fnC) (some ⟨s,0,none⟩) 4 4 rfl [wrF b1,syF d,wrF b2,syF d] rfl (row_of hsr.out) fnC_len (fun y hy u hu=>fn_one hy hu) (by simp) (by omega) (fun e=>nomatch e) ?_)
 intro v' S6 H
 obtain ⟨hO,hM⟩:=H.out
 obtain ⟨-,⟨-,he⟩ | ⟨g,cap,C,rfl,hg1,hg2,hc1,hc2,hc3,hc4⟩⟩:=hO
 ·simp at he
 have hE:Ext S5 S6:=hM.mono (fun k hk=>nomatch hk)
 have hJ12:=hid (hE.at hJ11.out (fun h=>h))
 have hA12:=hid (hA11.out.ext hE)
 have hx12:=hid (hx11.out.trans hE)
 have hv1:=hid (hw1.out.mod hE ⟨fun h=>h,fun h=>h,fun h=>h⟩)
 have hv2:=hid (hw2.out.mod hE ⟨fun h=>h,fun h=>h,fun h=>h⟩)
 have hE5:S5.heap.size<=S6.heap.size:=hE.size
 have hgl:g < S6.heap.size:=lt_of_at hg2
 have h4:[wrF b1,syF d,wrF b2,syF d].length=4:=rfl
 rw [h4]
 replace hg2:=hid hg2
 replace hc4:=hid hc4
 clear H hM hE hJ11 hA11 hx11 hw1 hw2 hsr
 have n0:S6.cell? ⟨N,0,none⟩=some (.int .i64 0):=cellN hJ12.out 0
 have n1:S6.cell? ⟨N,1,none⟩=some (.slice none 0 0):=cellN hJ12.out 1
 have n2:S6.cell? ⟨N,2,none⟩=some (.int .i64 0):=cellN hJ12.out 2
 have z0:=freeN hJ12.out 0
 have z1:=freeN hJ12.out 1
 have z2:=freeN hJ12.out 2
 have hJ13:=hid (put_at' (put_at' (put_at' hJ12.out 0 (.int .i64 1)) 1 (.slice none 0 0)) 2 (.int .i64 Y.size))
 have hM2:=(((Mod.refl (Eq N) S6).setCell (a:=⟨N,0,none⟩) (fun _=>rfl) (.int .i64 1)).setCell (a:=⟨N,1,none⟩) (fun _=>rfl) (.slice none 0 0)).setCell (a:=⟨N,2,none⟩) (fun _=>rfl) (.int .i64 Y.size)
 have hA13:=hid (hA12.out.mod3 hM2 (by have:=hdl.out;omega))
 have hx13:=hid (hx12.out.then hM2 (fun k hk e=>by have:=hN.out;omega))
 have hv3:=hid (hv1.out.mod hM2 (by omega))
 have hv4:=hid (hv2.out.mod hM2 (by omega))
 have hg3:=hid (hM2.at hg2.out (by omega))
 have hz6:=hM2.size
 clear hM2
 go_upto_region 35 with fail
 generalize ((S6.setCell ⟨N,0,none⟩ (.int .i64 1)).setCell ⟨N,1,none⟩ (.slice none 0 0)).setCell ⟨N,2,none⟩ (.int .i64 Y.size)=S7 at hJ13 hA13 hx13 hv3 hv4 hg3 hz6 ⊢
 clear n0 n1 n2 z0 z1 z2 hJ12 hA12 hx12 hv1 hv2 hg2
 have hD:DiskP S7.heap.size S7 d db vb n []:=DiskP.of hA13.out (Own.nil _ _ _ _ _) (by have:=hdl.out;omega) (by have:=hn.out;omega) (Nat.le_refl _)
 have hrn:=hid (run4_any (cap:=cap) S7 hJ13.out C hg3.out (by simpa [fnC] using hc4.out) hv3.out hv4.out hD (by have h1:=hn.out;have h2:=extract_size Y;omega) (by have h1:=hn.out;have h2:=extract_size1 Y;omega) (by have:=hdl.out;omega))
 clear hD
 go_wp2_with fail
 refine hrn.out.mono ?_;rintro e S8 ⟨rfl,hmr⟩
 have hJ14:=hid (hmr.at hJ13.out (by have:=hdl.out;omega))
 have hfin:Mod (fun k=>k=d \/ k=db \/ k=vb) w S8:=(hx13.out.mono (fun _ h=>h.elim)).trans hmr
 clear hmr
 go_wp2_with fail
 go_ret2
 exact ⟨⟨N,_,rfl,hJ14.out,by have:=hN.out;omega⟩,hfin⟩
end Go.Proofs.YtcopgcdhkgenkaaGreatDoor
