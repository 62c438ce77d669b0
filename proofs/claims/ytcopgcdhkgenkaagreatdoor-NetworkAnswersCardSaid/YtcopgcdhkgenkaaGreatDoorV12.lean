import Derived.Test.YtcopgcdhkgenkaaGreatDoorP6
import Derived.Shelf.SlIter.Nil
import Derived.Shelf.SortM.Plain
import Derived.Shelf.SortM.SortNone
set_option linter.all false
set_option maxRecDepth 100000
set_option maxHeartbeats 16000000
namespace Go.Proofs.YtcopgcdhkgenkaaGreatDoor
open Go.Shelf Go.RowKit Cdk Scr
def rdC (r:ByteArray × Int):List Value:=[.string r.1,.int .i64 r.2]
def RenderSpec:Prop:=∀ k,(k=1 \/ k=6) -> ∀ (a1 a2:Option Addr) (w:World),Gl w -> Calls Tryz.prog 172 #[stV a1 a2 0 0,.string (adrS k)] w fun e w'=>
 (∃ tx v rs,e=.returned (.tuple #[.agg #[.string (adrS k),.string tx,v],.int .i64 0])/\RowAt (fun j=>w.heap.size<=j) w' rdC v rs/\(1<=rs.length/\rs.length<=12))/\Ext w w'
def StepP (lo b:Nat) (w:World) (e:Ending) (w':World):Prop:=(∃ g,e=.returned (.slice (some ⟨g,0,none⟩) 2 2))/\(∃ k last tx1 v1 rs1 tx2 v2 rs2,BldrAt w' b k (.pointer none) last ∧
 MapAt w' Value.string k (upd (upd ([]:List (ByteArray × Value)) (adrS 1) (.agg #[.string (adrS 1),.string tx1,v1])) (adrS 6) (.agg #[.string (adrS 6),.string tx2,v2]))/\RowAt (fun j=>k < j) w' rdC v1 rs1/\(1<=rs1.length/\rs1.length<=12)/\RowAt (fun j=>k < j) w' rdC v2 rs2/\(1<=rs2.length/\rs2.length<=12)/\lo<=k)/\Cdk.Mod (fun j=>j=b \/ lo<=j) w w'
theorem step_any (hR:RenderSpec) (lo b M:Nat) (w:World) (hG:Gl w) (h12:12<=lo) (h12b:12<=b) (hbl:b < lo) (hlw:lo<=w.heap.size) (hB:BusyAt w lo b M):
  Calls Tryz.prog 116 #[.pointer (some ⟨b,0,none⟩),.int .i64 16] w (StepP lo b w):=by
 obtain ⟨J,k,rb,ro,rc,st,a1,a2,hBl,hJ,hM,e0,e1,hS,h1,h2,h3,h4,hc1,hc2⟩:=hB;have hcap:=hid (And.intro hc1 hc2);clear hc1 hc2;have nbJ:Hid (b ≠ J):=hid (by omega);have b0:=hid (show w.cell? ⟨b,0,none⟩=some (.pointer (some ⟨J,0,none⟩)) from cellN hBl 0);have j2:=hid (show w.cell? ⟨J,2,none⟩=some (.slice (some ⟨rb,ro,none⟩) 2 rc) from cellN hJ 2);have b0':=b0.out;obtain ⟨X,hX⟩:∃ X,X=adrS 1:=⟨_,rfl⟩;obtain ⟨Y,hY⟩:∃ Y,Y=adrS 6:=⟨_,rfl⟩;change w.cell? ⟨rb,ro,none⟩=some (.string (adrS 1)) at e0;change w.cell? ⟨rb,ro+1,none⟩=some (.string (adrS 6)) at e1;rw [<- hX] at e0;rw [<- hY] at e1;have hr1:=hid (fun W (h:Gl W)=>hR 1 (.inl rfl) a1 a2 W h);have hr6:=hid (fun W (h:Gl W)=>hR 6 (.inr rfl) a1 a2 W h);unfold stV at hr1 hr6;rw [<- hX] at hr1;rw [<- hY] at hr6;obtain ⟨P,hP⟩:∃ P,P=StepP lo b w:=⟨_,rfl⟩;have hPd:∀ e w',P e w'=StepP lo b w e w':=fun e w'=>by rw [hP]
 unfold StepP at hPd;rw [<- hX,<- hY] at hPd;rw [<- hP];replace hPd:=hid hPd;replace hP:=hid hP;replace hX:=hid hX;replace hY:=hid hY;have hmin:min (16:Int) 2=2:=by decide
 have hcp:=hid (fun W (hx:Ext w W)=>copyS_any rb ro rc X Y W (hx.cell e0 (fun h=>h)) (hx.cell e1 (fun h=>h)));replace hBl:=hid hBl;replace hJ:=hid hJ;replace hM:=hid hM;replace hS:=hid hS;replace e0:=hid e0;replace e1:=hid e1;go_enter Tryz.func116,Tryz.ntmps116;go_upto_region 3 with fail
 clear b0';go_upto_region 3 with fail
 try simp only [List.append_eq,List.cons_append,List.nil_append]
 refine wp_region_tree (.s (.q 0 (.q 1 (.q 2 (.q 3 (.q 4 (.q 5 (.q 6 (.q 7 (.q 8 (.q 9 (.q 10 (.q 11 (.q 12 (.q 13 (.q 14 (.q 15 (.q 16 (.q 17 (.c1 18 (.q 19 .done))))))))))))))))))))) (by as_aux_lemma=>kernel_rfl) (by as_aux_lemma=>kernel_rfl) (by as_aux_lemma=>kernel_rfl) (by decide) ?_;have hv0:=hid (Mod.drew0 (fun _=>False) w);refine wpTr_s (fun Wx=>Ext w Wx) (fun _ _=>trivial) hv0.out ?_;generalize hWd:World.drew w=V0 at hv0 ⊢
 iterate 18 (refine wpTr_q _ (by simp only [List.getD_cons_succ,List.getD_cons_zero];rfl) (by rfl) ?_ (fun w' hC=>?_) ?_;rotate_left;(have q0:w'.cell? ⟨b,0,none⟩=some (.pointer (some ⟨J,0,none⟩)):=hC.cell b0.out (fun h=>h);have q3:w'.cell? ⟨J,2,none⟩=some (.slice (some ⟨rb,ro,none⟩) 2 rc):=hC.cell j2.out (fun h=>h);have m1:=hmin;have m2:(2:Int)<=(rc:Int):=(by have:=hcap.out.1;omega);go_simp;first | done | with_reducible rfl | exact rfl);try simp only [Act.put,sA,sZ,sS])
 refine wpTr_c1 _ (by simp only [List.getD_cons_succ,List.getD_cons_zero];rfl) ?_;refine wpN_c (by rfl) (fun K hK=>?_);go_simp;refine (hcp.out V0 hv0.out).mono ?_;rintro e V1 ⟨⟨g,rfl,g0,g1,hgw⟩,hxn⟩;have hv1:=hid (hv0.out.trans hxn);refine hK.out _ _ hv1.out ?_;have hgW:w.heap.size<=g:=Nat.le_trans hv0.out.size hgw;clear hxn hgw;replace g0:=hid g0;replace g1:=hid g1;clear hK K;try simp only [Act.put,sA,sZ,sS]
 refine wpTr_q _ (by simp only [List.getD_cons_succ,List.getD_cons_zero];rfl) (by rfl) ?_ (fun w' hC=>?_) ?_;rotate_left;(have q0:w'.cell? ⟨b,0,none⟩=some (.pointer (some ⟨J,0,none⟩)):=hC.cell b0.out (fun h=>h);have q3:w'.cell? ⟨J,2,none⟩=some (.slice (some ⟨rb,ro,none⟩) 2 rc):=hC.cell j2.out (fun h=>h);have m1:=hmin;have m2:(2:Int)<=(rc:Int):=(by have:=hcap.out.1;omega);go_simp;first | done | with_reducible rfl | exact rfl);try simp only [Act.put,sA,sZ,sS]
 refine wpTr_done ?_;generalize V1=w2 at hv1 g0 g1 ⊢;clear hv0;have b2:=hid (hv1.out.cell b0.out (fun h=>h));have j2b:=hid (hv1.out.cell j2.out (fun h=>h));have hJb:=hid (hv1.out.at hJ.out (fun h=>h));go_upto_region 4 with fail
 try simp only [List.append_eq,List.cons_append,List.nil_append]
 refine wp_region_tree (.s (.q 0 (.q 1 (.q 2 (.q 3 (.q 4 (.q 5 (.q 6 (.q 7 (.q 8 (.q 9 (.q 11 (.q 12 (.c1 10 (.q 13 (.q 14 (.q 15 (.c1 16 .done)))))))))))))))))) (by as_aux_lemma=>kernel_rfl) (by as_aux_lemma=>kernel_rfl) (by as_aux_lemma=>kernel_rfl) (by decide) ?_;have k2:=hid (show (World.drew w2).cell? ⟨J,2,none⟩=some (.slice (some ⟨rb,ro,none⟩) 2 rc) from j2b.out);have hJ2:=hid (show (World.drew w2).heap[J]?=some (.cells #[.pointer (some ⟨st,0,none⟩),.map (some k),.slice (some ⟨rb,ro,none⟩) 2 rc] 338 (0,0)) from hJb.out);have hu0:=hid (Mod.drew0 (Eq J) w2);refine wpTr_s (fun Wx=>Cdk.Mod (Eq J) w2 Wx) (fun _ _=>trivial) hu0.out ?_;generalize hWd:World.drew w2=U0 at hu0 k2 hJ2 ⊢
 iterate 12 (refine wpTr_q _ (by simp only [List.getD_cons_succ,List.getD_cons_zero];rfl) (by rfl) ?_ (fun w' hC=>?_) ?_;rotate_left;(have q0:w'.cell? ⟨b,0,none⟩=some (.pointer (some ⟨J,0,none⟩)):=hC.cell b2.out (fun e=>nbJ.out e.symm);have m2:(2:Int)<=(rc:Int):=(by have:=hcap.out.1;omega);go_simp;first | done | with_reducible rfl | exact rfl);try simp only [Act.put,sA,sZ,sS])
 refine wpTr_c1 _ (by simp only [List.getD_cons_succ,List.getD_cons_zero];rfl) ?_;refine wpN_c (by rfl) (fun K hK=>?_);have q3:U0.cell? ⟨J,2,none⟩=some (.slice (some ⟨rb,ro,none⟩) 2 rc):=k2.out;go_simp;refine hK.out _ _ hu0.out ?_;clear q3;clear hK K;try simp only [Act.put,sA,sZ,sS]
 iterate 3 (refine wpTr_q _ (by simp only [List.getD_cons_succ,List.getD_cons_zero];rfl) (by rfl) ?_ (fun w' hC=>?_) ?_;rotate_left;(have q0:w'.cell? ⟨b,0,none⟩=some (.pointer (some ⟨J,0,none⟩)):=hC.cell b2.out (fun e=>nbJ.out e.symm);have m2:(2:Int)<=(rc:Int):=(by have:=hcap.out.1;omega);go_simp;first | done | with_reducible rfl | exact rfl);try simp only [Act.put,sA,sZ,sS])
 refine wpTr_c1 _ (by simp only [List.getD_cons_succ,List.getD_cons_zero];rfl) ?_;refine wpN_c (by rfl) (fun K hK=>?_);refine wp_storeM 40 _ _ rfl J 2 #[.pointer (some ⟨st,0,none⟩),.map (some k),.slice (some ⟨rb,ro,none⟩) 2 rc] (.slice (if rc=2 then some ⟨rb,ro,none⟩ else some ⟨rb,ro+2,none⟩) 0 (rc - 2)) _ rfl rfl hJ2.out (by show 2+1<=3;omega) (by kernel_rfl) rfl (fun w3 hn hmn=>?_);refine hK.out _ _ (hu0.out.trans hmn) ?_;replace hn:=hid hn;have hm3:=hid (hu0.out.trans hmn);clear hmn;clear hK K;try simp only [Act.put,sA,sZ,sS]
 refine wpTr_done ?_;clear hu0;obtain ⟨RS,hRS⟩:∃ RS,RS=(if rc=2 then some (⟨rb,ro,none⟩:Addr) else some ⟨rb,ro+2,none⟩):=⟨_,rfl⟩;rw [<- hRS] at hn ⊢;have nbk:Hid (b ≠ k):=hid (by omega);have hbk:Hid (b < k):=hid (by omega);have nJk:Hid (J ≠ k):=hid (by omega);have nsk:Hid (st ≠ k):=hid (by omega);have hlk:Hid (lo<=k):=hid (by omega);have hlo:Hid (12<=b/\12<=lo):=hid (And.intro h12b h12);have hkw:k < w.heap.size:=hM.out.lt;have ngk:Hid (k < g):=hid (by omega);have hb_w3:=hid (hm3.out.at (hv1.out.at hBl.out (fun h=>h)) (fun e=>nbJ.out e.symm));have hj_w3:Hid (JobAt w3 J st k (.slice RS 0 (rc - 2))):=hn;have hs_w3:=hid (hm3.out.at (hv1.out.at hS.out (fun h=>h)) (by omega));have hm_w3:=hid ((hM.out.mod hv1.out (fun h=>h)).mod hm3.out (by omega));have g0_w3:=hid (hm3.out.cell g0.out (fun e=>by have e:J=g:=e;omega));have g1_w3:=hid (hm3.out.cell g1.out (fun e=>by have e:J=g:=e;omega));have mo_w3:Hid (Cdk.Mod (fun j=>j=b \/ lo<=j) w w3):=hid ((hv1.out.mono (T:=fun j=>j=b \/ lo<=j) (fun _ h=>h.elim)).then hm3.out (fun j hj e=>.inr (by omega)));replace hRS:=hid hRS;clear hn hm3 hv1 g0 g1 b2 j2b hJb b0 j2 hBl hJ hM hS e0 e1 k2 hJ2 hcp;go_wp2_with fail
 refine wp_loop_rounds 3 ?_;rw [rounds_succ];have a0:w3.cell? ⟨b,0,none⟩=some (.pointer (some ⟨J,0,none⟩)):=cellN hb_w3.out 0;have aj:w3.cell? ⟨J,0,none⟩=some (.pointer (some ⟨st,0,none⟩)):=cellN hj_w3.out 0;have as0:w3.cell? ⟨st,0,none⟩=some (.slice a1 0 0):=cellN hs_w3.out 0;have as1:w3.cell? ⟨st,1,none⟩=some (.slice a2 0 0):=cellN hs_w3.out 1;have ag0:w3.cell? ⟨g,0,none⟩=some (.string X):=g0_w3.out;have hGw:=hid (hG.mod mo_w3.out (fun j e=>by have:=hlo.out;omega));go_wp2_with fail
 refine (hr1.out w3 hGw.out).mono ?_;rintro e wr1 ⟨⟨tx1,v1,rs1,rfl,hv,hrl1⟩,hx⟩;have hkW:k < w3.heap.size:=hm_w3.out.lt;have hvk:=hv.mono (F':=fun j=>k < j) (fun j h=>by have h:w3.heap.size<=j:=h;omega);obtain ⟨vo1,vc1,rfl⟩:=hv.slice;obtain ⟨pg1,hpg1⟩:∃ p,p=wr1.heap.size:=⟨_,rfl⟩;have hxp:=hx.alloc (.cells #[.string X,.string tx1,.slice vo1 rs1.length vc1] 335);have hxq:=Mod.alloc (Mod.refl (fun _=>False) wr1) (.cells #[.string X,.string tx1,.slice vo1 rs1.length vc1] 335);have hpa:=heap_alloc_new wr1 (.cells #[.string X,.string tx1,.slice vo1 rs1.length vc1] 335);rw [<- hpg1] at hpa;have nk1:Hid (k ≠ pg1):=hid (by have:=hx.size;omega);have pp1:=hid (show (wr1.alloc (.cells #[.string X,.string tx1,.slice vo1 rs1.length vc1] 335)).cell? ⟨pg1,0,none⟩=some (.string X) from cellN hpa 0);have pq1:=hid (show (wr1.alloc (.cells #[.string X,.string tx1,.slice vo1 rs1.length vc1] 335)).cell? ⟨pg1,1,none⟩=some (.string tx1) from cellN hpa 1);have pr1:=hid (show (wr1.alloc (.cells #[.string X,.string tx1,.slice vo1 rs1.length vc1] 335)).cell? ⟨pg1,2,none⟩=some (.slice vo1 rs1.length vc1) from cellN hpa 2);have pV1:=hid (hvk.mod hxq (fun _ _ h=>h));have pb1:=hid (hxp.cell a0 (fun h=>h));have pB1:=hid (hxp.at hb_w3.out (fun h=>h));have pJ1:=hid (hxp.at hj_w3.out (fun h=>h));have pS1:=hid (hxp.at hs_w3.out (fun h=>h));have pj1:=hid (show (wr1.alloc (.cells #[.string X,.string tx1,.slice vo1 rs1.length vc1] 335)).cell? ⟨J,1,none⟩=some (.map (some k)) from cellN pJ1.out 1);have pg10:=hid (hxp.cell g0_w3.out (fun h=>h));have pg11:=hid (hxp.cell g1_w3.out (fun h=>h));have pM1:=hid (mo_w3.out.then hxp (fun _ _ h=>h.elim));have pmm1:=hid (hm_w3.out.mod hxp (fun h=>h));replace hpg1:=hid hpg1;clear hx hxp hxq hpa hv hvk a0 aj as0 as1 ag0 hkW hb_w3 hj_w3 hs_w3 hm_w3 g0_w3 g1_w3 mo_w3 hGw;go_upto_region 10 with fail
 try simp only [<- hpg1.out]
 generalize wr1.alloc (.cells #[.string X,.string tx1,.slice vo1 rs1.length vc1] 335)=wp1 at pp1 pq1 pr1 pV1 pb1 pB1 pJ1 pS1 pj1 pg10 pg11 pM1 pmm1 ⊢;try simp only [List.append_eq,List.cons_append,List.nil_append]
 refine wp_region_tree (.s (.q 0 (.q 1 (.q 2 (.q 3 (.q 4 (.q 5 (.q 6 (.q 7 (.q 8 (.c1 9 .done))))))))))) (by as_aux_lemma=>kernel_rfl) (by as_aux_lemma=>kernel_rfl) (by as_aux_lemma=>kernel_rfl) (by decide) ?_;have hmu1:Hid (MapAt (World.drew wp1) Value.string k ([]:List (ByteArray × Value))):=pmm1;have ht10:=hid (Mod.drew0 (Eq k) wp1);refine wpTr_s (fun Wx=>Cdk.Mod (Eq k) wp1 Wx) (fun _ _=>trivial) ht10.out ?_;generalize hWd:World.drew wp1=T1 at ht10 hmu1 ⊢
 iterate 9 (refine wpTr_q _ (by simp only [List.getD_cons_succ,List.getD_cons_zero];rfl) (by rfl) ?_ (fun w' hC=>?_) ?_;rotate_left;(have q0:w'.cell? ⟨b,0,none⟩=some (.pointer (some ⟨J,0,none⟩)):=hC.cell pb1.out (fun e=>nbk.out e.symm);have q1:w'.cell? ⟨J,1,none⟩=some (.map (some k)):=hC.cell pj1.out (fun e=>nJk.out e.symm);have q2:w'.cell? ⟨pg1,0,none⟩=some (.string X):=hC.cell pp1.out (fun e=>nk1.out e);have q3:w'.cell? ⟨pg1,1,none⟩=some (.string tx1):=hC.cell pq1.out (fun e=>nk1.out e);have q4:w'.cell? ⟨pg1,2,none⟩=some (.slice vo1 rs1.length vc1):=hC.cell pr1.out (fun e=>nk1.out e);go_simp;first | done | with_reducible rfl | exact rfl);try simp only [Act.put,sA,sZ,sS])
 refine wpTr_c1 _ (by simp only [List.getD_cons_succ,List.getD_cons_zero];rfl) ?_;refine wpN_c (by rfl) (fun K hK=>?_);refine wp_updateM _ _ _ 243 _ rfl (keyOk_string Tryz.underlying9) Tryz.underlying243 hmu1.out X (.agg #[.string X,.string tx1,.slice vo1 rs1.length vc1]) rfl rfl rfl (fun w4 hU hMU=>?_);have hz19:=hid (ht10.out.trans hMU);refine hK.out _ _ hz19.out ?_;replace hU:=hid hU;clear hK K;try simp only [Act.put,sA,sZ,sS]
 refine wpTr_done ?_;have hb_w4:=hid (hz19.out.at pB1.out (fun e=>nbk.out e.symm));have hj_w4:=hid (hz19.out.at pJ1.out (fun e=>nJk.out e.symm));have hs_w4:=hid (hz19.out.at pS1.out (fun e=>nsk.out e.symm));have g0_w4:=hid (hz19.out.cell pg10.out (fun e=>by have:=ngk.out;have e:k=g:=e;omega));have g1_w4:=hid (hz19.out.cell pg11.out (fun e=>by have:=ngk.out;have e:k=g:=e;omega));have mo_w4:=hid (pM1.out.then hz19.out (fun j hj e=>.inr (by have:=hlk.out;omega)));have vr1:=hid (pV1.out.mod hz19.out (fun j hj e=>by have hj:k < j:=hj;omega));have hm_w4:=hU;clear hU hMU hz19 ht10 pb1 pj1 pp1 pq1 pr1 pB1 pJ1 pS1 pg10 pg11 pM1 pV1 hmu1;go_wp2_with fail
 rw [rounds_succ];have a0:w4.cell? ⟨b,0,none⟩=some (.pointer (some ⟨J,0,none⟩)):=cellN hb_w4.out 0;have aj:w4.cell? ⟨J,0,none⟩=some (.pointer (some ⟨st,0,none⟩)):=cellN hj_w4.out 0;have as0:w4.cell? ⟨st,0,none⟩=some (.slice a1 0 0):=cellN hs_w4.out 0;have as1:w4.cell? ⟨st,1,none⟩=some (.slice a2 0 0):=cellN hs_w4.out 1;have ag0:w4.cell? ⟨g,1,none⟩=some (.string Y):=g1_w4.out;have hGw:=hid (hG.mod mo_w4.out (fun j e=>by have:=hlo.out;omega));go_wp2_with fail
 refine (hr6.out w4 hGw.out).mono ?_;rintro e wr2 ⟨⟨tx2,v2,rs2,rfl,hv,hrl2⟩,hx⟩;have hkW:k < w4.heap.size:=hm_w4.out.lt;have hvk:=hv.mono (F':=fun j=>k < j) (fun j h=>by have h:w4.heap.size<=j:=h;omega);obtain ⟨vo2,vc2,rfl⟩:=hv.slice;obtain ⟨pg2,hpg2⟩:∃ p,p=wr2.heap.size:=⟨_,rfl⟩;have hxp:=hx.alloc (.cells #[.string Y,.string tx2,.slice vo2 rs2.length vc2] 335);have hxq:=Mod.alloc (Mod.refl (fun _=>False) wr2) (.cells #[.string Y,.string tx2,.slice vo2 rs2.length vc2] 335);have hpa:=heap_alloc_new wr2 (.cells #[.string Y,.string tx2,.slice vo2 rs2.length vc2] 335);rw [<- hpg2] at hpa;have nk2:Hid (k ≠ pg2):=hid (by have:=hx.size;omega);have pp2:=hid (show (wr2.alloc (.cells #[.string Y,.string tx2,.slice vo2 rs2.length vc2] 335)).cell? ⟨pg2,0,none⟩=some (.string Y) from cellN hpa 0);have pq2:=hid (show (wr2.alloc (.cells #[.string Y,.string tx2,.slice vo2 rs2.length vc2] 335)).cell? ⟨pg2,1,none⟩=some (.string tx2) from cellN hpa 1);have pr2:=hid (show (wr2.alloc (.cells #[.string Y,.string tx2,.slice vo2 rs2.length vc2] 335)).cell? ⟨pg2,2,none⟩=some (.slice vo2 rs2.length vc2) from cellN hpa 2);have pV2:=hid (hvk.mod hxq (fun _ _ h=>h));have pb2:=hid (hxp.cell a0 (fun h=>h));have pB2:=hid (hxp.at hb_w4.out (fun h=>h));have pJ2:=hid (hxp.at hj_w4.out (fun h=>h));have pS2:=hid (hxp.at hs_w4.out (fun h=>h));have pj2:=hid (show (wr2.alloc (.cells #[.string Y,.string tx2,.slice vo2 rs2.length vc2] 335)).cell? ⟨J,1,none⟩=some (.map (some k)) from cellN pJ2.out 1);have pg20:=hid (hxp.cell g0_w4.out (fun h=>h));have pg21:=hid (hxp.cell g1_w4.out (fun h=>h));have pM2:=hid (mo_w4.out.then hxp (fun _ _ h=>h.elim));have pmm2:=hid (hm_w4.out.mod hxp (fun h=>h));have pV1b:=hid (vr1.out.ext hxp);replace hpg2:=hid hpg2;clear hx hxp hxq hpa hv hvk a0 aj as0 as1 ag0 hkW hb_w4 hj_w4 hs_w4 hm_w4 g0_w4 g1_w4 mo_w4 hGw vr1;go_upto_region 10 with fail
 try simp only [<- hpg2.out]
 generalize wr2.alloc (.cells #[.string Y,.string tx2,.slice vo2 rs2.length vc2] 335)=wp2 at pp2 pq2 pr2 pV2 pb2 pB2 pJ2 pS2 pj2 pg20 pg21 pM2 pmm2 pV1b ⊢;try simp only [List.append_eq,List.cons_append,List.nil_append]
 refine wp_region_tree (.s (.q 0 (.q 1 (.q 2 (.q 3 (.q 4 (.q 5 (.q 6 (.q 7 (.q 8 (.c1 9 .done))))))))))) (by as_aux_lemma=>kernel_rfl) (by as_aux_lemma=>kernel_rfl) (by as_aux_lemma=>kernel_rfl) (by decide) ?_;have hmu2:Hid (MapAt (World.drew wp2) Value.string k (upd ([]:List (ByteArray × Value)) X (.agg #[.string X,.string tx1,.slice vo1 rs1.length vc1]))):=pmm2;have ht20:=hid (Mod.drew0 (Eq k) wp2);refine wpTr_s (fun Wx=>Cdk.Mod (Eq k) wp2 Wx) (fun _ _=>trivial) ht20.out ?_;generalize hWd:World.drew wp2=T2 at ht20 hmu2 ⊢
 iterate 9 (refine wpTr_q _ (by simp only [List.getD_cons_succ,List.getD_cons_zero];rfl) (by rfl) ?_ (fun w' hC=>?_) ?_;rotate_left;(have q0:w'.cell? ⟨b,0,none⟩=some (.pointer (some ⟨J,0,none⟩)):=hC.cell pb2.out (fun e=>nbk.out e.symm);have q1:w'.cell? ⟨J,1,none⟩=some (.map (some k)):=hC.cell pj2.out (fun e=>nJk.out e.symm);have q2:w'.cell? ⟨pg2,0,none⟩=some (.string Y):=hC.cell pp2.out (fun e=>nk2.out e);have q3:w'.cell? ⟨pg2,1,none⟩=some (.string tx2):=hC.cell pq2.out (fun e=>nk2.out e);have q4:w'.cell? ⟨pg2,2,none⟩=some (.slice vo2 rs2.length vc2):=hC.cell pr2.out (fun e=>nk2.out e);go_simp;first | done | with_reducible rfl | exact rfl);try simp only [Act.put,sA,sZ,sS])
 refine wpTr_c1 _ (by simp only [List.getD_cons_succ,List.getD_cons_zero];rfl) ?_;refine wpN_c (by rfl) (fun K hK=>?_);refine wp_updateM _ _ _ 243 _ rfl (keyOk_string Tryz.underlying9) Tryz.underlying243 hmu2.out Y (.agg #[.string Y,.string tx2,.slice vo2 rs2.length vc2]) rfl rfl rfl (fun w5 hU hMU=>?_);have hz29:=hid (ht20.out.trans hMU);refine hK.out _ _ hz29.out ?_;replace hU:=hid hU;clear hK K;try simp only [Act.put,sA,sZ,sS]
 refine wpTr_done ?_;have hb_w5:=hid (hz29.out.at pB2.out (fun e=>nbk.out e.symm));have hj_w5:=hid (hz29.out.at pJ2.out (fun e=>nJk.out e.symm));have hs_w5:=hid (hz29.out.at pS2.out (fun e=>nsk.out e.symm));have g0_w5:=hid (hz29.out.cell pg20.out (fun e=>by have:=ngk.out;have e:k=g:=e;omega));have g1_w5:=hid (hz29.out.cell pg21.out (fun e=>by have:=ngk.out;have e:k=g:=e;omega));have mo_w5:=hid (pM2.out.then hz29.out (fun j hj e=>.inr (by have:=hlk.out;omega)));have vr2:=hid (pV2.out.mod hz29.out (fun j hj e=>by have hj:k < j:=hj;omega));have vr1:=hid (pV1b.out.mod hz29.out (fun j hj e=>by have hj:k < j:=hj;omega));have hm_w5:=hU;clear hU hMU hz29 ht20 pb2 pj2 pp2 pq2 pr2 pB2 pJ2 pS2 pg20 pg21 pM2 pV2 hmu2 pV1b;go_wp2_with fail
 rw [rounds_succ];go_wp2_with fail
 have hfn:=hid (finish_none b M J st k (.pointer (some ⟨st,0,none⟩)) RS (rc - 2) w5 hb_w5.out hj_w5.out nbJ.out);refine hfn.out.mono ?_;rintro e w6 ⟨rfl,hBf,hMf⟩;have hfin:=hid (And.intro hBf (And.intro (hm_w5.out.mod hMf (fun e=>nbk.out e)) (And.intro (vr1.out.mod hMf (fun j h e=>by have h:k < j:=h;have:=hbk.out;omega)) (And.intro (vr2.out.mod hMf (fun j h e=>by have h:k < j:=h;have:=hbk.out;omega)) (mo_w5.out.then hMf (fun j hj e=>.inl e.symm))))));go_wp2_with fail
 rw [hPd.out];exact ⟨⟨g,rfl⟩,⟨k,_,tx1,_,rs1,tx2,_,rs2,hfin.out.1,hfin.out.2.1,hfin.out.2.2.1,hrl1,hfin.out.2.2.2.1,hrl2,hlk.out⟩,hfin.out.2.2.2.2⟩
end Go.Proofs.YtcopgcdhkgenkaaGreatDoor
namespace Go.Proofs
open Go.Shelf
def Tryz.keysPg_ren:Go.Shelf.Ren:=⟨fun | 7=>250 | 10=>318 | n=>n,fun | 23=>243 | 26=>9 | 3=>335 | 28=>443 | 0=>0 | 27=>442 | 33=>477 | 4=>4 | n=>n,fun | n=>n⟩
theorem Tryz.keysPg:Go.Proofs.SlLaysZ.n7 Tryz.prog Tryz.keysPg_ren:={
 mixed:=by kernel_rfl
 f7:=⟨Tryz.f250.name,by decide,Tryz.func250.trans (congrArg some (by kernel_rfl))⟩
 f10:=⟨Tryz.f318.name,by decide,Tryz.func318.trans (congrArg some (by kernel_rfl))⟩
 t0:=Tryz.underlying0
 a0:=Tryz.isAgg0
 z0:=Tryz.sizeOf0
 v0:=Tryz.zeroValue0
 t4:=Tryz.underlying4
 a4:=Tryz.isAgg4
 z4:=Tryz.sizeOf4
 v4:=Tryz.zeroValue4
 t23:=Tryz.underlying243
 a23:=Tryz.isAgg243
 z23:=Tryz.sizeOf243
 v23:=Tryz.zeroValue243
 t26:=Tryz.underlying9
 a26:=Tryz.isAgg9
 z26:=Tryz.sizeOf9
 v26:=Tryz.zeroValue9
 t27:=Tryz.underlying442
 a27:=Tryz.isAgg442
 z27:=Tryz.sizeOf442
 v27:=Tryz.zeroValue442
 t28:=Tryz.underlying443
 a28:=Tryz.isAgg443
 z28:=Tryz.sizeOf443
 v28:=Tryz.zeroValue443
 t33:=Tryz.underlying477
 a33:=Tryz.isAgg477
 z33:=Tryz.sizeOf477
 v33:=Tryz.zeroValue477 }
def Tryz.sortedPg_ren:Go.Shelf.Ren:=⟨fun | 6=>235 | 8=>303 | 9=>304 | 11=>379 | 13=>263 | 12=>380 | 23=>337 | 24=>338 | 14=>440 | 15=>441 | 16=>442 | 17=>443 | 18=>444 | 19=>445 | 20=>446 | 21=>447 | 22=>448 | 25=>533 | 26=>420 | 27=>421 | 28=>534 | 29=>535 | 30=>325 | 31=>591 | n=>n,fun | 26=>9 | 28=>443 | 24=>40 | 0=>0 | 3=>3 | 37=>96 | 48=>95 | 50=>175 | 4=>4 | 40=>537 | 39=>536 | 45=>541 | 5=>5 | 9=>9 | 51=>629 | 55=>486 | 57=>692 | 58=>283 | 33=>477 | n=>n,fun | n=>n⟩
theorem Tryz.sortedPg:Go.Proofs.SlLaysZ.n6 Tryz.prog Tryz.sortedPg_ren:={
 mixed:=by kernel_rfl
 f6:=⟨Tryz.f235.name,by decide,Tryz.func235.trans (congrArg some (by kernel_rfl))⟩
 f8:=⟨Tryz.f303.name,by decide,Tryz.func303.trans (congrArg some (by kernel_rfl))⟩
 f11:=⟨Tryz.f379.name,by decide,Tryz.func379.trans (congrArg some (by kernel_rfl))⟩
 t0:=Tryz.underlying0
 a0:=Tryz.isAgg0
 z0:=Tryz.sizeOf0
 v0:=Tryz.zeroValue0
 t24:=Tryz.underlying40
 a24:=Tryz.isAgg40
 z24:=Tryz.sizeOf40
 v24:=Tryz.zeroValue40
 t26:=Tryz.underlying9
 a26:=Tryz.isAgg9
 z26:=Tryz.sizeOf9
 v26:=Tryz.zeroValue9
 t28:=Tryz.underlying443
 a28:=Tryz.isAgg443
 z28:=Tryz.sizeOf443
 v28:=Tryz.zeroValue443
 i26:=by kernel_rfl }
def Tryz.sortPg_ren:Go.Shelf.Ren:=⟨fun | 6=>304 | 8=>263 | 9=>380 | 19=>337 | 20=>338 | 21=>440 | 22=>441 | 23=>442 | 24=>443 | 25=>444 | 26=>445 | 27=>446 | 28=>447 | 29=>448 | 36=>533 | 31=>420 | 32=>421 | 37=>534 | 38=>535 | 39=>325 | 41=>591 | n=>n,fun | 27=>40 | 29=>9 | 3=>3 | 32=>96 | 26=>40 | 0=>0 | 44=>95 | 46=>175 | 4=>4 | 36=>537 | 35=>536 | 41=>541 | 5=>5 | 9=>9 | 53=>629 | 57=>486 | 63=>692 | 64=>283 | n=>n,fun | n=>n⟩
theorem Tryz.sortPg:Go.Proofs.SlLaysM.n6 Tryz.prog Tryz.sortPg_ren:={
 mixed:=by kernel_rfl
 f6:=⟨Tryz.f304.name,by decide,Tryz.func304.trans (congrArg some (by kernel_rfl))⟩
 f8:=Tryz.func263.trans (congrArg some (by kernel_rfl))
 f9:=⟨Tryz.f380.name,by decide,Tryz.func380.trans (congrArg some (by kernel_rfl))⟩
 f19:=Tryz.func337.trans (congrArg some (by kernel_rfl))
 f20:=Tryz.func338.trans (congrArg some (by kernel_rfl))
 f21:=⟨Tryz.f440.name,by decide,Tryz.func440.trans (congrArg some (by kernel_rfl))⟩
 f22:=⟨Tryz.f441.name,by decide,Tryz.func441.trans (congrArg some (by kernel_rfl))⟩
 f23:=⟨Tryz.f442.name,by decide,Tryz.func442.trans (congrArg some (by kernel_rfl))⟩
 f24:=⟨Tryz.f443.name,by decide,Tryz.func443.trans (congrArg some (by kernel_rfl))⟩
 f25:=⟨Tryz.f444.name,by decide,Tryz.func444.trans (congrArg some (by kernel_rfl))⟩
 f26:=⟨Tryz.f445.name,by decide,Tryz.func445.trans (congrArg some (by kernel_rfl))⟩
 f27:=⟨Tryz.f446.name,by decide,Tryz.func446.trans (congrArg some (by kernel_rfl))⟩
 f28:=⟨Tryz.f447.name,by decide,Tryz.func447.trans (congrArg some (by kernel_rfl))⟩
 f29:=⟨Tryz.f448.name,by decide,Tryz.func448.trans (congrArg some (by kernel_rfl))⟩
 f31:=Tryz.func420.trans (congrArg some (by kernel_rfl))
 f32:=Tryz.func421.trans (congrArg some (by kernel_rfl))
 f36:=⟨Tryz.f533.name,by decide,Tryz.func533.trans (congrArg some (by kernel_rfl))⟩
 f37:=⟨Tryz.f534.name,by decide,Tryz.func534.trans (congrArg some (by kernel_rfl))⟩
 f38:=⟨Tryz.f535.name,by decide,Tryz.func535.trans (congrArg some (by kernel_rfl))⟩
 f39:=⟨Tryz.f325.name,by decide,Tryz.func325.trans (congrArg some (by kernel_rfl))⟩
 f41:=⟨Tryz.f591.name,by decide,Tryz.func591.trans (congrArg some (by kernel_rfl))⟩
 t0:=Tryz.underlying0
 a0:=Tryz.isAgg0
 z0:=Tryz.sizeOf0
 v0:=Tryz.zeroValue0
 t3:=Tryz.underlying3
 a3:=Tryz.isAgg3
 z3:=Tryz.sizeOf3
 v3:=Tryz.zeroValue3
 t4:=Tryz.underlying4
 a4:=Tryz.isAgg4
 z4:=Tryz.sizeOf4
 v4:=Tryz.zeroValue4
 t5:=Tryz.underlying5
 a5:=Tryz.isAgg5
 z5:=Tryz.sizeOf5
 v5:=Tryz.zeroValue5
 t9:=Tryz.underlying9
 a9:=Tryz.isAgg9
 z9:=Tryz.sizeOf9
 v9:=Tryz.zeroValue9
 t26:=Tryz.underlying40
 a26:=Tryz.isAgg40
 z26:=Tryz.sizeOf40
 v26:=Tryz.zeroValue40
 t27:=Tryz.underlying40
 a27:=Tryz.isAgg40
 z27:=Tryz.sizeOf40
 v27:=Tryz.zeroValue40
 t29:=Tryz.underlying9
 a29:=Tryz.isAgg9
 z29:=Tryz.sizeOf9
 v29:=Tryz.zeroValue9
 t32:=Tryz.underlying96
 a32:=Tryz.isAgg96
 z32:=Tryz.sizeOf96
 v32:=Tryz.zeroValue96
 t35:=Tryz.underlying536
 a35:=Tryz.isAgg536
 z35:=Tryz.sizeOf536
 v35:=Tryz.zeroValue536
 t36:=Tryz.underlying537
 a36:=Tryz.isAgg537
 z36:=Tryz.sizeOf537
 v36:=Tryz.zeroValue537
 t41:=Tryz.underlying541
 a41:=Tryz.isAgg541
 z41:=Tryz.sizeOf541
 v41:=Tryz.zeroValue541
 t44:=Tryz.underlying95
 a44:=Tryz.isAgg95
 z44:=Tryz.sizeOf95
 v44:=Tryz.zeroValue95
 t46:=Tryz.underlying175
 a46:=Tryz.isAgg175
 z46:=Tryz.sizeOf175
 v46:=Tryz.zeroValue175
 t53:=Tryz.underlying629
 a53:=Tryz.isAgg629
 z53:=Tryz.sizeOf629
 v53:=Tryz.zeroValue629
 t57:=Tryz.underlying486
 a57:=Tryz.isAgg486
 z57:=Tryz.sizeOf486
 v57:=Tryz.zeroValue486
 t63:=Tryz.underlying692
 a63:=Tryz.isAgg692
 z63:=Tryz.sizeOf692
 v63:=Tryz.zeroValue692
 t64:=Tryz.underlying283
 a64:=Tryz.isAgg283
 z64:=Tryz.sizeOf283
 v64:=Tryz.zeroValue283 }
end Go.Proofs
namespace Go.Proofs.YtcopgcdhkgenkaaGreatDoor
open Go.RowKit Go.Maps Go.Sort Go.Shelf Go.Proofs
theorem sortsPg (m:Nat):AnyZ.SortsIn Tryz.prog Tryz.sortedPg_ren Fence.wide m:=
 ⟨fun blk off cap ss W hH hblk hsz=>callsIn_wide.2 (AnyM.slices_Sort_string Tryz.sortPg blk off cap ss W hH hblk hsz),
  fun p cap W=>callsIn_wide.2 (AnyM.slices_Sort_string_none Tryz.sortPg p cap W)⟩
theorem sortedPg_any {H:Type} (b nn:Nat) (D0:DataW H) (R:Value -> Option (DataW H × List MemPlace)) (w:World) (hown:w.ownsMap Tryz.prog 9 R b nn D0) (hmax:Maps.size D0<=maxLen) (hbytes:Maps.size D0*16<=140737488355328):
  CallsIn Fence.wide 5 Tryz.prog 235 #[.func (.func 318) #[] #[.pointer (some ⟨w.heap.size,0,none⟩)]] (w.alloc (.cells #[.map (some b)] 243)) fun e w'=>∃ (v:Value) (ss:List (List UInt8)),e=.returned v/\ss.Perm (strKeys D0) ∧
   w'.ownsRow (w.alloc (.cells #[.map (some b)] 243)).heap.size 9 1 v ss.length ((ss.mergeSort (fun x y=>decide (x<=y))).map encStr)/\(v=.slice none 0 0 ↔ ss=[])/\Below (w.alloc (.cells #[.map (some b)] 243)).heap.size (w.alloc (.cells #[.map (some b)] 243)) w':=by
 have hbl:=hown.lt;have hseq:SeqGives Fence.wide 2 Tryz.prog 318 #[.pointer (some ⟨w.heap.size,0,none⟩)] encStr (fun ss=>ss.Perm (strKeys D0)) (Maps.size D0) (w.alloc (.cells #[.map (some b)] 243)):=
  AnyZ.keys_gives (ρ:=Tryz.keysPg_ren) { Tryz.keysPg with } Fence.wide _ trivial rfl (by omega) w.heap.size b nn D0 _ (by simp) (by simp) (by
   obtain ⟨es,clock,hb,Ft,hs,hD⟩:=hown
   exact ⟨es,clock,(Below.heap_alloc _ _ b hbl).trans hb,Ft,hs,hD⟩)
 exact AnyZ.sorted_in Tryz.sortedPg Fence.wide 5 trivial trivial trivial trivial rfl (by omega) (sortsPg _) (enters_of Tryz.func304 (by kernel_rfl) rfl) 318 #[.pointer (some ⟨w.heap.size,0,none⟩)] trivial (enters_of Tryz.func318 (by kernel_rfl) rfl) _ _ hmax hbytes _ hseq
open Cdk Scr
def anyR:Value -> Option (DataW Unit × List MemPlace):=fun _=>some (.nil,[])
def twoD:DataW Unit:=.map [(.string (adrB 1),.nil),(.string (adrB 6),.nil)]
theorem keyOf_1:Go.keyOf Tryz.prog 9 (.string (adrS 1))=some (.string (adrB 1)):=by kernel_rfl
theorem keyOf_6:Go.keyOf Tryz.prog 9 (.string (adrS 6))=some (.string (adrB 6)):=by kernel_rfl
theorem twoMap {w:World} {k:Nat} {v1 v2:Value} (hM:MapAt w Value.string k [(adrS 1,v1),(adrS 6,v2)]):w.ownsMap Tryz.prog 9 anyR k 2 twoD:=by
 obtain ⟨es,c,hh,h1,h2,h3,h4⟩:=hM;obtain ⟨l⟩:=es;simp only at h1 h3 h4
 match l,h1,h3,h4,hh with
 | [],h1,_,_,_=>simp at h1
 | [_],h1,_,_,_=>simp at h1
 | _::_::_::_,h1,_,_,_=>simp at h1
 | [e1,e2],h1,h3,h4,hh=>
  simp only [List.map_cons,List.map_nil,List.cons.injEq,Prod.mk.injEq,and_true] at h1;obtain ⟨⟨hk1,-⟩,hk2,-⟩:=h1;have r1:Go.WideElems.rd Tryz.prog 9 anyR e1=some (.string (adrB 1),.nil):=by unfold Go.WideElems.rd;rw [hk1,keyOf_1];rfl
  have r2:Go.WideElems.rd Tryz.prog 9 anyR e2=some (.string (adrB 6),.nil):=by unfold Go.WideElems.rd;rw [hk2,keyOf_6];rfl
  refine ⟨_,c,hh,⟨(show 2<=maxLen by decide),⟨h4,h3,?_⟩,?_⟩,Nat.le_refl _,?_⟩
  ·simp only [List.map_cons,List.map_nil,hk1,hk2]
   have hxy:adrS 1 ≠ adrS 6:=by decide
   simp [hxy]
  ·intro x hx
   simp at hx;rcases hx with rfl | rfl
   ·exact ⟨_,r1⟩
   ·exact ⟨_,r2⟩
  ·simp only [List.map_cons,List.map_nil,Go.WideElems.rg,r1,r2,Option.getD_some,List.foldr_cons,List.foldr_nil]
   rfl
theorem ms_16:([adrB 1,adrB 6]:List (List UInt8)).mergeSort (fun x y=>decide (x<=y))=[adrB 1,adrB 6]:=by
 have h:decide (adrB 1<=adrB 6)=true:=by decide
 generalize adrB 1=a at h ⊢;generalize adrB 6=b at h ⊢;simp [List.mergeSort,List.MergeSort.Internal.splitInTwo,List.merge] at h ⊢;exact fun hb=>(h hb).elim
theorem ms_61:([adrB 6,adrB 1]:List (List UInt8)).mergeSort (fun x y=>decide (x<=y))=[adrB 1,adrB 6]:=by
 have h:decide (adrB 6<=adrB 1)=false:=by decide
 generalize adrB 1=a at h ⊢;generalize adrB 6=b at h ⊢;simp [List.mergeSort,List.MergeSort.Internal.splitInTwo,List.merge] at h ⊢;exact fun hb=>(hb h).elim
theorem perm_two {ss:List (List UInt8)} (h:ss.Perm (strKeys twoD)):ss.mergeSort (fun x y=>decide (x<=y))=[adrB 1,adrB 6]:=by
 have h2:strKeys twoD=[adrB 1,adrB 6]:=rfl;rw [h2] at h;have hl:=h.length_eq;have hne:adrB 1 ≠ adrB 6:=by decide
 match ss,h,hl with
 | [a,b],h,_=>
  have ha:a=adrB 1 \/ a=adrB 6:=by have:=h.mem_iff (a:=a) |>.1 (by simp);simpa using this
  have hb:b=adrB 1 \/ b=adrB 6:=by have:=h.mem_iff (a:=b) |>.1 (by simp);simpa using this
  have hnd:([a,b]:List (List UInt8)).Nodup:=h.nodup_iff.2 (by simp [hne]);rcases ha with rfl | rfl <;> rcases hb with rfl | rfl
  ·simp at hnd
  ·exact ms_16
  ·exact ms_61
  ·simp at hnd
theorem keysTwo_any {k:Nat} {v1 v2:Value} (w:World) (hM:MapAt w Value.string k [(adrS 1,v1),(adrS 6,v2)]):
  Calls Tryz.prog 235 #[.func (.func 318) #[] #[.pointer (some ⟨w.heap.size,0,none⟩)]] (w.alloc (.cells #[.map (some k)] 243)) fun e w'=>(∃ g off cap,e=.returned (.slice (some ⟨g,off,none⟩) 2 cap)/\w'.cell? ⟨g,off,none⟩=some (.string (adrS 1))/\w'.cell? ⟨g,off+1,none⟩=some (.string (adrS 6))/\w.heap.size<=g)/\Ext w w':=by
 refine (callsIn_wide (n:=5)).1 ?_;refine (sortedPg_any k 2 twoD anyR w (twoMap hM) (by decide) (by decide)).mono ?_;rintro e w' ⟨v,ss,rfl,hS,hrow,hnil,hb⟩;have hms:=perm_two hS;have hl:ss.length=2:=hS.length_eq;rw [hms,hl] at hrow;have hx:=Mod.ofBelow (S:=fun _=>False) hb;rcases hrow.2 with ⟨-,h0⟩ | ⟨g,cap,cur,rfl,hgb,hgc,-,-,hsz,htk⟩
 ·exact absurd h0 (by decide)
 have hcell:∀ j u,([adrB 1,adrB 6].map encStr)[j]?=some u -> w'.cell? ⟨g,j,none⟩=some u:=fun j u hj=>by
  rw [cellN hgc j,<- Array.getElem?_toList];rw [<- htk,List.getElem?_take] at hj;split at hj
  ·exact hj
  ·simp at hj
 exact ⟨⟨g,0,cap,rfl,hcell 0 _ rfl,hcell 1 _ rfl,by rw [World.size_alloc] at hgb;omega⟩,(Mod.alloc (Mod.refl (fun _=>False) w) _).trans hx⟩
open Go.Shelf Go.RowKit Cdk Scr
theorem run_copy_rows {P:Program} (w:World) (dT sT ty elem:TypeId) (g o dLen dCap:Nat) (a:Addr) (sLen sCap:Nat) (cur:Array Value) (t:TypeId) (cs:List Value) (s:Nat)
  (hu:P.underlying dT=some (.slice elem)) (hs:(P.info? elem).map (·.size)=some s)
  (hg:w.heap[g]?=some (.cells cur t (0,0))) (hn:cs.length=Nat.min sLen dLen*s)
  (hsrc:∀ j v,cs[j]?=some v -> w.cell? (a.add j)=some v) (hfit:o+cs.length<=cur.size) (h1:∀ v ∈ cs,v.oneCell'=true):
  (Builtin.copy_ #[dT,sT] ty #[.slice (some ⟨g,o,none⟩) dLen dCap,.slice (some a) sLen sCap]).run P w=
   .ok (goInt (Nat.min sLen dLen)) (w.setRow g (cur.toList.take o++cs++cur.toList.drop (o+cs.length)).toArray):=by
 have hl:=run_loadCells_list (P:=P) w a cs hsrc;have hst:=run_storeCells_at P g o t cs 0 cur w hg (by simpa using hfit) h1;cases hq:P.info? elem with
 | none=>simp [hq] at hs
 | some i=>
  have hi:i.size=s:=by simpa [hq] using hs
  simp [Builtin.copy_,run_underlying hu,Builtin.lenOf,Builtin.firstCells,sizeOf,typeInfo,hq,hi,<- hn,hl,hst]
def zR (n:Nat):Array Value:=((List.replicate n [Value.string .empty,Value.int .i64 0]).flatten).toArray
theorem mkR (n:Nat) (hn:1<=n/\n<=12):(zR n).size=n*2/\∀ W:World,(Instr.makeSlice 333 (.int .i64 (n:Int)) (.int .i64 (n:Int))).run Tryz.prog W=.ok (.slice (some ⟨W.heap.size,0,none⟩) n n) (W.alloc (.cells (zR n) 387)):=by
 have h:n=1 \/ n=2 \/ n=3 \/ n=4 \/ n=5 \/ n=6 \/ n=7 \/ n=8 \/ n=9 \/ n=10 \/ n=11 \/ n=12:=by omega
 rcases h with rfl | rfl | rfl | rfl | rfl | rfl | rfl | rfl | rfl | rfl | rfl | rfl
 all_goals exact ⟨rfl,fun W=>by kernel_rfl⟩
theorem rdC_len (r:ByteArray × Int):(rdC r).length=2:=rfl
theorem rdC_flat (rs:List (ByteArray × Int)):(rs.flatMap rdC).length=rs.length*2:=by induction rs with | nil=>rfl | cons x r ih=>rw [List.flatMap_cons,List.length_append,ih,rdC_len,List.length_cons];omega
theorem rdC_one (rs:List (ByteArray × Int)):∀ v ∈ rs.flatMap rdC,v.oneCell'=true:=fun v hv=>by
 obtain ⟨r,-,h⟩:=List.mem_flatMap.1 hv
 simp [rdC] at h
 rcases h with rfl | rfl <;> rfl
theorem copyR_any {F:Nat -> Prop} {v:Value} {rs:List (ByteArray × Int)} (w:World) (h:RowAt F w rdC v rs) (hn:1<=rs.length/\rs.length<=12):Calls Tryz.prog 178 #[v] w fun e w'=>(∃ g,e=.returned (.slice (some ⟨g,0,none⟩) rs.length rs.length)/\w'.heap[g]?=some (.cells (rs.flatMap rdC).toArray 387 (0,0))/\w.heap.size<=g)/\Ext w w':=by
 obtain ⟨ao,cap,rfl,hr,-⟩:=h;obtain ⟨b,off,rfl,hc⟩:=hr.at (by rw [rdC_flat];omega);have hfl:=rdC_flat rs;have hon:=rdC_one rs;obtain ⟨n,hne⟩:∃ n,n=rs.length:=⟨_,rfl⟩;rw [<- hne] at hn hfl ⊢;obtain ⟨hzs,hmk⟩:=mkR n hn;obtain ⟨L,hL⟩:∃ L,L=rs.flatMap rdC:=⟨_,rfl⟩;rw [<- hL] at hc hfl hon ⊢;obtain ⟨Z,hZ⟩:∃ Z,Z=zR n:=⟨_,rfl⟩;rw [<- hZ] at hzs hmk;obtain ⟨g,hg⟩:∃ g,g=w.heap.size:=⟨_,rfl⟩;have hxa:=Mod.alloc (Mod.refl (fun _=>False) w) (.cells Z 387);have hga:=heap_alloc_new w (.cells Z 387);rw [<- hg] at hga;have hcp:=fun ty=>run_copy_rows (P:=Tryz.prog) (w.alloc (.cells Z 387)) 333 333 ty 387 g 0 n n ⟨b,off,none⟩ n cap Z 387 L 2 Tryz.underlying333 rfl hga (by rw [hfl];simp) (fun j u hj=>by rw [Addr.add_lit];exact hxa.cell (hc j u hj) (fun h=>h)) (by omega) hon
 have hrow:(Z.toList.take 0++L++Z.toList.drop (0+L.length)).toArray=L.toArray:=by
  rw [List.take_zero,List.nil_append,Nat.zero_add,List.drop_of_length_le (by rw [Array.length_toList];omega),List.append_nil]
 rw [hrow] at hcp;have hmn:Nat.min n n=n:=Nat.min_self n;rw [hmn] at hcp;have hsr:=setRow_heap (w.alloc (.cells Z 387)) g Z L.toArray _ _ hga;have hxf:Ext w ((w.alloc (.cells Z 387)).setRow g L.toArray):=hxa.then (mod_row (S:=Eq g) _ (Mod.refl (Eq g) _) rfl) (fun k hk e=>by omega);have hgw:=Nat.le_of_eq hg.symm;replace hxf:=hid hxf;replace hsr:=hid hsr;replace hne:=hid hne;replace hL:=hid hL;replace hZ:=hid hZ;clear hga hxa hrow hmn hon hfl hc hr hzs;go_enter Tryz.func178,Tryz.ntmps178;go_upto_region 2 with fail
 try simp only [<- hg]
 replace hg:=hid hg;generalize w.alloc (.cells Z 387)=w1 at hcp hsr hxf ⊢;go_wp2_with fail
 go_ret;exact ⟨⟨g,rfl,hsr.out,hgw⟩,hxf.out⟩
abbrev Pg:=ByteArray × ByteArray × Option Addr × Nat × Nat
def pgC (p:Pg):List Value:=[.string p.1,.string p.2.1,.slice p.2.2.1 p.2.2.2.1 p.2.2.2.2]
theorem pgC_len (p:Pg):(pgC p).length=3:=rfl
theorem elPg:El Tryz.prog 335 (.agg #[.string .empty,.string .empty,.slice none 0 0]) 3 56:=⟨by kernel_rfl,rfl,by decide,by decide⟩
theorem zero_page (w:World):(zeroValue 335).run Tryz.prog w=.ok (.agg #[.string .empty,.string .empty,.slice none 0 0]) w:=by kernel_rfl
theorem pagesTwo_any {m:Nat} {t1 t2:ByteArray} {o1 o2:Option Addr} {n1 n2 c1 c2:Nat} (w:World) (hM:MapAt w Value.string m [(adrS 1,.agg #[.string (adrS 1),.string t1,.slice o1 n1 c1]),(adrS 6,.agg #[.string (adrS 6),.string t2,.slice o2 n2 c2])]):
  Calls Tryz.prog 177 #[.map (some m)] w fun e w'=>(∃ g cap,e=.returned (.slice (some ⟨g,0,none⟩) 2 cap)/\(∃ cs,w'.heap[g]?=some (.cells cs 335 (0,0))/\∀ (j:Nat) (u:Value),([.string (adrS 1),.string t1,.slice o1 n1 c1,.string (adrS 6),.string t2,.slice o2 n2 c2]:List Value)[j]?=some u -> cs[j]?=some u)/\w.heap.size<=g)/\Ext w w':=by
 have hxy:adrS 6 ≠ adrS 1:=by decide
 have hk:=hid (keys_page (some m) w);have hst:=hid (keysTwo_any w hM);obtain ⟨X,hX⟩:∃ X,X=adrS 1:=⟨_,rfl⟩;obtain ⟨Y,hY⟩:∃ Y,Y=adrS 6:=⟨_,rfl⟩;rw [<- hX,<- hY] at hM hst hxy ⊢;have hg1:=hid (show assoc [(X,Value.agg #[.string X,.string t1,.slice o1 n1 c1]),(Y,Value.agg #[.string Y,.string t2,.slice o2 n2 c2])] X=some (.agg #[.string X,.string t1,.slice o1 n1 c1]) by simp [assoc]);have hg2:=hid (show assoc [(X,Value.agg #[.string X,.string t1,.slice o1 n1 c1]),(Y,Value.agg #[.string Y,.string t2,.slice o2 n2 c2])] Y=some (.agg #[.string Y,.string t2,.slice o2 n2 c2]) by have hne:X ≠ Y:=fun h=>hxy h.symm;simp [assoc,hne]);have hxk:=Mod.alloc (Mod.refl (fun _=>False) w) (.cells #[.map (some m)] 243);replace hX:=hid hX;replace hY:=hid hY;replace hxy:=hid hxy;replace hM:=hid hM;go_enter Tryz.func177,Tryz.ntmps177;go_wp2_with fail
 refine hk.out.mono ?_;rintro e w0 ⟨rfl,rfl⟩;go_wp2_with fail
 refine hst.out.mono ?_;rintro e w1 ⟨⟨kb,kf,kc,rfl,q0,q1,hkw⟩,hx⟩;have hx1:=hid hx;obtain ⟨B0,hB0e⟩:∃ B,B=w1.heap.size:=⟨_,rfl⟩;have hB0:Hid (w.heap.size<=B0):=hid (by rw [hB0e];exact hx.size);have hkb:Hid (kb < B0):=hid (by rw [hB0e];exact World.block_lt_of_cell? _ _ q0);have hz1:Hid (B0<=w1.heap.size):=hid (Nat.le_of_eq hB0e);have ho1:=hid (Own.nil w1 B0 335 3 pgC);replace hB0e:=hid hB0e;clear hx hk hst hxk;go_wp2_with fail
 refine wp_loop_rounds 3 ?_;rw [rounds_succ];have hlk1:=run_lookupM (P:=Tryz.prog) (t:=243) (keyOk_string Tryz.underlying9) Tryz.underlying243 (hM.out.mod hx1.out (fun h=>h)) X (zero_page w1) false;rw [hg1.out] at hlk1;simp only [Option.getD_some,Bool.false_eq_true,if_false] at hlk1;have hxA1:=Mod.alloc (Mod.refl (fun _=>False) w1) (.cells #[.string X,.string t1,.slice o1 n1 c1] 335);have hr1:=hid (RowIs.new w1 [.string X,.string t1,.slice o1 n1 c1] 335);have hoA1:=hid (ho1.out.ext hxA1);have hbs1:B0<=(w1.alloc (.cells #[.string X,.string t1,.slice o1 n1 c1] 335)).heap.size:=Nat.le_trans hz1.out hxA1.size;have p10:(w1.alloc (.cells #[.string X,.string t1,.slice o1 n1 c1] 335)).cell? ⟨kb,kf,none⟩=some (.string X):=hxA1.cell q0 (fun h=>h);have p11:(w1.alloc (.cells #[.string X,.string t1,.slice o1 n1 c1] 335)).cell? ⟨kb,kf+1,none⟩=some (.string Y):=hxA1.cell q1 (fun h=>h);have hxA1':=hid (hx1.out.trans hxA1);replace hbs1:=hid hbs1;clear hxA1;go_wp2_with (at_builtin;refine wpList_app (f:=pgC) (base:=B0) rfl _ _ 248 rfl Tryz.underlying248 elPg rfl hoA1.out _ 1 1 rfl [(X,t1,o1,n1,c1)] rfl hr1.out pgC_len (fun y hy u hu=>by simp only [List.mem_singleton] at hy;subst hy;simp [pgC] at hu;rcases hu with rfl | rfl | rfl <;> rfl) (by simp) hbs1.out (fun e=>nomatch e) (fun v2 w2 H=>?_))
 have ho2:=hid H.out.1;have hB1:=hid (fun k (e:_=some k)=>(hoA1.out.block k e).1);have hx2:=hid (hxA1'.out.then H.out.2 (fun k hk e=>by have:=hB1.out _ e;have:=hB0.out;omega));have r10:w2.cell? ⟨kb,kf,none⟩=some (.string X):=H.out.2.cell p10 (fun e=>by have h1:B0<=kb:=hB1.out _ e;have:=hkb.out;omega);have r11:w2.cell? ⟨kb,kf+1,none⟩=some (.string Y):=H.out.2.cell p11 (fun e=>by have h1:B0<=kb:=hB1.out _ e;have:=hkb.out;omega);have hz2:Hid (B0<=w2.heap.size):=hid (Nat.le_trans hbs1.out H.out.2.size);clear H q0 q1 p10 p11 hlk1 hxA1' hbs1 hr1;obtain ⟨a2,d2,rfl,hR2,hob2⟩:=ho2.out.row;replace hR2:=hid hR2;replace hob2:=hid hob2;go_wp2_with fail
 rw [rounds_succ];have hlk2:=run_lookupM (P:=Tryz.prog) (t:=243) (keyOk_string Tryz.underlying9) Tryz.underlying243 (hM.out.mod hx2.out (fun h=>h)) Y (zero_page w2) false;rw [hg2.out] at hlk2;simp only [Option.getD_some,Bool.false_eq_true,if_false] at hlk2;have hxA2:=Mod.alloc (Mod.refl (fun _=>False) w2) (.cells #[.string Y,.string t2,.slice o2 n2 c2] 335);have hr2:=hid (RowIs.new w2 [.string Y,.string t2,.slice o2 n2 c2] 335);have hoA2:=hid (ho2.out.ext hxA2);have hbs2:B0<=(w2.alloc (.cells #[.string Y,.string t2,.slice o2 n2 c2] 335)).heap.size:=Nat.le_trans hz2.out hxA2.size;have p20:(w2.alloc (.cells #[.string Y,.string t2,.slice o2 n2 c2] 335)).cell? ⟨kb,kf,none⟩=some (.string X):=hxA2.cell r10 (fun h=>h);have p21:(w2.alloc (.cells #[.string Y,.string t2,.slice o2 n2 c2] 335)).cell? ⟨kb,kf+1,none⟩=some (.string Y):=hxA2.cell r11 (fun h=>h);have hxA2':=hid (hx2.out.trans hxA2);replace hbs2:=hid hbs2;clear hxA2;go_wp2_with (at_builtin;refine wpList_app (f:=pgC) (base:=B0) rfl _ _ 248 rfl Tryz.underlying248 elPg rfl hoA2.out _ 1 1 rfl [(Y,t2,o2,n2,c2)] rfl hr2.out pgC_len (fun y hy u hu=>by simp only [List.mem_singleton] at hy;subst hy;simp [pgC] at hu;rcases hu with rfl | rfl | rfl <;> rfl) (by simp) hbs2.out (fun e=>nomatch e) (fun v3 w3 H=>?_))
 have ho3:=hid H.out.1;have hB2:=hid (fun k (e:_=some k)=>(hoA2.out.block k e).1);have hx3:=hid (hxA2'.out.then H.out.2 (fun k hk e=>by have:=hB2.out _ e;have:=hB0.out;omega));have r20:w3.cell? ⟨kb,kf,none⟩=some (.string X):=H.out.2.cell p20 (fun e=>by have h1:B0<=kb:=hB2.out _ e;have:=hkb.out;omega);have r21:w3.cell? ⟨kb,kf+1,none⟩=some (.string Y):=H.out.2.cell p21 (fun e=>by have h1:B0<=kb:=hB2.out _ e;have:=hkb.out;omega);have hz3:Hid (B0<=w3.heap.size):=hid (Nat.le_trans hbs2.out H.out.2.size);clear H r10 r11 p20 p21 hlk2 hxA2' hbs2 hr2;obtain ⟨a3,d3,rfl,hR3,hob3⟩:=ho3.out.row;replace hR3:=hid hR3;replace hob3:=hid hob3;go_wp2_with fail
 rw [rounds_succ];go_wp2_with fail
 go_ret;rcases ho3.out.2 with ⟨-,h0⟩ | ⟨g,cap,cur,hv,hgb,hgc,-,-,hsz,htk⟩
 ·exact absurd h0 (by simp)
 injection hv with e1 e2 e3
 subst e1 e3;refine ⟨⟨g,d3,rfl,⟨cur,hgc,fun j u hj=>?_⟩,Nat.le_trans hB0.out hgb⟩,hx3.out⟩;rw [<- Array.getElem?_toList];have htk2:cur.toList.take 6=[.string X,.string t1,.slice o1 n1 c1,.string Y,.string t2,.slice o2 n2 c2]:=htk;rw [<- htk2,List.getElem?_take] at hj;split at hj
 ·exact hj
 ·simp at hj
theorem done_none (b M:Nat) (last:Value) (w:World) (hB:BldrAt w b M (.pointer none) last):Calls Tryz.prog 72 #[.pointer (some ⟨b,0,none⟩)] w fun e w'=>e=.returned (.bool true)/\w=w':=by
 have b0:w.cell? ⟨b,0,none⟩=some (.pointer none):=cellN hB 0;clear hB;go_enter Tryz.func72,Tryz.ntmps72;go_wp2_with fail
 go_ret;exact ⟨rfl,rfl⟩
theorem step_none (b M:Nat) (last:Value) (w:World) (hB:BldrAt w b M (.pointer none) last):Calls Tryz.prog 116 #[.pointer (some ⟨b,0,none⟩),.int .i64 16] w fun e w'=>e=.returned (.slice none 0 0)/\w=w':=by
 have b0:w.cell? ⟨b,0,none⟩=some (.pointer none):=cellN hB 0;clear hB;go_enter Tryz.func116,Tryz.ntmps116;go_wp2_with fail
 go_ret;exact ⟨rfl,rfl⟩
theorem siteMiss_any (s:Nat) (a0 a1 a2 a3:Value) (m:Nat) (w:World) (hS:w.heap[s]?=some (.cells (siteC a0 a1 a2 a3 m) 217 (0,0))):Calls Tryz.prog 174 #[.pointer (some ⟨s,0,none⟩)] w fun e w'=>e=.returned (.bool false)/\w=w':=by
 have c4:w.cell? ⟨s,4,none⟩=some (.map (some m)):=cellN hS 4;have hbe:(binOp .eql 213 (.map (some m)) (.map none)).run Tryz.prog w=.ok (.bool false) w:=by kernel_rfl
 clear hS;go_enter Tryz.func174,Tryz.ntmps174;go_wp2_with fail
 go_ret;exact ⟨rfl,rfl⟩
theorem isClass_any (c:Nat) (hc:c < 4) (w:World):Calls Tryz.prog 175 #[.int .i64 (c:Int)] w fun e w'=>e=.returned (.bool true)/\w=w':=by
 have h1:decide ((0:Int)<=(c:Int))=true:=decide_eq_true (by omega);have h2:decide ((c:Int) < 4)=true:=decide_eq_true (by omega);have h3:(0:Int)<=(c:Int):=by omega
 have h4:(c:Int) < 4:=by omega
 go_enter Tryz.func175,Tryz.ntmps175;go_wp2_with fail
 go_ret;exact ⟨rfl,rfl⟩
theorem sitePublish_any (s c g cap:Nat) (hc:c < 4) (a0 a1 a2 a3:Value) (m:Nat) (t1 t2:ByteArray) (yo1 yo2:Option Addr) (yn1 yn2 yc1 yc2:Nat) (w:World) (hS:w.heap[s]?=some (.cells (siteC a0 a1 a2 a3 m) 217 (0,0)))
  (h0:w.cell? ⟨g,0,none⟩=some (.string (adrS 1))) (h1:w.cell? ⟨g,1,none⟩=some (.string t1)) (h2:w.cell? ⟨g,2,none⟩=some (.slice yo1 yn1 yc1)) (h3:w.cell? ⟨g,3,none⟩=some (.string (adrS 6))) (h4:w.cell? ⟨g,4,none⟩=some (.string t2)) (h5:w.cell? ⟨g,5,none⟩=some (.slice yo2 yn2 yc2)):
  Calls Tryz.prog 117 #[.pointer (some ⟨s,0,none⟩),.int .i64 (c:Int),.slice (some ⟨g,0,none⟩) 2 cap,.bool false] w fun e w'=>e=.returned (.int .i64 0)/\(∃ a0 a1 a2 a3,w'.heap[s]?=some (.cells (siteC a0 a1 a2 a3 m) 217 (0,0)))/\Cdk.Mod (Eq s) w w':=by
 have hmm:=@run_makeMap Tryz.prog;have hxy:adrS 1 ≠ adrS 6:=by decide
 have hms:=hid (siteMiss_any s a0 a1 a2 a3 m w hS);have hic:=hid (isClass_any c hc w);have hgw:=hid (World.block_lt_of_cell? _ _ h0);obtain ⟨X,hX⟩:∃ X,X=adrS 1:=⟨_,rfl⟩;obtain ⟨Y,hY⟩:∃ Y,Y=adrS 6:=⟨_,rfl⟩;rw [<- hX] at h0 hxy;rw [<- hY] at h3 hxy;replace hX:=hid hX;replace hY:=hid hY;replace hxy:=hid hxy;replace hS:=hid hS;obtain ⟨k,hk⟩:∃ k,k=w.heap.size:=⟨_,rfl⟩;have hxa:=Mod.alloc (Mod.refl (fun _=>False) w) (.map #[] 0);have hma:=MapAt.made w Value.string;rw [<- hk] at hma;have hx1:=hid hxa;have hm1:=hid hma;have c10:=hxa.cell h0 (fun h=>h);have c11:=hxa.cell h1 (fun h=>h);have c12:=hxa.cell h2 (fun h=>h);have c13:=hxa.cell h3 (fun h=>h);have c14:=hxa.cell h4 (fun h=>h);have c15:=hxa.cell h5 (fun h=>h);have hkw:Hid (w.heap.size<=k):=hid (by omega);clear hxa hma h0 h1 h2 h3 h4 h5;go_enter Tryz.func117,Tryz.ntmps117;go_wp2_with fail
 refine hms.out.mono ?_;rintro e w1 ⟨rfl,rfl⟩;go_wp2_with fail
 refine hic.out.mono ?_;rintro e w1 ⟨rfl,rfl⟩;go_upto_region 6 with fail
 try simp only [<- hk]
 replace hk:=hid hk;generalize World.alloc _ (.map #[] 0)=w1 at hx1 hm1 c10 c11 c12 c13 c14 c15 ⊢;go_wp2_with fail
 refine wp_loop_rounds 3 ?_;rw [rounds_succ];have hxp1:=Mod.alloc (Mod.refl (fun _=>False) w1) (.cells #[.string X,.string t1,.slice yo1 yn1 yc1] 335);have hpa1:=heap_alloc_new w1 (.cells #[.string X,.string t1,.slice yo1 yn1 yc1] 335);have hlk1:=run_lookupM (P:=Tryz.prog) (t:=218) (keyOk_string Tryz.underlying9) Tryz.underlying218 (hm1.out.mod hxp1 (fun h=>h)) X (zero_str (w1.alloc (.cells #[.string X,.string t1,.slice yo1 yn1 yc1] 335))) true;rw [show assoc ([]:List (ByteArray × Value)) X=none from rfl] at hlk1;simp only [Option.getD_none,Option.isSome_none,if_true] at hlk1;obtain ⟨p1,hp1⟩:∃ p,p=w1.heap.size:=⟨_,rfl⟩;rw [<- hp1] at hpa1;have pc1:(w1.alloc (.cells #[.string X,.string t1,.slice yo1 yn1 yc1] 335)).cell? ⟨p1,0,none⟩=some (.string X):=cellN hpa1 0;have pd1:(w1.alloc (.cells #[.string X,.string t1,.slice yo1 yn1 yc1] 335)).cell? ⟨p1,1,none⟩=some (.string t1):=cellN hpa1 1;have mm1:=hid (hm1.out.mod hxp1 (fun h=>h));have xx1:=hid (hx1.out.trans hxp1);have ps1:Hid (p1 < (w1.alloc (.cells #[.string X,.string t1,.slice yo1 yn1 yc1] 335)).heap.size):=hid (by rw [World.size_alloc,hp1];omega);have cc1:=hid (And.intro (hxp1.cell c10 (fun h=>h)) (And.intro (hxp1.cell c11 (fun h=>h)) (And.intro (hxp1.cell c12 (fun h=>h)) (And.intro (hxp1.cell c13 (fun h=>h)) (And.intro (hxp1.cell c14 (fun h=>h)) (hxp1.cell c15 (fun h=>h)))))));go_upto_region 9 with fail
 try simp only [<- hp1]
 replace hp1:=hid hp1;clear c10 c11 c12 c13 c14 c15 hxp1 hpa1;generalize w1.alloc (.cells #[.string X,.string t1,.slice yo1 yn1 yc1] 335)=V1 at hlk1 pc1 pd1 mm1 xx1 ps1 cc1 ⊢;go_wp2_with (refine wpList_update rfl _ _ _ 218 _ rfl (keyOk_string Tryz.underlying9) Tryz.underlying218 mm1.out X (.string t1) rfl rfl rfl (fun w2 H=>Hid.out ?_))
 have hm2:=hid H.out.1;have hx2:=hid (xx1.out.then H.out.2.1 (fun k hk e=>by have:=hkw.out;omega));have hgk1:¬ k=g:=fun e=>by have:=hgw.out;have:=hkw.out;omega
 have c20:=H.out.2.1.cell cc1.out.1 (fun e=>hgk1 e);have c21:=H.out.2.1.cell cc1.out.2.1 (fun e=>hgk1 e);have c22:=H.out.2.1.cell cc1.out.2.2.1 (fun e=>hgk1 e);have c23:=H.out.2.1.cell cc1.out.2.2.2.1 (fun e=>hgk1 e);have c24:=H.out.2.1.cell cc1.out.2.2.2.2.1 (fun e=>hgk1 e);have c25:=H.out.2.1.cell cc1.out.2.2.2.2.2 (fun e=>hgk1 e);clear H hlk1 pc1 pd1 mm1 xx1 cc1;refine hid ?_;go_wp2_with fail
 rw [rounds_succ];have hxp2:=Mod.alloc (Mod.refl (fun _=>False) w2) (.cells #[.string Y,.string t2,.slice yo2 yn2 yc2] 335);have hpa2:=heap_alloc_new w2 (.cells #[.string Y,.string t2,.slice yo2 yn2 yc2] 335);have hlk2:=run_lookupM (P:=Tryz.prog) (t:=218) (keyOk_string Tryz.underlying9) Tryz.underlying218 (hm2.out.mod hxp2 (fun h=>h)) Y (zero_str (w2.alloc (.cells #[.string Y,.string t2,.slice yo2 yn2 yc2] 335))) true;rw [show assoc (upd ([]:List (ByteArray × Value)) X (.string t1)) Y=none from by rw [assoc_upd,if_neg (fun e=>hxy.out e.symm)];rfl] at hlk2;simp only [Option.getD_none,Option.isSome_none,if_true] at hlk2;obtain ⟨p2,hp2⟩:∃ p,p=w2.heap.size:=⟨_,rfl⟩;rw [<- hp2] at hpa2;have pc2:(w2.alloc (.cells #[.string Y,.string t2,.slice yo2 yn2 yc2] 335)).cell? ⟨p2,0,none⟩=some (.string Y):=cellN hpa2 0;have pd2:(w2.alloc (.cells #[.string Y,.string t2,.slice yo2 yn2 yc2] 335)).cell? ⟨p2,1,none⟩=some (.string t2):=cellN hpa2 1;have mm2:=hid (hm2.out.mod hxp2 (fun h=>h));have xx2:=hid (hx2.out.trans hxp2);have ps2:Hid (p2 < (w2.alloc (.cells #[.string Y,.string t2,.slice yo2 yn2 yc2] 335)).heap.size):=hid (by rw [World.size_alloc,hp2];omega);have cc2:=hid (And.intro (hxp2.cell c20 (fun h=>h)) (And.intro (hxp2.cell c21 (fun h=>h)) (And.intro (hxp2.cell c22 (fun h=>h)) (And.intro (hxp2.cell c23 (fun h=>h)) (And.intro (hxp2.cell c24 (fun h=>h)) (hxp2.cell c25 (fun h=>h)))))));go_upto_region 9 with fail
 try simp only [<- hp2]
 replace hp2:=hid hp2;clear c20 c21 c22 c23 c24 c25 hxp2 hpa2;generalize w2.alloc (.cells #[.string Y,.string t2,.slice yo2 yn2 yc2] 335)=V2 at hlk2 pc2 pd2 mm2 xx2 ps2 cc2 ⊢;go_wp2_with (refine wpList_update rfl _ _ _ 218 _ rfl (keyOk_string Tryz.underlying9) Tryz.underlying218 mm2.out Y (.string t2) rfl rfl rfl (fun w3 H=>Hid.out ?_))
 have hm3:=hid H.out.1;have hx3:=hid (xx2.out.then H.out.2.1 (fun k hk e=>by have:=hkw.out;omega));have hgk2:¬ k=g:=fun e=>by have:=hgw.out;have:=hkw.out;omega
 have c30:=H.out.2.1.cell cc2.out.1 (fun e=>hgk2 e);have c31:=H.out.2.1.cell cc2.out.2.1 (fun e=>hgk2 e);have c32:=H.out.2.1.cell cc2.out.2.2.1 (fun e=>hgk2 e);have c33:=H.out.2.1.cell cc2.out.2.2.2.1 (fun e=>hgk2 e);have c34:=H.out.2.1.cell cc2.out.2.2.2.2.1 (fun e=>hgk2 e);have c35:=H.out.2.1.cell cc2.out.2.2.2.2.2 (fun e=>hgk2 e);clear H hlk2 pc2 pd2 mm2 xx2 cc2;refine hid ?_;go_wp2_with fail
 rw [rounds_succ];have hS3:=hx3.out.at hS.out (fun h=>h);obtain ⟨B,hB⟩:∃ B,B=w3.heap.size:=⟨_,rfl⟩;have hxB:=Mod.alloc (Mod.refl (fun _=>False) w3) (.cells #[.map (some k)] 220);have hS4:=hxB.at hS3 (fun h=>h);have hv0:∃ v0,(siteC a0 a1 a2 a3 m)[c]?=some v0:=by
  have:c < (siteC a0 a1 a2 a3 m).size:=by show c < 6;omega
  exact ⟨_,Array.getElem?_eq_getElem this⟩
 obtain ⟨v0,hv0⟩:=hv0;have fz:=freeN hS4 c;have cz:(w3.alloc (.cells #[.map (some k)] 220)).cell? ⟨s,c,none⟩=some v0:=by rw [cellN hS4 c,hv0]
 have hfin:=put_at' hS4 c (.pointer (some ⟨B,0,none⟩));have hmf:Cdk.Mod (Eq s) w ((w3.alloc (.cells #[.map (some k)] 220)).setCell ⟨s,c,none⟩ (.pointer (some ⟨B,0,none⟩))):=((hx3.out.trans hxB).mono (T:=Eq s) (fun _ h=>h.elim)).setCell (a:=⟨s,c,none⟩) (fun _=>rfl) _;replace hfin:=hid hfin;replace hmf:=hid hmf;replace hv0:=hid hv0;rw [hB] at hfin hmf;replace hB:=hid hB;clear hS3 hxB hS4;go_wp2_with fail
 go_ret;refine ⟨rfl,?_,hmf.out⟩;have hf:=hfin.out;have h4:c=0 \/ c=1 \/ c=2 \/ c=3:=by omega
 rcases h4 with rfl | rfl | rfl | rfl
 ·exact ⟨_,_,_,_,hf⟩
 ·exact ⟨_,_,_,_,hf⟩
 ·exact ⟨_,_,_,_,hf⟩
 ·exact ⟨_,_,_,_,hf⟩
end Go.Proofs.YtcopgcdhkgenkaaGreatDoor
