import Derived.Test.YtcopgcdhkgenkaaGreatDoorV37
set_option linter.all false
set_option maxRecDepth 100000
set_option maxHeartbeats 16000000
namespace Go.Proofs.YtcopgcdhkgenkaaGreatDoor
open Go.Shelf Go.RowKit Cdk Scr
def kyfn (R n:Nat):Value:=.func (.func 708) #[] #[.pointer (some ⟨R,0,none⟩),.pointer (some ⟨n,0,none⟩)]
theorem fieldGiven_any (x:ByteArray) (w:World):Calls Tryz.prog 705 #[.string x] w fun e w'=>(∃ n,e=.returned (.func (.func 706) #[] #[.pointer (some ⟨n,0,none⟩)]))/\Ext w w':=by
 have hmf:∀ (fn:Fn) (first cap:Array Value) (w:World),(Instr.makeFunc fn first cap).run Tryz.prog w=.ok (.func fn first cap) w:=fun _ _ _ _=>rfl
 have hx:=hid (Mod.alloc (Mod.refl (fun _=>False) w) (.cells #[.string x] 9));go_enter Tryz.func705,Tryz.ntmps705;go_wp2_with fail
 go_ret;exact ⟨⟨_,rfl⟩,hx.out⟩
theorem fieldKey_any (R:Nat) (x:ByteArray) (w:World):Calls Tryz.prog 707 #[.string x,.pointer (some ⟨R,0,none⟩)] w fun e w'=>∃ n,e=.returned (.func (.func 708) #[] #[.pointer (some ⟨R,0,none⟩),.pointer (some ⟨n,0,none⟩)])/\w'.cell? ⟨n,0,none⟩=some (.string x)/\Ext w w':=by
 have hmf:∀ (fn:Fn) (first cap:Array Value) (w:World),(Instr.makeFunc fn first cap).run Tryz.prog w=.ok (.func fn first cap) w:=fun _ _ _ _=>rfl
 have hx:=hid (Mod.alloc (Mod.refl (fun _=>False) w) (.cells #[.string x] 9));have hn:=hid (cellN (heap_alloc_new w (.cells #[.string x] 9)) 0);go_enter Tryz.func707,Tryz.ntmps707;go_wp2_with fail
 go_ret;exact ⟨_,rfl,hn.out,hx.out⟩
theorem ifTopic_any (c:EvC) (hk:c.k=1 \/ c.k=6) (R T:Nat) (fv:Value) (w:World) (hR:w.cell? ⟨R,0,none⟩=some (.pointer (some ⟨c.rd,0,none⟩))) (hT:w.cell? ⟨T,0,none⟩=some (.func (.func 705) #[] #[])) (hk2:w.cell? ⟨c.rd,2,none⟩=some (.int .i64 c.k)):
  Calls Tryz.prog 709 #[fv,.pointer (some ⟨R,0,none⟩),.pointer (some ⟨T,0,none⟩)] w fun e w'=>(∃ n,e=.returned (.func (.func 706) #[] #[.pointer (some ⟨n,0,none⟩)]))/\Ext w w':=by
 have hen:=enters_of Tryz.func705 (by kernel_rfl) rfl;have hk3:(c.k==3)=false:=by rcases hk with e | e <;> rw [e] <;> rfl
 have hk4:(c.k !=3)=true:=by rcases hk with e | e <;> rw [e] <;> rfl
 have hg:=hid (fieldGiven_any ⟨#[]⟩ w);generalize c.k=k at hk2 hk3 hk4;generalize c.rd=rd at hR hk2;clear hk;go_enter Tryz.func709,Tryz.ntmps709;go_wp2_with fail
 refine hg.out.mono ?_;rintro e w1 ⟨⟨n,rfl⟩,hx⟩;have hx1:=hid hx;clear hx;go_wp2_with fail
 go_ret;exact ⟨⟨_,rfl⟩,hx1.out⟩
def fnL:List ByteArray:=[⟨#[107,105,110,100]⟩,⟨#[117,114,108]⟩,⟨#[110,97,109,101]⟩,⟨#[110,117,109,98,101,114]⟩,⟨#[112,114,101,118,105,111,117,115]⟩,⟨#[112,97,103,101,115]⟩,⟨#[110,101,120,116]⟩,⟨#[99,111,117,110,116]⟩,⟨#[116,111,112,105,99,115]⟩,⟨#[97,117,116,104,111,114,115]⟩]
def fnB (i:Nat):ByteArray:=fnL.getD i ⟨#[]⟩
def FieldsP (c:EvC) (w:World) (e:Ending) (w':World):Prop:=∃ (g R n8 n9:Nat) (ff:Nat -> Fn) (fa:Nat -> Array Value),e=.returned (.slice (some ⟨g,0,none⟩) 10 10) ∧
 (∀ i,i < 10 -> w'.cell? ⟨g,i*2,none⟩=some (.string (fnB i))/\w'.cell? ⟨g,i*2+1,none⟩=some (.func (ff i) #[] (fa i))) ∧
 (Value.func (ff 8) #[] (fa 8)=kyfn R n8/\Value.func (ff 9) #[] (fa 9)=kyfn R n9)/\w'.cell? ⟨R,0,none⟩=some (.pointer (some ⟨c.rd,0,none⟩))/\w'.cell? ⟨n8,0,none⟩=some (.string (fnB 8))/\w'.cell? ⟨n9,0,none⟩=some (.string (fnB 9))/\Ext w w'
theorem Mod.of_eq {S:Nat -> Prop} {w w':World} (h:w=w'):Cdk.Mod S w w':=h ▸ Mod.refl S w
theorem fields_any (c:EvC) (hk:c.k=1 \/ c.k=6) (w:World) (hG:Gl w) {d:List (ByteArray × Value)} (h:RdrAt w c.a1 c.a2 c.c1 c.c2 c.k c.url c.word c.rd c.mm d):
  Calls Tryz.prog 700 #[.pointer (some ⟨c.rd,0,none⟩)] w (FieldsP c w):=by
 have hmf:∀ (fn:Fn) (first cap:Array Value) (w:World),(Instr.makeFunc fn first cap).run Tryz.prog w=.ok (.func fn first cap) w:=fun _ _ _ _=>rfl
 have hen1:=enters_of Tryz.func705 (by kernel_rfl) rfl;have hen2:=enters_of Tryz.func707 (by kernel_rfl) rfl;have hen3:=enters_of Tryz.func709 (by kernel_rfl) rfl;obtain ⟨post,hpost⟩:∃ post,post=FieldsP c w:=⟨_,rfl⟩;rw [<- hpost];replace hpost:=hid hpost;have hxA:=Mod.alloc (Mod.refl (fun _=>False) w) (.cells #[.pointer (some ⟨c.rd,0,none⟩)] 459);have hA:=heap_alloc_new w (.cells #[.pointer (some ⟨c.rd,0,none⟩)] 459);obtain ⟨R,hRe⟩:∃ R,R=w.heap.size:=⟨_,rfl⟩;rw [<- hRe] at hA;replace hRe:=hid hRe;have h0:=hid h;have hmr:=hid (show c.rd=c.rd from rfl);clear h;go_enter Tryz.func700,Tryz.ntmps700;go_upto_region 1 with fail
 try simp only [<- hRe.out]
 generalize w.alloc (.cells #[.pointer (some ⟨c.rd,0,none⟩)] 459)=w1 at hxA hA ⊢;have hxT:=Mod.alloc (Mod.refl (fun _=>False) w1) (.cells #[.func (.func 705) #[] #[]] 834);have hT:=heap_alloc_new w1 (.cells #[.func (.func 705) #[] #[]] 834);obtain ⟨T,hTe⟩:∃ T,T=w1.heap.size:=⟨_,rfl⟩;rw [<- hTe] at hT;replace hTe:=hid hTe;go_upto_region 4 with fail
 try simp only [<- hTe.out]
 generalize w1.alloc (.cells #[.func (.func 705) #[] #[]] 834)=w2 at hxT hT ⊢;have hx2:=hid (hxA.trans hxT);have r0:=hid (show w2.cell? ⟨R,0,none⟩=some (.pointer (some ⟨c.rd,0,none⟩)) from cellN (hxT.at hA (fun h=>h)) 0);have t0:=hid (show w2.cell? ⟨T,0,none⟩=some (.func (.func 705) #[] #[]) from cellN hT 0);have hr2:=hid (h0.out.mod hx2.out (fun h=>h) (fun h=>h));have d2:=hid (show w2.cell? ⟨c.rd,2,none⟩=some (.int .i64 c.k) from cellN hr2.out.at_ 2);have d3:=hid (show w2.cell? ⟨c.rd,3,none⟩=some (.string ⟨#[]⟩) from cellN hr2.out.at_ 3);have d4:=hid (show w2.cell? ⟨c.rd,4,none⟩=some (.int .i64 0) from cellN hr2.out.at_ 4);have d6:=hid (show w2.cell? ⟨c.rd,6,none⟩=some (.string c.url) from cellN hr2.out.at_ 6);have d7:=hid (show w2.cell? ⟨c.rd,7,none⟩=some (.string c.word) from cellN hr2.out.at_ 7);clear hxA hA hxT hT;have hgv:=hid (fun x W=>fieldGiven_any x W);have hky:=hid (fun x W=>fieldKey_any R x W);have hif:=hid (fun fv W (hx:Ext w2 W)=>ifTopic_any c hk R T fv W (hx.cell r0.out (fun h=>h)) (hx.cell t0.out (fun h=>h)) (hx.cell d2.out (fun h=>h)));have hG2:=hid (hG.ext hx2.out);have hit:=hid (fun W (hx:Ext w2 W)=>itoa_any 0 (by unfold I64;decide) W (hG2.out.ext hx));have htp:=hid (fun W (hx:Ext w2 W)=>topic_any c hk W c.rd c.mm d (hr2.out.mod hx (fun h=>h) (fun h=>h)));try simp only [List.append_eq,List.cons_append,List.nil_append]
 refine wp_region_tree (.s (.q 0 (.q 1 (.q 2 (.q 3 (.q 4 (.q 7 (.q 8 (.q 9 (.q 10 (.q 11 (.q 14 (.q 15 (.q 16 (.q 17 (.q 18 (.q 19 (.q 22 (.q 23 (.q 24 (.q 25 (.q 26 (.q 27 (.q 28 (.q 33 (.q 34 (.q 37 (.q 38 (.q 41 (.q 42 (.q 45 (.q 46 (.q 51 (.q 54 (.c1 5 (.q 6 (.c1 12 (.q 13 (.c1 20 (.q 21 (.c1 29 (.c1 30 (.c1 31 (.q 32 (.c1 35 (.q 36 (.c1 39 (.q 40 (.c1 43 (.q 44 (.c1 47 (.q 48 (.c1 49 (.q 50 (.c1 52 (.q 53 (.c1 55 (.q 56 (.c1 57 (.q 58 .done)))))))))))))))))))))))))))))))))))))))))))))))))))))))))))) (by as_aux_lemma=>kernel_rfl) (by as_aux_lemma=>kernel_rfl) (by as_aux_lemma=>kernel_rfl) (by decide) ?_;have hv0:=hid (Mod.drew0 (fun _=>False) w2);refine wpTr_s (fun Wx=>Ext w2 Wx) (fun _ _=>trivial) (hv0.out) ?_;generalize hWd:World.drew w2=V0 at hv0 ⊢
 iterate 2 (refine wpTr_q _ (by simp only [List.getD_cons_succ,List.getD_cons_zero];rfl) (by rfl) ?_ (fun w' hC=>?_) ?_;rotate_left;(have q1:=hC.cell r0.out (fun h=>h);have q2:=hC.cell t0.out (fun h=>h);have q3:=hC.cell d3.out (fun h=>h);have q4:=hC.cell d4.out (fun h=>h);have q6:=hC.cell d6.out (fun h=>h);have q7:=hC.cell d7.out (fun h=>h);go_simp;first | done | with_reducible rfl | exact rfl);try simp only [Act.put,sA,sZ,sS])
 iterate 2 (refine wpTr_q _ (by simp only [List.getD_cons_succ,List.getD_cons_zero];rfl) (by rfl) ?_ (fun w' hC=>?_) ?_;rotate_left;(go_simp;first | done | with_reducible rfl | exact rfl);try simp only [Act.put,sA,sZ,sS])
 iterate 3 (refine wpTr_q _ (by simp only [List.getD_cons_succ,List.getD_cons_zero];rfl) (by rfl) ?_ (fun w' hC=>?_) ?_;rotate_left;(have q1:=hC.cell r0.out (fun h=>h);have q2:=hC.cell t0.out (fun h=>h);have q3:=hC.cell d3.out (fun h=>h);have q4:=hC.cell d4.out (fun h=>h);have q6:=hC.cell d6.out (fun h=>h);have q7:=hC.cell d7.out (fun h=>h);go_simp;first | done | with_reducible rfl | exact rfl);try simp only [Act.put,sA,sZ,sS])
 iterate 2 (refine wpTr_q _ (by simp only [List.getD_cons_succ,List.getD_cons_zero];rfl) (by rfl) ?_ (fun w' hC=>?_) ?_;rotate_left;(go_simp;first | done | with_reducible rfl | exact rfl);try simp only [Act.put,sA,sZ,sS])
 iterate 3 (refine wpTr_q _ (by simp only [List.getD_cons_succ,List.getD_cons_zero];rfl) (by rfl) ?_ (fun w' hC=>?_) ?_;rotate_left;(have q1:=hC.cell r0.out (fun h=>h);have q2:=hC.cell t0.out (fun h=>h);have q3:=hC.cell d3.out (fun h=>h);have q4:=hC.cell d4.out (fun h=>h);have q6:=hC.cell d6.out (fun h=>h);have q7:=hC.cell d7.out (fun h=>h);go_simp;first | done | with_reducible rfl | exact rfl);try simp only [Act.put,sA,sZ,sS])
 iterate 3 (refine wpTr_q _ (by simp only [List.getD_cons_succ,List.getD_cons_zero];rfl) (by rfl) ?_ (fun w' hC=>?_) ?_;rotate_left;(go_simp;first | done | with_reducible rfl | exact rfl);try simp only [Act.put,sA,sZ,sS])
 (refine wpTr_q _ (by simp only [List.getD_cons_succ,List.getD_cons_zero];rfl) (by rfl) ?_ (fun w' hC=>?_) ?_;rotate_left;(have q1:=hC.cell r0.out (fun h=>h);have q2:=hC.cell t0.out (fun h=>h);have q3:=hC.cell d3.out (fun h=>h);have q4:=hC.cell d4.out (fun h=>h);have q6:=hC.cell d6.out (fun h=>h);have q7:=hC.cell d7.out (fun h=>h);go_simp;first | done | with_reducible rfl | exact rfl);try simp only [Act.put,sA,sZ,sS])
 (refine wpTr_q _ (by simp only [List.getD_cons_succ,List.getD_cons_zero];rfl) (by rfl) ?_ (fun w' hC=>?_) ?_;rotate_left;(go_simp;first | done | with_reducible rfl | exact rfl);try simp only [Act.put,sA,sZ,sS])
 iterate 2 (refine wpTr_q _ (by simp only [List.getD_cons_succ,List.getD_cons_zero];rfl) (by rfl) ?_ (fun w' hC=>?_) ?_;rotate_left;(have q1:=hC.cell r0.out (fun h=>h);have q2:=hC.cell t0.out (fun h=>h);have q3:=hC.cell d3.out (fun h=>h);have q4:=hC.cell d4.out (fun h=>h);have q6:=hC.cell d6.out (fun h=>h);have q7:=hC.cell d7.out (fun h=>h);go_simp;first | done | with_reducible rfl | exact rfl);try simp only [Act.put,sA,sZ,sS])
 iterate 3 (refine wpTr_q _ (by simp only [List.getD_cons_succ,List.getD_cons_zero];rfl) (by rfl) ?_ (fun w' hC=>?_) ?_;rotate_left;(go_simp;first | done | with_reducible rfl | exact rfl);try simp only [Act.put,sA,sZ,sS])
 (refine wpTr_q _ (by simp only [List.getD_cons_succ,List.getD_cons_zero];rfl) (by rfl) ?_ (fun w' hC=>?_) ?_;rotate_left;(have q1:=hC.cell r0.out (fun h=>h);have q2:=hC.cell t0.out (fun h=>h);have q3:=hC.cell d3.out (fun h=>h);have q4:=hC.cell d4.out (fun h=>h);have q6:=hC.cell d6.out (fun h=>h);have q7:=hC.cell d7.out (fun h=>h);go_simp;first | done | with_reducible rfl | exact rfl);try simp only [Act.put,sA,sZ,sS])
 iterate 7 (refine wpTr_q _ (by simp only [List.getD_cons_succ,List.getD_cons_zero];rfl) (by rfl) ?_ (fun w' hC=>?_) ?_;rotate_left;(go_simp;first | done | with_reducible rfl | exact rfl);try simp only [Act.put,sA,sZ,sS])
 (refine wpTr_q _ (by simp only [List.getD_cons_succ,List.getD_cons_zero];rfl) (by rfl) ?_ (fun w' hC=>?_) ?_;rotate_left;(have q1:=hC.cell r0.out (fun h=>h);have q2:=hC.cell t0.out (fun h=>h);have q3:=hC.cell d3.out (fun h=>h);have q4:=hC.cell d4.out (fun h=>h);have q6:=hC.cell d6.out (fun h=>h);have q7:=hC.cell d7.out (fun h=>h);go_simp;first | done | with_reducible rfl | exact rfl);try simp only [Act.put,sA,sZ,sS])
 iterate 2 (refine wpTr_q _ (by simp only [List.getD_cons_succ,List.getD_cons_zero];rfl) (by rfl) ?_ (fun w' hC=>?_) ?_;rotate_left;(go_simp;first | done | with_reducible rfl | exact rfl);try simp only [Act.put,sA,sZ,sS])
 refine wpTr_c1 _ (by simp only [List.getD_cons_succ,List.getD_cons_zero];rfl) ?_;refine wpN_c (by rfl) (fun K hK=>?_);go_simp;refine (hgv.out _ V0).mono ?_;rintro e V1 ⟨⟨n0,rfl⟩,hxn⟩;have hv1:=hid (hv0.out.trans hxn);refine hK.out _ _ hv1.out ?_;clear hxn;clear hK K;try simp only [Act.put,sA,sZ,sS]
 (refine wpTr_q _ (by simp only [List.getD_cons_succ,List.getD_cons_zero];rfl) (by rfl) ?_ (fun w' hC=>?_) ?_;rotate_left;(go_simp;first | done | with_reducible rfl | exact rfl);try simp only [Act.put,sA,sZ,sS])
 refine wpTr_c1 _ (by simp only [List.getD_cons_succ,List.getD_cons_zero];rfl) ?_;refine wpN_c (by rfl) (fun K hK=>?_);go_simp;refine (hgv.out _ V1).mono ?_;rintro e V2 ⟨⟨n1,rfl⟩,hxn⟩;have hv2:=hid (hv1.out.trans hxn);refine hK.out _ _ hv2.out ?_;clear hxn;clear hK K;try simp only [Act.put,sA,sZ,sS]
 (refine wpTr_q _ (by simp only [List.getD_cons_succ,List.getD_cons_zero];rfl) (by rfl) ?_ (fun w' hC=>?_) ?_;rotate_left;(go_simp;first | done | with_reducible rfl | exact rfl);try simp only [Act.put,sA,sZ,sS])
 refine wpTr_c1 _ (by simp only [List.getD_cons_succ,List.getD_cons_zero];rfl) ?_;refine wpN_c (by rfl) (fun K hK=>?_);go_simp;refine (hgv.out _ V2).mono ?_;rintro e V3 ⟨⟨n2,rfl⟩,hxn⟩;have hv3:=hid (hv2.out.trans hxn);refine hK.out _ _ hv3.out ?_;clear hxn;clear hK K;try simp only [Act.put,sA,sZ,sS]
 (refine wpTr_q _ (by simp only [List.getD_cons_succ,List.getD_cons_zero];rfl) (by rfl) ?_ (fun w' hC=>?_) ?_;rotate_left;(go_simp;first | done | with_reducible rfl | exact rfl);try simp only [Act.put,sA,sZ,sS])
 refine wpTr_c1 _ (by simp only [List.getD_cons_succ,List.getD_cons_zero];rfl) ?_;refine wpN_c (by rfl) (fun K hK=>?_);go_simp;refine (hit.out V3 hv3.out).mono ?_;rintro e V4 ⟨rfl,hxn⟩;have hv4:=hid (hv3.out.trans hxn);refine hK.out _ _ hv4.out ?_;clear hxn;clear hK K;try simp only [Act.put,sA,sZ,sS]
 refine wpTr_c1 _ (by simp only [List.getD_cons_succ,List.getD_cons_zero];rfl) ?_;refine wpN_c (by rfl) (fun K hK=>?_);go_simp;refine (hgv.out _ V4).mono ?_;rintro e V5 ⟨⟨n4,rfl⟩,hxn⟩;have hv5:=hid (hv4.out.trans hxn);refine hK.out _ _ hv5.out ?_;clear hxn;clear hK K;try simp only [Act.put,sA,sZ,sS]
 refine wpTr_c1 _ (by simp only [List.getD_cons_succ,List.getD_cons_zero];rfl) ?_;refine wpN_c (by rfl) (fun K hK=>?_);go_simp;refine (hif.out _ V5 hv5.out).mono ?_;rintro e V6 ⟨⟨n5,rfl⟩,hxn⟩;have hv6:=hid (hv5.out.trans hxn);refine hK.out _ _ hv6.out ?_;clear hxn;clear hK K;try simp only [Act.put,sA,sZ,sS]
 (refine wpTr_q _ (by simp only [List.getD_cons_succ,List.getD_cons_zero];rfl) (by rfl) ?_ (fun w' hC=>?_) ?_;rotate_left;(go_simp;first | done | with_reducible rfl | exact rfl);try simp only [Act.put,sA,sZ,sS])
 refine wpTr_c1 _ (by simp only [List.getD_cons_succ,List.getD_cons_zero];rfl) ?_;refine wpN_c (by rfl) (fun K hK=>?_);go_simp;refine (hif.out _ V6 hv6.out).mono ?_;rintro e V7 ⟨⟨n6,rfl⟩,hxn⟩;have hv7:=hid (hv6.out.trans hxn);refine hK.out _ _ hv7.out ?_;clear hxn;clear hK K;try simp only [Act.put,sA,sZ,sS]
 (refine wpTr_q _ (by simp only [List.getD_cons_succ,List.getD_cons_zero];rfl) (by rfl) ?_ (fun w' hC=>?_) ?_;rotate_left;(go_simp;first | done | with_reducible rfl | exact rfl);try simp only [Act.put,sA,sZ,sS])
 refine wpTr_c1 _ (by simp only [List.getD_cons_succ,List.getD_cons_zero];rfl) ?_;refine wpN_c (by rfl) (fun K hK=>?_);go_simp;refine (hif.out _ V7 hv7.out).mono ?_;rintro e V8 ⟨⟨n7,rfl⟩,hxn⟩;have hv8:=hid (hv7.out.trans hxn);refine hK.out _ _ hv8.out ?_;clear hxn;clear hK K;try simp only [Act.put,sA,sZ,sS]
 (refine wpTr_q _ (by simp only [List.getD_cons_succ,List.getD_cons_zero];rfl) (by rfl) ?_ (fun w' hC=>?_) ?_;rotate_left;(go_simp;first | done | with_reducible rfl | exact rfl);try simp only [Act.put,sA,sZ,sS])
 refine wpTr_c1 _ (by simp only [List.getD_cons_succ,List.getD_cons_zero];rfl) ?_;refine wpN_c (by rfl) (fun K hK=>?_);go_simp;refine (hif.out _ V8 hv8.out).mono ?_;rintro e V9 ⟨⟨n8,rfl⟩,hxn⟩;have hv9:=hid (hv8.out.trans hxn);refine hK.out _ _ hv9.out ?_;clear hxn;clear hK K;try simp only [Act.put,sA,sZ,sS]
 (refine wpTr_q _ (by simp only [List.getD_cons_succ,List.getD_cons_zero];rfl) (by rfl) ?_ (fun w' hC=>?_) ?_;rotate_left;(go_simp;first | done | with_reducible rfl | exact rfl);try simp only [Act.put,sA,sZ,sS])
 refine wpTr_c1 _ (by simp only [List.getD_cons_succ,List.getD_cons_zero];rfl) ?_;refine wpN_c (by rfl) (fun K hK=>?_);go_simp;refine (htp.out V9 hv9.out).mono ?_;rintro e V10 ⟨rfl,hwn⟩;have hxn:=Mod.of_eq (S:=fun _=>False) hwn;clear hwn;have hv10:=hid (hv9.out.trans hxn);refine hK.out _ _ hv10.out ?_;clear hxn;clear hK K;try simp only [Act.put,sA,sZ,sS]
 (refine wpTr_q _ (by simp only [List.getD_cons_succ,List.getD_cons_zero];rfl) (by rfl) ?_ (fun w' hC=>?_) ?_;rotate_left;(go_simp;first | done | with_reducible rfl | exact rfl);try simp only [Act.put,sA,sZ,sS])
 refine wpTr_c1 _ (by simp only [List.getD_cons_succ,List.getD_cons_zero];rfl) ?_;refine wpN_c (by rfl) (fun K hK=>?_);go_simp;refine (hky.out _ V10).mono ?_;rintro e V11 ⟨n10,rfl,hc10,hxn⟩;have hv11:=hid (hv10.out.trans hxn);refine hK.out _ _ hv11.out ?_;replace hc10:=hid hc10;clear hxn;clear hK K;try simp only [Act.put,sA,sZ,sS]
 (refine wpTr_q _ (by simp only [List.getD_cons_succ,List.getD_cons_zero];rfl) (by rfl) ?_ (fun w' hC=>?_) ?_;rotate_left;(go_simp;first | done | with_reducible rfl | exact rfl);try simp only [Act.put,sA,sZ,sS])
 refine wpTr_c1 _ (by simp only [List.getD_cons_succ,List.getD_cons_zero];rfl) ?_;refine wpN_c (by rfl) (fun K hK=>?_);go_simp;refine (hky.out _ V11).mono ?_;rintro e V12 ⟨n11,rfl,hc11,hxn⟩;have hv12:=hid (hv11.out.trans hxn);refine hK.out _ _ hv12.out ?_;replace hc11:=hid hc11;clear hxn;clear hK K;try simp only [Act.put,sA,sZ,sS]
 (refine wpTr_q _ (by simp only [List.getD_cons_succ,List.getD_cons_zero];rfl) (by rfl) ?_ (fun w' hC=>?_) ?_;rotate_left;(go_simp;first | done | with_reducible rfl | exact rfl);try simp only [Act.put,sA,sZ,sS])
 refine wpTr_c1 _ (by simp only [List.getD_cons_succ,List.getD_cons_zero];rfl) ?_;refine wpN_c (by rfl) (fun K hK=>?_);go_simp;refine (hky.out _ V12).mono ?_;rintro e V13 ⟨n12,rfl,hc12,hxn⟩;have hv13:=hid (hv12.out.trans hxn);refine hK.out _ _ hv13.out ?_;replace hc12:=hid hc12;have hv12to:=hid hxn;clear hxn;clear hK K;try simp only [Act.put,sA,sZ,sS]
 (refine wpTr_q _ (by simp only [List.getD_cons_succ,List.getD_cons_zero];rfl) (by rfl) ?_ (fun w' hC=>?_) ?_;rotate_left;(go_simp;first | done | with_reducible rfl | exact rfl);try simp only [Act.put,sA,sZ,sS])
 refine wpTr_c1 _ (by simp only [List.getD_cons_succ,List.getD_cons_zero];rfl) ?_;refine wpN_c (by rfl) (fun K hK=>?_);go_simp;have hxB:=Mod.alloc (Mod.refl (fun _=>False) V13) (.cells #[.string ⟨#[107,105,110,100]⟩,.func (.func 706) #[] #[.pointer (some ⟨n0,0,none⟩)],.string ⟨#[117,114,108]⟩,.func (.func 706) #[] #[.pointer (some ⟨n1,0,none⟩)],.string ⟨#[110,97,109,101]⟩,.func (.func 706) #[] #[.pointer (some ⟨n2,0,none⟩)],.string ⟨#[110,117,109,98,101,114]⟩,.func (.func 706) #[] #[.pointer (some ⟨n5,0,none⟩)],.string ⟨#[112,114,101,118,105,111,117,115]⟩,.func (.func 706) #[] #[.pointer (some ⟨n6,0,none⟩)],.string ⟨#[112,97,103,101,115]⟩,.func (.func 706) #[] #[.pointer (some ⟨n7,0,none⟩)],.string ⟨#[110,101,120,116]⟩,.func (.func 706) #[] #[.pointer (some ⟨n8,0,none⟩)],.string ⟨#[99,111,117,110,116]⟩,.func (.func 708) #[] #[.pointer (some ⟨R,0,none⟩),.pointer (some ⟨n10,0,none⟩)],.string ⟨#[116,111,112,105,99,115]⟩,.func (.func 708) #[] #[.pointer (some ⟨R,0,none⟩),.pointer (some ⟨n11,0,none⟩)],.string ⟨#[97,117,116,104,111,114,115]⟩,.func (.func 708) #[] #[.pointer (some ⟨R,0,none⟩),.pointer (some ⟨n12,0,none⟩)]] 829);have hB:=hid (heap_alloc_new V13 (.cells #[.string ⟨#[107,105,110,100]⟩,.func (.func 706) #[] #[.pointer (some ⟨n0,0,none⟩)],.string ⟨#[117,114,108]⟩,.func (.func 706) #[] #[.pointer (some ⟨n1,0,none⟩)],.string ⟨#[110,97,109,101]⟩,.func (.func 706) #[] #[.pointer (some ⟨n2,0,none⟩)],.string ⟨#[110,117,109,98,101,114]⟩,.func (.func 706) #[] #[.pointer (some ⟨n5,0,none⟩)],.string ⟨#[112,114,101,118,105,111,117,115]⟩,.func (.func 706) #[] #[.pointer (some ⟨n6,0,none⟩)],.string ⟨#[112,97,103,101,115]⟩,.func (.func 706) #[] #[.pointer (some ⟨n7,0,none⟩)],.string ⟨#[110,101,120,116]⟩,.func (.func 706) #[] #[.pointer (some ⟨n8,0,none⟩)],.string ⟨#[99,111,117,110,116]⟩,.func (.func 708) #[] #[.pointer (some ⟨R,0,none⟩),.pointer (some ⟨n10,0,none⟩)],.string ⟨#[116,111,112,105,99,115]⟩,.func (.func 708) #[] #[.pointer (some ⟨R,0,none⟩),.pointer (some ⟨n11,0,none⟩)],.string ⟨#[97,117,116,104,111,114,115]⟩,.func (.func 708) #[] #[.pointer (some ⟨R,0,none⟩),.pointer (some ⟨n12,0,none⟩)]] 829));obtain ⟨g,hg⟩:∃ g,g=V13.heap.size:=⟨_,rfl⟩;rw [<- hg] at hB ⊢;replace hg:=hid hg;generalize V13.alloc (.cells #[.string ⟨#[107,105,110,100]⟩,.func (.func 706) #[] #[.pointer (some ⟨n0,0,none⟩)],.string ⟨#[117,114,108]⟩,.func (.func 706) #[] #[.pointer (some ⟨n1,0,none⟩)],.string ⟨#[110,97,109,101]⟩,.func (.func 706) #[] #[.pointer (some ⟨n2,0,none⟩)],.string ⟨#[110,117,109,98,101,114]⟩,.func (.func 706) #[] #[.pointer (some ⟨n5,0,none⟩)],.string ⟨#[112,114,101,118,105,111,117,115]⟩,.func (.func 706) #[] #[.pointer (some ⟨n6,0,none⟩)],.string ⟨#[112,97,103,101,115]⟩,.func (.func 706) #[] #[.pointer (some ⟨n7,0,none⟩)],.string ⟨#[110,101,120,116]⟩,.func (.func 706) #[] #[.pointer (some ⟨n8,0,none⟩)],.string ⟨#[99,111,117,110,116]⟩,.func (.func 708) #[] #[.pointer (some ⟨R,0,none⟩),.pointer (some ⟨n10,0,none⟩)],.string ⟨#[116,111,112,105,99,115]⟩,.func (.func 708) #[] #[.pointer (some ⟨R,0,none⟩),.pointer (some ⟨n11,0,none⟩)],.string ⟨#[97,117,116,104,111,114,115]⟩,.func (.func 708) #[] #[.pointer (some ⟨R,0,none⟩),.pointer (some ⟨n12,0,none⟩)]] 829)=V14 at hxB hB ⊢;have hv14:=hid (hv13.out.trans hxB);have hc11':=hid (hxB.cell (hv12to.out.cell hc11.out (fun h=>h)) (fun h=>h));have hc12':=hid (hxB.cell hc12.out (fun h=>h));clear hxB;refine hK.out _ _ hv14.out ?_;clear hK K;try simp only [Act.put,sA,sZ,sS]
 (refine wpTr_q _ (by simp only [List.getD_cons_succ,List.getD_cons_zero];rfl) (by rfl) ?_ (fun w' hC=>?_) ?_;rotate_left;(go_simp;first | done | with_reducible rfl | exact rfl);try simp only [Act.put,sA,sZ,sS])
 refine wpTr_done ?_;go_wp2_with fail
 rw [hpost.out];have hf:=hv14.out;refine ⟨g,R,n11,n12,fun i=>.func (if i < 7 then 706 else 708),fun i=>if i < 7 then #[.pointer (some ⟨[n0,n1,n2,n5,n6,n7,n8].getD i 0,0,none⟩)] else #[.pointer (some ⟨R,0,none⟩),.pointer (some ⟨[n10,n11,n12].getD (i - 7) 0,0,none⟩)],rfl,?_,⟨rfl,rfl⟩,hf.cell r0.out (fun h=>h),hc11'.out,hc12'.out,hx2.out.trans hf⟩;intro i hi
 match i,hi with
 | 0,_ | 1,_ | 2,_ | 3,_ | 4,_ | 5,_ | 6,_ | 7,_ | 8,_ | 9,_=>exact ⟨cellN hB.out _,cellN hB.out _⟩
 | i+10,hi=>omega
theorem keyRead_any (c:EvC) (R n:Nat) (X v:ByteArray) {d:List (ByteArray × Value)} (hv:ValSpec c.a1 c.a2 X v) (hd:assoc d X=none) (w:World) (hG:Gl w) (h12:12<=c.mm) (h:RdrAt w c.a1 c.a2 c.c1 c.c2 c.k c.url c.word c.rd c.mm d)
  (hR:w.cell? ⟨R,0,none⟩=some (.pointer (some ⟨c.rd,0,none⟩))) (hn:w.cell? ⟨n,0,none⟩=some (.string X)):
  Calls Tryz.prog 708 #[.pointer (some ⟨R,0,none⟩),.pointer (some ⟨n,0,none⟩)] w fun e w'=>e=.returned (.string v)/\RdrAt w' c.a1 c.a2 c.c1 c.c2 c.k c.url c.word c.rd c.mm (upd d X (.string v))/\Cdk.Mod (Eq c.mm) w w':=by
 have hrn:=hid (read_new X v hv hd w hG h12 h);clear hv hd h hG;go_enter Tryz.func708,Tryz.ntmps708;go_wp2_with fail
 refine hrn.out.mono ?_;rintro e w1 ⟨rfl,hr,hm⟩;have hr':=hid hr;have hm':=hid hm;clear hr hm hR hn;go_wp2_with fail
 go_ret;exact ⟨rfl,hr'.out,hm'.out⟩
theorem rdField_any (c:EvC) (hk:c.k=1 \/ c.k=6) (j:Nat) (hj:j=8 \/ j=9) {d:List (ByteArray × Value)} (hv:ValSpec c.a1 c.a2 (fnB j) .empty) (hd:assoc d (fnB j)=none) (w:World) (hG:Gl w) (h12:12<=c.mm) (h:RdrAt w c.a1 c.a2 c.c1 c.c2 c.k c.url c.word c.rd c.mm d):
  Calls Tryz.prog 696 #[.pointer (some ⟨c.rd,0,none⟩),.int .i64 0,.string (fnB j)] w fun e w'=>e=.returned (.tuple #[.string .empty,.bool true])/\RdrAt w' c.a1 c.a2 c.c1 c.c2 c.k c.url c.word c.rd c.mm (upd d (fnB j) (.string .empty))/\Cdk.Mod (Eq c.mm) w w':=by
 have hen:=enters_of Tryz.func708 (by kernel_rfl) rfl;have hfs:=hid (fields_any c hk w hG h)
 have hmiss:Hid (∀ i,i < j -> ((fnB i).toList==(fnB j).toList)=false):=hid (by
  have h8:(List.range 8).all (fun i=>!((fnB i).toList==(fnB 8).toList))=true:=by kernel_rfl
  have h9:(List.range 9).all (fun i=>!((fnB i).toList==(fnB 9).toList))=true:=by kernel_rfl
  rw [List.all_eq_true] at h8 h9;intro i hi;rcases hj with rfl | rfl
  ·have:=h8 i (List.mem_range.2 hi);simpa using this
  ·have:=h9 i (List.mem_range.2 hi);simpa using this)
 have hkr:=hid (fun R n (W:World) (hx:Ext w W) h1 h2=>keyRead_any c R n (fnB j) .empty hv hd W (hG.ext hx) h12 (h.mod hx (fun h=>h) (fun h=>h)) h1 h2);have hmm:=hid h12;have hj10:j < 10:=by omega
 clear hv hd h h12 hk
 have hjn:Hid (∀ (R n8 n9:Nat) (ff:Nat -> Fn) (fa:Nat -> Array Value) (W:World),(Value.func (ff 8) #[] (fa 8)=kyfn R n8/\Value.func (ff 9) #[] (fa 9)=kyfn R n9) -> W.cell? ⟨n8,0,none⟩=some (.string (fnB 8)) -> W.cell? ⟨n9,0,none⟩=some (.string (fnB 9)) -> ∃ n,ff j=.func 708/\fa j=#[.pointer (some ⟨R,0,none⟩),.pointer (some ⟨n,0,none⟩)]/\W.cell? ⟨n,0,none⟩=some (.string (fnB j))):=hid (by
  intro R n8 n9 ff fa W h1 h2 h3;rcases hj with rfl | rfl
  ·have:=h1.1;unfold kyfn at this;injection this with e1 e2 e3;exact ⟨n8,e1,e3,h2⟩
  ·have:=h1.2;unfold kyfn at this;injection this with e1 e2 e3;exact ⟨n9,e1,e3,h3⟩)
 obtain ⟨X,hX⟩:∃ X,X=fnB j:=⟨_,rfl⟩;rw [<- hX] at hmiss hkr hjn ⊢;have hX':=hid hX;clear hX hj;go_enter Tryz.func696,Tryz.ntmps696;go_wp2_with fail
 refine hfs.out.mono ?_;rintro e w1 hF;obtain ⟨g,R,n8,n9,ff,fa,rfl,hcl,hfn,hR,h8,h9,hx1⟩:=hF;obtain ⟨n,hf1,hf2,hn⟩:=hjn.out R n8 n9 ff fa w1 hfn h8 h9;replace hcl:=hid hcl;replace hR:=hid hR;replace hn:=hid hn;replace hx1:=hid hx1;replace hf1:=hid hf1;replace hf2:=hid hf2;clear hfn h8 h9 hjn hfs;go_wp2_with fail
 go_loopg [22] (j+1) (fun gg i wr=>∃ k:Nat,k+gg=j+1/\k<=j/\i=.int .i64 k/\Ext w1 wr)
 case atStart=>exact ⟨0,by omega,by omega,rfl,Mod.refl _ _⟩
 case round=>
  obtain ⟨k,hk,hkj,rfl,hxr⟩:=hrel;replace hk:=hid hk;have hki:(k:Int) < 10:=by omega
  have hd:decide ((k:Int) < 10)=true:=decide_eq_true hki;have e0:wr.cell? ⟨g,k*2,none⟩=some (.string (fnB k)):=hxr.cell (hcl.out k (by omega)).1 (fun h=>h);have e1:wr.cell? ⟨g,k*2+1,none⟩=some (.func (ff k) #[] (fa k)):=hxr.cell (hcl.out k (by omega)).2 (fun h=>h);have hxM:=Mod.alloc (Mod.refl (fun _=>False) wr) (.cells #[.string (fnB k),.func (ff k) #[] (fa k)] 829);have hM:=heap_alloc_new wr (.cells #[.string (fnB k),.func (ff k) #[] (fa k)] 829);have hxB:=hid (hxr.trans hxM);go_upto_region 5 with fail
  obtain ⟨M,hMe⟩:∃ M,M=wr.heap.size:=⟨_,rfl⟩;rw [<- hMe] at hM ⊢;replace hMe:=hid hMe;generalize wr.alloc (.cells #[.string (fnB k),.func (ff k) #[] (fa k)] 829)=wB at hxM hM hxB ⊢;have f0:wB.cell? ⟨M,0,none⟩=some (.string (fnB k)):=cellN hM 0;have f1:wB.cell? ⟨M,1,none⟩=some (.func (ff k) #[] (fa k)):=cellN hM 1;clear hM hxM hxr e0 e1
  by_cases hkj2:k=j
  ·subst hkj2
   rw [<- hX'.out] at f0;rw [hf1.out,hf2.out] at f1;have hcl2:=hid (hkr.out R n wB (hx1.out.trans hxB.out) (hxB.out.cell hR.out (fun h=>h)) (hxB.out.cell hn.out (fun h=>h)));go_wp2_with fail
   refine hcl2.out.mono ?_;rintro e w3 ⟨rfl,hr3,hm3⟩;have hr3':=hid hr3;have hm3':=hid (((hx1.out.trans hxB.out).mono (fun _ h=>h.elim)).trans hm3);clear hr3 hm3 f0 f1 hcl2;go_wp2_with fail
   go_ret2
   exact ⟨rfl,hr3'.out,hm3'.out⟩
  ·have ht1:=hmiss.out k (by omega)
   go_wp2_with fail
   go_roundg (gk - 1)
   case measure=>have:=hk.out;omega
   case rel=>exact ⟨k+1,by have:=hk.out;omega,by omega,by go_num,hxB.out⟩
theorem field_any (c:EvC) (hk:c.k=1 \/ c.k=6) (hsv:c.sv=.iface 459 (.pointer (some ⟨c.rd,0,none⟩))) (s:EvS) (j:Nat) (hj:j=8 \/ j=9) (hv:ValSpec c.a1 c.a2 (fnB j) .empty) (hd:assoc s.d (fnB j)=none) (hlen:s.tx.length<=8192) (x x3:ByteArray) (i0 i4:Int) (o5 o6 o7:Option Addr) (c5 n6 c6 n7 c7:Nat):
  NodeSpec 493 c #[.int .i64 i0,.string x,.string (fnB j),.string x3,.int .i64 i4,.slice o5 0 c5,.slice o6 n6 c6,.slice o7 n7 c7] s { s with d:=upd s.d (fnB j) (.string .empty) }:=by
 intro w h;have hfd:=hid (fun W (h:EvAt W c s)=>rdField_any c hk j hj hv hd W h.gl h.ord.2.2.2.2.2 h.rdr);have hpt:=hid (fun W (h:EvAt W c { s with d:=upd s.d (fnB j) (.string .empty) })=>evPut_any .empty W h (by simpa using hlen));have hxA:=Mod.alloc (Mod.refl (fun _=>False) w) (.cells #[.int .i64 i0,.string x,.string (fnB j),.string x3,.int .i64 i4,.slice o5 0 c5,.slice o6 n6 c6,.slice o7 n7 c7] 673);have hA:=heap_alloc_new w (.cells #[.int .i64 i0,.string x,.string (fnB j),.string x3,.int .i64 i4,.slice o5 0 c5,.slice o6 n6 c6,.slice o7 n7 c7] 673);obtain ⟨A,hAe⟩:∃ A,A=w.heap.size:=⟨_,rfl⟩;rw [<- hAe] at hA;have hne1:=hid (show c.mm ≠ c.e by have:=h.ord;omega);have hne2:=hid (show c.mm ≠ A by obtain ⟨tv,h1,-⟩:=h.at_;have:=lt_of_at h1;have:=h.ord;omega);replace hAe:=hid hAe;have h0:=hid h;obtain ⟨X,hX⟩:∃ X,X=fnB j:=⟨_,rfl⟩;rw [<- hX] at hfd hpt hxA hA ⊢;obtain ⟨rd,hrd⟩:∃ rd,rd=c.rd:=⟨_,rfl⟩;rw [<- hrd] at hfd hsv;replace hX:=hid hX;replace hrd:=hid hrd;clear h hv hd hk hj hlen;go_enter Tryz.func493,Tryz.ntmps493;go_upto_region 1 with fail
 try simp only [<- hAe.out]
 generalize w.alloc (.cells #[.int .i64 i0,.string x,.string X,.string x3,.int .i64 i4,.slice o5 0 c5,.slice o6 n6 c6,.slice o7 n7 c7] 673)=wA at hxA hA ⊢;have hEA:=h0.out.ext hxA;obtain ⟨tv,hat,hown⟩:=hEA.at_;rw [hsv] at hat;have e1:=hid (show wA.cell? ⟨c.e,1,none⟩=some (.iface 459 (.pointer (some ⟨rd,0,none⟩))) from cellN hat 1);have b2:=hid (show wA.cell? ⟨A,2,none⟩=some (.string X) from cellN hA 2);have b5:=hid (show wA.cell? ⟨A,5,none⟩=some (.slice o5 0 c5) from cellN hA 5);have hEA':=hid hEA;have hx1:=hid hxA;clear hA hxA hEA hat hown;try simp only [List.append_eq,List.cons_append,List.nil_append]
 refine wp_region_tree (.s (.q 0 (.q 1 (.q 2 (.q 3 (.q 4 (.q 5 (.q 6 (.c1 7 (.q 8 (.q 9 (.q 10 (.q 11 (.q 12 .done)))))))))))))) (by as_aux_lemma=>kernel_rfl) (by as_aux_lemma=>kernel_rfl) (by as_aux_lemma=>kernel_rfl) (by decide) ?_;have hv0:=hid (Mod.drew0 (fun _=>False) wA);refine wpTr_s (fun Wx=>Cdk.Mod (Eq c.mm) wA Wx) (fun _ _=>trivial) (hv0.out.mono (fun _ h=>h.elim)) ?_;generalize hWd:World.drew wA=V0 at hv0 ⊢
 iterate 3 (refine wpTr_q _ (by simp only [List.getD_cons_succ,List.getD_cons_zero];rfl) (by rfl) ?_ (fun w' hC=>?_) ?_;rotate_left;(go_simp;first | done | with_reducible rfl | exact rfl);try simp only [Act.put,sA,sZ,sS])
 (refine wpTr_q _ (by simp only [List.getD_cons_succ,List.getD_cons_zero];rfl) (by rfl) ?_ (fun w' hC=>?_) ?_;rotate_left;(have q0:=hC.cell e1.out (fun h=>hne1.out h);have q1:=hC.cell b2.out (fun h=>hne2.out h);go_simp;first | done | with_reducible rfl | exact rfl);try simp only [Act.put,sA,sZ,sS])
 iterate 2 (refine wpTr_q _ (by simp only [List.getD_cons_succ,List.getD_cons_zero];rfl) (by rfl) ?_ (fun w' hC=>?_) ?_;rotate_left;(go_simp;first | done | with_reducible rfl | exact rfl);try simp only [Act.put,sA,sZ,sS])
 (refine wpTr_q _ (by simp only [List.getD_cons_succ,List.getD_cons_zero];rfl) (by rfl) ?_ (fun w' hC=>?_) ?_;rotate_left;(have q0:=hC.cell e1.out (fun h=>hne1.out h);have q1:=hC.cell b2.out (fun h=>hne2.out h);go_simp;first | done | with_reducible rfl | exact rfl);try simp only [Act.put,sA,sZ,sS])
 refine wpTr_c1 _ (by simp only [List.getD_cons_succ,List.getD_cons_zero];rfl) ?_;refine wpN_c (by rfl) (fun K hK=>?_);go_simp;refine (hfd.out V0 (hEA'.out.ext hv0.out)).mono ?_;rintro e V1 ⟨rfl,hr1,hm1⟩;have hc1:Cdk.Mod (Eq c.mm) wA V1:=(hv0.out.mono (fun _ h=>h.elim)).trans hm1;refine hK.out _ _ hc1 ?_;rw [hrd.out] at hr1;have hE1:=hid ((hEA'.out.ext hv0.out).read hm1 hr1);have hm1':=hid hc1;clear hr1 hm1 hc1;clear hK K;try simp only [Act.put,sA,sZ,sS]
 iterate 5 (refine wpTr_q _ (by simp only [List.getD_cons_succ,List.getD_cons_zero];rfl) (by rfl) ?_ (fun w' hC=>?_) ?_;rotate_left;(go_simp;first | done | with_reducible rfl | exact rfl);try simp only [Act.put,sA,sZ,sS])
 refine wpTr_done ?_;have y5:V1.cell? ⟨A,5,none⟩=some (.slice o5 0 c5):=hm1'.out.cell b5.out (fun h=>hne2.out h);have hm2:=hid ((hx1.out.mono (fun _ h=>h.elim)).trans (hm1'.out.mono (fun _ h=>Or.inl h.symm):Cdk.Mod (EvM c) _ _));clear e1 b2 b5;go_wp2_with fail
 refine wp_loop_rounds 1 ?_;rw [rounds_succ];go_wp2_with fail
 refine (hpt.out V1 hE1.out).mono ?_;rintro e V2 ⟨rfl,hE2,hm3⟩;have hm4:=hid (hm2.out.trans (hm3.mono (fun _ h=>.inr h)));have hE2':=hid hE2;clear hE2 hm3;go_wp2_with fail
 go_end0
 have he:s.tx++ByteArray.empty.data.toList=s.tx:=List.append_nil _;exact ⟨rfl,he ▸ hE2'.out,hm4.out⟩
structure Fits (N:NV) (n:Tpl.Nd):Prop where
 kd:N.kd=(n.kind:Int)
 tx:N.tx=⟨n.text.toArray⟩
 nm:N.nm=⟨n.name.toArray⟩
 ar:N.ar=⟨n.arg.toArray⟩
 ct:N.ct=n.count
 n5:N.n5=n.filters.length
 n7:N.n7=n.els.length
def nv0:NV:=⟨0,.empty,.empty,.empty,0,none,0,0,none,0,0,none,0,0⟩
theorem nodes_slice {F:Nat -> Prop} {w:World} {v:Value} {l:List Tpl.Nd} (h:Ps.NodesAt F w v l):∃ ao cap,v=.slice ao l.length cap:=by
 cases h with
 | mk ao cap rows l hr hb hrows hc=>
  have:∀ (rows:List Ps.NC) (l:List Tpl.Nd),Ps.RowsAt F w rows l -> rows.length=l.length:=fun rows=>by
   induction rows with
   | nil=>intro l h;cases h;rfl
   | cons c r ih=>intro l h;cases h with | cons _ _ _ l h1 h2=>simp [ih l h2]
  exact ⟨ao,cap,by rw [this rows l hrows]⟩
theorem node_view {F:Nat -> Prop} {w:World} {c:Ps.NC} {n:Tpl.Nd} (h:Ps.NodeAt F w c n):∃ N:NV,N.row.toList=Ps.ncC c/\Fits N n:=by
 cases h with
 | mk _ fl ks es h1 h2 h3=>
  obtain ⟨o5,c5,e5,-⟩:=h1;obtain ⟨o6,c6,e6⟩:=nodes_slice h2;obtain ⟨o7,c7,e7⟩:=nodes_slice h3;refine ⟨⟨c.kd,⟨c.tx.toArray⟩,⟨c.nm.toArray⟩,⟨c.ar.toArray⟩,c.ct,o5,fl.length,c5,o6,ks.length,c6,o7,es.length,c7⟩,?_,⟨rfl,rfl,rfl,rfl,rfl,rfl,rfl⟩⟩;unfold Ps.ncC;rw [e5,e6,e7]
  rfl
theorem rows_view {F:Nat -> Prop} {w:World}:∀ (rows:List Ps.NC) (l:List Tpl.Nd),Ps.RowsAt F w rows l -> ∃ f:List NV,f.length=l.length/\rows.flatMap Ps.ncC=f.flatMap (fun N=>N.row.toList)/\∀ i (hi:i < l.length),Fits (f.getD i nv0) l[i]:=fun rows=>by
 induction rows with
 | nil=>intro l h;cases h;exact ⟨[],rfl,rfl,fun i hi=>absurd hi (Nat.not_lt_zero i)⟩
 | cons c r ih=>
  intro l h
  cases h with
  | cons _ n _ l h1 h2=>
   obtain ⟨N,e1,e2⟩:=node_view h1
   obtain ⟨f,g1,g2,g3⟩:=ih l h2
   refine ⟨N::f,by simp [g1],by simp [e1,g2],fun i hi=>?_⟩
   match i,hi with
   | 0,_=>exact e2
   | i+1,hi=>exact g3 i (by simpa using hi)
theorem flat8:∀ (f:List NV) (i j:Nat),i < f.length -> j < 8 -> (f.flatMap (fun N=>N.row.toList))[i*8+j]?=((f.getD i nv0).row)[j]?:=fun f=>by
 induction f with
 | nil=>intro i j h;exact absurd h (Nat.not_lt_zero i)
 | cons a r ih=>
  intro i j hi hj
  have ha:a.row.toList.length=8:=rfl
  match i,hi with
  | 0,_=>
   rw [Nat.zero_mul,Nat.zero_add,List.flatMap_cons,List.getElem?_append_left (by omega)]
   simp
  | i+1,hi=>
   rw [List.flatMap_cons,List.getElem?_append_right (by omega),ha,show (i+1)*8+j - 8=i*8+j by omega,ih i j (by simpa using hi) hj]
   rfl
theorem nodes_view {F:Nat -> Prop} {w:World} {v:Value} {l:List Tpl.Nd} (h:Ps.NodesAt F w v l):∃ (ao:Option Addr) (cap:Nat) (nd:Nat -> NV),v=.slice ao l.length cap ∧
  (0 < l.length -> ∃ b off,ao=some ⟨b,off,none⟩/\F b/\∀ i,i < l.length -> ∀ j,j < 8 -> w.cell? ⟨b,off+i*8+j,none⟩=(nd i).row[j]?)/\∀ i (hi:i < l.length),Fits (nd i) l[i]:=by
 obtain ⟨ao',cap',hv⟩:=nodes_slice h;cases h with
 | mk ao cap rows l hr hb hrows hc=>
  injection hv with e1 e2 e3
  obtain ⟨f,g1,g2,g3⟩:=rows_view rows l hrows;refine ⟨ao,cap,fun i=>f.getD i nv0,by rw [e2],fun hl=>?_,g3⟩;rw [g2] at hr;have hlen:0 < (f.flatMap (fun N=>N.row.toList)).length:=by
   have:=flat8 f 0 0 (by omega) (by decide);rw [show ((f.getD 0 nv0).row)[0]?=some (.int .i64 (f.getD 0 nv0).kd) from rfl] at this;have:=(List.getElem?_eq_some_iff.1 this).1;omega
  obtain ⟨b,off,e,hcl⟩:=hr.at hlen;refine ⟨b,off,e,hb b off e,fun i hi j hj=>?_⟩;have h8:=flat8 f i j (by omega) hj;obtain ⟨u,hu⟩:∃ u,((f.getD i nv0).row)[j]?=some u:=⟨_,Array.getElem?_eq_getElem (show j < 8 from hj)⟩;show w.cell? ⟨b,off+i*8+j,none⟩=((f.getD i nv0).row)[j]?
  rw [hu,Nat.add_assoc];exact hcl _ _ (h8.trans hu)
def ndL (k:Int):List Tpl.Nd:=if k=1 then
  [.mk 1 [70,114,111,110,116,32,112,97,103,101,10] [] [] 0 [] [] [],.mk 3 [] [108,97,116,101,115,116] [] 5 [] [.mk 2 [] [116,105,116,108,101] [] 0 [[115,104,111,114,116]] [] [],.mk 1 [10] [] [] 0 [] [] []] []]
 else [.mk 2 [] [116,111,112,105,99,115] [] 0 [] [] [],.mk 1 [10] [] [] 0 [] [] [],.mk 2 [] [97,117,116,104,111,114,115] [] 0 [] [] [],.mk 1 [10] [] [] 0 [] [] [],.mk 3 [] [108,97,116,101,115,116] [] 64 [] [.mk 2 [] [117,114,108] [] 0 [] [] [],.mk 1 [10] [] [] 0 [] [] []] []]
theorem parse_ktB (k:Int) (hk:k=1 \/ k=6):Tpl.parse (ktB k)=.ok (ndL k):=by
 rcases hk with rfl | rfl <;> kernel_rfl
def tkB (k:Int):Bs:=[116,101,109,112,108,97,116,101,47]++kwB k
theorem split_key (s:Bs) (L:List ByteArray) (hs:s.length<=1000) (h3:3<=s.length) (h:Lib.splitB ⟨#[47]⟩ 0 3 ⟨s.toArray⟩=L) (W:World) (hG:Gl W):
  Calls Tryz.prog 308 #[.string ⟨s.toArray⟩,.string ⟨#[47]⟩,.int .i64 4] W fun e w'=>e=.returned (.slice (some ⟨W.heap.size,0,none⟩) L.length 4)/\w'=W.alloc (.cells (Lib.cellsOf L 4) 9):=by
 have hs4:=splitN_any s hs 4 4 rfl (by decide) W hG;have hm:min 4 (s.length+1)=4:=by omega
 rw [hm] at hs4;show Calls Tryz.prog 308 #[.string ⟨s.toArray⟩,.string ⟨#[47]⟩,.int .i64 4] W _
 rw [show (4:Nat) - 1=3 from rfl,h] at hs4;exact hs4
theorem valTemplate_any (k:Int) (hk:k=1 \/ k=6) (a1 a2:Option Addr):ValSpec a1 a2 ⟨(tkB k).toArray⟩ .empty:=by
 intro c1 c2 W hG;have hn:∀ k:Int,k=1 \/ k=6 -> Lib.splitB ⟨#[47]⟩ 0 3 ⟨(tkB k).toArray⟩=[⟨([116,101,109,112,108,97,116,101]:Bs).toArray⟩,⟨(kwB k).toArray⟩]:=fun k hk=>by rcases hk with rfl | rfl <;> kernel_rfl
 refine value_any ⟨(tkB k).toArray⟩ [⟨([116,101,109,112,108,97,116,101]:Bs).toArray⟩,⟨(kwB k).toArray⟩] 2 4 0 ⟨([116,101,109,112,108,97,116,101]:Bs).toArray⟩ ⟨(kwB k).toArray⟩ ⟨#[]⟩ (by decide) rfl (by decide) (by decide) (by decide) a1 a2 ?_ ?_ rfl rfl rfl (fun i hi=>absurd hi (Nat.not_lt_zero i)) (by kernel_rfl) rfl ?_ (enters_of Tryz.func464 (by kernel_rfl) rfl) c1 c2 W hG
 ·rcases hk with rfl | rfl <;> kernel_rfl
 ·exact fun W hG=>split_key (tkB k) _ (by rcases hk with rfl | rfl <;> decide) (by rcases hk with rfl | rfl <;> decide) (hn k hk) W hG
 ·exact fun c1 c2 A W _ hA=>formTemplate_any k hk A a1 a2 c1 c2 ⟨#[]⟩ W hA
theorem valLatest_any (k:Int) (hk:k=1 \/ k=6) (a1 a2:Option Addr):ValSpec a1 a2 ⟨(llB k).toArray⟩ .empty:=by
 intro c1 c2 W hG;have hn:∀ k:Int,k=1 \/ k=6 -> Lib.splitB ⟨#[47]⟩ 0 3 ⟨(llB k).toArray⟩=[⟨([108,97,116,101,115,116]:Bs).toArray⟩,⟨#[]⟩,⟨(numB k).toArray⟩]:=fun k hk=>by rcases hk with rfl | rfl <;> kernel_rfl
 refine value_any ⟨(llB k).toArray⟩ [⟨([108,97,116,101,115,116]:Bs).toArray⟩,⟨#[]⟩,⟨(numB k).toArray⟩] 3 4 2 ⟨([108,97,116,101,115,116]:Bs).toArray⟩ ⟨#[]⟩ ⟨(numB k).toArray⟩ (by decide) rfl (by decide) (by decide) (by decide) a1 a2 ?_ ?_ rfl rfl rfl (fun i hi=>?_) (by kernel_rfl) rfl ?_ (enters_of Tryz.func470 (by kernel_rfl) rfl) c1 c2 W hG
 ·rcases hk with rfl | rfl <;> kernel_rfl
 ·exact fun W hG=>split_key (llB k) _ (by rcases hk with rfl | rfl <;> decide) (by rcases hk with rfl | rfl <;> decide) (hn k hk) W hG
 ·have h8:(List.range 2).all (fun i=>!((fwB i).toList==(⟨([108,97,116,101,115,116]:Bs).toArray⟩:ByteArray).toList))=true:=by kernel_rfl
  rw [List.all_eq_true] at h8;have:=h8 i (List.mem_range.2 hi);simpa using this
 ·exact fun c1 c2 A W hG hA=>formLatest_any k hk A a1 a2 c1 c2 ⟨#[]⟩ W hG hA
theorem valTopics_any (a1 a2:Option Addr):ValSpec a1 a2 (fnB 8) .empty:=by
 intro c1 c2 W hG;have hn:Lib.splitB ⟨#[47]⟩ 0 3 ⟨([116,111,112,105,99,115]:Bs).toArray⟩=[⟨([116,111,112,105,99,115]:Bs).toArray⟩]:=by kernel_rfl
 refine value_any ⟨([116,111,112,105,99,115]:Bs).toArray⟩ [⟨([116,111,112,105,99,115]:Bs).toArray⟩] 1 4 6 ⟨([116,111,112,105,99,115]:Bs).toArray⟩ ⟨#[]⟩ ⟨#[]⟩ (by decide) rfl (by decide) (by decide) (by decide) a1 a2 (by kernel_rfl) (fun W hG=>split_key [116,111,112,105,99,115] _ (by decide) (by decide) hn W hG) rfl rfl rfl (fun i hi=>?_) (by kernel_rfl) rfl ?_ (enters_of Tryz.func482 (by kernel_rfl) rfl) c1 c2 W hG
 ·have h8:(List.range 6).all (fun i=>!((fwB i).toList==(⟨([116,111,112,105,99,115]:Bs).toArray⟩:ByteArray).toList))=true:=by kernel_rfl
  rw [List.all_eq_true] at h8;have:=h8 i (List.mem_range.2 hi);simpa using this
 ·exact fun c1 c2 A W _ hA=>formTopics_any A a1 a2 c1 c2 ⟨#[]⟩ ⟨#[]⟩ W hA
theorem valAuthors_any (a1 a2:Option Addr):ValSpec a1 a2 (fnB 9) .empty:=by
 intro c1 c2 W hG;have hn:Lib.splitB ⟨#[47]⟩ 0 3 ⟨([97,117,116,104,111,114,115]:Bs).toArray⟩=[⟨([97,117,116,104,111,114,115]:Bs).toArray⟩]:=by kernel_rfl
 refine value_any ⟨([97,117,116,104,111,114,115]:Bs).toArray⟩ [⟨([97,117,116,104,111,114,115]:Bs).toArray⟩] 1 4 7 ⟨([97,117,116,104,111,114,115]:Bs).toArray⟩ ⟨#[]⟩ ⟨#[]⟩ (by decide) rfl (by decide) (by decide) (by decide) a1 a2 (by kernel_rfl) (fun W hG=>split_key [97,117,116,104,111,114,115] _ (by decide) (by decide) hn W hG) rfl rfl rfl (fun i hi=>?_) (by kernel_rfl) rfl ?_ (enters_of Tryz.func483 (by kernel_rfl) rfl) c1 c2 W hG
 ·have h8:(List.range 7).all (fun i=>!((fwB i).toList==(⟨([97,117,116,104,111,114,115]:Bs).toArray⟩:ByteArray).toList))=true:=by kernel_rfl
  rw [List.all_eq_true] at h8;have:=h8 i (List.mem_range.2 hi);simpa using this
 ·exact fun c1 c2 A W _ hA=>formAuthors_any A a1 a2 c1 c2 ⟨#[]⟩ ⟨#[]⟩ W hA
theorem valAdr_spec (k:Int) (hk:k=1 \/ k=6) (a1 a2:Option Addr):ValSpec a1 a2 ⟨(akB k).toArray⟩ ⟨#[49]⟩:=fun c1 c2 W hG=>valAdr_any k hk a1 a2 c1 c2 W hG
end Go.Proofs.YtcopgcdhkgenkaaGreatDoor
