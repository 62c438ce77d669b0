import Derived.Test.YtcopgcdhkgenkaaGreatDoorN0
set_option linter.all false
set_option maxRecDepth 100000
set_option maxHeartbeats 16000000
namespace Go.Proofs.YtcopgcdhkgenkaaGreatDoor
open Go.Shelf Go.RowKit Cdk Scr Nt
theorem send_nil (b:Nat) (w:World):Calls Tryz.prog 39 #[.pointer (some ⟨b,0,none⟩),.slice none 0 0] w fun e w'=>e=.returned (.tuple #[])/\w=w':=by
 go_enter Tryz.func39,Tryz.ntmps39;go_wp2_with fail
 refine wp_loop_rounds 1 ?_;rw [rounds_succ];go_wp2_with fail
 go_end0
 exact ⟨rfl,rfl⟩
def SendP (w:World) (b:Nat) (t c:Int) (d r:Value) (mm B:Nat) (qa:Value) (q:List Lt) (s:Nat) (fs:List Int) (F:Nat -> Prop) (m:Ms) (e:Ending) (w':World):Prop:=
 e=.returned (.tuple #[])/\(∃ fa' qa',NetB w' b t c d r mm fa' qa' ((addL s q (fated (nextF fs).1 (letL t m))).2:Nat)/\LtsAt w' B qa' (addL s q (fated (nextF fs).1 (letL t m))).1/\RowAt F w' intC fa' (nextF fs).2/\(qa'.ownBlock=qa.ownBlock \/ ∀ k,qa'.ownBlock=some k -> w.heap.size<=k))/\Mod (fun k=>k=b \/ qa.ownBlock=some k) w w'
theorem add_one (B:Nat) {b:Nat} {t c:Int} {d r:Value} {m:Nat} {fa qa:Value} {s:Nat} {q:List Lt} (x:Lt) (w:World) (hB:NetB w b t c d r m fa qa s) (hq:LtsAt w B qa q) (hBw:B<=w.heap.size) (hl:s<=1000000/\q.length<=1024):
  Calls Tryz.prog 78 #[.pointer (some ⟨b,0,none⟩),.slice (some ⟨w.heap.size,0,none⟩) 1 1] (w.alloc (.cells (ltC x).toArray 82)) fun e w'=>e=.returned (.tuple #[]) ∧
   (∃ qa',NetB w' b t c d r m fa qa' ((addL s q [x]).2:Nat)/\LtsAt w' B qa' (addL s q [x]).1/\(qa'.ownBlock=qa.ownBlock \/ ∀ k,qa'.ownBlock=some k -> w.heap.size<=k))/\Mod (fun k=>k=b \/ qa.ownBlock=some k) w w':=by
 have hx:=Mod.alloc (Mod.refl (fun _=>False) w) (.cells (ltC x).toArray 82);have hbl:=lt_of_at hB;have hz:(w.alloc (.cells (ltC x).toArray 82)).heap.size=w.heap.size+1:=by simp
 refine (add_any B [x] w.heap.size 0 1 (w.alloc (.cells (ltC x).toArray 82)) (hx.at hB (fun h=>h)) (hq.ext hx) (by omega) (by rw [show [x].flatMap ltC=ltC x by simp];exact RowIs.new _ _ _) ⟨by omega,by omega,fun e=>by have:=(hq.block _ e).2;omega⟩ ⟨by simp,hl.1,hl.2⟩).mono ?_;rintro e w' ⟨rfl,⟨qa',h1,h2,h3⟩,h4⟩;exact ⟨rfl,⟨qa',h1,h2,h3.imp id (fun h k e=>by have:=h k e;omega)⟩,(hx.mono (fun _ h=>h.elim)).trans h4⟩
theorem add_two (B:Nat) {b:Nat} {t c:Int} {d r:Value} {m:Nat} {fa qa:Value} {s:Nat} {q:List Lt} (x:Lt) (w:World) (hB:NetB w b t c d r m fa qa s) (hq:LtsAt w B qa q) (hBw:B<=w.heap.size) (hl:s<=1000000/\q.length<=1024):
  Calls Tryz.prog 78 #[.pointer (some ⟨b,0,none⟩),.slice (some ⟨w.heap.size,0,none⟩) 2 2] (w.alloc (.cells (ltC x++ltC x).toArray 82)) fun e w'=>e=.returned (.tuple #[]) ∧
   (∃ qa',NetB w' b t c d r m fa qa' ((addL s q [x,x]).2:Nat)/\LtsAt w' B qa' (addL s q [x,x]).1/\(qa'.ownBlock=qa.ownBlock \/ ∀ k,qa'.ownBlock=some k -> w.heap.size<=k))/\Mod (fun k=>k=b \/ qa.ownBlock=some k) w w':=by
 have hx:=Mod.alloc (Mod.refl (fun _=>False) w) (.cells (ltC x++ltC x).toArray 82);have hbl:=lt_of_at hB;have hz:(w.alloc (.cells (ltC x++ltC x).toArray 82)).heap.size=w.heap.size+1:=by simp
 refine (add_any B [x,x] w.heap.size 0 2 (w.alloc (.cells (ltC x++ltC x).toArray 82)) (hx.at hB (fun h=>h)) (hq.ext hx) (by omega) (by rw [show [x,x].flatMap ltC=ltC x++ltC x by simp];exact RowIs.new _ _ _) ⟨by omega,by omega,fun e=>by have:=(hq.block _ e).2;omega⟩ ⟨by simp,hl.1,hl.2⟩).mono ?_;rintro e w' ⟨rfl,⟨qa',h1,h2,h3⟩,h4⟩;exact ⟨rfl,⟨qa',h1,h2,h3.imp id (fun h k e=>by have:=h k e;omega)⟩,(hx.mono (fun _ h=>h.elim)).trans h4⟩
theorem wpList_slice2 {P:Program} {e:TypeId} {z:Value} {size bytes:Nat} {w:World} {ops:Array Oper} {rest:List Oper} {o:Oper} {a:Act} {Q:Exit -> Act -> World -> Prop} (hg:o.guard=none) (t:TypeId) (x y:Operand) (ho:o.op=.buildSlice t 2 #[(0,x),(1,y)])
  (hu:P.underlying t=some (.slice e)) (el:El P e z size bytes) (hsm:size<=1000) (VB VC:Array Value) (hx:a.eval x=.agg VB) (hy:a.eval y=.agg VC) (hV:VB.size=size) (hW:VC.size=size)
  (h:wpList P ops Q rest (a.put o.dst (.slice (some ⟨w.heap.size,0,none⟩) 2 2)) (w.alloc (.cells (VB++VC) e))):wpList P ops Q (o::rest) a w:=by
 obtain ⟨i0,hi,hz0,hz1,hz2⟩:=info_parts el.row;have hp:=el.pos;refine wpList_plain hg fun _ hK=>wp_buildSlice t e 2 _ ho (VB++VC) i0 z hu hi hz0 (by rw [hz1];omega) (by rw [hz1];omega) ?_ (hK _ _ h)
 have e1:(#[(0,x),(1,y)].map fun (p:Nat × Operand)=>(p.1,a.eval p.2)).toList=[(0,Value.agg VB),(1,Value.agg VC)]:=by simp [hx,hy]
 show Instr.fill _ _ (#[(0,x),(1,y)].map fun (p:Nat × Operand)=>(p.1,a.eval p.2)).toList=some (VB++VC)
 rw [e1,hz1];have key:∀ cells:Array Value,cells.size=2*size -> Instr.fill (fun i=>some (i*size,size)) cells [(0,Value.agg VB),(1,Value.agg VC)]=some (VB++VC):=fun cells hc=>by
  have h2:=Great.fill_whole hp [Value.agg VB,Value.agg VC] cells (fun v hv=>by simp only [List.mem_cons,List.not_mem_nil,or_false] at hv;rcases hv with rfl | rfl;exact hV;exact hW) (by simpa using hc.symm);have e2:([Value.agg VB,Value.agg VC].flatMap fun v=>v.cells.toList).toArray=VB++VC:=by simp [Value.cells]
  rw [e2] at h2;exact h2
 exact key _ (by simp)
theorem nextF_rng {fs:List Int} (h:∀ f ∈ fs,0<=f/\f<=24):0<=(nextF fs).1/\(nextF fs).1<=24:=by
 cases fs with
 | nil=>exact ⟨Int.le_refl 0,by decide⟩
 | cons f r=>exact h f (List.mem_cons_self ..)
theorem SendP.fin {w:World} {b:Nat} {t c:Int} {d r:Value} {mm B:Nat} {fa' qa qa':Value} {q:List Lt} {s:Nat} {fs:List Int} {F:Nat -> Prop} {m:Ms} {w4 w5:World} {xs:List Lt} (hm4:Mod (fun k=>k=b \/ qa.ownBlock=some k) w w4) (hm5:Mod (fun k=>k=b \/ qa.ownBlock=some k) w4 w5)
  (hR4:RowAt F w4 intC fa' (nextF fs).2) (hFb:∀ k,F k -> k ≠ b/\qa.ownBlock ≠ some k/\k < w.heap.size) (hxs:fated (nextF fs).1 (letL t m)=xs)
  (hN:NetB w5 b t c d r mm fa' qa' ((addL s q xs).2:Nat)) (hL:LtsAt w5 B qa' (addL s q xs).1) (ho:qa'.ownBlock=qa.ownBlock \/ ∀ k,qa'.ownBlock=some k -> w4.heap.size<=k):SendP w b t c d r mm B qa q s fs F m (.returned (.tuple #[])) w5:=by
 subst hxs;exact ⟨rfl,⟨fa',qa',hN,hL,hR4.mod hm5 (fun k hk e=>by have:=hFb k hk;exact e.elim this.1 this.2.1),ho.imp id (fun h k e=>Nat.le_trans hm4.size (h k e))⟩,hm4.trans hm5⟩
theorem send_any (B:Nat) {b:Nat} {t c:Int} {d r:Value} {mm:Nat} {fa qa:Value} {s:Nat} {q:List Lt} {fs:List Int} {F:Nat -> Prop} (m:Ms) (ab off cap:Nat) (w:World) (hG:Gl w) (hv:vMs m=true) (hB:NetB w b t c d r mm fa qa s) (hq:LtsAt w B qa q) (hBw:B<=w.heap.size)
  (hF:RowAt F w intC fa fs) (hFb:∀ k,F k -> k ≠ b/\qa.ownBlock ≠ some k/\k < w.heap.size) (hx:RowIs w (some ⟨ab,off,none⟩) (msC m)) (hs:s<=1000000/\q.length<=1024) (ht:0<=t/\t<=1000000) (hf:∀ f ∈ fs,0<=f/\f<=24):
  Calls Tryz.prog 39 #[.pointer (some ⟨b,0,none⟩),.slice (some ⟨ab,off,none⟩) 1 cap] w (SendP w b t c d r mm B qa q s fs F m):=by
 have hE:=hid (fun W (h:Gl W)=>msgEncode_any m W h hv);have hgd:=hid (vMs_good hv);obtain ⟨X,hX⟩:∃ X,X=encM m:=⟨_,rfl⟩;obtain ⟨R,hR⟩:∃ R,R=SendP w b t c d r mm B qa q s fs F m:=⟨_,rfl⟩;rw [<- hR];rw [<- hX] at hE;obtain ⟨kd,pa,sq,st,ba,ve,da⟩:=m;have hc:∀ i u,(msC ⟨kd,pa,sq,st,ba,ve,da⟩)[i]?=some u -> w.cell? ⟨ab,off+i,none⟩=some u:=fun i u hu=>by
  obtain ⟨b1,o1,e,hc⟩:=hx i u hu;injection e with e;injection e with e1 e2;subst e1 e2;exact hc
 have g0:w.cell? ⟨ab,off,none⟩=some (.int .i64 kd):=hc 0 _ rfl;have g1:w.cell? ⟨ab,off+1,none⟩=some (.int .i64 pa):=hc 1 _ rfl;have g2:w.cell? ⟨ab,off+2,none⟩=some (.int .i64 sq):=hc 2 _ rfl;have g3:w.cell? ⟨ab,off+3,none⟩=some (.int .i64 st):=hc 3 _ rfl;have g4:w.cell? ⟨ab,off+4,none⟩=some (.int .i64 ba):=hc 4 _ rfl;have g5:w.cell? ⟨ab,off+5,none⟩=some (.int .i64 ve):=hc 5 _ rfl;have g6:w.cell? ⟨ab,off+6,none⟩=some (.string ⟨da.toArray⟩):=hc 6 _ rfl;clear hc hx;obtain ⟨M,hMe⟩:∃ M,M=w.heap.size:=⟨_,rfl⟩;have hM0:=heap_alloc_new w (.cells #[.int .i64 kd,.int .i64 pa,.int .i64 sq,.int .i64 st,.int .i64 ba,.int .i64 ve,.string ⟨da.toArray⟩] 45);have hx0:=Mod.alloc (Mod.refl (fun _=>False) w) (.cells #[.int .i64 kd,.int .i64 pa,.int .i64 sq,.int .i64 st,.int .i64 ba,.int .i64 ve,.string ⟨da.toArray⟩] 45);replace hB:=hid hB;replace hq:=hid hq;replace hF:=hid hF;replace hFb:=hid hFb;replace hf:=hid hf;have hXl:1<=X.length/\X.length<=1000000:=by rw [hX];exact encM_len hv
 replace hX:=hid hX;replace hR:=hid hR;replace hG:=hid hG;have ht1:IntKind.i64.wrap (t+1)=t+1:=IntWalk.i64_in _ (by omega);go_enter Tryz.func39,Tryz.ntmps39;go_wp2_with fail
 refine wp_loop_rounds 2 ?_;rw [rounds_succ];go_upto_region 3 with fail
 rw [<- hMe] at hM0 ⊢;have hwz1:w.heap.size<=M:=Nat.le_of_eq hMe.symm;generalize w.alloc (.cells #[.int .i64 kd,.int .i64 pa,.int .i64 sq,.int .i64 st,.int .i64 ba,.int .i64 ve,.string ⟨da.toArray⟩] 45)=w1 at hM0 hx0 ⊢;replace hMe:=hid hMe;have hM1:=hid hM0;replace hx0:=hid hx0;clear g0 g1 g2 g3 g4 g5 g6;have m0:w1.cell? ⟨M,0,none⟩=some (.int .i64 kd):=cellN hM1.out 0;have m1:w1.cell? ⟨M,1,none⟩=some (.int .i64 pa):=cellN hM1.out 1;have m2:w1.cell? ⟨M,2,none⟩=some (.int .i64 sq):=cellN hM1.out 2;have m3:w1.cell? ⟨M,3,none⟩=some (.int .i64 st):=cellN hM1.out 3;have m4:w1.cell? ⟨M,4,none⟩=some (.int .i64 ba):=cellN hM1.out 4;have m5:w1.cell? ⟨M,5,none⟩=some (.int .i64 ve):=cellN hM1.out 5;have m6:w1.cell? ⟨M,6,none⟩=some (.string ⟨da.toArray⟩):=cellN hM1.out 6;clear hM0;go_wp2_with fail
 refine (hE.out w1 (hG.out.ext hx0.out)).mono ?_;rintro e w2 ⟨rfl,hx1⟩;have hM:=hid (hx1.at hM1.out (fun h=>h));have hx2:=hid (hx0.out.trans hx1);have hwz:w.heap.size<=w2.heap.size:=hx2.out.size;have hB2:=hid (hx2.out.at hB.out (fun h=>h));clear hx0 hx1 hM1 m0 m1 m2 m3 m4 m5 m6;go_upto_region 5 with fail
 try simp only [List.append_eq,List.cons_append,List.nil_append]
 refine wp_region_tree (.s (.q 0 (.q 1 (.q 2 (.q 3 (.q 4 (.q 5 (.q 6 (.q 7 (.q 8 (.q 9 (.c1 10 (.c1 11 .done))))))))))))) (by as_aux_lemma=>kernel_rfl) (by as_aux_lemma=>kernel_rfl) (by as_aux_lemma=>kernel_rfl) (by decide) ?_;have hy0:=hid (Mod.drew0 (fun _=>False) w2);refine wpTr_s (fun Wx=>Ext w2 Wx) (fun _ _=>trivial) hy0.out ?_;generalize hWd:World.drew w2=W0 at hy0 ⊢
 iterate 10 (refine wpTr_q _ (by simp only [List.getD_cons_succ,List.getD_cons_zero];rfl) (by rfl) ?_ (fun w' hC=>?_) ?_;rotate_left;(have q_1:w'.cell? ⟨M,1,none⟩=some (.int .i64 pa):=hC.cell (cellN hM.out 1) (fun h=>h);have q_t:w'.cell? ⟨b,0,none⟩=some (.int .i64 t):=hC.cell (cellN hB2.out 0) (fun h=>h);go_simp;try with_reducible rfl);try simp only [Act.put,sA,sZ,sS])
 refine wpTr_c1 _ (by simp only [List.getD_cons_succ,List.getD_cons_zero];rfl) ?_;refine wpN_c (by rfl) (fun K hK=>?_);go_simp;have hL:=hid (heap_alloc_new W0 (.cells #[.string ⟨#[]⟩,.int .i64 0,.int .i64 0,.bool false,.int .i64 0] 82));have hy1:=hid (hy0.out.alloc (.cells #[.string ⟨#[]⟩,.int .i64 0,.int .i64 0,.bool false,.int .i64 0] 82));have hLge:w2.heap.size<=W0.heap.size:=hy0.out.size;generalize W0.heap.size=L at hL hLge ⊢;generalize W0.alloc (.cells #[.string ⟨#[]⟩,.int .i64 0,.int .i64 0,.bool false,.int .i64 0] 82)=W1 at hL hy1 ⊢;refine hK.out _ _ hy1.out ?_;clear hK K;try simp only [Act.put,sA,sZ,sS]
 refine wpTr_c1 _ (by simp only [List.getD_cons_succ,List.getD_cons_zero];rfl) ?_;refine wpN_c (by rfl) (fun K hK=>?_);refine wp_storeW 82 _ _ rfl L #[.string ⟨#[]⟩,.int .i64 0,.int .i64 0,.bool false,.int .i64 0] #[.string ⟨X.toArray⟩,.int .i64 pa,.int .i64 (t+1),.bool false,.int .i64 0] 82 rfl rfl hL.out rfl (by kernel_rfl) rfl (fun W2 H=>?_);have hL2:=hid H.out.1;have hy2:=hid (hy1.out.then H.out.2 (fun k hk e=>by omega));refine hK.out _ _ hy2.out ?_;clear H;clear hK K;try simp only [Act.put,sA,sZ,sS]
 refine wpTr_done ?_;clear hWd hy0 hy1 hL;have hyb:=hid (hx2.out.trans hy2.out);have hM3:=hid (hy2.out.at hM.out (fun h=>h));have hML:M < w2.heap.size:=lt_of_at hM.out;have hwL:w.heap.size<=L:=Nat.le_trans hwz hLge;clear hy2 hM hB2 hx2;have m0:W2.cell? ⟨M,0,none⟩=some (.int .i64 kd):=cellN hM3.out 0;have z1:=freeN hL2.out 1;have l1:W2.cell? ⟨L,1,none⟩=some (.int .i64 pa):=cellN hL2.out 1;have hput:=hid (put_at' hL2.out 1 (.int .i64 0));have hye:=hid (hyb.out.setCell (a:=⟨L,1,none⟩) (fun h=>absurd h (by show ¬ L < w.heap.size;omega)) (.int .i64 0));have hk3:kd=3 \/ kd=4 \/ (¬ kd=3/\¬ kd=4):=by omega
 rcases hk3 with h3 | h3 | ⟨h3,h4⟩
 case' inl=>
  have h3':=hid h3;replace m0:W2.cell? ⟨M,0,none⟩=some (.int .i64 3):=by rw [<- h3];exact m0
  clear h3;go_upto_region 8 with fail
  generalize W2.setCell ⟨L,1,none⟩ (.int .i64 0)=W3 at hput hye ⊢;obtain ⟨rc,hrv⟩:∃ rc:Int,rc=0:=⟨_,rfl⟩;have hL3:Hid (W3.heap[L]?=some (.cells #[.string ⟨X.toArray⟩,.int .i64 rc,.int .i64 (t+1),.bool false,.int .i64 0] 82 (0,0))):=hid (by rw [hrv];exact hput.out);have hlt:Hid (letL t ⟨kd,pa,sq,st,ba,ve,da⟩=⟨X,rc,t+1,false,0⟩):=hid (by unfold letL;simp only;rw [if_pos (.inl h3'.out),<- hX.out,hrv]);have hyc:=hye;clear hput hye h3' hrv hL2 m0 z1 l1 hM3 hyb
 case' inr.inl=>
  have h3':=hid h3;replace m0:W2.cell? ⟨M,0,none⟩=some (.int .i64 4):=by rw [<- h3];exact m0
  clear h3;go_upto_region 8 with fail
  generalize W2.setCell ⟨L,1,none⟩ (.int .i64 0)=W3 at hput hye ⊢;obtain ⟨rc,hrv⟩:∃ rc:Int,rc=0:=⟨_,rfl⟩;have hL3:Hid (W3.heap[L]?=some (.cells #[.string ⟨X.toArray⟩,.int .i64 rc,.int .i64 (t+1),.bool false,.int .i64 0] 82 (0,0))):=hid (by rw [hrv];exact hput.out);have hlt:Hid (letL t ⟨kd,pa,sq,st,ba,ve,da⟩=⟨X,rc,t+1,false,0⟩):=hid (by unfold letL;simp only;rw [if_pos (.inr h3'.out),<- hX.out,hrv]);have hyc:=hye;clear hput hye h3' hrv hL2 m0 z1 l1 hM3 hyb
 case' inr.inr=>
  have h3':=hid h3;have h4':=hid h4;have b3:(kd==3)=false:=by simpa using h3
  have b4:(kd==4)=false:=by simpa using h4
  go_upto_region 8 with fail
  clear hput hye;obtain ⟨rc,hrv⟩:∃ rc:Int,rc=pa:=⟨_,rfl⟩;have hL3:Hid (W2.heap[L]?=some (.cells #[.string ⟨X.toArray⟩,.int .i64 rc,.int .i64 (t+1),.bool false,.int .i64 0] 82 (0,0))):=hid (by rw [hrv];exact hL2.out);have hlt:Hid (letL t ⟨kd,pa,sq,st,ba,ve,da⟩=⟨X,rc,t+1,false,0⟩):=hid (by unfold letL;simp only;rw [if_neg (fun h=>h.elim h3'.out h4'.out),<- hX.out,hrv]);have hyc:=hyb;clear h3 h4 h3' h4' hrv b3 b4;clear hL2 m0 z1 l1 hM3 hyb;generalize W2=W3 at*
 all_goals
  have hB3:=hid (hyc.out.at hB.out (fun h=>h));have hF3:=hid (hF.out.mod hyc.out (fun _ _ h=>h));have hfate:=hid (fate_any W3 hB3.out hF3.out (fun h=>(hFb.out b h).1 rfl));clear hB3 hF3;go_wp2_with fail
  refine hfate.out.mono ?_;rintro e w4 ⟨rfl,⟨fa',hB4,hF4⟩,hm4⟩;replace hB4:=hid hB4;replace hF4:=hid hF4;have hbw:b < w.heap.size:=lt_of_at hB.out;have hL4:=hid (hm4.at hL3.out (by omega));have hq4:=hid ((hq.out.ext hyc.out).mod hm4 (fun k hk e=>own_ne7 hq.out hB.out (by decide) (e ▸ hk)));have hz4:w.heap.size<=w4.heap.size:=Nat.le_trans hyc.out.size hm4.size;have hmw4:Hid (Mod (fun k=>k=b \/ qa.ownBlock=some k) w w4):=hid ((hyc.out.mono (fun _ h=>h.elim)).trans (hm4.mono (fun _ h=>.inl h.symm)));have hL4z:L < w4.heap.size:=lt_of_at hL4.out;have hfr:=nextF_rng hf.out;obtain ⟨f,hfe⟩:∃ f,f=(nextF fs).1:=⟨_,rfl⟩;rw [<- hfe] at hfr ⊢;replace hfe:=hid hfe;clear hfate hL3 hm4;have hfc:f=0 \/ f=1 \/ f=2 \/ f=3 \/ f=4 \/ (5<=f):=by omega
  rcases hfc with hf0 | hf0 | hf0 | hf0 | hf0 | hf0
  case inl=>
   subst hf0;have hfv:Hid ((nextF fs).1=0):=hid hfe.out.symm;have hxs:Hid (fated (nextF fs).1 (letL t ⟨kd,pa,sq,st,ba,ve,da⟩)=[⟨X,rc,t+1,false,0⟩]):=hid (by rw [hlt.out,hfv.out];rfl);have hmL:=hmw4;have hFL:=hF4;have y0:w4.cell? ⟨L,0,none⟩=some (.string ⟨X.toArray⟩):=cellN hL4.out 0;have y1:w4.cell? ⟨L,1,none⟩=some (.int .i64 rc):=cellN hL4.out 1;have y2:w4.cell? ⟨L,2,none⟩=some (.int .i64 (t+1)):=cellN hL4.out 2;have y3:w4.cell? ⟨L,3,none⟩=some (.bool false):=cellN hL4.out 3;have y4:w4.cell? ⟨L,4,none⟩=some (.int .i64 0):=cellN hL4.out 4;have hadd:=hid (add_one B ⟨X,rc,t+1,false,0⟩ w4 hB4.out hq4.out (by omega) hs);go_wp2_with (refine wpList_slice1 rfl _ _ rfl Tryz.underlying76 elLt (by decide) #[.string ⟨X.toArray⟩,.int .i64 rc,.int .i64 (t+1),.bool false,.int .i64 0] rfl rfl ?_)
   refine hadd.out.mono ?_;rintro e w6 ⟨rfl,⟨qa',hN5,hL5,ho5⟩,hm5⟩;replace hN5:=hid hN5;replace hL5:=hid hL5;replace ho5:=hid ho5;replace hm5:=hid hm5;go_wp2_with fail
   rw [rounds_succ];go_wp2_with fail
   go_end0
   rw [hR.out];exact SendP.fin hmL.out hm5.out hFL.out hFb.out hxs.out hN5.out hL5.out ho5.out
  case inr.inl=>
   subst hf0;have hfv:Hid ((nextF fs).1=1):=hid hfe.out.symm;have hxs:Hid (fated (nextF fs).1 (letL t ⟨kd,pa,sq,st,ba,ve,da⟩)=[]):=hid (by rw [hlt.out,hfv.out];rfl);have hmL:=hmw4;have hFL:=hF4;have hN5:=hB4;have hL5:=hq4;have hm5:Hid (Mod (fun k=>k=b \/ qa.ownBlock=some k) w4 w4):=hid (Mod.refl _ _);go_wp2_with fail
   rw [rounds_succ];go_wp2_with fail
   go_end0
   rw [hR.out];exact SendP.fin hmL.out hm5.out hFL.out hFb.out hxs.out hN5.out hL5.out (.inl rfl)
  case inr.inr.inl=>
   subst hf0;have hfv:Hid ((nextF fs).1=2):=hid hfe.out.symm;have hxs:Hid (fated (nextF fs).1 (letL t ⟨kd,pa,sq,st,ba,ve,da⟩)=[⟨X,rc,t+1,false,0⟩,⟨X,rc,t+1,false,0⟩]):=hid (by rw [hlt.out,hfv.out];rfl);have hmL:=hmw4;have hFL:=hF4;have y0:w4.cell? ⟨L,0,none⟩=some (.string ⟨X.toArray⟩):=cellN hL4.out 0;have y1:w4.cell? ⟨L,1,none⟩=some (.int .i64 rc):=cellN hL4.out 1;have y2:w4.cell? ⟨L,2,none⟩=some (.int .i64 (t+1)):=cellN hL4.out 2;have y3:w4.cell? ⟨L,3,none⟩=some (.bool false):=cellN hL4.out 3;have y4:w4.cell? ⟨L,4,none⟩=some (.int .i64 0):=cellN hL4.out 4;have hadd:=hid (add_two B ⟨X,rc,t+1,false,0⟩ w4 hB4.out hq4.out (by omega) hs);go_wp2_with (refine wpList_slice2 rfl _ _ _ rfl Tryz.underlying76 elLt (by decide) #[.string ⟨X.toArray⟩,.int .i64 rc,.int .i64 (t+1),.bool false,.int .i64 0] #[.string ⟨X.toArray⟩,.int .i64 rc,.int .i64 (t+1),.bool false,.int .i64 0] rfl rfl rfl rfl ?_)
   refine hadd.out.mono ?_;rintro e w6 ⟨rfl,⟨qa',hN5,hL5,ho5⟩,hm5⟩;replace hN5:=hid hN5;replace hL5:=hid hL5;replace ho5:=hid ho5;replace hm5:=hid hm5;go_wp2_with fail
   rw [rounds_succ];go_wp2_with fail
   go_end0
   rw [hR.out];exact SendP.fin hmL.out hm5.out hFL.out hFb.out hxs.out hN5.out hL5.out ho5.out
  case inr.inr.inr.inl=>
   subst hf0;have hfv:Hid ((nextF fs).1=3):=hid hfe.out.symm;have hxs:Hid (fated (nextF fs).1 (letL t ⟨kd,pa,sq,st,ba,ve,da⟩)=[⟨X,rc,t+1,true,0⟩]):=hid (by rw [hlt.out,hfv.out];rfl);have z5:=freeN hL4.out 3;have y5:w4.cell? ⟨L,3,none⟩=some (.bool false):=cellN hL4.out 3;have hp5:=put_at' hL4.out 3 (.bool true);have hmS:=(Mod.refl (Eq L) w4).setCell (a:=⟨L,3,none⟩) (fun _=>rfl) (.bool true);have hzS:w4.heap.size<=(w4.setCell ⟨L,3,none⟩ (.bool true)).heap.size:=hmS.size;have hLL:Hid ((w4.setCell ⟨L,3,none⟩ (.bool true)).heap[L]?=some (.cells #[.string ⟨X.toArray⟩,.int .i64 rc,.int .i64 (t+1),.bool true,.int .i64 0] 82 (0,0))):=hid hp5;have hBL:=hid (hmS.at hB4.out (by omega));have hqL:=hid (hq4.out.mod hmS (fun k hk e=>by have:=(hq.out.block k hk).2;omega));have hFL:=hid (hF4.out.mod hmS (fun k hk e=>by have:=(hFb.out k hk).2.2;omega));have hmL:=hid (hmw4.out.then hmS (fun k hk e=>by omega));clear hp5 hmS;go_upto_region 19 with fail
   generalize w4.setCell ⟨L,3,none⟩ (.bool true)=WL at hzS hLL hBL hqL hFL hmL ⊢;clear z5 y5;have y0:WL.cell? ⟨L,0,none⟩=some (.string ⟨X.toArray⟩):=cellN hLL.out 0;have y1:WL.cell? ⟨L,1,none⟩=some (.int .i64 rc):=cellN hLL.out 1;have y2:WL.cell? ⟨L,2,none⟩=some (.int .i64 (t+1)):=cellN hLL.out 2;have y3:WL.cell? ⟨L,3,none⟩=some (.bool true):=cellN hLL.out 3;have y4:WL.cell? ⟨L,4,none⟩=some (.int .i64 0):=cellN hLL.out 4;have hadd:=hid (add_one B ⟨X,rc,t+1,true,0⟩ WL hBL.out hqL.out (by omega) hs);go_wp2_with (refine wpList_slice1 rfl _ _ rfl Tryz.underlying76 elLt (by decide) #[.string ⟨X.toArray⟩,.int .i64 rc,.int .i64 (t+1),.bool true,.int .i64 0] rfl rfl ?_)
   refine hadd.out.mono ?_;rintro e w6 ⟨rfl,⟨qa',hN5,hL5,ho5⟩,hm5⟩;replace hN5:=hid hN5;replace hL5:=hid hL5;replace ho5:=hid ho5;replace hm5:=hid hm5;go_wp2_with fail
   rw [rounds_succ];go_wp2_with fail
   go_end0
   rw [hR.out];exact SendP.fin hmL.out hm5.out hFL.out hFb.out hxs.out hN5.out hL5.out ho5.out
  case inr.inr.inr.inr.inl=>
   subst hf0;have hfv:Hid ((nextF fs).1=4):=hid hfe.out.symm;have hxs:Hid (fated (nextF fs).1 (letL t ⟨kd,pa,sq,st,ba,ve,da⟩)=[⟨flipB X,rc,t+1,false,0⟩]):=hid (by rw [hlt.out,hfv.out];rfl);have hfB:flipL X=flipB X:=rfl;have hfl:=flip_any X hXl w4;rw [hfB] at hfl;unfold strV at hfl;clear hfB;replace hfl:=hid hfl;go_wp2_with fail
   refine hfl.out.mono ?_;rintro e w4f ⟨rfl,hxf⟩;have hL4':=hid (hxf.at hL4.out (fun h=>h));have hB4':=hid (hxf.at hB4.out (fun h=>h));have hq4':=hid (hq4.out.ext hxf);have hF4':=hid (hF4.out.mod hxf (fun _ _ h=>h));have hmw4':=hid (hmw4.out.trans (hxf.mono (fun _ h=>h.elim)));have hz4':w4.heap.size<=w4f.heap.size:=hxf.size;clear hL4 hB4 hq4 hF4 hmw4 hxf;replace hL4:=hL4';replace hB4:=hB4';replace hq4:=hq4';replace hF4:=hF4';replace hmw4:=hmw4';clear hL4' hB4' hq4' hF4' hmw4';have z5:=freeN hL4.out 0;have y5:w4f.cell? ⟨L,0,none⟩=some (.string ⟨X.toArray⟩):=cellN hL4.out 0;have hp5:=put_at' hL4.out 0 (.string ⟨(flipB X).toArray⟩);have hmS:=(Mod.refl (Eq L) w4f).setCell (a:=⟨L,0,none⟩) (fun _=>rfl) (.string ⟨(flipB X).toArray⟩);have hzS:w4f.heap.size<=(w4f.setCell ⟨L,0,none⟩ (.string ⟨(flipB X).toArray⟩)).heap.size:=hmS.size;have hLL:Hid ((w4f.setCell ⟨L,0,none⟩ (.string ⟨(flipB X).toArray⟩)).heap[L]?=some (.cells #[.string ⟨(flipB X).toArray⟩,.int .i64 rc,.int .i64 (t+1),.bool false,.int .i64 0] 82 (0,0))):=hid hp5;have hBL:=hid (hmS.at hB4.out (by omega));have hqL:=hid (hq4.out.mod hmS (fun k hk e=>by have:=(hq.out.block k hk).2;omega));have hFL:=hid (hF4.out.mod hmS (fun k hk e=>by have:=(hFb.out k hk).2.2;omega));have hmL:=hid (hmw4.out.then hmS (fun k hk e=>by omega));clear hp5 hmS;go_upto_region 22 with fail
   generalize w4f.setCell ⟨L,0,none⟩ (.string ⟨(flipB X).toArray⟩)=WL at hzS hLL hBL hqL hFL hmL ⊢;clear z5 y5;have y0:WL.cell? ⟨L,0,none⟩=some (.string ⟨(flipB X).toArray⟩):=cellN hLL.out 0;have y1:WL.cell? ⟨L,1,none⟩=some (.int .i64 rc):=cellN hLL.out 1;have y2:WL.cell? ⟨L,2,none⟩=some (.int .i64 (t+1)):=cellN hLL.out 2;have y3:WL.cell? ⟨L,3,none⟩=some (.bool false):=cellN hLL.out 3;have y4:WL.cell? ⟨L,4,none⟩=some (.int .i64 0):=cellN hLL.out 4;have hadd:=hid (add_one B ⟨flipB X,rc,t+1,false,0⟩ WL hBL.out hqL.out (by omega) hs);go_wp2_with (refine wpList_slice1 rfl _ _ rfl Tryz.underlying76 elLt (by decide) #[.string ⟨(flipB X).toArray⟩,.int .i64 rc,.int .i64 (t+1),.bool false,.int .i64 0] rfl rfl ?_)
   refine hadd.out.mono ?_;rintro e w6 ⟨rfl,⟨qa',hN5,hL5,ho5⟩,hm5⟩;replace hN5:=hid hN5;replace hL5:=hid hL5;replace ho5:=hid ho5;replace hm5:=hid hm5;go_wp2_with fail
   rw [rounds_succ];go_wp2_with fail
   go_end0
   rw [hR.out];exact SendP.fin hmL.out hm5.out hFL.out hFb.out hxs.out hN5.out hL5.out ho5.out
  case inr.inr.inr.inr.inr=>
   have hn0:¬ f=0:=by omega
   have hn1:¬ f=1:=by omega
   have hn2:¬ f=2:=by omega
   have hn3:¬ f=3:=by omega
   have hn4:¬ f=4:=by omega
   have hxs:Hid (fated (nextF fs).1 (letL t ⟨kd,pa,sq,st,ba,ve,da⟩)=[⟨X,rc,t+1+(f - 4),false,0⟩]):=hid (by rw [hlt.out,<- hfe.out];unfold fated;rw [if_neg hn0,if_neg hn1,if_neg hn2,if_neg hn3,if_neg hn4]);have hw4:IntKind.i64.wrap (f - 4)=f - 4:=IntWalk.i64_in _ (by omega);have hw5:IntKind.i64.wrap (t+1+(f - 4))=t+1+(f - 4):=IntWalk.i64_in _ (by omega);have z5:=freeN hL4.out 2;have y5:w4.cell? ⟨L,2,none⟩=some (.int .i64 (t+1)):=cellN hL4.out 2;have hp5:=put_at' hL4.out 2 (.int .i64 (t+1+(f - 4)));have hmS:=(Mod.refl (Eq L) w4).setCell (a:=⟨L,2,none⟩) (fun _=>rfl) (.int .i64 (t+1+(f - 4)));have hzS:w4.heap.size<=(w4.setCell ⟨L,2,none⟩ (.int .i64 (t+1+(f - 4)))).heap.size:=hmS.size;have hLL:Hid ((w4.setCell ⟨L,2,none⟩ (.int .i64 (t+1+(f - 4)))).heap[L]?=some (.cells #[.string ⟨X.toArray⟩,.int .i64 rc,.int .i64 (t+1+(f - 4)),.bool false,.int .i64 0] 82 (0,0))):=hid hp5;have hBL:=hid (hmS.at hB4.out (by omega));have hqL:=hid (hq4.out.mod hmS (fun k hk e=>by have:=(hq.out.block k hk).2;omega));have hFL:=hid (hF4.out.mod hmS (fun k hk e=>by have:=(hFb.out k hk).2.2;omega));have hmL:=hid (hmw4.out.then hmS (fun k hk e=>by omega));clear hp5 hmS;go_upto_region 11 with fail
   generalize w4.setCell ⟨L,2,none⟩ (.int .i64 (t+1+(f - 4)))=WL at hzS hLL hBL hqL hFL hmL ⊢;clear z5 y5;have y0:WL.cell? ⟨L,0,none⟩=some (.string ⟨X.toArray⟩):=cellN hLL.out 0;have y1:WL.cell? ⟨L,1,none⟩=some (.int .i64 rc):=cellN hLL.out 1;have y2:WL.cell? ⟨L,2,none⟩=some (.int .i64 (t+1+(f - 4))):=cellN hLL.out 2;have y3:WL.cell? ⟨L,3,none⟩=some (.bool false):=cellN hLL.out 3;have y4:WL.cell? ⟨L,4,none⟩=some (.int .i64 0):=cellN hLL.out 4;have hadd:=hid (add_one B ⟨X,rc,t+1+(f - 4),false,0⟩ WL hBL.out hqL.out (by omega) hs);go_wp2_with (refine wpList_slice1 rfl _ _ rfl Tryz.underlying76 elLt (by decide) #[.string ⟨X.toArray⟩,.int .i64 rc,.int .i64 (t+1+(f - 4)),.bool false,.int .i64 0] rfl rfl ?_)
   refine hadd.out.mono ?_;rintro e w6 ⟨rfl,⟨qa',hN5,hL5,ho5⟩,hm5⟩;replace hN5:=hid hN5;replace hL5:=hid hL5;replace ho5:=hid ho5;replace hm5:=hid hm5;go_wp2_with fail
   rw [rounds_succ];go_wp2_with fail
   go_end0
   rw [hR.out];exact SendP.fin hmL.out hm5.out hFL.out hFb.out hxs.out hN5.out hL5.out ho5.out
end Go.Proofs.YtcopgcdhkgenkaaGreatDoor
namespace Scr
theorem decT_v {m:Ms}:∀ (k:Nat) (fs:List Int) (r:Bs),decT k fs r=.ok m -> vMs m=true
 | 0,fs,r,h=>by
  unfold decT at h;cases hg:getS r with
  | none=>rw [hg] at h;cases h
  | some x=>
   rw [hg] at h;simp only at h;split at h
   ·cases h
   ·split at h
    ·rename_i hv
     injection h with h
     subst h;exact hv
    ·cases h
 | k+1,fs,r,h=>by
  unfold decT at h;cases hg:getI r with
  | none=>rw [hg] at h;cases h
  | some x=>rw [hg] at h;exact decT_v k _ _ h
theorem decM_v {s:Bs} {m:Ms} (h:decM s=.ok m):vMs m=true:=by
 rw [decM_T] at h;cases hg:getI s with
 | none=>rw [hg] at h;cases h
 | some x=>
  rw [hg] at h;simp only at h;split at h
  ·cases h
  ·exact decT_v _ _ _ h
end Scr
namespace Go.Proofs.YtcopgcdhkgenkaaGreatDoor
open Go.Shelf Go.RowKit Cdk Scr Nt
theorem elMsg:El Tryz.prog 45 (.agg #[.int .i64 0,.int .i64 0,.int .i64 0,.int .i64 0,.int .i64 0,.int .i64 0,.string .empty]) 7 64:=⟨by kernel_rfl,rfl,by decide,by decide⟩
def InjP (w:World) (b:Nat) (t c:Int) (d r:Value) (mm B:Nat) (qa:Value) (q:List Lt) (s:Nat) (fs:List Int) (F:Nat -> Prop) (D:Except Int Ms) (e:Ending) (w':World):Prop:=match D with
 | .error er=>e=.returned (.int .i64 er)/\er ≠ 0/\Ext w w'
 | .ok m=>e=.returned (.int .i64 0)/\SendP w b t c d r mm B qa q s fs F m (.returned (.tuple #[])) w'
theorem SendP.pre {w w1:World} {b:Nat} {t c:Int} {d r:Value} {mm B:Nat} {qa:Value} {q:List Lt} {s:Nat} {fs:List Int} {F:Nat -> Prop} {m:Ms} {e:Ending} {w':World} (hx:Ext w w1) (h:SendP w1 b t c d r mm B qa q s fs F m e w'):SendP w b t c d r mm B qa q s fs F m e w':=by
 obtain ⟨h1,⟨fa',qa',h2,h3,h4,h5⟩,h6⟩:=h;exact ⟨h1,⟨fa',qa',h2,h3,h4,h5.imp id (fun h k e=>Nat.le_trans hx.size (h k e))⟩,(hx.mono (fun _ h=>h.elim)).trans h6⟩
theorem inject_any (B:Nat) {b:Nat} {t c:Int} {da:Addr} {r:Value} {mm:Nat} {fa qa:Value} {s:Nat} {q:List Lt} {fs:List Int} {F:Nat -> Prop} (tx:Bs) (htx:tx.length<=1000000) (w:World) (hG:Gl w) (hB:NetB w b t c (.pointer (some da)) r mm fa qa s) (hq:LtsAt w B qa q) (hBw:B<=w.heap.size)
  (hF:RowAt F w intC fa fs) (hFb:∀ k,F k -> k ≠ b/\qa.ownBlock ≠ some k/\k < w.heap.size) (hs:s<=1000000/\q.length<=1024) (ht:0<=t/\t<=1000000) (hf:∀ f ∈ fs,0<=f/\f<=24):
  Calls Tryz.prog 15 #[.pointer (some ⟨b,0,none⟩),.string ⟨tx.toArray⟩] w (InjP w b t c (.pointer (some da)) r mm B qa q s fs F (decM tx)):=by
 have hm:=hid (missing_any w hB);have hdc:=hid (msgDecode_any tx htx w hG);obtain ⟨D,hD⟩:∃ D,D=decM tx:=⟨_,rfl⟩;obtain ⟨R,hR⟩:∃ R,R=InjP w b t c (.pointer (some da)) r mm B qa q s fs F D:=⟨_,rfl⟩;rw [<- hD,<- hR];replace hR:=hid hR;replace hD:=hid hD;replace hB:=hid hB;replace hq:=hid hq;replace hF:=hid hF;replace hFb:=hid hFb;replace hf:=hid hf;go_enter Tryz.func15,Tryz.ntmps15;go_wp2_with fail
 refine hm.out.mono ?_;rintro e w1 ⟨rfl,rfl⟩;go_wp2_with fail
 refine hdc.out.mono ?_;rintro e w2 ⟨hx2,hE⟩;rw [<- hD.out] at hE;replace hx2:=hid hx2;cases D with
 | error er=>
  obtain ⟨hne,rfl⟩:=hE;have h1:(er !=0)=true:=by rw [bne_iff_ne];exact hne
  have h2:(er==0)=false:=by rw [beq_eq_false_iff_ne];exact hne
  have hxa:=hid (hx2.out.alloc (.cells #[.int .i64 0,.int .i64 0,.int .i64 0,.int .i64 0,.int .i64 0,.int .i64 0,.string ⟨#[]⟩] 45));replace hne:=hid hne;go_wp2_with fail
  try go_ret
  rw [hR.out];exact ⟨rfl,hne.out,hxa.out⟩
 | ok m=>
  have hv:=hid (decM_v hD.out.symm);obtain ⟨kd,pa,sq,st,ba,ve,dt⟩:=m;have hE':e=.returned (.tuple #[.agg #[.int .i64 kd,.int .i64 pa,.int .i64 sq,.int .i64 st,.int .i64 ba,.int .i64 ve,.string ⟨dt.toArray⟩],.int .i64 0]):=hE;subst hE';clear hE;have hsz:w.heap.size<=w2.heap.size:=hx2.out.size;have hx3:=allocs_ext (S:=fun _=>False) [.cells #[.int .i64 kd,.int .i64 pa,.int .i64 sq,.int .i64 st,.int .i64 ba,.int .i64 ve,.string ⟨dt.toArray⟩] 45,.cells #[.int .i64 kd,.int .i64 pa,.int .i64 sq,.int .i64 st,.int .i64 ba,.int .i64 ve,.string ⟨dt.toArray⟩] 45] w2;have hg:=allocs_get [.cells #[.int .i64 kd,.int .i64 pa,.int .i64 sq,.int .i64 st,.int .i64 ba,.int .i64 ve,.string ⟨dt.toArray⟩] 45,.cells #[.int .i64 kd,.int .i64 pa,.int .i64 sq,.int .i64 st,.int .i64 ba,.int .i64 ve,.string ⟨dt.toArray⟩] 45] w2 1 (by simp);simp only [allocs] at hx3 hg;have hx4:=hid (hx2.out.trans hx3);have hrow:=RowIs.block (cs:=msC ⟨kd,pa,sq,st,ba,ve,dt⟩) hg;have hsend:=hid (send_any (F:=F) (fs:=fs) B ⟨kd,pa,sq,st,ba,ve,dt⟩ (w2.heap.size+1) 0 1 _ (hG.ext hx4.out) hv.out (hx4.out.at hB.out (fun h=>h)) (hq.out.ext hx4.out) (by have:=hx4.out.size;omega) (hF.out.mod hx4.out (fun _ _ h=>h)) (fun k hk=>⟨(hFb.out k hk).1,(hFb.out k hk).2.1,by have:=(hFb.out k hk).2.2;have:=hx4.out.size;omega⟩) hrow hs ht hf.out);clear hx3 hg hrow;go_wp2_with (refine wpList_slice1 rfl _ _ rfl Tryz.underlying86 elMsg (by decide) #[.int .i64 kd,.int .i64 pa,.int .i64 sq,.int .i64 st,.int .i64 ba,.int .i64 ve,.string ⟨dt.toArray⟩] rfl rfl ?_)
  try simp only [World.size_alloc]
  refine hsend.out.mono ?_;rintro e w5 hS;obtain ⟨rfl,hS2⟩:=hS;replace hS2:=hid hS2;go_wp2_with fail
  try go_ret
  rw [hR.out];exact ⟨rfl,SendP.pre hx4.out ⟨rfl,hS2.out⟩⟩
theorem zero_int (w:World):(zeroValue 3).run Tryz.prog w=.ok (.int .i64 0) w:=by kernel_rfl
def RcvP (F:Nat -> Prop) (p:Nat) (n:Ns) (pa sq st:Nat) (x:Bs) (w:World) (e:Ending) (w':World):Prop:=
 (∃ A,e=.returned (.slice (some ⟨A,0,none⟩) 1 1)/\w.heap.size<=A/\w'.heap[A]?=some (.cells (msC (recvA n pa sq st x)).toArray 45 (0,0)))/\PartIs F w' p pa ((recvN n pa sq st x).σ pa) ((recvN n pa sq st x).κ pa)/\Mod F w w'
theorem setf_at {α:Type} (g:Nat -> Int -> α) (i:Nat) (j:Int) (v:α) (k:Int):setf g i j v i k=if k=j then v else g i k:=by
 unfold setf
 by_cases h:k=j <;> simp [h]
theorem receive_any {F:Nat -> Prop} {p:Nat} (n:Ns) (pa sq st:Nat) (x:Bs) (hok:(Pl.dlv pa sq st x).ok) (hσ:0<=n.σ pa st/\n.σ pa st<=1000000) (hκ:∀ y,n.κ pa st=some y -> y.length<=8192) (w:World) (hG:Gl w) (hP:PartIs F w p pa (n.σ pa) (n.κ pa)) (hF:∀ k,F k -> k < w.heap.size):
  Calls Tryz.prog 66 #[.pointer (some ⟨p,0,none⟩),.agg #[.int .i64 1,.int .i64 pa,.int .i64 sq,.int .i64 st,.int .i64 0,.int .i64 (crc x),.string ⟨(diff0 x).toArray⟩]] w (RcvP F p n pa sq st x w):=by
 obtain ⟨sm,cm,ds,dc,hP⟩:=hP;have hv:=dlv_v hok;have hvd:=hid (fun W=>msgValid_any (dlvM pa sq st x) W);rw [hv,dlv_cells] at hvd;obtain ⟨o1,o2,o3,o4,o5,o6,o7⟩:=hok;have hcr:=crc_rng x;obtain ⟨R,hR⟩:∃ R,R=RcvP F p n pa sq st x w:=⟨_,rfl⟩;rw [<- hR];replace hR:=hid hR;obtain ⟨S,hS⟩:∃ S,S=n.σ pa st:=⟨_,rfl⟩;obtain ⟨O,hO⟩:∃ O,O=(n.κ pa st).getD []:=⟨_,rfl⟩;have hOl:O.length<=8192:=by
  rw [hO];cases h:n.κ pa st with
  | none=>simp
  | some y=>exact hκ y h
 have hcO:=crc_rng O;rw [<- hS] at hσ;have hso:=hid (fun W (h:Gl W)=>sum_any O W h (by omega));have hap:=hid (fun W (h:Gl W)=>applied_any ⟨O.toArray⟩ pa sq st x o7 W h);have hT0:=heap_alloc_new w (.cells #[.int .i64 1,.int .i64 pa,.int .i64 sq,.int .i64 st,.int .i64 0,.int .i64 (crc x),.string ⟨(diff0 x).toArray⟩] 45);have hx0:=Mod.alloc (Mod.refl (fun _=>False) w) (.cells #[.int .i64 1,.int .i64 pa,.int .i64 sq,.int .i64 st,.int .i64 0,.int .i64 (crc x),.string ⟨(diff0 x).toArray⟩] 45);obtain ⟨T,hTe⟩:∃ T,T=w.heap.size:=⟨_,rfl⟩;have f1:=hid (hF _ hP.foot.1);have f2:=hid (hF _ hP.foot.2.1);have f3:=hid (hF _ hP.foot.2.2);have hb0:((pa:Int)==0)=false:=by rw [beq_eq_false_iff_ne];omega
 have hen:=enters_of Tryz.func108 (by kernel_rfl) rfl;go_enter Tryz.func66,Tryz.ntmps66;go_upto_region 1 with fail
 rw [<- hTe] at hT0 ⊢;have g1:p < T:=by rw [hTe];exact f1.out
 have g2:sm < T:=by rw [hTe];exact f2.out
 have g3:cm < T:=by rw [hTe];exact f3.out
 generalize w.alloc (.cells #[.int .i64 1,.int .i64 pa,.int .i64 sq,.int .i64 st,.int .i64 0,.int .i64 (crc x),.string ⟨(diff0 x).toArray⟩] 45)=w1 at hT0 hx0 ⊢;have hwT:w.heap.size<=T:=Nat.le_of_eq hTe.symm;replace hTe:=hid hTe;have hT:=hid hT0;have hx1:=hid hx0;have hp0:=hid (hx0.at hP.at_ (fun h=>h));have hms:=hid (hP.seqs.mod hx0 (fun h=>h));have hmc:=hid (hP.copies.mod hx0 (fun h=>h));have hgs:=hid hP.vals;have hgc:=hid hP.texts;have hfo:=hid hP.foot;have hne:=hid hP.ne;replace hS:=hid hS;replace hO:=hid hO;have hPw:=hid hP.at_;have hSw:=hid hP.seqs;have hCw:=hid hP.copies;clear hT0 hx0 hP hκ;go_upto_region 1 with fail
 try simp only [List.append_eq,List.cons_append,List.nil_append]
 refine wp_region_tree (.s (.q 0 (.q 1 (.q 2 (.q 3 (.q 4 (.q 5 (.q 6 (.q 7 (.q 8 (.q 9 (.q 10 (.c1 11 (.q 12 (.q 13 (.q 14 (.q 15 (.q 16 (.q 17 (.q 18 (.q 19 (.q 20 (.q 21 (.q 22 .done)))))))))))))))))))))))) (by as_aux_lemma=>kernel_rfl) (by as_aux_lemma=>kernel_rfl) (by as_aux_lemma=>kernel_rfl) (by decide) ?_;have hv0:=hid (Mod.drew0 (fun _=>False) w1);refine wpTr_s (fun Wx=>Ext w1 Wx) (fun _ _=>trivial) hv0.out ?_;generalize hWd:World.drew w1=V0 at hv0 ⊢
 iterate 11 (refine wpTr_q _ (by simp only [List.getD_cons_succ,List.getD_cons_zero];rfl) (by rfl) ?_ (fun w' hC=>?_) ?_;rotate_left;(have q_1:w'.cell? ⟨T,1,none⟩=some (.int .i64 pa):=hC.cell (cellN hT.out 1) (fun h=>h);have q_2:w'.cell? ⟨T,2,none⟩=some (.int .i64 sq):=hC.cell (cellN hT.out 2) (fun h=>h);have q_3:w'.cell? ⟨T,3,none⟩=some (.int .i64 st):=hC.cell (cellN hT.out 3) (fun h=>h);have q_p0:w'.cell? ⟨p,0,none⟩=some (.int .i64 pa):=hC.cell (cellN hp0.out 0) (fun h=>h);have q_p1:w'.cell? ⟨p,1,none⟩=some (.map (some sm)):=hC.cell (cellN hp0.out 1) (fun h=>h);have q_p2:w'.cell? ⟨p,2,none⟩=some (.map (some cm)):=hC.cell (cellN hp0.out 2) (fun h=>h);have q_m0:w'.cell? ⟨T,0,none⟩=some (.int .i64 1):=hC.cell (cellN hT.out 0) (fun h=>h);have q_m4:w'.cell? ⟨T,4,none⟩=some (.int .i64 0):=hC.cell (cellN hT.out 4) (fun h=>h);have q_m5:w'.cell? ⟨T,5,none⟩=some (.int .i64 (crc x)):=hC.cell (cellN hT.out 5) (fun h=>h);have q_m6:w'.cell? ⟨T,6,none⟩=some (.string ⟨(diff0 x).toArray⟩):=hC.cell (cellN hT.out 6) (fun h=>h);go_simp;first | done | with_reducible rfl | exact rfl);try simp only [Act.put,sA,sZ,sS])
 refine wpTr_c1 _ (by simp only [List.getD_cons_succ,List.getD_cons_zero];rfl) ?_;refine wpN_c (by rfl) (fun K hK=>?_);go_simp;refine (hvd.out V0).mono ?_;rintro e w9 ⟨rfl,hxn⟩;have hv1:=hid (hv0.out.trans hxn);refine hK.out _ _ hv1.out ?_;clear hxn;clear hK K;try simp only [Act.put,sA,sZ,sS]
 iterate 11 (refine wpTr_q _ (by simp only [List.getD_cons_succ,List.getD_cons_zero];rfl) (by rfl) ?_ (fun w' hC=>?_) ?_;rotate_left;(have q_1:w'.cell? ⟨T,1,none⟩=some (.int .i64 pa):=hC.cell (cellN hT.out 1) (fun h=>h);have q_2:w'.cell? ⟨T,2,none⟩=some (.int .i64 sq):=hC.cell (cellN hT.out 2) (fun h=>h);have q_3:w'.cell? ⟨T,3,none⟩=some (.int .i64 st):=hC.cell (cellN hT.out 3) (fun h=>h);have q_p0:w'.cell? ⟨p,0,none⟩=some (.int .i64 pa):=hC.cell (cellN hp0.out 0) (fun h=>h);have q_p1:w'.cell? ⟨p,1,none⟩=some (.map (some sm)):=hC.cell (cellN hp0.out 1) (fun h=>h);have q_p2:w'.cell? ⟨p,2,none⟩=some (.map (some cm)):=hC.cell (cellN hp0.out 2) (fun h=>h);have q_m0:w'.cell? ⟨T,0,none⟩=some (.int .i64 1):=hC.cell (cellN hT.out 0) (fun h=>h);have q_m4:w'.cell? ⟨T,4,none⟩=some (.int .i64 0):=hC.cell (cellN hT.out 4) (fun h=>h);have q_m5:w'.cell? ⟨T,5,none⟩=some (.int .i64 (crc x)):=hC.cell (cellN hT.out 5) (fun h=>h);have q_m6:w'.cell? ⟨T,6,none⟩=some (.string ⟨(diff0 x).toArray⟩):=hC.cell (cellN hT.out 6) (fun h=>h);go_simp;first | done | with_reducible rfl | exact rfl);try simp only [Act.put,sA,sZ,sS])
 refine wpTr_done ?_;have hTB:=hid (hv1.out.at hT.out (fun h=>h));have hPB:=hid (hv1.out.at hp0.out (fun h=>h));have hxB:=hid (hx1.out.trans hv1.out);have hsB:=hid (hms.out.mod hv1.out (fun h=>h));have hcB:=hid (hmc.out.mod hv1.out (fun h=>h));clear hT hp0 hms hmc hWd hx1;have c0:w9.cell? ⟨T,0,none⟩=some (.int .i64 1):=cellN hTB.out 0
 have hl1:Hid (∀ w',Ext w9 w' -> (Instr.lookup 142 (.map (some cm)) (.int .i64 st) false).run Tryz.prog w'=.ok (.string ⟨O.toArray⟩) w'):=hid (fun w' hC=>by
  have h:=run_lookupM (P:=Tryz.prog) (t:=142) (keyOk_int Tryz.underlying3) Tryz.underlying142 (hcB.out.mod hC (fun h=>h)) (st:Int) (zero_str w') false;rw [hgc.out] at h;simp only [Bool.false_eq_true,if_false] at h;rw [h,hO.out]
  cases n.κ pa st <;> rfl)
 have hl2:Hid (∀ w',Ext w9 w' -> (Instr.lookup 141 (.map (some sm)) (.int .i64 st) false).run Tryz.prog w'=.ok (.int .i64 S) w'):=hid (fun w' hC=>by
  have h:=run_lookupM (P:=Tryz.prog) (t:=141) (keyOk_int Tryz.underlying3) Tryz.underlying141 (hsB.out.mod hC (fun h=>h)) (st:Int) (zero_int w') false;simp only [Bool.false_eq_true,if_false] at h
  rw [h,hgs.out,hS.out])
 go_upto_region 6 with fail
 try simp only [List.append_eq,List.cons_append,List.nil_append]
 refine wp_region_tree (.s (.q 0 (.q 1 (.q 2 (.q 3 (.q 4 (.q 5 (.q 6 (.q 7 (.q 8 (.q 9 (.q 10 (.q 11 (.q 12 (.q 13 (.q 14 (.q 15 .done))))))))))))))))) (by as_aux_lemma=>kernel_rfl) (by as_aux_lemma=>kernel_rfl) (by as_aux_lemma=>kernel_rfl) (by decide) ?_;have hu0:=hid (Mod.drew0 (fun _=>False) w9);refine wpTr_s (fun Wx=>Ext w9 Wx) (fun _ _=>trivial) hu0.out ?_;generalize hWd:World.drew w9=U0 at hu0 ⊢
 iterate 16 (refine wpTr_q _ (by simp only [List.getD_cons_succ,List.getD_cons_zero];rfl) (by rfl) ?_ (fun w' hC=>?_) ?_;rotate_left;(have q_1:w'.cell? ⟨T,1,none⟩=some (.int .i64 pa):=hC.cell (cellN hTB.out 1) (fun h=>h);have q_2:w'.cell? ⟨T,2,none⟩=some (.int .i64 sq):=hC.cell (cellN hTB.out 2) (fun h=>h);have q_3:w'.cell? ⟨T,3,none⟩=some (.int .i64 st):=hC.cell (cellN hTB.out 3) (fun h=>h);have q_p0:w'.cell? ⟨p,0,none⟩=some (.int .i64 pa):=hC.cell (cellN hPB.out 0) (fun h=>h);have q_p1:w'.cell? ⟨p,1,none⟩=some (.map (some sm)):=hC.cell (cellN hPB.out 1) (fun h=>h);have q_p2:w'.cell? ⟨p,2,none⟩=some (.map (some cm)):=hC.cell (cellN hPB.out 2) (fun h=>h);have q_l:=hl1.out w' hC;have q_k:=hl2.out w' hC;go_simp;first | done | with_reducible rfl | exact rfl);try simp only [Act.put,sA,sZ,sS])
 refine wpTr_done ?_;have hT:=hid (hu0.out.at hTB.out (fun h=>h));have hp0:=hid (hu0.out.at hPB.out (fun h=>h));have hx6:=hid (hxB.out.trans hu0.out);have hms:=hid (hsB.out.mod hu0.out (fun h=>h));have hmc:=hid (hcB.out.mod hu0.out (fun h=>h));clear hTB hPB hsB hcB hWd hxB c0 hv1 hv0;clear hl1 hl2;have hG6:=hid (hG.ext hx6.out);go_wp2_with fail
 refine (hso.out U0 hG6.out).mono ?_;rintro e w2 ⟨rfl,rfl⟩;have d2:U0.cell? ⟨T,2,none⟩=some (.int .i64 sq):=cellN hT.out 2;have hse:=hid (fun W (h:Ext w W) (S':Int) (hS':S'=n.σ pa st)=>(⟨sm,cm,ds,dc,⟨h.at hPw.out (fun h=>h),hSw.out.mod h (fun h=>h),hgs.out,hCw.out.mod h (fun h=>h),hgc.out,hfo.out,hne.out⟩⟩:PartIs F W p pa (n.σ pa) (n.κ pa)));have V1:(#[.int .i64 1,.int .i64 pa,.int .i64 sq,.int .i64 st,.int .i64 0,.int .i64 (crc x),.string ⟨(diff0 x).toArray⟩]:Array Value)[1]?=some (.int .i64 pa):=rfl;have V3:(#[.int .i64 1,.int .i64 pa,.int .i64 sq,.int .i64 st,.int .i64 0,.int .i64 (crc x),.string ⟨(diff0 x).toArray⟩]:Array Value)[3]?=some (.int .i64 st):=rfl;have htr:(sq:Int) < S \/ (sq:Int)=S \/ S < (sq:Int):=by omega
 rcases htr with hc1 | hc1 | hc1
 case inl=>
  have han:=hid (answer_any T 4 S (crc O) 0 pa st _ V1 V3 U0 hT.out);have hrn:Hid (recvN n pa sq st x=n):=hid (if_neg (by rw [<- hS.out];omega));have hra:Hid (recvA n pa sq st x=⟨4,pa,S,st,crc O,0,[]⟩):=hid (by unfold recvA;rw [<- hS.out,<- hO.out,if_pos hc1]);go_wp2_with fail
  refine han.out.mono ?_;rintro e w7 ⟨A,rfl,hAge,hA,hx7⟩;have hx8:=hid (hx6.out.trans hx7);have hA8:=hid hA;clear hA hx7 han;go_wp2_with fail
  try go_ret
  rw [hR.out];refine ⟨⟨A,rfl,Nat.le_trans hx6.out.size hAge,?_⟩,?_,hx8.out.mono (fun _ h=>h.elim)⟩
  ·rw [hra.out];exact hA8.out
  ·rw [hrn.out];exact hse.out _ hx8.out _ rfl
 case inr.inl=>
  have hb2:((sq:Int)==S)=true:=by rw [hc1];simp
  have hlt:¬ (sq:Int) < S:=by omega
  have han:=hid (answer_any T 3 sq 0 (crc O) pa st _ V1 V3 U0 hT.out);have hrn:Hid (recvN n pa sq st x=n):=hid (if_neg (by rw [<- hS.out];omega));have hra:Hid (recvA n pa sq st x=⟨3,pa,sq,st,0,crc O,[]⟩):=hid (by unfold recvA;rw [<- hS.out,<- hO.out,if_neg hlt,if_pos hc1]);replace hc1:=hid hc1;go_wp2_with fail
  refine han.out.mono ?_;rintro e w7 ⟨A,rfl,hAge,hA,hx7⟩;have hx8:=hid (hx6.out.trans hx7);have hA8:=hid hA;clear hA hx7 han;go_wp2_with fail
  try go_ret
  rw [hR.out];refine ⟨⟨A,rfl,Nat.le_trans hx6.out.size hAge,?_⟩,?_,hx8.out.mono (fun _ h=>h.elim)⟩
  ·rw [hra.out];exact hA8.out
  ·rw [hrn.out];exact hse.out _ hx8.out _ rfl
 case inr.inr=>
  have hb2:((sq:Int)==S)=false:=by rw [beq_eq_false_iff_ne];omega
  have hlt:¬ (sq:Int) < S:=by omega
  have hrn:Hid (recvN n pa sq st x={ n with σ:=setf n.σ pa st sq,κ:=setf n.κ pa st (some x) }):=hid (if_pos (by rw [<- hS.out];exact hc1));have hra:Hid (recvA n pa sq st x=⟨3,pa,sq,st,0,crc x,[]⟩):=hid (by unfold recvA;rw [<- hS.out,<- hO.out,if_neg hlt,if_neg (by omega)]);have hpc:p ≠ cm:=fun e=>by
   obtain ⟨es,clock,hh,-⟩:=hmc.out;have:=hp0.out;rw [e,hh] at this;cases this
  have hps:p ≠ sm:=fun e=>by
   obtain ⟨es,clock,hh,-⟩:=hms.out;have:=hp0.out;rw [e,hh] at this;cases this
  have hcs:sm ≠ cm:=hne.out;have e0:U0.cell? ⟨T,0,none⟩=some (.int .i64 1):=cellN hT.out 0;have e1:U0.cell? ⟨T,1,none⟩=some (.int .i64 pa):=cellN hT.out 1;have e3:U0.cell? ⟨T,3,none⟩=some (.int .i64 st):=cellN hT.out 3;have e4:U0.cell? ⟨T,4,none⟩=some (.int .i64 0):=cellN hT.out 4;have e5:U0.cell? ⟨T,5,none⟩=some (.int .i64 (crc x)):=cellN hT.out 5;have e6:U0.cell? ⟨T,6,none⟩=some (.string ⟨(diff0 x).toArray⟩):=cellN hT.out 6;go_wp2_with fail
  refine (hap.out U0 hG6.out).mono ?_;rintro e w3 ⟨rfl,hx3⟩;have hT3:=hid (hx3.at hT.out (fun h=>h));have hp3:=hid (hx3.at hp0.out (fun h=>h));have hms3:=hid (hms.out.mod hx3 (fun h=>h));have hmc3:=hid (hmc.out.mod hx3 (fun h=>h));have hx8:=hid (hx6.out.trans hx3);clear hT hp0 hms hmc hx3 e0 e1 e3 e4 e5 e6 d2;have hT:=hT3;have hp0:=hp3;have hms:=hms3;have hmc:=hmc3;clear hT3 hp3 hms3 hmc3;go_upto_region 19 with fail
  try simp only [List.append_eq,List.cons_append,List.nil_append]
  refine wp_region_tree (.s (.q 0 (.q 1 (.q 2 (.q 3 (.q 4 (.q 5 (.q 6 (.c1 7 .done))))))))) (by as_aux_lemma=>kernel_rfl) (by as_aux_lemma=>kernel_rfl) (by as_aux_lemma=>kernel_rfl) (by decide) ?_;have hs0:=hid (Mod.drew0 (Eq cm) w3);refine wpTr_s (fun Wx=>Mod (Eq cm) w3 Wx) (fun _ _=>trivial) hs0.out ?_;generalize hWd:World.drew w3=S0 at hs0 ⊢;have hmS:=hid (show MapAt S0 (Value.int .i64) cm _ from hWd ▸ (hmc.out.mod (Mod.drew0 (fun _=>False) w3) (fun h=>h)))
  iterate 7 (refine wpTr_q _ (by simp only [List.getD_cons_succ,List.getD_cons_zero];rfl) (by rfl) ?_ (fun w' hC=>?_) ?_;rotate_left;(have q_2:w'.cell? ⟨T,2,none⟩=some (.int .i64 sq):=hC.cell (cellN hT.out 2) (fun h=>by have h:cm=T:=h;omega);have q_3:w'.cell? ⟨T,3,none⟩=some (.int .i64 st):=hC.cell (cellN hT.out 3) (fun h=>by have h:cm=T:=h;omega);have q_p1:w'.cell? ⟨p,1,none⟩=some (.map (some sm)):=hC.cell (cellN hp0.out 1) (fun h=>by have h:cm=p:=h;omega);have q_p2:w'.cell? ⟨p,2,none⟩=some (.map (some cm)):=hC.cell (cellN hp0.out 2) (fun h=>by have h:cm=p:=h;omega);go_simp;first | done | with_reducible rfl | exact rfl);try simp only [Act.put,sA,sZ,sS])
  refine wpTr_c1 _ (by simp only [List.getD_cons_succ,List.getD_cons_zero];rfl) ?_;refine wpN_c (by rfl) (fun K hK=>?_);refine wp_updateM _ _ _ 142 _ rfl (keyOk_int Tryz.underlying3) Tryz.underlying142 hmS.out (st:Int) (.string ⟨x.toArray⟩) rfl rfl rfl (fun w4 hU hMU=>?_);have hs1:=hid (hs0.out.trans hMU);refine hK.out _ _ hs1.out ?_;replace hU:=hid hU;clear hMU hmS hs0 hWd hK K;try simp only [Act.put,sA,sZ,sS]
  refine wpTr_done ?_;have hT4:=hid (hs1.out.at hT.out (by omega));have hp4:=hid (hs1.out.at hp0.out (by omega));have hms4:=hid (hms.out.mod hs1.out (fun h=>hcs h.symm));have hmc4:=hid hU.out;have hx9:=hid ((hx8.out.mono (T:=F) (fun _ h=>h.elim)).trans (hs1.out.mono (fun k e=>e ▸ hfo.out.2.2)));clear hT hp0 hms hmc hs1 hU hx8;have hT:=hT4;have hp0:=hp4;have hms:=hms4;have hmc:=hmc4;clear hT4 hp4 hms4 hmc4;go_upto_region 20 with fail
  try simp only [List.append_eq,List.cons_append,List.nil_append]
  refine wp_region_tree (.s (.q 0 (.q 1 (.q 2 (.q 3 (.q 4 (.q 5 (.q 6 (.q 7 (.c1 8 .done)))))))))) (by as_aux_lemma=>kernel_rfl) (by as_aux_lemma=>kernel_rfl) (by as_aux_lemma=>kernel_rfl) (by decide) ?_;have hs0:=hid (Mod.drew0 (Eq sm) w4);refine wpTr_s (fun Wx=>Mod (Eq sm) w4 Wx) (fun _ _=>trivial) hs0.out ?_;generalize hWd:World.drew w4=S0 at hs0 ⊢;have hmS:=hid (show MapAt S0 (Value.int .i64) sm _ from hWd ▸ (hms.out.mod (Mod.drew0 (fun _=>False) w4) (fun h=>h)))
  iterate 8 (refine wpTr_q _ (by simp only [List.getD_cons_succ,List.getD_cons_zero];rfl) (by rfl) ?_ (fun w' hC=>?_) ?_;rotate_left;(have q_2:w'.cell? ⟨T,2,none⟩=some (.int .i64 sq):=hC.cell (cellN hT.out 2) (fun h=>by have h:sm=T:=h;omega);have q_3:w'.cell? ⟨T,3,none⟩=some (.int .i64 st):=hC.cell (cellN hT.out 3) (fun h=>by have h:sm=T:=h;omega);have q_p1:w'.cell? ⟨p,1,none⟩=some (.map (some sm)):=hC.cell (cellN hp0.out 1) (fun h=>by have h:sm=p:=h;omega);have q_p2:w'.cell? ⟨p,2,none⟩=some (.map (some cm)):=hC.cell (cellN hp0.out 2) (fun h=>by have h:sm=p:=h;omega);go_simp;first | done | with_reducible rfl | exact rfl);try simp only [Act.put,sA,sZ,sS])
  refine wpTr_c1 _ (by simp only [List.getD_cons_succ,List.getD_cons_zero];rfl) ?_;refine wpN_c (by rfl) (fun K hK=>?_);refine wp_updateM _ _ _ 141 _ rfl (keyOk_int Tryz.underlying3) Tryz.underlying141 hmS.out (st:Int) (.int .i64 sq) rfl rfl rfl (fun w5 hU hMU=>?_);have hs1:=hid (hs0.out.trans hMU);refine hK.out _ _ hs1.out ?_;replace hU:=hid hU;clear hMU hmS hs0 hWd hK K;try simp only [Act.put,sA,sZ,sS]
  refine wpTr_done ?_;have hT5:=hid (hs1.out.at hT.out (by omega));have hp5:=hid (hs1.out.at hp0.out (by omega));have hmc5:=hid (hmc.out.mod hs1.out (fun h=>hcs h));have hms5:=hid hU.out;have hx10:=hid (hx9.out.trans (hs1.out.mono (fun k e=>e ▸ hfo.out.2.1)));clear hT hp0 hms hmc hs1 hU hx9;have han:=hid (answer_any T 3 sq 0 (crc x) pa st _ V1 V3 w5 hT5.out);have e2:w5.cell? ⟨T,2,none⟩=some (.int .i64 sq):=cellN hT5.out 2;have e5:w5.cell? ⟨T,5,none⟩=some (.int .i64 (crc x)):=cellN hT5.out 5;go_wp2_with fail
  refine han.out.mono ?_;rintro e w7 ⟨A,rfl,hAge,hA,hx7⟩;have hx11:=hid (hx10.out.trans (hx7.mono (fun _ h=>h.elim)));have hA8:=hid hA;have hp7:=hid (hx7.at hp5.out (fun h=>h));have hms7:=hid (hms5.out.mod hx7 (fun h=>h));have hmc7:=hid (hmc5.out.mod hx7 (fun h=>h));clear hA hx7 han;go_wp2_with fail
  try go_ret
  rw [hR.out];refine ⟨⟨A,rfl,Nat.le_trans hx10.out.size hAge,?_⟩,?_,hx11.out⟩
  ·rw [hra.out];exact hA8.out
  ·rw [hrn.out]
   refine ⟨sm,cm,_,_,⟨hp7.out,hms7.out,fun k=>?_,hmc7.out,fun k=>?_,hfo.out,hne.out⟩⟩
   ·show _=Value.int .i64 (setf n.σ pa st sq pa k)
    rw [assoc_upd,setf_at];split
    ·rfl
    ·exact hgs.out k
   ·show _=(setf n.κ pa st (some x) pa k).map strV
    rw [assoc_upd,setf_at];split
    ·rfl
    ·exact hgc.out k
end Go.Proofs.YtcopgcdhkgenkaaGreatDoor
