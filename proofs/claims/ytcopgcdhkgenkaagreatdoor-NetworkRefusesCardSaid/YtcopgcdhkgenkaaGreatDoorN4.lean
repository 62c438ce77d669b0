import Derived.Test.YtcopgcdhkgenkaaGreatDoorSD14
set_option linter.all false
set_option maxRecDepth 100000
set_option maxHeartbeats 16000000
namespace Go.Proofs.YtcopgcdhkgenkaaGreatDoor
open Go.Shelf Go.RowKit Cdk Scr
theorem results_row_tmp {P:Program} {fn:Func} {p q:Tmp} {ty:TypeId} (h:fn.results=#[.cell p ty,.tmp q]) (tmps:Array Value) (w:World) (g:Nat) (t:TypeId) (cs:Array Value) (fr:Nat × Nat) (d:TypeDesc)
  (hp:tmps.getD p undef=.pointer (some ⟨g,0,none⟩)) (hg:w.heap[g]?=some (.cells cs t fr))
  (hu:P.underlying ty=some d) (hd:(match d with | .struct _ | .array _ _=>true | _=>false)=true) (hi:(P.info? ty).map (·.size)=some cs.size):
  (results fn tmps).run P w=.ok (.tuple #[.agg cs,tmps.getD q undef]) w:=by
 have hp':tmps[p]?.getD undef=.pointer (some ⟨g,0,none⟩):=by simpa using hp
 simp [results,h,hp',asAddr,run_loadVar_row w g t ty cs fr d hg hu hd hi,Result.andThen]
def adr0:Array Value:=#[.int .i64 0,.string ⟨#[]⟩,.int .i64 0,.string ⟨#[]⟩]
theorem adrParse_any (k:Int) (hk:k=1 \/ k=6) (w:World) (hG:Gl w):Calls Tryz.prog 245 #[.string (adrS k)] w fun e w'=>e=.returned (.tuple #[.agg (adrA k),.int .i64 0])/\Ext w w':=by
 obtain ⟨X,hX⟩:∃ X,X=adrS k:=⟨_,rfl⟩;have hmf:∀ (fn:Fn) (first cap:Array Value) (w:World),(Instr.makeFunc fn first cap).run Tryz.prog w=.ok (.func fn first cap) w:=fun _ _ _ _=>rfl
 obtain ⟨T,hT⟩:∃ T,T=w.heap.size:=⟨_,rfl⟩;have hT0:=heap_alloc_new w (.cells adr0 454);have hx0:=Mod.alloc (Mod.refl (fun _=>False) w) (.cells adr0 454);rw [<- hX];have hfm:=hid (fun W (h:Gl W)=>adrFormat_any k hk W h);unfold adrV at hfm;rw [<- hX] at hfm;have hsp:=hid (splitN_any (adrB k) (by rcases hk with rfl | rfl <;> decide) 5 5 rfl (by omega) _ (hG.ext hx0));have hXe:(⟨(adrB k).toArray⟩:ByteArray)=X:=hX.symm;rw [hXe] at hsp;have hXS:(X==⟨#[47]⟩)=decide (k=1)/\(k=6 -> (X==⟨#[47,109,97,112]⟩)=true):=by
  rw [hX];rcases hk with rfl | rfl
  ·exact ⟨by decide+kernel,fun h=>absurd h (by decide)⟩
  ·exact ⟨by decide+kernel,fun _=>by decide+kernel⟩
 replace hX:=hid hX;replace hXe:=hid hXe;unfold adr0 at*;go_enter Tryz.func245,Tryz.ntmps245;go_wp2_with fail
 refine hsp.out.mono ?_;rintro e w1 ⟨rfl,rfl⟩;generalize (Lib.splitB ⟨#[47]⟩ 0 (min 5 ((adrB k).length+1) - 1) X).length=n1;generalize min 5 ((adrB k).length+1)=c1;generalize Lib.cellsOf _ c1=V1;obtain ⟨w2,hw2⟩:∃ w2,w2=((w.alloc (.cells #[.int .i64 0,.string ⟨#[]⟩,.int .i64 0,.string ⟨#[]⟩] 454)).alloc (.cells V1 9)):=⟨_,rfl⟩;have hx2:Ext w w2:=by rw [hw2];exact hx0.alloc _
 have hT2:w2.heap[T]?=some (.cells #[.int .i64 0,.string ⟨#[]⟩,.int .i64 0,.string ⟨#[]⟩] 454 (0,0)):=by
  rw [hw2,hT];exact ((Mod.refl (fun _=>False) _).alloc (.cells V1 9)).at hT0 (fun h=>h)
 rw [<- hw2,<- hT];have hTle:w.heap.size<=T:=Nat.le_of_eq hT.symm;replace hT:=hid hT;replace hw2:=hid hw2;clear hT0 hx0 hsp;obtain ⟨B,hB⟩:∃ B,B=w2.heap.size:=⟨_,rfl⟩;have hxW0:=allocs_ext (S:=fun _=>False) [.cells #[.slice (some ⟨w.heap.size+1,0,none⟩) n1 c1] 40,.cells #[.int .i64 k,.string ⟨#[]⟩,.int .i64 0,.string ⟨#[]⟩] 454] w2;have hg:=allocs_get [.cells #[.slice (some ⟨w.heap.size+1,0,none⟩) n1 c1] 40,.cells #[.int .i64 k,.string ⟨#[]⟩,.int .i64 0,.string ⟨#[]⟩] 454] w2;have hA:=hg 1 (by simp);simp only [allocs] at hxW0 hA;rw [<- hB] at hA;have hTW:=hxW0.at hT2 (fun h=>h);have hTB:T < B:=by rw [hB];exact lt_of_at hT2
 have hE:=hid (hx2.trans hxW0);clear hg hT2 hx2 hxW0;rcases hk with hk1 | hk1
 case inl=>
  have hb1:(X==⟨#[47]⟩)=true:=by rw [hXS.1,hk1];rfl
  have hb2:X.toList=[47]:=by rw [ByteArray.toList_eq,hX.out,hk1];rfl
  subst hk1;clear hXS;go_upto_region 18 with fail
  rw [<- hB] at ⊢;generalize (w2.alloc (.cells #[.slice (some ⟨w.heap.size+1,0,none⟩) n1 c1] 40)).alloc (.cells #[.int .i64 1,.string ⟨#[]⟩,.int .i64 0,.string ⟨#[]⟩] 454)=W at hTW hA hE ⊢;have a0:W.cell? ⟨B+1,0,none⟩=some (.int .i64 1):=cellN hA 0;have a1:W.cell? ⟨B+1,1,none⟩=some (.string ⟨#[]⟩):=cellN hA 1;have a2:W.cell? ⟨B+1,2,none⟩=some (.int .i64 0):=cellN hA 2;have a3:W.cell? ⟨B+1,3,none⟩=some (.string ⟨#[]⟩):=cellN hA 3;replace hB:=hid hB;have hAh:=hid hA;have hTh:=hid hTW;have hneq:(X !=X)=false:=by simp
  clear hA hTW;go_wp2_with fail
  refine (hfm.out W (hG.ext hE.out)).mono ?_;rintro e W3 ⟨rfl,hx3⟩;have hA3:=hx3.at hAh.out (fun h=>h);have hT3:=hx3.at hTh.out (fun h=>h);have hE3:=hid (hE.out.trans hx3);have b0:W3.cell? ⟨B+1,0,none⟩=some (.int .i64 1):=cellN hA3 0;have b1:W3.cell? ⟨B+1,1,none⟩=some (.string ⟨#[]⟩):=cellN hA3 1;have b2:W3.cell? ⟨B+1,2,none⟩=some (.int .i64 0):=cellN hA3 2;have b3:W3.cell? ⟨B+1,3,none⟩=some (.string ⟨#[]⟩):=cellN hA3 3;have t0:W3.cell? ⟨T,0,none⟩=some (.int .i64 0):=cellN hT3 0;have t1:W3.cell? ⟨T,1,none⟩=some (.string ⟨#[]⟩):=cellN hT3 1;have t2:W3.cell? ⟨T,2,none⟩=some (.int .i64 0):=cellN hT3 2;have t3:W3.cell? ⟨T,3,none⟩=some (.string ⟨#[]⟩):=cellN hT3 3;have z0:=freeN hT3 0;have z1:=freeN hT3 1;have z2:=freeN hT3 2;have z3:=freeN hT3 3;have hTk:=hid (put_at' (put_at' (put_at' (put_at' hT3 0 (.int .i64 1)) 1 (.string ⟨#[]⟩)) 2 (.int .i64 0)) 3 (.string ⟨#[]⟩));have hEk:=hid ((((hE3.out.setCell (a:=⟨T,0,none⟩) (fun h=>absurd h (by show ¬ T < w.heap.size;omega)) (.int .i64 1)).setCell (a:=⟨T,1,none⟩) (fun h=>absurd h (by show ¬ T < w.heap.size;omega)) (.string ⟨#[]⟩)).setCell (a:=⟨T,2,none⟩) (fun h=>absurd h (by show ¬ T < w.heap.size;omega)) (.int .i64 0)).setCell (a:=⟨T,3,none⟩) (fun h=>absurd h (by show ¬ T < w.heap.size;omega)) (.string ⟨#[]⟩));clear hA3 hT3 hx3 a0 a1 a2 a3;go_wp2_with fail
  refine bodyPost_ret (results_row_tmp rfl _ _ T _ _ _ _ rfl hTk.out Tryz.underlying454 rfl (by kernel_rfl)) rfl ⟨rfl,hEk.out⟩
 case inr=>
  have hb1:(X==⟨#[47]⟩)=false:=by rw [hXS.1,hk1];rfl
  have hb3:(X==⟨#[47,109,97,112]⟩)=true:=hXS.2 hk1;have hb2:X.toList=[47,109,97,112]:=by rw [ByteArray.toList_eq,hX.out,hk1];rfl
  subst hk1;clear hXS;go_upto_region 18 with fail
  rw [<- hB] at ⊢;generalize (w2.alloc (.cells #[.slice (some ⟨w.heap.size+1,0,none⟩) n1 c1] 40)).alloc (.cells #[.int .i64 6,.string ⟨#[]⟩,.int .i64 0,.string ⟨#[]⟩] 454)=W at hTW hA hE ⊢;have a0:W.cell? ⟨B+1,0,none⟩=some (.int .i64 6):=cellN hA 0;have a1:W.cell? ⟨B+1,1,none⟩=some (.string ⟨#[]⟩):=cellN hA 1;have a2:W.cell? ⟨B+1,2,none⟩=some (.int .i64 0):=cellN hA 2;have a3:W.cell? ⟨B+1,3,none⟩=some (.string ⟨#[]⟩):=cellN hA 3;replace hB:=hid hB;have hAh:=hid hA;have hTh:=hid hTW;have hneq:(X !=X)=false:=by simp
  clear hA hTW;go_wp2_with fail
  refine (hfm.out W (hG.ext hE.out)).mono ?_;rintro e W3 ⟨rfl,hx3⟩;have hA3:=hx3.at hAh.out (fun h=>h);have hT3:=hx3.at hTh.out (fun h=>h);have hE3:=hid (hE.out.trans hx3);have b0:W3.cell? ⟨B+1,0,none⟩=some (.int .i64 6):=cellN hA3 0;have b1:W3.cell? ⟨B+1,1,none⟩=some (.string ⟨#[]⟩):=cellN hA3 1;have b2:W3.cell? ⟨B+1,2,none⟩=some (.int .i64 0):=cellN hA3 2;have b3:W3.cell? ⟨B+1,3,none⟩=some (.string ⟨#[]⟩):=cellN hA3 3;have t0:W3.cell? ⟨T,0,none⟩=some (.int .i64 0):=cellN hT3 0;have t1:W3.cell? ⟨T,1,none⟩=some (.string ⟨#[]⟩):=cellN hT3 1;have t2:W3.cell? ⟨T,2,none⟩=some (.int .i64 0):=cellN hT3 2;have t3:W3.cell? ⟨T,3,none⟩=some (.string ⟨#[]⟩):=cellN hT3 3;have z0:=freeN hT3 0;have z1:=freeN hT3 1;have z2:=freeN hT3 2;have z3:=freeN hT3 3;have hTk:=hid (put_at' (put_at' (put_at' (put_at' hT3 0 (.int .i64 6)) 1 (.string ⟨#[]⟩)) 2 (.int .i64 0)) 3 (.string ⟨#[]⟩));have hEk:=hid ((((hE3.out.setCell (a:=⟨T,0,none⟩) (fun h=>absurd h (by show ¬ T < w.heap.size;omega)) (.int .i64 6)).setCell (a:=⟨T,1,none⟩) (fun h=>absurd h (by show ¬ T < w.heap.size;omega)) (.string ⟨#[]⟩)).setCell (a:=⟨T,2,none⟩) (fun h=>absurd h (by show ¬ T < w.heap.size;omega)) (.int .i64 0)).setCell (a:=⟨T,3,none⟩) (fun h=>absurd h (by show ¬ T < w.heap.size;omega)) (.string ⟨#[]⟩));clear hA3 hT3 hx3 a0 a1 a2 a3;go_wp2_with fail
  refine bodyPost_ret (results_row_tmp rfl _ _ T _ _ _ _ rfl hTk.out Tryz.underlying454 rfl (by kernel_rfl)) rfl ⟨rfl,hEk.out⟩
theorem depUrg_any (k:Int) (hk:k=1 \/ k=6) (w:World) (hG:Gl w):Calls Tryz.prog 293 #[.string (adrS k)] w fun e w'=>e=.returned (.int .i64 (adrU k))/\Ext w w':=by
 have hp:=hid (adrParse_any k hk w hG);unfold adrA at hp;have hu:=hid (fun W (h:Gl W)=>urgency_any k hk W h);unfold adrV at hu;obtain ⟨X,hX⟩:∃ X,X=adrS k:=⟨_,rfl⟩;rw [<- hX] at hp ⊢;obtain ⟨Y,hY⟩:∃ Y,Y=adrU k:=⟨_,rfl⟩;rw [<- hY] at hu ⊢;replace hX:=hid hX;replace hY:=hid hY;go_enter Tryz.func293,Tryz.ntmps293;go_wp2_with fail
 refine hp.out.mono ?_;rintro e w1 ⟨rfl,hx1⟩;have hxa:=hid (hx1.alloc (.cells #[.int .i64 k,.string ⟨#[]⟩,.int .i64 0,.string ⟨#[]⟩] 454));have hA:=heap_alloc_new w1 (.cells #[.int .i64 k,.string ⟨#[]⟩,.int .i64 0,.string ⟨#[]⟩] 454);go_upto_region 2 with fail
 obtain ⟨B,hB⟩:∃ B,B=w1.heap.size:=⟨_,rfl⟩;rw [<- hB] at hA ⊢;generalize w1.alloc (.cells #[.int .i64 k,.string ⟨#[]⟩,.int .i64 0,.string ⟨#[]⟩] 454)=W at hxa hA ⊢;have a0:W.cell? ⟨B,0,none⟩=some (.int .i64 k):=cellN hA 0;have a1:W.cell? ⟨B,1,none⟩=some (.string ⟨#[]⟩):=cellN hA 1;have a2:W.cell? ⟨B,2,none⟩=some (.int .i64 0):=cellN hA 2;have a3:W.cell? ⟨B,3,none⟩=some (.string ⟨#[]⟩):=cellN hA 3;replace hB:=hid hB;clear hA hx1;go_wp2_with fail
 refine (hu.out W (hG.ext hxa.out)).mono ?_;rintro e w2 ⟨rfl,hx2⟩;replace hx2:=hid hx2;go_wp2_with fail
 go_ret;exact ⟨rfl,hxa.out.trans hx2.out⟩
theorem compare_61 (w:World):Calls Tryz.prog 256 #[.string (adrS 6),.string (adrS 1)] w fun e w'=>e=.returned (.int .i64 1)/\w=w':=by
 have hl:Op.bytesLess (adrS 6).toList (adrS 1).toList=false:=by kernel_rfl
 have hl2:((adrS 6).toList==(adrS 1).toList)=false:=by kernel_rfl
 generalize (adrS 6)=x at hl hl2 ⊢;generalize (adrS 1)=y at hl hl2 ⊢;go_enter Tryz.func256,Tryz.ntmps256;go_wp2_with fail
 refine (isNaN_str _ _).mono ?_;rintro e w1 ⟨rfl,rfl⟩;go_wp2_with fail
 refine (isNaN_str _ _).mono ?_;rintro e w1 ⟨rfl,rfl⟩;go_wp2_with fail
 go_ret;exact ⟨rfl,rfl⟩
theorem or_11 (g:Nat) (y:Int) (w:World) (h0:w.cell? ⟨g,0,none⟩=some (.int .i64 1)):Calls Tryz.prog 292 #[.slice (some ⟨g,0,none⟩) 2 2] w fun e w'=>e=.returned (.int .i64 1)/\w=w':=by
 go_enter Tryz.func292,Tryz.ntmps292;go_wp2_with fail
 refine wp_loop_rounds 1 ?_;rw [rounds_succ];go_wp2_with fail
 try go_ret
 exact ⟨rfl,rfl⟩
theorem staleCmp_any (w:World) (hG:Gl w):Calls Tryz.prog 291 #[.string (adrS 6),.string (adrS 1)] w fun e w'=>e=.returned (.int .i64 1)/\Ext w w':=by
 have h6:=hid (fun W (h:Gl W)=>depUrg_any 6 (.inr rfl) W h);have h1:=hid (fun W (h:Gl W)=>depUrg_any 1 (.inl rfl) W h);have hcs:=hid (fun W=>compare_61 W);have hci:=hid (fun W=>Tryz.cmp_Compare_int 5 1 W);have e5:adrU 6=5:=rfl;have e1:adrU 1=1:=rfl;rw [e5] at h6;rw [e1] at h1;have ec:Lib.compareInt 5 1=1:=by decide
 rw [ec] at hci;obtain ⟨X,hX⟩:∃ X,X=adrS 6:=⟨_,rfl⟩;obtain ⟨Y,hY⟩:∃ Y,Y=adrS 1:=⟨_,rfl⟩;rw [<- hX] at h6 hcs ⊢;rw [<- hY] at h1 hcs ⊢;replace hX:=hid hX;replace hY:=hid hY;clear e5 e1 ec;go_enter Tryz.func291,Tryz.ntmps291;go_wp2_with fail
 refine (h6.out w hG).mono ?_;rintro e w1 ⟨rfl,hx1⟩;have hx1':=hid hx1;clear hx1;go_wp2_with fail
 refine (h1.out w1 (hG.ext hx1'.out)).mono ?_;rintro e w2 ⟨rfl,hx2⟩;have hx2':=hid (hx1'.out.trans hx2);clear hx2;go_wp2_with fail
 refine (hci.out w2).mono ?_;rintro e w3 ⟨rfl,rfl⟩;go_wp2_with fail
 refine (hcs.out _).mono ?_;rintro e w4 ⟨rfl,rfl⟩;have hxa:=hid (hx2'.out.alloc (.cells #[.int .i64 1,.int .i64 1] 3));have hA:=heap_alloc_new w3 (.cells #[.int .i64 1,.int .i64 1] 3);have ho:=hid (or_11 w3.heap.size 1 _ (cellN hA 0));clear hA;go_wp2_with fail
 refine ho.out.mono ?_;rintro e w5 ⟨rfl,rfl⟩;go_wp2_with fail
 go_ret;exact ⟨rfl,hxa.out⟩
def staleF:Value:=.func (.func 291) #[] #[]
theorem ins2c_str (b off cap:Nat) (w:World) (hG:Gl w) (h0:w.cell? ⟨b,off,none⟩=some (strV (adrB 1))) (h1:w.cell? ⟨b,off+1,none⟩=some (strV (adrB 6))):Calls Tryz.prog 507 #[.slice (some ⟨b,off,none⟩) 2 cap,.int .i64 0,.int .i64 2,staleF] w fun e w'=>e=.returned (.tuple #[])/\Ext w w':=by
 have hcm:=hid (fun W (h:Gl W)=>staleCmp_any W h);have hen:=enters_of Tryz.func291 (by kernel_rfl) rfl;unfold adrS at hcm;unfold staleF;replace h0:=hid h0;replace h1:=hid h1;go_enter Tryz.func507,Tryz.ntmps507;go_wp2_with fail
 refine wp_loop_rounds 2 ?_;rw [rounds_succ];go_wp2_with fail
 refine wp_loop_rounds 1 ?_;rw [rounds_succ];go_upto_region 4 with fail
 try simp only [List.append_eq,List.cons_append,List.nil_append]
 refine wp_region_tree (.s (.q 0 (.q 1 (.q 2 (.q 3 (.q 4 (.q 5 (.q 6 (.q 7 (.q 8 (.q 9 (.q 10 (.q 11 (.q 12 (.q 13 (.c1 14 (.q 15 (.q 16 .done)))))))))))))))))) (by as_aux_lemma=>kernel_rfl) (by as_aux_lemma=>kernel_rfl) (by as_aux_lemma=>kernel_rfl) (by decide) ?_;have hv0:=hid (Mod.drew0 (fun _=>False) w);refine wpTr_s (fun Wx=>Ext w Wx) (fun _ _=>trivial) hv0.out ?_;generalize hWd:World.drew w=V0 at hv0 ⊢
 iterate 14 (refine wpTr_q _ (by simp only [List.getD_cons_succ,List.getD_cons_zero];rfl) (by rfl) ?_ (fun w' hC=>?_) ?_;rotate_left;(have iw0:IntKind.i64.wrap 0=0:=(by decide);have q0:w'.cell? ⟨b,off,none⟩=some (strV (adrB 1)):=hC.cell h0.out (fun h=>h);have q1:w'.cell? ⟨b,off+1,none⟩=some (strV (adrB 6)):=hC.cell h1.out (fun h=>h);unfold strV at q0 q1;go_simp;first | done | with_reducible rfl | exact rfl);try simp only [Act.put,sA,sZ,sS])
 refine wpTr_c1 _ (by simp only [List.getD_cons_succ,List.getD_cons_zero];rfl) ?_;refine wpN_c (by rfl) (fun K hK=>?_);go_simp;refine (hcm.out V0 (hG.ext hv0.out)).mono ?_;rintro e w9 ⟨rfl,hxn⟩;have hv1:=hid (hv0.out.trans hxn);refine hK.out _ _ hv1.out ?_;clear hxn;clear hK K;try simp only [Act.put,sA,sZ,sS]
 iterate 2 (refine wpTr_q _ (by simp only [List.getD_cons_succ,List.getD_cons_zero];rfl) (by rfl) ?_ (fun w' hC=>?_) ?_;rotate_left;(have iw0:IntKind.i64.wrap 0=0:=(by decide);have q0:w'.cell? ⟨b,off,none⟩=some (strV (adrB 1)):=hC.cell h0.out (fun h=>h);have q1:w'.cell? ⟨b,off+1,none⟩=some (strV (adrB 6)):=hC.cell h1.out (fun h=>h);unfold strV at q0 q1;go_simp;first | done | with_reducible rfl | exact rfl);try simp only [Act.put,sA,sZ,sS])
 refine wpTr_done ?_;go_wp2_with fail
 rw [rounds_succ];go_wp2_with fail
 go_end0
 exact ⟨rfl,hv1.out⟩
theorem pdq2c_str (b off cap:Nat) (l:Int) (w:World) (hG:Gl w) (h0:w.cell? ⟨b,off,none⟩=some (strV (adrB 1))) (h1:w.cell? ⟨b,off+1,none⟩=some (strV (adrB 6))):Calls Tryz.prog 408 #[.slice (some ⟨b,off,none⟩) 2 cap,.int .i64 0,.int .i64 2,.int .i64 l,staleF] w fun e w'=>e=.returned (.tuple #[])/\Ext w w':=by
 have hi:=hid (ins2c_str b off cap w hG h0 h1);obtain ⟨F,hF⟩:∃ F,F=staleF:=⟨_,rfl⟩;rw [<- hF] at hi ⊢;replace hF:=hid hF;replace h0:=hid h0;replace h1:=hid h1;go_enter Tryz.func408,Tryz.ntmps408;go_wp2_with fail
 refine wp_loop_rounds 1 ?_;rw [rounds_succ];go_wp2_with fail
 refine hi.out.mono ?_;rintro e w1 ⟨rfl,hx⟩;replace hx:=hid hx;go_wp2_with fail
 refine bodyPost_ret (results_none rfl _ _ _) rfl ⟨rfl,hx.out⟩
theorem sort2c_str (b off cap:Nat) (w:World) (hG:Gl w) (h0:w.cell? ⟨b,off,none⟩=some (strV (adrB 1))) (h1:w.cell? ⟨b,off+1,none⟩=some (strV (adrB 6))):Calls Tryz.prog 324 #[.slice (some ⟨b,off,none⟩) 2 cap,staleF] w fun e w'=>e=.returned (.tuple #[])/\Ext w w':=by
 have hi:=hid (fun l=>pdq2c_str b off cap l w hG h0 h1);obtain ⟨F,hF⟩:∃ F,F=staleF:=⟨_,rfl⟩;rw [<- hF] at hi ⊢;replace hF:=hid hF;replace h0:=hid h0;replace h1:=hid h1;go_enter Tryz.func324,Tryz.ntmps324;go_wp2_with fail
 refine (Tryz.bits_Len 2 _ (by decide) (by decide)).mono ?_;rintro e w1 ⟨rfl,rfl⟩;go_wp2_with fail
 refine (hi.out _).mono ?_;rintro e w2 ⟨rfl,hx⟩;replace hx:=hid hx;go_wp2_with fail
 go_end0
 exact ⟨rfl,hx.out⟩
end Go.Proofs.YtcopgcdhkgenkaaGreatDoor
namespace Nt
open Scr
structure Lt where
 tx:Bs
 rc:Int
 du:Int
 he:Bool
 se:Int
deriving DecidableEq
def addL (s:Nat) (q:List Lt):List Lt -> List Lt × Nat
 | []=>(q,s)
 | x::r=>if 1024<=q.length then (q,s) else addL (s+1) (q++[{ x with se:=s+1 }]) r
def nextF:List Int -> Int × List Int
 | []=>(0,[])
 | f::r=>(f,r)
end Nt
namespace Go.Proofs.YtcopgcdhkgenkaaGreatDoor
open Go.RowKit Cdk Scr Nt
theorem RowAt.tail1 {F:Nat -> Prop} {w:World} {ao:Option Addr} {n cap:Nat} {x:Int} {l:List Int} (h:RowAt F w intC (.slice ao n cap) (x::l)):
  ∃ b off,ao=some ⟨b,off,none⟩/\n=l.length+1/\n<=cap/\w.cell? ⟨b,off,none⟩=some (.int .i64 x)/\(cap=1 -> RowAt F w intC (.slice (some ⟨b,off,none⟩) (n - 1) (cap - 1)) l)/\(cap ≠ 1 -> RowAt F w intC (.slice (some ⟨b,off+1,none⟩) (n - 1) (cap - 1)) l):=by
 obtain ⟨ao',cap',e,hr,hb,hlc,hl,hn⟩:=h;injection e with e1 e2 e3
 subst e1 e3;obtain ⟨b,off,rfl,hc⟩:=hr.at (by simp [intC]);simp only [List.length_cons] at e2 hlc hl;have hF:=hb b off rfl (by omega);refine ⟨b,off,rfl,e2,by omega,by simpa [intC] using hc 0 (.int .i64 x) (by simp [intC]),fun h1=>?_,fun h1=>?_⟩
 ·have h0:l=[]:=List.length_eq_zero_iff.1 (by omega)
  subst h0;exact ⟨some ⟨b,off,none⟩,cap - 1,by rw [e2];rfl,RowIs.nil _ _,fun _ _ _ h=>absurd h (by omega),by simp,⟨by simp,by omega⟩,fun e=>by cases e⟩
 ·refine ⟨some ⟨b,off+1,none⟩,cap - 1,by rw [e2];rfl,fun j u hu=>⟨b,off+1,rfl,?_⟩,fun b' off' e _=>?_,by omega,⟨by omega,by omega⟩,fun e=>by cases e⟩
  ·have:=hc (j+1) u (by simpa [intC] using hu)
   rw [show off+1+j=off+(j+1) by omega];exact this
  ·injection e with e;injection e with e;subst e;exact hF
theorem fate_any {b:Nat} {t c:Int} {d r:Value} {m:Nat} {fa qa:Value} {s:Int} {F:Nat -> Prop} {fs:List Int} (w:World) (hB:NetB w b t c d r m fa qa s) (hF:RowAt F w intC fa fs) (hb:¬ F b):
  Calls Tryz.prog 77 #[.pointer (some ⟨b,0,none⟩)] w fun e w'=>e=.returned (.int .i64 (nextF fs).1)/\(∃ fa',NetB w' b t c d r m fa' qa s/\RowAt F w' intC fa' (nextF fs).2)/\Mod (Eq b) w w':=by
 have c5:w.cell? ⟨b,5,none⟩=some fa:=cellN hB 5;have f5:=freeN hB 5;obtain ⟨ao,cap,rfl⟩:=hF.slice;cases fs with
 | nil=>
  go_enter Tryz.func77,Tryz.ntmps77;go_wp2_with fail
  go_ret;exact ⟨rfl,⟨_,hB,hF⟩,Mod.refl _ _⟩
 | cons x l=>
  obtain ⟨b1,o1,rfl,hn,hcap,hc1,h1,h2⟩:=RowAt.tail1 hF;have hl:=hid hF.len;simp only [List.length_cons] at hl hcap hn h1 h2 ⊢;have hz:¬ ((l.length:Int)+1=0):=by omega
  have hp:=fun v=>hid (put_at' hB 5 v)
  have hm:=fun v=>hid ((Mod.refl (Eq b) w).setCell (a:=⟨b,5,none⟩) (fun _=>rfl) v)
  go_enter Tryz.func77,Tryz.ntmps77;go_wp2_with fail
  case inl=>
   have e1:=h1 (by assumption);rw [show cap - 1=0 by omega] at e1;go_ret;exact ⟨rfl,⟨_,(hp _).out,RowAt.mod (v:=.slice (some ⟨b1,o1,none⟩) l.length 0) e1 (hm _).out (fun k hk e=>hb (e ▸ hk))⟩,(hm _).out⟩
  case inr=>
   go_ret;exact ⟨rfl,⟨_,(hp _).out,RowAt.mod (v:=.slice (some ⟨b1,o1+1,none⟩) l.length (cap - 1)) (h2 (by assumption)) (hm _).out (fun k hk e=>hb (e ▸ hk))⟩,(hm _).out⟩
def ltC (x:Lt):List Value:=[strV x.tx,.int .i64 x.rc,.int .i64 x.du,.bool x.he,.int .i64 x.se]
theorem ltC_len (x:Lt):(ltC x).length=5:=rfl
theorem ltC_one (x:Lt):∀ u ∈ ltC x,u.oneCell'=true:=fun u hu=>by simp [ltC,strV] at hu;rcases hu with rfl | rfl | rfl | rfl | rfl <;> rfl
theorem elLt:El Tryz.prog 82 (.agg #[.string .empty,.int .i64 0,.int .i64 0,.bool false,.int .i64 0]) 5 48:=⟨by kernel_rfl,rfl,by decide,by decide⟩
abbrev LtsAt (w:World) (B:Nat) (v:Value) (q:List Lt):Prop:=Cdk.Own w B 82 5 ltC v q
theorem addL_step {s:Nat} {q:List Lt} {x:Lt} {r:List Lt} (h:¬ 1024<=q.length):addL s q (x::r)=addL (s+1) (q++[{ x with se:=s+1 }]) r:=by rw [addL,if_neg h]
theorem addL_full {s:Nat} {q:List Lt} {x:Lt} {r:List Lt} (h:1024<=q.length):addL s q (x::r)=(q,s):=by rw [addL,if_pos h]
theorem own_ne7 {α:Type} {f:α -> List Value} {W:World} {base:Nat} {e t:TypeId} {size:Nat} {v:Value} {xs:List α} (h:Cdk.Own W base e size f v xs) {k:Nat} {c:Array Value} {fr:Nat × Nat} (hk:W.heap[k]?=some (.cells c t fr)) (hne:t ≠ e):v.ownBlock ≠ some k:=by
 intro hv;obtain ⟨c',hc⟩:=h.cells hv;rw [hk] at hc;injection hc with hc;injection hc with _ hc _
 exact hne hc
theorem row5 {w:World} {ab off j:Nat} {xs:List Lt} (h:RowIs w (some ⟨ab,off,none⟩) (xs.flatMap ltC)) (hj:j < xs.length):
  w.cell? ⟨ab,off+j*5,none⟩=some (strV xs[j].tx)/\w.cell? ⟨ab,off+j*5+1,none⟩=some (.int .i64 xs[j].rc)/\w.cell? ⟨ab,off+j*5+2,none⟩=some (.int .i64 xs[j].du)/\w.cell? ⟨ab,off+j*5+3,none⟩=some (.bool xs[j].he)/\w.cell? ⟨ab,off+j*5+4,none⟩=some (.int .i64 xs[j].se):=by
 have hg:=fun i (hi:i < 5)=>flat_get ltC 5 ltC_len xs j i xs[j] (List.getElem?_eq_getElem hj) hi
 have hc:∀ i u,i < 5 -> (ltC xs[j])[i]?=some u -> w.cell? ⟨ab,off+(j*5+i),none⟩=some u:=fun i u hi hu=>by
  obtain ⟨b1,o1,e,hc⟩:=h (j*5+i) u ((hg i hi).trans hu);injection e with e;injection e with e1 e2;subst e1 e2;exact hc
 exact ⟨hc 0 _ (by decide) rfl,hc 1 _ (by decide) rfl,hc 2 _ (by decide) rfl,hc 3 _ (by decide) rfl,hc 4 _ (by decide) rfl⟩
theorem add_any (B:Nat) {b:Nat} {t c:Int} {d r:Value} {m:Nat} {fa qa:Value} {s:Nat} {q:List Lt} (xs:List Lt) (ab off cap:Nat) (w:World) (hB:NetB w b t c d r m fa qa s) (hq:LtsAt w B qa q) (hBw:B<=w.heap.size)
  (hx:RowIs w (some ⟨ab,off,none⟩) (xs.flatMap ltC)) (hab:ab < w.heap.size/\ab ≠ b/\qa.ownBlock ≠ some ab) (hl:xs.length<=2/\s<=1000000/\q.length<=1024):
  Calls Tryz.prog 78 #[.pointer (some ⟨b,0,none⟩),.slice (some ⟨ab,off,none⟩) xs.length cap] w fun e w'=>e=.returned (.tuple #[]) ∧
   (∃ qa',NetB w' b t c d r m fa qa' ((addL s q xs).2:Nat)/\LtsAt w' B qa' (addL s q xs).1/\(qa'.ownBlock=qa.ownBlock \/ ∀ k,qa'.ownBlock=some k -> w.heap.size<=k))/\Mod (fun k=>k=b \/ qa.ownBlock=some k) w w':=by
 obtain ⟨n,hn⟩:∃ n,n=xs.length:=⟨_,rfl⟩;have hn0:=hid hn;rw [<- hn] at hl ⊢;replace hn:=hid hn;obtain ⟨R,hR⟩:∃ R,R=addL s q xs:=⟨_,rfl⟩;rw [<- hR];replace hR:=hid hR;replace hx:=hid hx;replace hq:=hid hq;replace hB:=hid hB;go_enter Tryz.func78,Tryz.ntmps78;go_wp2_with fail
 go_loopg [8] n (fun g i wr=>∃ (j:Nat) (qv:Value) (qj:List Lt) (sj:Nat),j+g=n/\i=.int .i64 j/\NetB wr b t c d r m fa qv sj/\LtsAt wr B qv qj/\R=addL sj qj (xs.drop j)/\sj=s+j/\qj.length<=1024/\Mod (fun k=>k=b \/ qa.ownBlock=some k) w wr/\(qv.ownBlock=qa.ownBlock \/ ∀ k,qv.ownBlock=some k -> w.heap.size<=k))
 case atStart=>exact ⟨0,qa,q,s,by omega,rfl,hB.out,hq.out,by rw [hR.out];rfl,by omega,hl.2.2,Mod.refl _ _,.inl rfl⟩
 case round=>
  clear hB hq hR;obtain ⟨j,qv,qj,sj,hj,rfl,hB,hq,hR,hs,hql,hm,hpl⟩:=hrel;replace hR:=hid hR;replace hj:=hid hj;replace hs:=hid hs
  by_cases hlt:j < n
  ·have hjl:j < xs.length:=by have:=hn.out;omega
   have hdi:(j:Int) < (n:Int):=by omega
   have hd:decide ((j:Int) < (n:Int))=true:=decide_eq_true hdi;have hrow:=hid (hx.out.mod hm (fun b1 o1 e=>by injection e with e;injection e with e1 e2;subst e1;exact fun h=>h.elim hab.2.1 hab.2.2));obtain ⟨g0,g1,g2,g3,g4⟩:=row5 hrow.out hjl;have hR2:=hR.out;rw [List.drop_eq_getElem_cons hjl] at hR2;generalize xs[j]=x at g0 g1 g2 g3 g4 hR2;replace hR2:=hid hR2;obtain ⟨tx,rc,du,he,se⟩:=x;simp only at g0 g1 g2 g3 g4;unfold strV at g0;obtain ⟨aq,cq,rfl,-,-⟩:=hq.row;have c5:wr.cell? ⟨b,6,none⟩=some (.slice aq qj.length cq):=cellN hB 6;have c6:wr.cell? ⟨b,7,none⟩=some (.int .i64 sj):=cellN hB 7;have f6:=freeN hB 7;have hbb:=lt_of_at hB;have hbb:=lt_of_at hB;have hsw:IntKind.i64.wrap ((sj:Int)+1)=(sj:Int)+1:=IntWalk.i64_in _ (by have:=hs.out;have:=hj.out;omega)
   by_cases hfull:1024<=qj.length
   ·have hfi:(1024:Int)<=(qj.length:Int):=by omega
    have hfd:decide ((1024:Int)<=(qj.length:Int))=true:=decide_eq_true hfi;have hRf:=hid (hR2.out.trans (addL_full hfull));have hmA:=hid (hm.alloc (.cells #[.string ⟨tx.toArray⟩,.int .i64 rc,.int .i64 du,.bool he,.int .i64 se] 82));have hxA:=Mod.alloc (Mod.refl (fun _=>False) wr) (.cells #[.string ⟨tx.toArray⟩,.int .i64 rc,.int .i64 du,.bool he,.int .i64 se] 82);have hBA:=hid (hxA.at hB (fun h=>h));have hqA:=hid (hq.ext hxA);clear hxA hB hq;go_wp2_with fail
    refine bodyPost_ret (results_none rfl _ _ _) rfl ?_;rw [hRf.out];exact ⟨rfl,⟨_,hBA.out,hqA.out,hpl⟩,hmA.out⟩
   ·have hfi:¬ (1024:Int)<=(qj.length:Int):=by omega
    have hfd:decide ((1024:Int)<=(qj.length:Int))=false:=decide_eq_false hfi;have hRf:=hid (hR2.out.trans (addL_step hfull));have hB7:=put_at' hB 7 (.int .i64 ((sj:Int)+1));have hm7:=hm.setCell (a:=⟨b,7,none⟩) (fun _=>.inl rfl) (.int .i64 ((sj:Int)+1));have hqne:=own_ne7 hq hB (by decide);have hq7:=hq.mod ((Mod.refl (Eq b) wr).setCell (a:=⟨b,7,none⟩) (fun _=>rfl) (.int .i64 ((sj:Int)+1))) (fun k hk e=>hqne (by rw [hk,e]));have hz7:(wr.setCell ⟨b,7,none⟩ (.int .i64 ((sj:Int)+1))).heap.size=wr.heap.size:=by simp [World.setCell]
    replace hB:=hid hB;replace hq:=hid hq;replace hm:=hid hm;replace hB7:=hid hB7;replace hm7:=hid hm7;replace hq7:=hid hq7;replace hz7:=hid hz7;go_upto_region 6 with fail
    have hxT:=Mod.alloc (Mod.refl (fun _=>False) (wr.setCell ⟨b,7,none⟩ (.int .i64 ((sj:Int)+1)))) (.cells #[.string ⟨tx.toArray⟩,.int .i64 rc,.int .i64 du,.bool he,.int .i64 ((sj:Int)+1)] 82);have hT0:=heap_alloc_new (wr.setCell ⟨b,7,none⟩ (.int .i64 ((sj:Int)+1))) (.cells #[.string ⟨tx.toArray⟩,.int .i64 rc,.int .i64 du,.bool he,.int .i64 ((sj:Int)+1)] 82);rw [hz7.out] at hT0;have hb0:=hid (hxT.at hB7.out (fun h=>h));have hq0:=hid (hq7.out.ext hxT);have hm0:=hid (hm7.out.alloc (.cells #[.string ⟨tx.toArray⟩,.int .i64 rc,.int .i64 du,.bool he,.int .i64 ((sj:Int)+1)] 82));replace hT0:=hid hT0;clear hxT hB7 hq7 hm7 hz7 c5 c6 f6 g0 g1 g2 g3 g4 hbb;have hTl:w.heap.size<=wr.heap.size:=hm.out.size;have hqT:=fun k e=>(hq.out.block k e).2
    have hbT:b < wr.heap.size:=lt_of_at hB.out;generalize wr.heap.size=T at hT0 hTl hqT hbT ⊢;generalize ((wr.setCell ⟨b,7,none⟩ (.int .i64 ((sj:Int)+1))).alloc (.cells #[.string ⟨tx.toArray⟩,.int .i64 rc,.int .i64 du,.bool he,.int .i64 ((sj:Int)+1)] 82))=W at hT0 hb0 hq0 hm0 ⊢;refine wp_region_schedE (fun Wx=>Wx.heap[b]?=some (.cells (netC t c d r m fa (.slice aq qj.length cq) ((sj:Int)+1)) 78 (0,0))/\Wx.heap[T]?=some (.cells #[.string ⟨tx.toArray⟩,.int .i64 rc,.int .i64 du,.bool he,.int .i64 ((sj:Int)+1)] 82 (0,0)))
     [(0,true),(1,true),(2,true),(3,true),(4,true),(5,true),(6,false),(7,false),(8,true),(9,true),(10,false)] (by as_aux_lemma=>kernel_rfl) (by as_aux_lemma=>kernel_rfl) (by as_aux_lemma=>kernel_rfl) (by decide) ⟨hb0.out,hT0.out⟩ ?_
    simp only [schedOps,List.map_cons,List.map_nil,List.getD_cons_zero,List.getD_cons_succ]
    iterate 6 (first | (refine wpT_q (by rfl) (by rfl) ?_ (fun w' hC=>?_) ?_;rotate_left;(have q0:w'.cell? ⟨b,6,none⟩=some (.slice aq qj.length cq):=cellN hC.1 6;have t0:w'.cell? ⟨T,0,none⟩=some (.string ⟨tx.toArray⟩):=cellN hC.2 0;have t1:w'.cell? ⟨T,1,none⟩=some (.int .i64 rc):=cellN hC.2 1;have t2:w'.cell? ⟨T,2,none⟩=some (.int .i64 du):=cellN hC.2 2;have t3:w'.cell? ⟨T,3,none⟩=some (.bool he):=cellN hC.2 3;have t4:w'.cell? ⟨T,4,none⟩=some (.int .i64 ((sj:Int)+1)):=cellN hC.2 4;go_simp;try with_reducible rfl);try simp only [Act.put,sA,sZ,sS]) | (refine wpT_p (by rfl) (by rfl) ?_ (fun w' hC=>?_) ?_;rotate_left;(go_simp;try with_reducible rfl);try simp only [Act.put,sA,sZ,sS]))
    have hbl:=lt_of_at hb0.out;have hTT:=lt_of_at hT0.out;have hBW:B<=W.heap.size:=by have:=hm0.out.size;omega
    refine wpT_c (by rfl) (fun K hK=>?_);refine wp_slice1 _ _ rfl Tryz.underlying76 elLt (by decide) #[.string ⟨tx.toArray⟩,.int .i64 rc,.int .i64 du,.bool he,.int .i64 ((sj:Int)+1)] rfl rfl ?_;have hxA:=Mod.alloc (Mod.refl (fun _=>False) W.drew) (.cells #[.string ⟨tx.toArray⟩,.int .i64 rc,.int .i64 du,.bool he,.int .i64 ((sj:Int)+1)] 82);have hxB:=(Mod.drew0 (fun _=>False) W).trans hxA;refine hK.out _ _ ⟨hxB.at hb0.out (fun h=>h),hxB.at hT0.out (fun h=>h)⟩ ?_;clear hK K;try simp only [Act.put,sA,sZ,sS]
    refine wpT_c (by rfl) (fun K hK=>?_);refine wp_appAt _ _ 76 rfl Tryz.underlying76 elLt rfl (hq0.out.ext hxB) _ 1 1 rfl [⟨tx,rc,du,he,(sj:Int)+1⟩] rfl (by exact RowIs.new _ _ _) ltC_len (fun y _ u hu=>ltC_one y u hu) (by simp only [List.length_singleton];omega) (by have:=hxB.size;omega) (fun v' w' H=>?_);obtain ⟨hO,hM,hP⟩:=H.out;have hnb:=own_ne7 hq0.out hb0.out (by decide);have hnT:(Value.slice aq qj.length cq).ownBlock ≠ some T:=fun e=>by have:=hqT _ e;omega
    have hM2:=hxB.mono (T:=fun k=>(Value.slice aq qj.length cq).ownBlock=some k) (fun _ h=>h.elim) |>.trans hM
    have hb2:=hM2.at hb0.out hnb;have hT2:=hM2.at hT0.out hnT
    have hm2:=hm0.out.then hM2 (fun k hk e=>by
     rcases hpl with hp | hp
     ·exact .inr (by rw [<- hp];exact e)
     ·have:=hp k e;omega)
    have hpl2:v'.ownBlock=qa.ownBlock \/ ∀ k,v'.ownBlock=some k -> w.heap.size<=k:=by
     rcases hP with hP | hP
     ·rw [hP];exact hpl
     ·refine .inr (fun k e=>?_)
      rw [hP] at e;injection e with e
      have:=hxB.size;omega
    refine hK.out _ _ ⟨hb2,hT2⟩ ?_;clear hK K H;try simp only [Act.put,sA,sZ,sS]
    obtain ⟨av,cv,rfl,-⟩:=hO.row;have hl1:(qj++[(⟨tx,rc,du,he,(sj:Int)+1⟩:Lt)]).length=qj.length+1:=by simp
    rw [hl1] at hO hpl2 ⊢
    iterate 2 (first | (refine wpT_q (by rfl) (by rfl) ?_ (fun w' hC=>?_) ?_;rotate_left;(go_simp;try with_reducible rfl);try simp only [Act.put,sA,sZ,sS]) | (refine wpT_p (by rfl) (by rfl) ?_ (fun w' hC=>?_) ?_;rotate_left;(go_simp;try with_reducible rfl);try simp only [Act.put,sA,sZ,sS]))
    refine wpT_e (by rfl) (fun K hK=>?_);have z6:=freeN hb2 6;have q6:w'.cell? ⟨b,6,none⟩=some (.slice aq qj.length cq):=cellN hb2 6;have pB:=put_at' hb2 6 (.slice av (qj.length+1) cv);have hOb:(Value.slice av (qj.length+1) cv).ownBlock ≠ some b:=own_ne7 hO hb2 (by decide);have mS:=(Mod.refl (Eq b) w').setCell (a:=⟨b,6,none⟩) (fun _=>rfl) (.slice av (qj.length+1) cv);have pO:=hid (hO.mod mS (fun k hk e=>hOb (by rw [hk,e])));have pM:=hid (hm2.setCell (a:=⟨b,6,none⟩) (fun _=>.inl rfl) (.slice av (qj.length+1) cv));replace pB:=hid pB;replace hpl2:=hid hpl2;clear mS hb2 hT2 hm2 hO hM hM2;go_simp;refine hK.out _ _ ?_;clear hK K;go_wp2_with fail
    go_roundg (gk - 1)
    case measure=>have:=hj.out;omega
    case rel=>exact ⟨j+1,_,_,sj+1,by have:=hj.out;omega,by go_num,by exact pB.out,pO.out,by exact hRf.out,by have:=hs.out;omega,by rw [hl1];omega,pM.out,hpl2.out⟩
  ·have hndi:¬ (j:Int) < (n:Int):=by omega
   have hj0:j=n:=by have:=hj.out;omega
   have hd:decide ((j:Int) < (n:Int))=false:=decide_eq_false hndi;have hRe:=hid (show R=(qj,sj) by rw [hR.out,hj0,hn.out,List.drop_length];rfl);replace hB:=hid hB;replace hq:=hid hq;replace hm:=hid hm;go_wp2_with fail
   go_end0
   rw [hRe.out];exact ⟨rfl,⟨_,hB.out,hq.out,hpl⟩,hm.out⟩
open Go.Shelf Go.RowKit Cdk Scr Nt
theorem flat_ints (l:List Int):l.flatMap intC=l.map (Value.int .i64):=by induction l with | nil=>rfl | cons a t ih=>simp [intC,ih]
theorem clone_ints {F:Nat -> Prop} (v:Value) (l:List Int) (w:World) (h:RowAt F w intC v l) (hl:l.length<=1000000):
  Calls Tryz.prog 41 #[v] w fun e w'=>∃ v',e=.returned v'/\RowAt (fun k=>w.heap.size<=k/\k < w'.heap.size) w' intC v' l/\Ext w w':=by
 obtain ⟨ao,cap,rfl,hr,-,hlc,-,hn⟩:=h;cases ao with
 | none=>
  have h0:l=[]:=List.length_eq_zero_iff.1 (by have:=hn rfl;omega);subst h0;refine (Tryz.slices_Clone_int_nil 0 cap w).mono ?_;rintro e w' ⟨rfl,rfl⟩;exact ⟨_,rfl,RowAt.nil _ _ _,Mod.refl _ _⟩
 | some ad=>
  have hE:=Own.empty (w:=w) (base:=w.heap.size) (e:=3) (size:=1) intC (Nat.le_refl _);have hx:=Mod.alloc (Mod.refl (fun _=>False) w) (.cells #[] 3);have hr2:=hr.ext hx;replace hE:=hid hE;replace hx:=hid hx;replace hr2:=hid hr2;have hnil:∀ W:World,(binOp .eql 31 (.slice (some ad) l.length cap) (.slice none 0 0)).run Tryz.prog W=.ok (.bool false) W:=fun W=>by kernel_rfl
  go_enter Tryz.func41,Tryz.ntmps41;go_wp2_with (at_builtin;refine wpList_app rfl _ _ 31 rfl Tryz.underlying31 elI rfl hE.out (some ad) l.length cap rfl l rfl hr2.out intC_len (fun y _ u hu=>by simp [intC] at hu;subst hu;rfl) (by simp;omega) (by simp) (fun e=>nomatch e) ?_)
  intro v' w' H;obtain ⟨hO,hM⟩:=H.out;have hX:=hid (hx.out.then hM (fun k hk e=>by have:=(hE.out.block k e).1;omega));replace hO:=hid hO;clear hM H;go_wp2_with fail
  go_ret;have hO2:Cdk.Own w' w.heap.size 3 1 intC v' l:=by simpa using hO.out
  exact ⟨v',rfl,own_rowAt hO2 (by omega),hX.out⟩
def okF (l:List Int):Bool:=decide (l.length<=64) && l.all fun x=>decide (0<=x) && decide (x<=24)
theorem okF_bad {l:List Int} {j:Nat} (hj:j < l.length) (h:(decide (0<=l[j]) && decide (l[j]<=24))=false):okF l=false:=by
 unfold okF;rw [Bool.and_eq_false_iff];refine .inr ?_;rw [List.all_eq_false];exact ⟨l[j],List.getElem_mem _,by rw [h];decide⟩
def SfP (b:Nat) (t c:Int) (d r:Value) (m:Nat) (qa:Value) (s:Int) (R:Bool) (l:List Int) (w:World) (e:Ending) (w':World):Prop:=
 if R then (e=.returned (.int .i64 0)/\(∃ fa',NetB w' b t c d r m fa' qa s/\RowAt (fun k=>w.heap.size<=k/\k < w'.heap.size) w' intC fa' l)/\Mod (Eq b) w w') else (e=.returned (.int .i64 270)/\w=w')
theorem setFates_any {b:Nat} {t c:Int} {da:Addr} {r:Value} {m:Nat} {fa qa:Value} {s:Int} {F:Nat -> Prop} (v:Value) (l:List Int) (w:World) (hB:NetB w b t c (.pointer (some da)) r m fa qa s) (h:RowAt F w intC v l) (hl:l.length<=1000000):
  Calls Tryz.prog 14 #[.pointer (some ⟨b,0,none⟩),v] w (SfP b t c (.pointer (some da)) r m qa s (okF l) l w):=by
 have hm:=hid (missing_any w hB);have hcl:=hid (clone_ints v l w h hl);obtain ⟨R,hR⟩:∃ R,R=okF l:=⟨_,rfl⟩;rw [<- hR];replace hR:=hid hR;replace h:=hid h;replace hB:=hid hB;obtain ⟨ao,cap,rfl⟩:=h.out.slice;obtain ⟨n,hn⟩:∃ n,n=l.length:=⟨_,rfl⟩;rw [<- hn] at hl hcl h ⊢;replace hn:=hid hn
 by_cases hbig:64 < n
 ·have hbi:(64:Int) < (n:Int):=by omega
  have hRf:=hid (show R=false by rw [hR.out];unfold okF;rw [Bool.and_eq_false_iff];exact .inl (decide_eq_false (by have:=hn.out;omega)));go_enter Tryz.func14,Tryz.ntmps14;go_wp2_with fail
  refine hm.out.mono ?_;rintro e w1 ⟨rfl,rfl⟩;go_wp2_with fail
  go_ret;rw [hRf.out];exact ⟨rfl,rfl⟩
 ·have hbi:¬ (64:Int) < (n:Int):=by omega
  go_enter Tryz.func14,Tryz.ntmps14;go_wp2_with fail
  refine hm.out.mono ?_;rintro e w1 ⟨rfl,rfl⟩;go_wp2_with fail
  go_loopg [14] n (fun g i wr=>∃ j:Nat,j+g=n/\i=.int .i64 j/\wr=w/\∀ k (h:k < l.length),k < j -> (decide (0<=l[k]) && decide (l[k]<=24))=true)
  case atStart=>exact ⟨0,by omega,rfl,rfl,fun k _ h=>by omega⟩
  case round=>
   obtain ⟨j,hj,rfl,rfl,hall⟩:=hrel;replace hj:=hid hj;replace hall:=hid hall
   by_cases hlt:j < n
   ·have hjl:j < l.length:=by have:=hn.out;omega
    have hdi:(j:Int) < (n:Int):=by omega
    have hd:decide ((j:Int) < (n:Int))=true:=decide_eq_true hdi;have hx:=h.out.get 1 (fun _=>rfl) (by decide) hjl;obtain ⟨b1,o1,c1,e1,-,hc⟩:=hx;injection e1 with e1 e2 e3
    subst e1;have hc0:=hc 0 (.int .i64 l[j]) (by decide) rfl;simp only [Nat.mul_one,Nat.add_zero] at hc0;have hbad:=hid (fun h=>okF_bad hjl h)
    have hok:=hid (fun (h:(decide (0<=l[j]) && decide (l[j]<=24))=true) k (hk:k < l.length) (hkj:k < j+1)=>show (decide (0<=l[k]) && decide (l[k]<=24))=true by
     by_cases e:k=j
     ·subst e;exact h
     ·exact hall.out k hk (by omega))
    generalize l[j]=x at hc0 hbad hok;clear hc e2 e3 hall
    by_cases h1:x < 0
    ·have hRf:=hid (hR.out.trans (hbad.out (by simp;omega)))
     go_wp2_with fail
     go_ret;rw [hRf.out];exact ⟨rfl,rfl⟩
    ·by_cases h2:24 < x
     ·have hRf:=hid (hR.out.trans (hbad.out (by simp;omega)))
      go_wp2_with fail
      go_ret;rw [hRf.out];exact ⟨rfl,rfl⟩
     ·have hok2:=hid (hok.out (by simp;omega))
      go_wp2_with fail
      go_roundg (gk - 1)
      case measure=>have:=hj.out;omega
      case rel=>exact ⟨j+1,by have:=hj.out;omega,by go_num,rfl,hok2.out⟩
   ·have hndi:¬ (j:Int) < (n:Int):=by omega
    have hd:decide ((j:Int) < (n:Int))=false:=decide_eq_false hndi
    have hRt:=hid (show R=true by
     rw [hR.out];unfold okF;rw [Bool.and_eq_true];refine ⟨decide_eq_true (by have:=hn.out;omega),?_⟩;rw [List.all_eq_true];intro x hx;obtain ⟨k,hk,rfl⟩:=List.mem_iff_getElem.1 hx
     exact hall.out k hk (by have:=hn.out;omega))
    go_wp2_with fail
    refine hcl.out.mono ?_;rintro e w2 ⟨v',rfl,hr2,hx2⟩;have hB2:=hx2.at hB.out (fun h=>h);obtain ⟨a2,c2,rfl⟩:=hr2.slice;have f5:=freeN hB2 5;have c5:w2.cell? ⟨b,5,none⟩=some fa:=cellN hB2 5;have hp:=hid (put_at' hB2 5 (.slice a2 l.length c2));have mS:=(Mod.refl (Eq b) w2).setCell (a:=⟨b,5,none⟩) (fun _=>rfl) (.slice a2 l.length c2);have hM:=hid ((hx2.mono (T:=Eq b) (fun _ h=>h.elim)).trans mS);have hbl:=lt_of_at hB.out;have hr3:=hid (hr2.mod mS (fun k hk e=>by omega));have hz:=hid (show (w2.setCell ⟨b,5,none⟩ (.slice a2 l.length c2)).heap.size=w2.heap.size by simp [World.setCell]);clear hr2 hx2 hB2 mS;go_wp2_with fail
    go_ret;rw [hRt.out];exact ⟨rfl,⟨_,hp.out,hr3.out.mono (fun k hk=>⟨hk.1,by rw [hz.out];exact hk.2⟩)⟩,hM.out⟩
end Go.Proofs.YtcopgcdhkgenkaaGreatDoor
