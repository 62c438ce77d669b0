import Derived.Test.YtcopgcdhkgenkaaGreatDoorD2
set_option linter.all false
set_option maxRecDepth 100000
set_option maxHeartbeats 16000000
namespace Go.Proofs.YtcopgcdhkgenkaaGreatDoor
open Go.Shelf Go.RowKit Cdk Scr
def jnC (gen:Int) (fs:Value) (en:Int) (d:Nat) (size:Nat) (cur:Int) (br:Bool):Array Value:=#[.int .i64 gen,fs,.int .i64 en,.pointer (some ⟨d,0,none⟩),.int .i64 size,.int .i64 cur,.bool br]
def JnAt (w:World) (j:Nat) (gen:Int) (fs:Value) (en:Int) (d:Nat) (size:Nat) (cur:Int) (br:Bool):Prop:=w.heap[j]?=some (.cells (jnC gen fs en d size cur br) 201 (0,0))
theorem start_any {j:Nat} {gen:Int} {fs:Value} {en:Int} {d size:Nat} {cur:Int} {br:Bool} (k:Nat) (w:World) (h:JnAt w j gen fs en d size cur br) (hk:k*size<=4194304):
  Calls Tryz.prog 97 #[.pointer (some ⟨j,0,none⟩),.int .i64 k] w fun e w'=>e=.returned (.int .i64 ((k*size:Nat):Int))/\w=w':=by
 have c4:w.cell? ⟨j,4,none⟩=some (.int .i64 size):=cellN h 4;have hw:IntKind.i64.wrap ((k:Int)*(size:Int))=((k*size:Nat):Int):=by
  rw [<- Int.natCast_mul];exact IntWalk.i64_in _ (by omega)
 go_enter Tryz.func97,Tryz.ntmps97;go_wp2_with fail
 go_ret;exact ⟨rfl,rfl⟩
theorem zeroS_size (k:Nat):(⟨(zeroS k).toArray⟩:ByteArray).size=k:=by simp [zeroS,ByteArray.size]
theorem zeroS_get {k i:Nat} (h:i < (⟨(zeroS k).toArray⟩:ByteArray).size):(⟨(zeroS k).toArray⟩:ByteArray)[i]=0:=by
 show (zeroS k).toArray[i]=0
 simp [zeroS]
theorem results_cells2 {P:Program} {fn:Func} {p u:Tmp} {ty ty2:TypeId} (h:fn.results=#[.cell p ty,.cell u ty2]) (tmps:Array Value) (w:World) (a1 a2:Addr) (v1 v2:Value) (hp:tmps.getD p undef=.pointer (some a1)) (hu:tmps.getD u undef=.pointer (some a2))
  (l1:(loadVar ty a1).run P w=.ok v1 w) (l2:(loadVar ty2 a2).run P w=.ok v2 w):(results fn tmps).run P w=.ok (.tuple #[v1,v2]) w:=by
 have hp':tmps[p]?.getD undef=.pointer (some a1):=by simpa using hp
 have hu':tmps[u]?.getD undef=.pointer (some a2):=by simpa using hu
 simp [results,h,hp',hu',asAddr,l1,l2]
theorem parsed_zero (k:Nat) (hk:1<=k/\k<=4194304) (w:World):Calls Tryz.prog 98 #[strV (zeroS k)] w fun e w'=>e=.returned (.tuple #[.agg #[.int .i64 0,.slice none 0 0,.int .i64 0],.bool true])/\Ext w w':=by
 unfold strV;have hxs:0 < (⟨(zeroS k).toArray⟩:ByteArray).size:=by rw [zeroS_size];omega
 have hx0:=zeroS_get hxs;generalize (⟨(zeroS k).toArray⟩:ByteArray)=x at hxs hx0 ⊢;have hxt:(x[0].toNat:Int)=0:=by rw [hx0];rfl
 go_enter Tryz.func98,Tryz.ntmps98;go_wp2_with fail
 have hx:=allocs_ext (S:=fun _=>False) [.cells #[.int .i64 0,.slice none 0 0,.int .i64 0] 199,.cells #[.bool true] 4] w;have hg:=allocs_get [.cells #[.int .i64 0,.slice none 0 0,.int .i64 0] 199,.cells #[.bool true] 4] w;have g0:=hg 0 (by simp);have g1:=hg 1 (by simp);simp only [allocs] at hx g0 g1
 refine bodyPost_ret (results_cells2 rfl _ _ ⟨w.heap.size,0,none⟩ ⟨w.heap.size+1,0,none⟩ _ _ rfl rfl (run_loadVar_row _ _ _ _ _ _ _ g0 Tryz.underlying199 rfl (by kernel_rfl)) (by
  have q1:=cellN g1 0
  go_simp)) rfl ⟨rfl,hx⟩
theorem crc_rng (t:Bs):0<=crc t/\crc t < 4294967296:=by
 unfold crc;have:=((crcF 0xFFFFFFFF t) ^^^ 0xFFFFFFFF).toNat_lt;omega
theorem framing_any (t:Bs) (c:Int) (w:World) (hG:Gl w) (ht1:1<=t.length) (ht:t.length<=1000000):Calls Tryz.prog 100 #[strV t,.int .i64 c] w fun e w'=>(∃ u:Bs,e=.returned (strV u)/\2<=u.length/\u.length<=t.length+11)/\Ext w w':=by
 have hs:=sum_any t w hG ht;have hp:=fun W=>putInt_any (crc t) (by have:=crc_rng t;omega) (by have:=crc_rng t;omega) W
 have hl:=putI_len (crc t);obtain ⟨T,hT⟩:∃ T,T=putI (crc t):=⟨_,rfl⟩;rw [<- hT] at hl hp;have hfin:((⟨#[1]⟩:ByteArray)++⟨t.toArray⟩++⟨T.toArray⟩)=⟨((1:UInt8)::(t++T)).toArray⟩:=by
  rw [show (⟨#[1]⟩:ByteArray)=⟨[(1:UInt8)].toArray⟩ from rfl,app_bs,app_bs];simp
 unfold strV;have hX:(⟨t.toArray⟩:ByteArray).size=t.length:=rfl;have hY:(⟨T.toArray⟩:ByteArray).size=T.length:=rfl;generalize (⟨t.toArray⟩:ByteArray)=X at hX hs hfin ⊢;generalize (⟨T.toArray⟩:ByteArray)=Y at hY hp hfin ⊢;have hs1:(⟨#[1]⟩:ByteArray).size+X.size<=1000010:=by show 1+X.size<=_;omega
 have hs2:((⟨#[1]⟩:ByteArray)++X).size+Y.size<=1000100:=by rw [ByteArray.size_append];omega
 replace hs:=hid hs;replace hp:=hid hp;replace hT:=hid hT;replace hfin:=hid hfin;go_enter Tryz.func100,Tryz.ntmps100;go_wp2_with fail
 refine hs.out.mono ?_;rintro e w1 ⟨rfl,rfl⟩;go_wp2_with fail
 refine (hp.out _).mono ?_;rintro e w1 ⟨rfl,hx1⟩;replace hx1:=hid hx1;go_wp2_with fail
 go_ret;refine ⟨⟨(1:UInt8)::(t++T),by rw [hfin.out];rfl,by simp;omega,by simp;omega⟩,hx1.out⟩
def wrF (b:Nat):Value:=.func (.func 208) #[] #[.pointer (some ⟨b,0,none⟩),.pointer (some ⟨b+1,0,none⟩),.pointer (some ⟨b+2,0,none⟩)]
theorem write_step (j off:Nat) (x:ByteArray) (w:World):Calls Tryz.prog 149 #[.pointer (some ⟨j,0,none⟩),.int .i64 off,.string x] w fun e w'=>e=.returned (wrF w.heap.size) ∧
  w'=((w.alloc (.cells #[.pointer (some ⟨j,0,none⟩)] 117)).alloc (.cells #[.int .i64 off] 3)).alloc (.cells #[.string x] 9):=by
 go_enter Tryz.func149,Tryz.ntmps149;go_wp2_with fail
 go_ret;exact ⟨rfl,rfl⟩
structure WrAt (w:World) (b j off:Nat) (x:ByteArray):Prop where
 b0:w.heap[b]?=some (.cells #[.pointer (some ⟨j,0,none⟩)] 117 (0,0))
 b1:w.heap[b+1]?=some (.cells #[.int .i64 off] 3 (0,0))
 b2:w.heap[b+2]?=some (.cells #[.string x] 9 (0,0))
theorem WrAt.mod {S:Nat -> Prop} {w w':World} {b j off:Nat} {x:ByteArray} (h:WrAt w b j off x) (hm:Mod S w w') (hS:¬ S b/\¬ S (b+1)/\¬ S (b+2)):WrAt w' b j off x:=⟨hm.at h.b0 hS.1,hm.at h.b1 hS.2.1,hm.at h.b2 hS.2.2⟩
theorem DiskP.ext {B:Nat} {w w':World} {d db vb n:Nat} {xs:List (Int × ByteArray)} (h:DiskP B w d db vb n xs) (hx:Ext w w'):DiskP B w' d db vb n xs:=by
 obtain ⟨cd,cv,pv,h1,h2⟩:=h.disk;exact ⟨⟨cd,cv,pv,h1.ext hx,h2.ext hx⟩,h.lt,h.size,Nat.le_trans h.base hx.size⟩
theorem do_write {B b j off d db vb n:Nat} {x:ByteArray} {gen:Int} {fs:Value} {en:Int} {size:Nat} {cur:Int} {br:Bool} (w:World) (h:WrAt w b j off x) (hj:JnAt w j gen fs en d size cur br) (hD:DiskP B w d db vb n []) (hx1:1<=x.size) (hx:off+x.size<=n)
  (hlt:d < j/\db < j/\vb < j/\j < b/\b+2 < B):
  Calls Tryz.prog 208 #[.pointer (some ⟨b,0,none⟩),.pointer (some ⟨b+1,0,none⟩),.pointer (some ⟨b+2,0,none⟩)] w fun e w'=>e=.returned (.int .i64 0)/\DiskP B w' d db vb n [((off:Int),x)]/\Mod (fun k=>k=d \/ k=db \/ k=vb \/ B<=k) w w':=by
 go_enter Tryz.func208,Tryz.ntmps208;go_upto_region 1 with fail
 try simp only [List.append_eq,List.cons_append,List.nil_append]
 refine wp_region_tree (.s (.q 0 (.q 1 (.q 2 (.q 3 (.q 4 (.q 5 (.c1 6 (.q 7 .done))))))))) (by as_aux_lemma=>kernel_rfl) (by as_aux_lemma=>kernel_rfl) (by as_aux_lemma=>kernel_rfl) (by decide) ?_;have hy0:=hid (Mod.drew0 (fun k=>k=d \/ k=db \/ k=vb \/ B<=k) w);refine wpTr_s (fun Wx=>Cdk.Mod (fun k=>k=d \/ k=db \/ k=vb \/ B<=k) w Wx) (fun _ _=>trivial) hy0.out ?_;generalize hWd:World.drew w=W0 at hy0 ⊢
 iterate 6 (refine wpTr_q _ (by simp only [List.getD_cons_succ,List.getD_cons_zero];rfl) (by rfl) ?_ (fun w' hC=>?_) ?_;rotate_left;(have q_b0:w'.cell? ⟨b,0,none⟩=some (.pointer (some ⟨j,0,none⟩)):=cellN (hC.at h.b0 (by omega)) 0;have q_b1:w'.cell? ⟨b+1,0,none⟩=some (.int .i64 off):=cellN (hC.at h.b1 (by omega)) 0;have q_b2:w'.cell? ⟨b+2,0,none⟩=some (.string x):=cellN (hC.at h.b2 (by omega)) 0;have q_j:w'.cell? ⟨j,3,none⟩=some (.pointer (some ⟨d,0,none⟩)):=cellN (hC.at hj (by omega)) 3;go_simp;try with_reducible rfl);try simp only [Act.put,sA,sZ,sS])
 refine wpTr_c1 _ (by simp only [List.getD_cons_succ,List.getD_cons_zero];rfl) ?_;refine wpN_c (by rfl) (fun K hK=>?_);have hxW:Ext w W0:=hWd ▸ Mod.drew0 (fun _=>False) w;go_simp;refine (write_any off x W0 (hD.ext hxW) hx1 hx).mono ?_;rintro e W1 ⟨rfl,k1,k2⟩;have hy1:=hid (hy0.out.trans k2);refine hK.out _ _ hy1.out ?_;replace k1:=hid k1;clear k2;clear hK K;try simp only [Act.put,sA,sZ,sS]
 refine wpTr_q _ (by simp only [List.getD_cons_succ,List.getD_cons_zero];rfl) (by rfl) ?_ (fun w' hC=>?_) ?_;rotate_left;(have q_b0:w'.cell? ⟨b,0,none⟩=some (.pointer (some ⟨j,0,none⟩)):=cellN (hC.at h.b0 (by omega)) 0;have q_b1:w'.cell? ⟨b+1,0,none⟩=some (.int .i64 off):=cellN (hC.at h.b1 (by omega)) 0;have q_b2:w'.cell? ⟨b+2,0,none⟩=some (.string x):=cellN (hC.at h.b2 (by omega)) 0;have q_j:w'.cell? ⟨j,3,none⟩=some (.pointer (some ⟨d,0,none⟩)):=cellN (hC.at hj (by omega)) 3;go_simp;try with_reducible rfl);try simp only [Act.put,sA,sZ,sS]
 refine wpTr_done ?_;go_wp2_with fail
 go_ret;exact ⟨rfl,k1.out,hy1.out⟩
def syF (d:Nat):Value:=.func (.func 151) #[.pointer (some ⟨d,0,none⟩)] #[]
theorem safely_any {j d:Nat} {gen:Int} {fs:Value} {en:Int} {size:Nat} {cur:Int} {br:Bool} (off:Nat) (x:ByteArray) (w:World) (hj:JnAt w j gen fs en d size cur br) (hx1:2<=x.size) (hx2:x.size<=1000) (ho:off<=4194304):
  Calls Tryz.prog 101 #[.pointer (some ⟨j,0,none⟩),.int .i64 off,.string x] w fun e w'=>(∃ s b1 b2,e=.returned (.slice (some ⟨s,0,none⟩) 4 4) ∧
   w'.heap[s]?=some (.cells #[wrF b1,syF d,wrF b2,syF d] 29 (0,0))/\WrAt w' b1 j (off+1) (x.extract 1 x.size)/\WrAt w' b2 j off (x.extract 0 1)/\(w.heap.size<=b1/\b1+2 < w'.heap.size/\w.heap.size<=b2/\b2+2 < w'.heap.size/\w.heap.size<=s/\s < w'.heap.size))/\Ext w w':=by
 have c3:w.cell? ⟨j,3,none⟩=some (.pointer (some ⟨d,0,none⟩)):=cellN hj 3;have h1:(1:Int)<=(x.size:Int):=by omega
 have h1':(1:Int)<=((x.size:Nat):Int):=by omega
 have ho1:IntKind.i64.wrap ((off:Int)+1)=((off+1:Nat):Int):=by rw [IntWalk.i64_in _ (by omega)];omega
 go_enter Tryz.func101,Tryz.ntmps101;go_upto_region 2 with fail
 try simp only [List.append_eq,List.cons_append,List.nil_append]
 refine wp_region_tree (.s (.q 0 (.q 1 (.q 2 (.q 3 (.q 4 (.q 6 (.q 7 (.q 8 (.q 9 (.q 10 (.q 12 (.c1 5 (.c1 11 (.c1 13 (.q 14 .done)))))))))))))))) (by as_aux_lemma=>kernel_rfl) (by as_aux_lemma=>kernel_rfl) (by as_aux_lemma=>kernel_rfl) (by decide) ?_;have hy0:=hid (Mod.drew0 (fun _=>False) w);refine wpTr_s (fun Wx=>Ext w Wx) (fun _ _=>trivial) hy0.out ?_;generalize hWd:World.drew w=W0 at hy0 ⊢
 iterate 11 (refine wpTr_q _ (by simp only [List.getD_cons_succ,List.getD_cons_zero];rfl) (by rfl) ?_ (fun w' hC=>?_) ?_;rotate_left;(have q_j:w'.cell? ⟨j,3,none⟩=some (.pointer (some ⟨d,0,none⟩)):=cellN (hC.at hj (fun h=>h)) 3;go_simp;try with_reducible rfl);try simp only [Act.put,sA,sZ,sS])
 refine wpTr_c1 _ (by simp only [List.getD_cons_succ,List.getD_cons_zero];rfl) ?_;refine wpN_c (by rfl) (fun K hK=>?_);go_simp;refine (write_step j (off+1) (x.extract 1 x.size) W0).mono ?_;rintro e W1 ⟨rfl,hwd⟩;have b1ge:w.heap.size<=W0.heap.size:=hy0.out.size;have hxn:Ext W0 W1:=by rw [hwd];exact ((((Mod.refl _ _).alloc _).alloc _).alloc _)
 have hsn:W1.heap.size=W0.heap.size+3:=by rw [hwd];simp
 have hb1:WrAt W1 W0.heap.size j (off+1) (x.extract 1 x.size):=by
  have hg:=allocs_get [.cells #[.pointer (some ⟨j,0,none⟩)] 117,.cells #[.int .i64 (off+1:Nat)] 3,.cells #[.string (x.extract 1 x.size)] 9] W0;rw [hwd];exact ⟨hg 0 (by simp),hg 1 (by simp),hg 2 (by simp)⟩
 try replace hb1:=hid (hb1.out.mod hxn ⟨fun h=>h,fun h=>h,fun h=>h⟩)
 replace hb1:=hid hb1;have hy1:=hid (hy0.out.trans hxn);refine hK.out _ _ hy1.out ?_;have b1lt:W0.heap.size+2 < W1.heap.size:=by omega
 clear hwd hxn hsn;generalize W0.heap.size=b1 at*;clear hK K;try simp only [Act.put,sA,sZ,sS]
 refine wpTr_c1 _ (by simp only [List.getD_cons_succ,List.getD_cons_zero];rfl) ?_;refine wpN_c (by rfl) (fun K hK=>?_);go_simp;refine (write_step j (off) (x.extract 0 1) W1).mono ?_;rintro e W2 ⟨rfl,hwd⟩;have b2ge:w.heap.size<=W1.heap.size:=hy1.out.size;have hxn:Ext W1 W2:=by rw [hwd];exact ((((Mod.refl _ _).alloc _).alloc _).alloc _)
 have hsn:W2.heap.size=W1.heap.size+3:=by rw [hwd];simp
 have hb2:WrAt W2 W1.heap.size j (off) (x.extract 0 1):=by
  have hg:=allocs_get [.cells #[.pointer (some ⟨j,0,none⟩)] 117,.cells #[.int .i64 (off:Nat)] 3,.cells #[.string (x.extract 0 1)] 9] W1;rw [hwd];exact ⟨hg 0 (by simp),hg 1 (by simp),hg 2 (by simp)⟩
 try replace hb1:=hid (hb1.out.mod hxn ⟨fun h=>h,fun h=>h,fun h=>h⟩)
 replace hb2:=hid hb2;have hy2:=hid (hy1.out.trans hxn);refine hK.out _ _ hy2.out ?_;have b2lt:W1.heap.size+2 < W2.heap.size:=by omega
 clear hwd hxn hsn;generalize W1.heap.size=b2 at*;clear hK K;try simp only [Act.put,sA,sZ,sS]
 refine wpTr_c1 _ (by simp only [List.getD_cons_succ,List.getD_cons_zero];rfl) ?_;refine wpN_c (by rfl) (fun K hK=>?_);have hs:=hid (heap_alloc_new W2 (.cells #[wrF b1,syF d,wrF b2,syF d] 29));have hxn:=(Mod.refl (fun _=>False) W2).alloc (.cells #[wrF b1,syF d,wrF b2,syF d] 29);replace hb1:=hid (hb1.out.mod hxn ⟨fun h=>h,fun h=>h,fun h=>h⟩);replace hb2:=hid (hb2.out.mod hxn ⟨fun h=>h,fun h=>h,fun h=>h⟩);have hy3:=hid (hy2.out.alloc (.cells #[wrF b1,syF d,wrF b2,syF d] 29));have sge:W2.heap.size < (W2.alloc (.cells #[wrF b1,syF d,wrF b2,syF d] 29)).heap.size:=by simp
 simp only [wrF];go_simp;refine hK.out _ _ hy3.out ?_;have hbb:b1+2 < (W2.alloc (.cells #[wrF b1,syF d,wrF b2,syF d] 29)).heap.size/\b2+2 < (W2.alloc (.cells #[wrF b1,syF d,wrF b2,syF d] 29)).heap.size:=by omega
 have hss:w.heap.size<=W2.heap.size:=hy2.out.size;clear hK K;try simp only [Act.put,sA,sZ,sS]
 refine wpTr_q _ (by simp only [List.getD_cons_succ,List.getD_cons_zero];rfl) (by rfl) ?_ (fun w' hC=>?_) ?_;rotate_left;(have q_j:w'.cell? ⟨j,3,none⟩=some (.pointer (some ⟨d,0,none⟩)):=cellN (hC.at hj (fun h=>h)) 3;go_simp;try with_reducible rfl);try simp only [Act.put,sA,sZ,sS]
 refine wpTr_done ?_;go_wp2_with fail
 go_ret;exact ⟨⟨_,b1,b2,rfl,hs.out,hb1.out,hb2.out,b1ge,hbb.1,b2ge,hbb.2,hss,sge⟩,hy3.out⟩
theorem run4_any {j d db vb n s b1 b2 off1 off2:Nat} {x1 x2:ByteArray} {gen:Int} {fs:Value} {en:Int} {size:Nat} {cur:Int} {br:Bool} (w:World) (hj:JnAt w j gen fs en d size cur br)
  (C:Array Value) (cap:Nat) (hs:w.heap[s]?=some (.cells C 29 (0,0))) (hC:C.toList.take 4=[wrF b1,syF d,wrF b2,syF d]) (h1:WrAt w b1 j off1 x1) (h2:WrAt w b2 j off2 x2) (hD:DiskP w.heap.size w d db vb n []) (hx1:1<=x1.size/\off1+x1.size<=n) (hx2:1<=x2.size/\off2+x2.size<=n)
  (hlt:d < j/\db < j/\vb < j/\j < b1/\j < b2/\j < s/\b1+2 < w.heap.size/\b2+2 < w.heap.size/\s < w.heap.size):
  Calls Tryz.prog 102 #[.pointer (some ⟨j,0,none⟩),.slice (some ⟨s,0,none⟩) 4 cap] w fun e w'=>e=.returned (.int .i64 0)/\Mod (fun k=>k=d \/ k=db \/ k=vb) w w':=by
 have hm0:=hid (Mod.refl (fun k=>k=d \/ k=db \/ k=vb \/ w.heap.size<=k) w);replace hj:=hid hj;replace hs:=hid hs;have hCi:∀ i,i < 4 -> C[i]?=[wrF b1,syF d,wrF b2,syF d][i]?:=fun i hi=>by rw [<- hC,List.getElem?_take,if_pos hi,Array.getElem?_toList]
 replace hCi:=hid hCi;clear hC;replace h1:=hid h1;replace h2:=hid h2;have hD0:=hid hD;go_enter Tryz.func102,Tryz.ntmps102;go_wp2_with fail
 refine wp_loop_rounds 5 ?_;rw [rounds_succ];have q0:w.cell? ⟨s,0,none⟩=some (wrF b1):=(cellN (hm0.out.at hs.out (by omega)) 0).trans (hCi.out 0 (by decide));unfold wrF at q0;go_wp2_with fail
 refine (do_write w (h1.out.mod hm0.out ⟨by omega,by omega,by omega⟩) (hm0.out.at hj.out (by omega)) hD0.out hx1.1 hx1.2 (by omega)).mono ?_;rintro e w1 ⟨rfl,hDn,hmn⟩;have hm1:=hid (hm0.out.trans hmn);have hD1:=hid hDn;clear hDn hmn q0;go_wp2_with fail
 rw [rounds_succ];have q1:w1.cell? ⟨s,1,none⟩=some (syF d):=(cellN (hm1.out.at hs.out (by omega)) 1).trans (hCi.out 1 (by decide));unfold syF at q1;go_wp2_with fail
 refine (sync_any w1 hD1.out).mono ?_;rintro e w2 ⟨rfl,hDn,hmn⟩;have hm2:=hid (hm1.out.trans hmn);have hD2:=hid hDn;clear hDn hmn q1;go_wp2_with fail
 rw [rounds_succ];have q2:w2.cell? ⟨s,2,none⟩=some (wrF b2):=(cellN (hm2.out.at hs.out (by omega)) 2).trans (hCi.out 2 (by decide));unfold wrF at q2;go_wp2_with fail
 refine (do_write w2 (h2.out.mod hm2.out ⟨by omega,by omega,by omega⟩) (hm2.out.at hj.out (by omega)) hD2.out hx2.1 hx2.2 (by omega)).mono ?_;rintro e w3 ⟨rfl,hDn,hmn⟩;have hm3:=hid (hm2.out.trans hmn);have hD3:=hid hDn;clear hDn hmn q2;go_wp2_with fail
 rw [rounds_succ];have q3:w3.cell? ⟨s,3,none⟩=some (syF d):=(cellN (hm3.out.at hs.out (by omega)) 3).trans (hCi.out 3 (by decide));unfold syF at q3;go_wp2_with fail
 refine (sync_any w3 hD3.out).mono ?_;rintro e w4 ⟨rfl,hDn,hmn⟩;have hm4:=hid (hm3.out.trans hmn);have hD4:=hid hDn;clear hDn hmn q3;go_wp2_with fail
 rw [rounds_succ];go_wp2_with fail
 go_ret;exact ⟨rfl,hm4.out.mono' (fun k h1 h2=>by omega)⟩
theorem cleaning_zero {j d k:Nat} {fs:Value} {size:Nat} {br:Bool} (hk:1<=k/\k<=4194304) (w:World) (hj:JnAt w j 0 fs 0 d size 0 br):
  Calls Tryz.prog 99 #[.pointer (some ⟨j,0,none⟩),.agg #[strV (zeroS k),strV (zeroS k)]] w fun e w'=>e=.returned (.slice none 0 0)/\Ext w w':=by
 unfold strV;have hxs:=zeroS_size k;have hx0:=fun i h=>zeroS_get (k:=k) (i:=i) h
 generalize (⟨(zeroS k).toArray⟩:ByteArray)=x at hxs hx0 ⊢;subst hxs;obtain ⟨N,hN⟩:∃ N,N=w.heap.size:=⟨_,rfl⟩;have hx:=allocs_ext (S:=fun _=>False) [.cells #[.string x,.string x] 202,.cells #[.int .i64 0,.int .i64 0] 317] w;have hg:=allocs_get [.cells #[.string x,.string x] 202,.cells #[.int .i64 0,.int .i64 0] 317] w;have hz:=allocs_size [.cells #[.string x,.string x] 202,.cells #[.int .i64 0,.int .i64 0] 317] w;have hS:=hg 0 (by simp);have hI:=hg 1 (by simp);have hJ2:=hx.at hj (fun h=>h);have hjl:=lt_of_at hj;simp only [allocs,<- hN,Nat.add_zero,List.length_cons,List.length_nil] at hx hS hI hz hJ2 hjl;clear hg;go_enter Tryz.func99,Tryz.ntmps99;go_wp2_with fail
 refine wp_scope_straight ?_;go_upto_region 2 with fail
 try simp only [World.size_alloc]
 simp only [<- hN];generalize ((w.alloc (.cells #[.string x,.string x] 202)).alloc (.cells #[.int .i64 0,.int .i64 0] 317))=w2 at hx hS hI hz hJ2 ⊢;have hne:j ≠ N+1:=by omega
 replace hN:=hid hN;replace hS:=hid hS;replace hI:=hid hI;replace hx:=hid hx;replace hJ2:=hid hJ2;try simp only [List.append_eq,List.cons_append,List.nil_append]
 refine wp_region_tree (.s (.q 0 (.q 1 (.q 2 (.q 3 (.q 4 (.q 5 (.q 6 (.q 7 (.q 8 (.q 9 (.c1 10 .done)))))))))))) (by as_aux_lemma=>kernel_rfl) (by as_aux_lemma=>kernel_rfl) (by as_aux_lemma=>kernel_rfl) (by decide) ?_;have hy0:=hid (Mod.drew0 (Eq (N+1)) w2);refine wpTr_s (fun Wx=>Cdk.Mod (Eq (N+1)) w2 Wx) (fun _ _=>trivial) hy0.out ?_;generalize hWd:World.drew w2=W0 at hy0 ⊢
 iterate 10 (refine wpTr_q _ (by simp only [List.getD_cons_succ,List.getD_cons_zero];rfl) (by rfl) ?_ (fun w' hC=>?_) ?_;rotate_left;(have q_5:w'.cell? ⟨j,5,none⟩=some (.int .i64 0):=hC.cell (cellN hJ2.out 5) (fun h=>hne h.symm);have q_2:w'.cell? ⟨j,2,none⟩=some (.int .i64 0):=hC.cell (cellN hJ2.out 2) (fun h=>hne h.symm);go_simp;try with_reducible rfl);try simp only [Act.put,sA,sZ,sS])
 refine wpTr_c1 _ (by simp only [List.getD_cons_succ,List.getD_cons_zero];rfl) ?_;refine wpN_c (by rfl) (fun K hK=>?_);have hN1:=hid ((hWd ▸ Mod.drew0 (fun _=>False) w2:Ext w2 W0).at hI.out (fun h=>h));have z0:=freeN hN1.out 0;have k0:W0.cell? ⟨N+1,0,none⟩=some (.int .i64 0):=cellN hN1.out 0;have hI1:=hid (put_at' hN1.out 0 (.int .i64 0));have hm1:=hid ((hWd ▸ Mod.drew0 (Eq (N+1)) w2:Cdk.Mod (Eq (N+1)) w2 W0).setCell (a:=⟨N+1,0,none⟩) (fun _=>rfl) (.int .i64 0));have hy1:=hm1;go_simp;refine hK.out _ _ hm1.out ?_;clear hN1 z0 k0;generalize W0.setCell ⟨N+1,0,none⟩ (.int .i64 0)=W1 at*;clear hK K;try simp only [Act.put,sA,sZ,sS]
 refine wpTr_done ?_;have hJ3:=hid (hm1.out.at hJ2.out (fun h=>hne h.symm));have hS3:=hid (hm1.out.at hS.out (by omega));go_upto_region 3 with fail
 try simp only [List.append_eq,List.cons_append,List.nil_append]
 refine wp_region_tree (.s (.q 0 (.q 1 (.q 2 (.q 3 (.q 4 (.q 5 (.q 6 (.q 7 (.q 8 (.q 9 (.c1 10 (.c1 11 .done))))))))))))) (by as_aux_lemma=>kernel_rfl) (by as_aux_lemma=>kernel_rfl) (by as_aux_lemma=>kernel_rfl) (by decide) ?_;have hu0:=hid (Mod.drew0 (fun _=>False) W1);refine wpTr_s (fun Wx=>Ext W1 Wx) (fun _ _=>trivial) hu0.out ?_;generalize hWd:World.drew W1=V0 at hu0 ⊢
 iterate 10 (refine wpTr_q _ (by simp only [List.getD_cons_succ,List.getD_cons_zero];rfl) (by rfl) ?_ (fun w' hC=>?_) ?_;rotate_left;(have q_5:w'.cell? ⟨j,5,none⟩=some (.int .i64 0):=hC.cell (cellN hJ3.out 5) (fun h=>h);have iw1:IntKind.i64.wrap 1=1:=(by decide);go_simp;try with_reducible rfl);try simp only [Act.put,sA,sZ,sS])
 refine wpTr_c1 _ (by simp only [List.getD_cons_succ,List.getD_cons_zero];rfl) ?_;refine wpN_c (by rfl) (fun K hK=>?_);go_simp;have hT:=hid (heap_alloc_new V0 (.cells #[.int .i64 0,.int .i64 0] 317));have hu1:=hid (hu0.out.alloc (.cells #[.int .i64 0,.int .i64 0] 317));have hTge:W1.heap.size<=V0.heap.size:=hu0.out.size;generalize V0.heap.size=T at*;generalize V0.alloc (.cells #[.int .i64 0,.int .i64 0] 317)=V1 at*;refine hK.out _ _ hu1.out ?_;clear hK K;try simp only [Act.put,sA,sZ,sS]
 refine wpTr_c1 _ (by simp only [List.getD_cons_succ,List.getD_cons_zero];rfl) ?_;refine wpN_c (by rfl) (fun K hK=>?_);have z0:=freeN hT.out 0;have z1:=freeN hT.out 1;have c0:V1.cell? ⟨T,0,none⟩=some (.int .i64 0):=cellN hT.out 0;have c1:V1.cell? ⟨T,1,none⟩=some (.int .i64 0):=cellN hT.out 1;have hT2:=hid (put_at' (put_at' hT.out 0 (.int .i64 1)) 1 (.int .i64 0));have hu2:=hid ((hu1.out.setCell (a:=⟨T,0,none⟩) (fun h=>absurd h (by show ¬ T < W1.heap.size;omega)) (.int .i64 1)).setCell (a:=⟨T,1,none⟩) (fun h=>absurd h (by show ¬ T < W1.heap.size;omega)) (.int .i64 0));go_simp;refine hK.out _ _ hu2.out ?_;generalize (V1.setCell ⟨T,0,none⟩ (.int .i64 1)).setCell ⟨T,1,none⟩ (.int .i64 0)=V2 at hT2 hu2 ⊢;clear z0 z1 c0 c1;clear hK K;try simp only [Act.put,sA,sZ,sS]
 refine wpTr_done ?_;have hI2:=hid (hu2.out.at hI1.out (fun h=>h));have hJ4:=hid (hu2.out.at hJ3.out (fun h=>h));have hS4:=hid (hu2.out.at hS3.out (fun h=>h));have j0:V2.cell? ⟨j,0,none⟩=some (.int .i64 0):=cellN hJ4.out 0;have t0:V2.cell? ⟨T,0,none⟩=some (.int .i64 1):=cellN hT2.out 0;have t1:V2.cell? ⟨T,1,none⟩=some (.int .i64 0):=cellN hT2.out 1;have z0:=freeN hT2.out 0;have z1:=freeN hT2.out 1;have hT5:=hid (put_at' (put_at' hT2.out 0 (.int .i64 0)) 1 (.int .i64 1));have hM5:Cdk.Mod (Eq T) V2 ((V2.setCell ⟨T,0,none⟩ (.int .i64 0)).setCell ⟨T,1,none⟩ (.int .i64 1)):=((Mod.refl (Eq T) V2).setCell (a:=⟨T,0,none⟩) (fun _=>rfl) _).setCell (a:=⟨T,1,none⟩) (fun _=>rfl) _;have hNT:N+1 < T/\j < T:=by have:=lt_of_at hI1.out;have:=lt_of_at hJ3.out;omega
 have hI5:=hid (hM5.at hI2.out (by omega));have hS5:=hid (hM5.at hS4.out (by omega));have hx5:Ext w ((V2.setCell ⟨T,0,none⟩ (.int .i64 0)).setCell ⟨T,1,none⟩ (.int .i64 1)):=((hx.out.then hm1.out (fun k hk e=>by have:=hN.out;omega)).trans hu2.out).then hM5 (fun k hk e=>by have:=hN.out;omega);replace hx5:=hid hx5;clear hM5;go_upto_region 7 with fail
 generalize (V2.setCell ⟨T,0,none⟩ (.int .i64 0)).setCell ⟨T,1,none⟩ (.int .i64 1)=W5 at hT5 hI5 hS5 hx5 ⊢;clear j0 t0 t1 z0 z1
 go_step3
 have t0:W5.cell? ⟨T,0,none⟩=some (.int .i64 0):=cellN hT5.out 0;have t1:W5.cell? ⟨T,1,none⟩=some (.int .i64 1):=cellN hT5.out 1;have hxe:x.extract 0 x.size=x:=by apply ByteArray.ext;simp
 have hx00:(0:Int)<=(x.size:Int):=by omega
 have hix0:∀ W:World,(Instr.index 317 (.agg #[.int .i64 0,.int .i64 1]) (.int .i64 0)).run Tryz.prog W=.ok (.int .i64 0) W:=fun W=>by kernel_rfl
 have hix1:∀ W:World,(Instr.index 317 (.agg #[.int .i64 0,.int .i64 1]) (.int .i64 1)).run Tryz.prog W=.ok (.int .i64 1) W:=fun W=>by kernel_rfl
 go_wp2_with fail
 refine wp_loop_rounds 3 ?_;rw [rounds_succ];clear t0 t1;go_upto_region 10 with fail
 try simp only [List.append_eq,List.cons_append,List.nil_append]
 refine wp_region_tree (.s (.q 0 (.q 1 (.q 2 (.q 3 (.q 4 (.q 5 (.q 6 (.q 7 .done))))))))) (by as_aux_lemma=>kernel_rfl) (by as_aux_lemma=>kernel_rfl) (by as_aux_lemma=>kernel_rfl) (by decide) ?_;have hvW6:=hid (Mod.drew0 (fun _=>False) W5);refine wpTr_s (fun Wx=>Ext W5 Wx) (fun _ _=>trivial) hvW6.out ?_;generalize hWd:World.drew W5=W6 at hvW6 ⊢
 iterate 8 (refine wpTr_q _ (by simp only [List.getD_cons_succ,List.getD_cons_zero];rfl) (by rfl) ?_ (fun w' hC=>?_) ?_;rotate_left;(have q_0:w'.cell? ⟨N,0,none⟩=some (.string x):=hC.cell (cellN hS5.out 0) (fun h=>h);have q_1:w'.cell? ⟨N+1,0,none⟩=some (.int .i64 0):=hC.cell (cellN hI5.out 0) (fun h=>h);go_simp;try with_reducible rfl);try simp only [Act.put,sA,sZ,sS])
 refine wpTr_done ?_;have hS6:=hid (hvW6.out.at hS5.out (fun h=>h));have hI6:=hid (hvW6.out.at hI5.out (fun h=>h));have hxs6:=hid (hx5.out.trans hvW6.out);clear hvW6 hWd;go_wp2_with fail
 go_loopg [7,11,52] x.size (fun g s7 v11 i wr=>∃ p:Nat,p+g=x.size/\i=.int .i64 p/\s7=.slice none 0 0/\wr=W6)
 case atStart=>exact ⟨0,by omega,rfl,rfl,rfl⟩
 case round=>
  obtain ⟨p,hp,rfl,rfl,hw⟩:=hrel;replace hw:=hw.symm;subst hw;replace hp:=hid hp
  by_cases hlt:p < x.size
  ·have hd:decide ((p:Int) < (x.size:Int))=true:=decide_eq_true (by omega)
   have hdi:(p:Int) < (x.size:Int):=by omega
   have h0:(x[p].toNat:Int)=0:=by rw [hx0 p hlt];rfl
   go_wp2_with fail
   go_roundg (gk - 1)
   case measure=>have:=hp.out;omega
   case rel=>exact ⟨p+1,by have:=hp.out;omega,by go_num,rfl,rfl⟩
  ·obtain rfl:p=x.size:=by have:=hp.out;omega
   have hdi:¬ (x.size:Int) < (x.size:Int):=by omega
   have hd:decide ((x.size:Int) < (x.size:Int))=false:=decide_eq_false hdi;go_wp2_with fail
   rw [rounds_succ];go_upto_region 10 with fail
   try simp only [List.append_eq,List.cons_append,List.nil_append]
   refine wp_region_tree (.s (.q 0 (.q 1 (.q 2 (.q 3 (.q 4 (.q 5 (.q 6 (.q 7 .done))))))))) (by as_aux_lemma=>kernel_rfl) (by as_aux_lemma=>kernel_rfl) (by as_aux_lemma=>kernel_rfl) (by decide) ?_;have hvW7:=hid (Mod.drew0 (fun _=>False) W6);refine wpTr_s (fun Wx=>Ext W6 Wx) (fun _ _=>trivial) hvW7.out ?_;generalize hWd:World.drew W6=W7 at hvW7 ⊢
   iterate 8 (refine wpTr_q _ (by simp only [List.getD_cons_succ,List.getD_cons_zero];rfl) (by rfl) ?_ (fun w' hC=>?_) ?_;rotate_left;(have q_0:w'.cell? ⟨N,1,none⟩=some (.string x):=hC.cell (cellN hS6.out 1) (fun h=>h);have q_1:w'.cell? ⟨N+1,1,none⟩=some (.int .i64 0):=hC.cell (cellN hI6.out 1) (fun h=>h);go_simp;try with_reducible rfl);try simp only [Act.put,sA,sZ,sS])
   refine wpTr_done ?_;have hS7:=hid (hvW7.out.at hS6.out (fun h=>h));have hI7:=hid (hvW7.out.at hI6.out (fun h=>h));have hxs7:=hid (hxs6.out.trans hvW7.out);clear hvW7 hWd;go_wp2_with fail
   go_loopg [7,11,52] x.size (fun g s7 v11 i wr=>∃ p:Nat,p+g=x.size/\i=.int .i64 p/\s7=.slice none 0 0/\wr=W7)
   case atStart=>exact ⟨0,by omega,rfl,rfl,rfl⟩
   case round=>
    obtain ⟨p,hp,rfl,rfl,hw⟩:=hrel;replace hw:=hw.symm;subst hw;replace hp:=hid hp
    by_cases hlt:p < x.size
    ·have hd:decide ((p:Int) < (x.size:Int))=true:=decide_eq_true (by omega)
     have hdi:(p:Int) < (x.size:Int):=by omega
     have h0:(x[p].toNat:Int)=0:=by rw [hx0 p hlt];rfl
     go_wp2_with fail
     go_roundg (gk - 1)
     case measure=>have:=hp.out;omega
     case rel=>exact ⟨p+1,by have:=hp.out;omega,by go_num,rfl,rfl⟩
    ·obtain rfl:p=x.size:=by have:=hp.out;omega
     have hdi:¬ (x.size:Int) < (x.size:Int):=by omega
     have hd:decide ((x.size:Int) < (x.size:Int))=false:=decide_eq_false hdi;go_wp2_with fail
     rw [rounds_succ];go_wp2_with fail
     simp only [Exit.noGoto_ret];go_ret;exact ⟨rfl,hxs7.out⟩
theorem cloneFacts_nil (w:World):Calls Tryz.prog 105 #[.slice none 0 0] w fun e w'=>e=.returned (.slice none 0 0)/\w=w':=by
 have hnil:(binOp .eql 124 (.slice none 0 0) (.slice none 0 0)).run Tryz.prog w=.ok (.bool true) w:=by kernel_rfl
 go_enter Tryz.func105,Tryz.ntmps105;go_wp2_with fail
 go_ret;exact ⟨rfl,rfl⟩
theorem facts_nil {j d:Nat} {gen en:Int} {size:Nat} {cur:Int} {br:Bool} (w:World) (h:JnAt w j gen (.slice none 0 0) en d size cur br):Calls Tryz.prog 62 #[.pointer (some ⟨j,0,none⟩)] w fun e w'=>e=.returned (.slice none 0 0)/\w=w':=by
 have c1:w.cell? ⟨j,1,none⟩=some (.slice none 0 0):=cellN h 1;have hcl:=hid (cloneFacts_nil w);go_enter Tryz.func62,Tryz.ntmps62;go_wp2_with fail
 refine hcl.out.mono ?_;rintro e w1 ⟨rfl,rfl⟩;go_wp2_with fail
 refine wp_loop_rounds 1 ?_;rw [rounds_succ];go_wp2_with fail
 go_ret;exact ⟨rfl,rfl⟩
end Go.Proofs.YtcopgcdhkgenkaaGreatDoor
