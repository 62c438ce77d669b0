import Derived.Test.YtcopgcdhkgenkaaGreatDoorN4
set_option linter.all false
set_option maxRecDepth 100000
set_option maxHeartbeats 16000000
namespace Go.Proofs.YtcopgcdhkgenkaaGreatDoor
open Go.Shelf Go.RowKit Cdk Scr
def diskC (n db vb:Nat) (pv:Value):Array Value:=#[.bool true,.int .i64 0,.slice (some ⟨db,0,none⟩) n n,.slice (some ⟨vb,0,none⟩) n n,pv]
structure RowC (w:World) (b n:Nat) (c:Array Value):Prop where
 at_:w.heap[b]?=some (.cells c 5 (0,0))
 size:c.size=n
 one:∀ v ∈ c.toList,v.oneCell'=true
structure DiskAt (w:World) (d db vb n:Nat) (cd cv:Array Value) (pv:Value):Prop where
 at_:w.heap[d]?=some (.cells (diskC n db vb pv) 115 (0,0))
 dur:RowC w db n cd
 vis:RowC w vb n cv
 ne:d ≠ db/\d ≠ vb/\db ≠ vb
def zeroC (n:Nat):Array Value:=madeCells #[.int .u8 0] n
theorem zeroC_size (n:Nat):(zeroC n).size=n:=size_madeCells _ _
theorem zeroC_get {n i:Nat} (h:i < n):(zeroC n)[i]?=some (.int .u8 0):=by
 unfold zeroC madeCells;simp [h,Nat.mod_one]
theorem zeroC_one (n:Nat):∀ v ∈ (zeroC n).toList,v.oneCell'=true:=by
 intro v hv;obtain ⟨i,hi,he⟩:=List.getElem_of_mem hv;have h1:i < n:=by have:=zeroC_size n;simp at hi;omega
 have h2:=zeroC_get h1;rw [<- Array.getElem?_toList,List.getElem?_eq_getElem hi] at h2;rw [he] at h2;injection h2 with h2;subst h2;rfl
theorem RowC.mod {S:Nat -> Prop} {w w':World} {b n:Nat} {c:Array Value} (h:RowC w b n c) (hm:Mod S w w') (hS:¬ S b):RowC w' b n c:=⟨hm.at h.at_ hS,h.size,h.one⟩
theorem diskNew_zero (w:World):Calls Tryz.prog 31 #[.int .i64 0] w fun e w'=>e=.returned (.tuple #[.pointer none,.int .i64 2])/\w=w':=by
 go_enter Tryz.func31,Tryz.ntmps31;go_wp2_with fail
 go_ret2
 exact ⟨rfl,rfl⟩
theorem restore_any {d db vb n:Nat} {x y pv:Value} (w:World) (h:w.heap[d]?=some (.cells #[x,y,.slice (some ⟨db,0,none⟩) n n,.slice (some ⟨vb,0,none⟩) n n,pv] 115 (0,0))):
  Calls Tryz.prog 56 #[.pointer (some ⟨d,0,none⟩)] w fun e w'=>e=.returned (.tuple #[])/\w'.heap[d]?=some (.cells (diskC n db vb pv) 115 (0,0))/\Mod (Eq d) w w':=by
 have c0:w.cell? ⟨d,0,none⟩=some x:=cellN h 0;have c1:w.cell? ⟨d,1,none⟩=some y:=cellN h 1;have f0:=freeN h 0;have f1:=freeN h 1;go_enter Tryz.func56,Tryz.ntmps56;go_wp2_with fail
 go_end0
 exact ⟨rfl,put_at' (put_at' h 0 _) 1 _,((Mod.refl (Eq d) w).setCell (a:=⟨d,0,none⟩) (fun _=>rfl) _).setCell (a:=⟨d,1,none⟩) (fun _=>rfl) _⟩
theorem diskNew_any (n:Nat) (h:1<=n/\n<=4194304) (w:World):
  Calls Tryz.prog 31 #[.int .i64 n] w fun e w'=>(∃ d db vb,e=.returned (.tuple #[.pointer (some ⟨d,0,none⟩),.int .i64 0])/\DiskAt w' d db vb n (zeroC n) (zeroC n) (.slice none 0 0)/\(w.heap.size<=d/\w.heap.size<=db/\w.heap.size<=vb))/\Ext w w':=by
 have h1:¬ (n:Int) < 1:=by omega
 have h2:¬ (4194304:Int) < (n:Int):=by omega
 have hmk:∀ W:World,(Instr.makeSlice 38 (.int .i64 n) (.int .i64 n)).run Tryz.prog W=.ok (.slice (some ⟨W.heap.size,0,none⟩) n n) (W.alloc (.cells (zeroC n) 5)):=fun W=>by
  obtain ⟨i,hi,hz,hs,hb⟩:∃ i,Tryz.prog.info? 5=some i/\i.zero=some (.int .u8 0)/\i.size=1/\i.bytes=1:=⟨_,rfl,rfl,rfl,rfl⟩;have:=run_make (P:=Tryz.prog) W 38 5 i (.int .u8 0) Tryz.underlying38 hi hz .i64 .i64 n n (by omega) (by omega) (by rw [hb];omega) (by omega);rw [hs] at this;simpa [zeroC,Value.cells] using this
 have hrs:=hid (fun d db vb x y pv W hW=>@restore_any d db vb n x y pv W hW);go_enter Tryz.func31,Tryz.ntmps31;go_upto_region 3 with fail
 try simp only [List.append_eq,List.cons_append,List.nil_append]
 refine wp_region_tree (.s (.q 0 (.q 2 (.c2 1 (.c1 3 (.q 4 (.c1 5 (.q 6 .done)))) 3 (.c1 1 (.q 4 (.c1 5 (.q 6 .done)))))))) (by as_aux_lemma=>kernel_rfl) (by as_aux_lemma=>kernel_rfl) (by as_aux_lemma=>kernel_rfl) (by decide) ?_;have hy0:=hid (Mod.drew0 (fun _=>False) w);refine wpTr_s (fun Wx=>Ext w Wx) (fun _ _=>trivial) hy0.out ?_;generalize hWd:World.drew w=W0 at hy0 ⊢;refine wpTr_q _ (by simp only [List.getD_cons_succ,List.getD_cons_zero];rfl) (by rfl) ?_ (fun w' hC=>?_) ?_;rotate_left;(go_simp;try with_reducible rfl);try simp only [Act.put,sA,sZ,sS]
 refine wpTr_q _ (by simp only [List.getD_cons_succ,List.getD_cons_zero];rfl) (by rfl) ?_ (fun w' hC=>?_) ?_;rotate_left;(go_simp;try with_reducible rfl);try simp only [Act.put,sA,sZ,sS]
 refine wpTr_c2 _ _ (by simp only [List.getD_cons_succ,List.getD_cons_zero];rfl) (by simp only [List.getD_cons_succ,List.getD_cons_zero];rfl) ?_ ?_
 ·refine wpN_c (by rfl) (fun K hK=>?_)
  go_simp;have hdb:=hid (heap_alloc_new W0 (.cells (zeroC n) 5));have hxn:=(Mod.refl (fun _=>False) W0).alloc (.cells (zeroC n) 5);have hy1:=hid (hy0.out.alloc (.cells (zeroC n) 5));have dbge:w.heap.size<=W0.heap.size:=hy0.out.size;try have vblt:vb < W0.heap.size:=(Array.getElem?_eq_some_iff.1 hvb.out).1
  try replace hvb:=hid (hxn.at hvb.out (fun h=>h))
  clear hxn;generalize W0.heap.size=db at*;generalize W0.alloc (.cells (zeroC n) 5)=W1 at*;refine hK.out _ _ hy1.out ?_;clear hK K;try simp only [Act.put,sA,sZ,sS]
  refine wpTr_c1 _ (by simp only [List.getD_cons_succ,List.getD_cons_zero];rfl) ?_;refine wpN_c (by rfl) (fun K hK=>?_);go_simp;have hvb:=hid (heap_alloc_new W1 (.cells (zeroC n) 5));have hxn:=(Mod.refl (fun _=>False) W1).alloc (.cells (zeroC n) 5);have hy2:=hid (hy1.out.alloc (.cells (zeroC n) 5));have vbge:w.heap.size<=W1.heap.size:=hy1.out.size;try have dblt:db < W1.heap.size:=(Array.getElem?_eq_some_iff.1 hdb.out).1
  try replace hdb:=hid (hxn.at hdb.out (fun h=>h))
  clear hxn;generalize W1.heap.size=vb at*;generalize W1.alloc (.cells (zeroC n) 5)=W2 at*;refine hK.out _ _ hy2.out ?_;clear hK K;try simp only [Act.put,sA,sZ,sS]
  refine wpTr_q _ (by simp only [List.getD_cons_succ,List.getD_cons_zero];rfl) (by rfl) ?_ (fun w' hC=>?_) ?_;rotate_left;(go_simp;try with_reducible rfl);try simp only [Act.put,sA,sZ,sS]
  refine wpTr_c1 _ (by simp only [List.getD_cons_succ,List.getD_cons_zero];rfl) ?_;refine wpN_c (by rfl) (fun K hK=>?_);go_simp;have hd:=hid (heap_alloc_new W2 (.cells #[.bool false,.int .i64 0,.slice (some ⟨db,0,none⟩) n n,.slice (some ⟨vb,0,none⟩) n n,.slice none 0 0] 115));have hxn:=(Mod.refl (fun _=>False) W2).alloc (.cells #[.bool false,.int .i64 0,.slice (some ⟨db,0,none⟩) n n,.slice (some ⟨vb,0,none⟩) n n,.slice none 0 0] 115);have hy3:=hid (hy2.out.alloc (.cells #[.bool false,.int .i64 0,.slice (some ⟨db,0,none⟩) n n,.slice (some ⟨vb,0,none⟩) n n,.slice none 0 0] 115));have dge:w.heap.size<=W2.heap.size:=hy2.out.size;have dblt2:db < W2.heap.size:=(Array.getElem?_eq_some_iff.1 hdb.out).1;have vblt2:vb < W2.heap.size:=(Array.getElem?_eq_some_iff.1 hvb.out).1;replace hdb:=hid (hxn.at hdb.out (fun h=>h));replace hvb:=hid (hxn.at hvb.out (fun h=>h));clear hxn;generalize W2.heap.size=d at*;generalize W2.alloc (.cells #[.bool false,.int .i64 0,.slice (some ⟨db,0,none⟩) n n,.slice (some ⟨vb,0,none⟩) n n,.slice none 0 0] 115)=W3 at*;refine hK.out _ _ hy3.out ?_;clear hK K;try simp only [Act.put,sA,sZ,sS]
  refine wpTr_q _ (by simp only [List.getD_cons_succ,List.getD_cons_zero];rfl) (by rfl) ?_ (fun w' hC=>?_) ?_;rotate_left;(go_simp;try with_reducible rfl);try simp only [Act.put,sA,sZ,sS]
  refine wpTr_done ?_;go_wp2_with fail
  refine (hrs.out d _ _ _ _ _ W3 hd.out).mono ?_;rintro e w3 ⟨rfl,k1,k2⟩;replace k1:=hid k1;replace k2:=hid k2;go_wp2_with fail
  go_ret2
  refine ⟨⟨d,db,vb,rfl,⟨k1.out,⟨k2.out.at hdb.out (by omega),zeroC_size n,zeroC_one n⟩,⟨k2.out.at hvb.out (by omega),zeroC_size n,zeroC_one n⟩,by omega,by omega,by omega⟩,by omega,by omega,by omega⟩,?_⟩;exact hy3.out.then k2.out (fun k hk e=>by omega)
 ·refine wpN_c (by rfl) (fun K hK=>?_)
  go_simp;have hvb:=hid (heap_alloc_new W0 (.cells (zeroC n) 5));have hxn:=(Mod.refl (fun _=>False) W0).alloc (.cells (zeroC n) 5);have hy1:=hid (hy0.out.alloc (.cells (zeroC n) 5));have vbge:w.heap.size<=W0.heap.size:=hy0.out.size;try have dblt:db < W0.heap.size:=(Array.getElem?_eq_some_iff.1 hdb.out).1
  try replace hdb:=hid (hxn.at hdb.out (fun h=>h))
  clear hxn;generalize W0.heap.size=vb at*;generalize W0.alloc (.cells (zeroC n) 5)=W1 at*;refine hK.out _ _ hy1.out ?_;clear hK K;try simp only [Act.put,sA,sZ,sS]
  refine wpTr_c1 _ (by simp only [List.getD_cons_succ,List.getD_cons_zero];rfl) ?_;refine wpN_c (by rfl) (fun K hK=>?_);go_simp;have hdb:=hid (heap_alloc_new W1 (.cells (zeroC n) 5));have hxn:=(Mod.refl (fun _=>False) W1).alloc (.cells (zeroC n) 5);have hy2:=hid (hy1.out.alloc (.cells (zeroC n) 5));have dbge:w.heap.size<=W1.heap.size:=hy1.out.size;try have vblt:vb < W1.heap.size:=(Array.getElem?_eq_some_iff.1 hvb.out).1
  try replace hvb:=hid (hxn.at hvb.out (fun h=>h))
  clear hxn;generalize W1.heap.size=db at*;generalize W1.alloc (.cells (zeroC n) 5)=W2 at*;refine hK.out _ _ hy2.out ?_;clear hK K;try simp only [Act.put,sA,sZ,sS]
  refine wpTr_q _ (by simp only [List.getD_cons_succ,List.getD_cons_zero];rfl) (by rfl) ?_ (fun w' hC=>?_) ?_;rotate_left;(go_simp;try with_reducible rfl);try simp only [Act.put,sA,sZ,sS]
  refine wpTr_c1 _ (by simp only [List.getD_cons_succ,List.getD_cons_zero];rfl) ?_;refine wpN_c (by rfl) (fun K hK=>?_);go_simp;have hd:=hid (heap_alloc_new W2 (.cells #[.bool false,.int .i64 0,.slice (some ⟨db,0,none⟩) n n,.slice (some ⟨vb,0,none⟩) n n,.slice none 0 0] 115));have hxn:=(Mod.refl (fun _=>False) W2).alloc (.cells #[.bool false,.int .i64 0,.slice (some ⟨db,0,none⟩) n n,.slice (some ⟨vb,0,none⟩) n n,.slice none 0 0] 115);have hy3:=hid (hy2.out.alloc (.cells #[.bool false,.int .i64 0,.slice (some ⟨db,0,none⟩) n n,.slice (some ⟨vb,0,none⟩) n n,.slice none 0 0] 115));have dge:w.heap.size<=W2.heap.size:=hy2.out.size;have dblt2:db < W2.heap.size:=(Array.getElem?_eq_some_iff.1 hdb.out).1;have vblt2:vb < W2.heap.size:=(Array.getElem?_eq_some_iff.1 hvb.out).1;replace hdb:=hid (hxn.at hdb.out (fun h=>h));replace hvb:=hid (hxn.at hvb.out (fun h=>h));clear hxn;generalize W2.heap.size=d at*;generalize W2.alloc (.cells #[.bool false,.int .i64 0,.slice (some ⟨db,0,none⟩) n n,.slice (some ⟨vb,0,none⟩) n n,.slice none 0 0] 115)=W3 at*;refine hK.out _ _ hy3.out ?_;clear hK K;try simp only [Act.put,sA,sZ,sS]
  refine wpTr_q _ (by simp only [List.getD_cons_succ,List.getD_cons_zero];rfl) (by rfl) ?_ (fun w' hC=>?_) ?_;rotate_left;(go_simp;try with_reducible rfl);try simp only [Act.put,sA,sZ,sS]
  refine wpTr_done ?_;go_wp2_with fail
  refine (hrs.out d _ _ _ _ _ W3 hd.out).mono ?_;rintro e w3 ⟨rfl,k1,k2⟩;replace k1:=hid k1;replace k2:=hid k2;go_wp2_with fail
  go_ret2
  refine ⟨⟨d,db,vb,rfl,⟨k1.out,⟨k2.out.at hdb.out (by omega),zeroC_size n,zeroC_one n⟩,⟨k2.out.at hvb.out (by omega),zeroC_size n,zeroC_one n⟩,by omega,by omega,by omega⟩,by omega,by omega,by omega⟩,?_⟩;exact hy3.out.then k2.out (fun k hk e=>by omega)
theorem size_any {d db vb n:Nat} {cd cv:Array Value} {pv:Value} (w:World) (h:DiskAt w d db vb n cd cv pv):Calls Tryz.prog 57 #[.pointer (some ⟨d,0,none⟩)] w fun e w'=>e=.returned (.int .i64 n)/\w=w':=by
 have c2:w.cell? ⟨d,2,none⟩=some (.slice (some ⟨db,0,none⟩) n n):=cellN h.at_ 2;go_enter Tryz.func57,Tryz.ntmps57;go_wp2_with fail
 go_ret;exact ⟨rfl,rfl⟩
theorem ready_any {d db vb n:Nat} {cd cv:Array Value} {pv:Value} (w:World) (h:DiskAt w d db vb n cd cv pv) (hn:1<=n):Calls Tryz.prog 94 #[.pointer (some ⟨d,0,none⟩)] w fun e w'=>e=.returned (.int .i64 0)/\w=w':=by
 have c0:w.cell? ⟨d,0,none⟩=some (.bool true):=cellN h.at_ 0;have hs:=hid (size_any w h);have hn0:¬ (n:Int)=0:=by omega
 go_enter Tryz.func94,Tryz.ntmps94;go_wp2_with fail
 refine hs.out.mono ?_;rintro e w1 ⟨rfl,rfl⟩;go_wp2_with fail
 go_ret;exact ⟨rfl,rfl⟩
theorem holds_any {d db vb n:Nat} {cd cv:Array Value} {pv:Value} (off k:Nat) (w:World) (h:DiskAt w d db vb n cd cv pv) (hn:n<=4194304) (hk:off+k<=n):Calls Tryz.prog 145 #[.pointer (some ⟨d,0,none⟩),.int .i64 off,.int .i64 k] w fun e w'=>e=.returned (.bool true)/\w=w':=by
 have hs:=hid (size_any w h);have h1:(0:Int)<=(off:Int):=by omega
 have h2:(0:Int)<=(k:Int):=by omega
 have h3:(k:Int)<=(n:Int):=by omega
 have h4:IntKind.i64.wrap ((n:Int) - (k:Int))=(n:Int) - (k:Int):=IntWalk.i64_in _ (by omega);have h5:(off:Int)<=(n:Int) - (k:Int):=by omega
 go_enter Tryz.func145,Tryz.ntmps145;go_wp2_with fail
 refine hs.out.mono ?_;rintro e w1 ⟨rfl,rfl⟩;go_wp2_with fail
 refine hs.out.mono ?_;rintro e w1 ⟨rfl,rfl⟩;go_wp2_with fail
 go_ret;exact ⟨rfl,rfl⟩
def zeroS (k:Nat):Bs:=List.replicate k 0
theorem read_zero {d db vb n:Nat} {cd:Array Value} {pv:Value} (off k:Nat) (w:World) (h:DiskAt w d db vb n cd (zeroC n) pv) (hn:n<=4194304) (h1:1<=n) (hk1:1<=k) (hk:off+k<=n):Calls Tryz.prog 96 #[.pointer (some ⟨d,0,none⟩),.int .i64 off,.int .i64 k] w fun e w'=>e=.returned (.tuple #[strV (zeroS k),.int .i64 0])/\w=w':=by
 have hr:=hid (ready_any w h h1);have hh:=hid (holds_any off k w h hn hk);have c3:w.cell? ⟨d,3,none⟩=some (.slice (some ⟨vb,0,none⟩) n n):=cellN h.at_ 3;have hw:IntKind.i64.wrap ((off:Int)+(k:Int))=(off:Int)+(k:Int):=IntWalk.i64_in _ (by omega);have h5:(0:Int)<=(off:Int):=by omega
 have h6:(off:Int)<=(off:Int)+(k:Int):=by omega
 have h7:(off:Int)+(k:Int)<=(n:Int):=by omega
 have hkk:((off:Int)+(k:Int) - (off:Int)).toNat=k:=by omega
 have hnn:((n:Int) - (off:Int)).toNat=n - off:=by omega
 have hne:¬ (n - off=0):=by omega
 have hne2:¬ (n<=off):=by omega
 have hne3:¬ (n=off):=by omega
 have hcv:(convert 38 9 (.slice (some ⟨vb,off,none⟩) k (n - off))).run Tryz.prog w=.ok (strV (zeroS k)) w:=by
  have hl:(zeroS k).length=k:=by simp [zeroS]
  have:=run_convert_bytes_back w 38 9 5 ⟨vb,off,none⟩ (n - off) (zeroS k) Tryz.underlying38 Tryz.underlying5 Tryz.underlying9 (fun j hj=>?_)
  ·rw [hl] at this;exact this
  ·have hj2:j < k:=by simpa [zeroS] using hj
   rw [show (⟨vb,off,none⟩:Addr).add j=⟨vb,off+j,none⟩ from by simp [Addr.add],cellN h.vis.at_,zeroC_get (by omega)];simp [zeroS]
 go_enter Tryz.func96,Tryz.ntmps96;go_wp2_with fail
 refine hr.out.mono ?_;rintro e w1 ⟨rfl,rfl⟩;go_wp2_with fail
 refine hh.out.mono ?_;rintro e w1 ⟨rfl,rfl⟩;go_wp2_with fail
 go_ret2
 exact ⟨rfl,rfl⟩
def wrC (x:Int × ByteArray):List Value:=[.int .i64 x.1,.string x.2]
theorem wrC_len (x:Int × ByteArray):(wrC x).length=2:=rfl
theorem wrC_one (x:Int × ByteArray):∀ u ∈ wrC x,u.oneCell'=true:=fun u hu=>by simp [wrC] at hu;rcases hu with rfl | rfl <;> rfl
theorem elWr:El Tryz.prog 196 (.agg #[.int .i64 0,.string .empty]) 2 24:=⟨by kernel_rfl,rfl,by decide,by decide⟩
structure DiskP (B:Nat) (w:World) (d db vb n:Nat) (xs:List (Int × ByteArray)):Prop where
 disk:∃ cd cv pv,DiskAt w d db vb n cd cv pv/\Cdk.Own w B 196 2 wrC pv xs
 lt:d < B/\db < B/\vb < B
 size:1<=n/\n<=4194304
 base:B<=w.heap.size
theorem spend_any {d db vb n:Nat} {cd cv:Array Value} {pv:Value} (w:World) (h:DiskAt w d db vb n cd cv pv):Calls Tryz.prog 278 #[.pointer (some ⟨d,0,none⟩)] w fun e w'=>e=.returned (.tuple #[])/\w=w':=by
 have c1:w.cell? ⟨d,1,none⟩=some (.int .i64 0):=cellN h.at_ 1;go_enter Tryz.func278,Tryz.ntmps278;go_wp2_with fail
 refine bodyPost_ret (results_none rfl _ _ _) rfl ?_;exact ⟨rfl,rfl⟩
theorem DiskP.of {B:Nat} {w:World} {d db vb n:Nat} {xs:List (Int × ByteArray)} {cd cv:Array Value} {pv:Value} (h:DiskAt w d db vb n cd cv pv) (ho:Cdk.Own w B 196 2 wrC pv xs) (lt:d < B/\db < B/\vb < B) (size:1<=n/\n<=4194304) (base:B<=w.heap.size):DiskP B w d db vb n xs:=⟨⟨cd,cv,pv,h,ho⟩,lt,size,base⟩
theorem mod_row {S:Nat -> Prop} {w w':World} {g:Nat} (cs:Array Value) (h:Mod S w w') (hg:S g):Mod S w (w'.setRow g cs):=
 ⟨h.os,h.tape,h.output,by have:=h.size;simpa [World.setRow] using this,fun k hk hs=>by rw [setRow_other _ _ _ _ (fun e=>hs (by rw [e];exact hg))];exact h.block k hk hs⟩
theorem one_row {c cs:List Value} (o m:Nat) (h:∀ v ∈ c,v.oneCell'=true) (hs:∀ v ∈ cs,v.oneCell'=true):∀ v ∈ (c.take o++cs++c.drop m),v.oneCell'=true:=by
 intro v hv;rcases List.mem_append.1 hv with hv | hv
 ·rcases List.mem_append.1 hv with hv | hv
  ·exact h v (List.mem_of_mem_take hv)
  ·exact hs v hv
 ·exact h v (List.mem_of_mem_drop hv)
theorem write_any {B d db vb n:Nat} (off:Nat) (x:ByteArray) (w:World) (h:DiskP B w d db vb n []) (hx1:1<=x.size) (hx:off+x.size<=n):
  Calls Tryz.prog 209 #[.pointer (some ⟨d,0,none⟩),.int .i64 off,.string x] w fun e w'=>e=.returned (.int .i64 0)/\DiskP B w' d db vb n [(off,x)]/\Mod (fun k=>k=d \/ k=db \/ k=vb \/ B<=k) w w':=by
 obtain ⟨⟨cd,cv,pv,hA,hO⟩,hlt,hsz,hba⟩:=h;have hr:=hid (ready_any w hA hsz.1);have hh:=hid (holds_any off x.size w hA hsz.2 hx);have c4:w.cell? ⟨d,4,none⟩=some pv:=cellN hA.at_ 4;have hO2:=hid hO;have hA2:=hid hA;go_enter Tryz.func209,Tryz.ntmps209;go_wp2_with fail
 refine hr.out.mono ?_;rintro e w1 ⟨rfl,rfl⟩;go_wp2_with fail
 refine hh.out.mono ?_;rintro e w1 ⟨rfl,rfl⟩;have hxA:=hid (Mod.alloc (Mod.refl (fun _=>False) w) (.cells #[.int .i64 off,.string x] 196));go_wp2_with (at_builtin;refine wpList_app rfl _ _ 113 rfl Tryz.underlying113 elWr rfl (hO2.out.ext hxA.out) _ 1 1 rfl [((off:Int),x)] rfl (by exact RowIs.new _ [Value.int .i64 off,.string x] _) wrC_len (fun y _ u hu=>wrC_one y u hu) (by simp) (by rw [World.size_alloc];omega) (fun e=>nomatch e) ?_)
 intro v' w' H;obtain ⟨hO3,hM3⟩:=H.out;obtain ⟨av,cv4,rfl,-,-⟩:=hO3.row;have hl1:[((off:Int),x)].length=1:=rfl;rw [hl1] at hO3 ⊢;have hdpv:¬ pv.ownBlock=some d:=fun e=>by have:=(hO.block _ e).1;omega
 have hm0:Mod (fun k=>k=d \/ k=db \/ k=vb \/ B<=k) w w':=(hxA.out.mono (fun _ h=>h.elim)).trans (hM3.mono (fun k e=>.inr (.inr (.inr (hO.block _ e).1))));have hS3:Mod (fun k=>B<=k) w w':=(hxA.out.mono (fun _ h=>h.elim)).trans (hM3.mono (fun k e=>(hO.block _ e).1));have hd3:=hS3.at hA.at_ (by omega);have b3:=hA.dur.mod hS3 (by omega);have v3:=hA.vis.mod hS3 (by omega);have k4:w'.cell? ⟨d,4,none⟩=some pv:=cellN hd3 4;have z4:=freeN hd3 4;have hbW:B<=w'.heap.size:=Nat.le_trans hba hS3.size;replace hM3:=hid hM3;replace hm0:=hid hm0;replace hS3:=hid hS3;replace hd3:=hid hd3;replace b3:=hid b3;replace v3:=hid v3;replace hO3:=hid hO3;replace hA:=hid hA;replace hO:=hid hO;clear H;go_upto_region 7 with fail
 have hM4:Cdk.Mod (Eq d) w' (w'.setCell ⟨d,4,none⟩ (.slice av 1 cv4)):=(Mod.refl (Eq d) w').setCell (a:=⟨d,4,none⟩) (fun _=>rfl) _;have hd5:=hid (put_at' hd3.out 4 (.slice av 1 cv4));have b5:=hid (b3.out.mod hM4 (by have:=hA.out.ne.1;omega));have v5:=v3.out.mod hM4 (by have:=hA.out.ne.2.1;omega);have o5:=hid (hO3.out.mod hM4 (fun k hk e=>by have:=(hO3.out.block k hk).1;omega));have m5:=hid (hm0.out.setCell (a:=⟨d,4,none⟩) (fun _=>.inl rfl) (.slice av 1 cv4));have s5:B<=(w'.setCell ⟨d,4,none⟩ (.slice av 1 cv4)).heap.size:=by simpa [World.setCell] using hbW
 clear hM4 k4 z4 hd3 b3 v3 hO3 hm0 hbW hS3 hM3;generalize w'.setCell ⟨d,4,none⟩ (.slice av 1 cv4)=W at hd5 b5 v5 o5 m5 s5 ⊢;have k3:W.cell? ⟨d,3,none⟩=some (.slice (some ⟨vb,0,none⟩) n n):=cellN hd5.out 3;have h5:(0:Int)<=(off:Int):=by omega
 have h6:(off:Int)<=(n:Int):=by omega
 have hnn:((n:Int) - (off:Int)).toNat=n - off:=by omega
 have hne:¬ (n - off=0):=by omega
 have hne2:¬ (n<=off):=by omega
 have hne3:¬ (n=off):=by omega
 have hcp:=Lib.run_copy_row_string (P:=Tryz.prog) W 38 9 3 5 vb off (n - off) (n - off) x cv 5 Tryz.underlying38 rfl v5.at_ (by omega) (by rw [v5.size];omega);have hcs:((cv.toList.take off++Lib.byteCells x.data.toList++cv.toList.drop (off+x.size)).toArray).size=n:=by
  have:=v5.size;have hbl:=Lib.byteCells_length x.data.toList;rw [<- Lib.size_eq] at hbl;simp [hbl];omega
 have hone:=one_row off (off+x.size) v5.one (Lib.byteCells_one x.data.toList);generalize (cv.toList.take off++Lib.byteCells x.data.toList++cv.toList.drop (off+x.size))=R at hcp hcs hone;have m6:=hid (mod_row R.toArray m5.out (.inr (.inr (.inl rfl))));have q6:=(Mod.refl (Eq vb) W);have q7:=mod_row R.toArray q6 rfl;have d6:DiskAt (W.setRow vb R.toArray) d db vb n cd R.toArray (.slice av 1 cv4):=⟨q7.at hd5.out (by have:=hA.out.ne.2.1;omega),b5.out.mod q7 (by have:=hA.out.ne.2.2;omega),⟨setRow_heap W vb _ _ _ _ v5.at_,hcs,by simpa using hone⟩,hA.out.ne⟩;have o6:=hid (o5.out.mod q7 (fun k hk e=>by have:=(o5.out.block k hk).1;omega));have s6:B<=(W.setRow vb R.toArray).heap.size:=Nat.le_trans s5 q7.size;have hsp:=hid (spend_any (W.setRow vb R.toArray) d6);replace d6:=hid d6;clear m5 q6 q7 hone hcs v5;go_wp2_with fail
 refine hsp.out.mono ?_;rintro e w1 ⟨rfl,rfl⟩;go_wp2_with fail
 go_ret;exact ⟨rfl,DiskP.of d6.out o6.out hlt hsz s6,m6.out⟩
theorem run_clear_one {P:Program} (w:World) (t e ty:TypeId) (z:Value) (cs:List Value) (g c:Nat) (cur:Array Value) (ht:P.underlying t=some (.slice e)) (hv:∀ w,(zeroValue e).run P w=.ok z w) (hz:(Builtin.zeroCells z.cells 1).toList=cs)
  (hg:w.heap[g]?=some (.cells cur e (0,0))) (hfit:cs.length<=cur.size) (h1:∀ v ∈ cs,v.oneCell'=true):
  (Builtin.clear_ #[t] ty #[.slice (some ⟨g,0,none⟩) 1 c]).run P w=.ok (.tuple #[]) (w.setRow g (cs++cur.toList.drop cs.length).toArray):=by
 have hst:=run_storeCells_at P g 0 e cs 0 cur w hg (by simpa using hfit) h1;simp only [Nat.add_zero,List.take_zero,List.nil_append,Nat.zero_add] at hst;simp [Builtin.clear_,run_underlying ht,hv,hz,hst]
theorem forget_any {B d db vb n:Nat} {x:Int × ByteArray} (w:World) (h:DiskP B w d db vb n [x]):
  Calls Tryz.prog 93 #[.pointer (some ⟨d,0,none⟩)] w fun e w'=>e=.returned (.tuple #[])/\DiskP B w' d db vb n []/\Mod (fun k=>k=d \/ k=db \/ k=vb \/ B<=k) w w':=by
 obtain ⟨⟨cd,cv,pv,hA,hO⟩,hlt,hsz,hba⟩:=h;obtain ⟨-,⟨-,he⟩ | ⟨g,cap,cur,rfl,hg1,hg2,hc1,hc2,hc3,hc4⟩⟩:=hO
 ·simp at he
 rw [show ([x]:List (Int × ByteArray)).length=1 from rfl] at*;have c4:w.cell? ⟨d,4,none⟩=some (.slice (some ⟨g,0,none⟩) 1 cap):=cellN hA.at_ 4;have hcl:=run_clear_one (P:=Tryz.prog) w 113 196 0 (.agg #[.int .i64 0,.string .empty]) [.int .i64 0,.string .empty] g cap cur Tryz.underlying113 (fun w=>by kernel_rfl) (by kernel_rfl) hg2 (by simp;omega) (fun v hv=>by simp at hv;rcases hv with rfl | rfl <;> rfl);have q7:=mod_row (S:=Eq g) ([Value.int .i64 0,.string .empty]++cur.toList.drop 2).toArray (Mod.refl (Eq g) w) rfl;have hsr:=setRow_heap w g cur ([Value.int .i64 0,.string .empty]++cur.toList.drop 2).toArray _ _ hg2;have hsz2:([Value.int .i64 0,.string .empty]++cur.toList.drop 2).toArray.size=cap*2:=by simp;omega
 simp only [List.length_cons,List.length_nil,Nat.zero_add,Nat.reduceAdd] at hcl;generalize ([Value.int .i64 0,.string .empty]++cur.toList.drop 2).toArray=R at*;have hd1:=q7.at hA.at_ (by omega);have b1:=hA.dur.mod q7 (by omega);have v1:=hA.vis.mod q7 (by omega);have hs1:=q7.size;generalize w.setRow g R=W at*;have e4:W.cell? ⟨d,4,none⟩=some (.slice (some ⟨g,0,none⟩) 1 cap):=cellN hd1 4;have z4:=freeN hd1 4;have hcap:¬ cap=0:=by omega
 replace hd1:=hid hd1;replace b1:=hid b1;replace v1:=hid v1;replace q7:=hid q7;replace hsr:=hid hsr;go_enter Tryz.func93,Tryz.ntmps93;go_wp2_with fail
 go_end0
 have q8:Mod (Eq d) W (W.setCell ⟨d,4,none⟩ (.slice (some ⟨g,0,none⟩) 0 cap)):=(Mod.refl (Eq d) W).setCell (a:=⟨d,4,none⟩) (fun _=>rfl) _;have hsz8:=q8.size;refine ⟨rfl,DiskP.of (cd:=cd) (cv:=cv) ⟨put_at' hd1.out 4 _,b1.out.mod q8 hA.ne.1,v1.out.mod q8 hA.ne.2.1,hA.ne⟩ ⟨by simp,.inr ⟨g,cap,R,rfl,hg1,q8.at hsr.out (by omega),by simp,hc2,hsz2,by simp⟩⟩ hlt hsz (by omega),?_⟩;exact (q7.out.mono (fun k e=>.inr (.inr (.inr (e ▸ hg1))))).trans (q8.mono (fun k e=>.inl e.symm))
theorem DiskAt.ext {w w':World} {d db vb n:Nat} {cd cv:Array Value} {pv:Value} (h:DiskAt w d db vb n cd cv pv) (hx:Ext w w'):DiskAt w' d db vb n cd cv pv:=⟨hx.at h.at_ (fun h=>h),h.dur.mod hx (fun h=>h),h.vis.mod hx (fun h=>h),h.ne⟩
theorem sync_any {B d db vb n:Nat} {x:Int × ByteArray} (w:World) (h:DiskP B w d db vb n [x]):
  Calls Tryz.prog 151 #[.pointer (some ⟨d,0,none⟩)] w fun e w'=>e=.returned (.int .i64 0)/\DiskP B w' d db vb n []/\Mod (fun k=>k=d \/ k=db \/ k=vb \/ B<=k) w w':=by
 obtain ⟨⟨cd,cv,pv,hA,hO⟩,hlt,hsz,hba⟩:=h;have hr:=hid (ready_any w hA hsz.1);go_enter Tryz.func151,Tryz.ntmps151;go_wp2_with fail
 refine hr.out.mono ?_;rintro e w1 ⟨rfl,rfl⟩;go_upto_region 4 with fail
 try simp only [List.append_eq,List.cons_append,List.nil_append]
 refine wp_region_tree (.s (.q 0 (.q 1 (.q 2 (.q 3 (.q 4 (.q 5 (.q 6 (.q 7 (.c1 8 .done)))))))))) (by as_aux_lemma=>kernel_rfl) (by as_aux_lemma=>kernel_rfl) (by as_aux_lemma=>kernel_rfl) (by decide) ?_;have hy0:=hid (Mod.drew0 (Eq db) w);refine wpTr_s (fun Wx=>Cdk.Mod (Eq db) w Wx) (fun _ _=>trivial) hy0.out ?_;generalize hWd:World.drew w=W0 at hy0 ⊢
 iterate 8 (refine wpTr_q _ (by simp only [List.getD_cons_succ,List.getD_cons_zero];rfl) (by rfl) ?_ (fun w' hC=>?_) ?_;rotate_left;(have q2:w'.cell? ⟨d,2,none⟩=some (.slice (some ⟨db,0,none⟩) n n):=cellN (hC.at hA.at_ hA.ne.1.symm) 2;have q3:w'.cell? ⟨d,3,none⟩=some (.slice (some ⟨vb,0,none⟩) n n):=cellN (hC.at hA.at_ hA.ne.1.symm) 3;go_simp;try with_reducible rfl);try simp only [Act.put,sA,sZ,sS])
 refine wpTr_c1 _ (by simp only [List.getD_cons_succ,List.getD_cons_zero];rfl) ?_;refine wpN_c (by rfl) (fun K hK=>?_);have hxW:Ext w W0:=hWd ▸ Mod.drew0 (fun _=>False) w;have hbW:B<=W0.heap.size:=Nat.le_trans hba hxW.size;replace hO:=hO.ext hxW;replace hA:=hA.ext hxW;have hvl:cv.toList.length=n:=by simpa using hA.vis.size
 have hdl:cd.toList.length=n:=by simpa using hA.dur.size
 have hcp:=run_copy_row (P:=Tryz.prog) W0 38 38 3 5 db 0 n n ⟨vb,0,none⟩ n n cd 5 cv.toList Tryz.underlying38 rfl hA.dur.at_ (by rw [hvl];simp) (fun j v hj=>by rw [Addr.add_lit,Nat.zero_add,cellN hA.vis.at_,<- Array.getElem?_toList];exact hj) (by rw [hvl,<- hdl];simp) hA.vis.one;have hRone:=one_row 0 (0+cv.toList.length) hA.dur.one hA.vis.one;have hRsz:(cd.toList.take 0++cv.toList++cd.toList.drop (0+cv.toList.length)).toArray.size=n:=by simp;simp at hvl hdl;omega
 rw [hvl] at hcp hRone hRsz;generalize (cd.toList.take 0++cv.toList++cd.toList.drop (0+n))=R at hcp hRone hRsz;have q7:=mod_row (S:=Eq db) R.toArray (Mod.refl (Eq db) W0) rfl;have hsr:=setRow_heap W0 db cd R.toArray _ _ hA.dur.at_;have hs1:=q7.size;have hP:DiskP B (W0.setRow db R.toArray) d db vb n [x]:=DiskP.of (cd:=R.toArray) (cv:=cv) ⟨q7.at hA.at_ (by have:=hA.ne.1;omega),⟨hsr,hRsz,by simpa using hRone⟩,hA.vis.mod q7 (by have:=hA.ne.2.2;omega),hA.ne⟩ (hO.mod q7 (fun k hk e=>by have:=(hO.block k hk).1;omega)) hlt hsz (by omega);have hf:=hid (forget_any _ hP);have hy1:=hid (mod_row R.toArray hy0.out rfl);clear hsr hP hRone hRsz hA hO q7 hvl hdl;go_simp;refine hK.out _ _ hy1.out ?_;clear hK K;try simp only [Act.put,sA,sZ,sS]
 refine wpTr_done ?_;go_wp2_with fail
 refine hf.out.mono ?_;rintro e w1 ⟨rfl,k1,k2⟩;replace k1:=hid k1;replace k2:=hid k2;go_wp2_with fail
 go_ret;exact ⟨rfl,k1.out,(hy1.out.mono (fun k e=>.inr (.inl e.symm))).trans k2.out⟩
end Go.Proofs.YtcopgcdhkgenkaaGreatDoor
