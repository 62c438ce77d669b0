import Derived.Test.YtcopgcdhkgenkaaGreatDoorJ6
set_option linter.all false
set_option maxRecDepth 100000
set_option maxHeartbeats 16000000
namespace Go.Proofs.YtcopgcdhkgenkaaGreatDoor
open Go.Shelf Go.RowKit Cdk Scr
theorem isTime_any (n:Int) (h:0<=n/\n<=1000000000) (w:World):Calls Tryz.prog 58 #[.int .i64 n] w fun e w'=>e=.returned (.bool true)/\w=w':=by
 have h1:=h.1;have h2:=h.2;go_enter Tryz.func58,Tryz.ntmps58;go_wp2_with fail
 go_ret;exact ⟨rfl,rfl⟩
theorem admission_nil (n:Int) (w:World):Calls Tryz.prog 64 #[.slice none 0 0,.int .i64 n] w fun e w'=>e=.returned (.tuple #[.agg #[.int .i64 0,.int .i64 0],.bool false])/\Ext w w':=by
 go_enter Tryz.func64,Tryz.ntmps64;go_wp2_with fail
 refine wp_loop_rounds 1 ?_;rw [rounds_succ];go_wp2_with fail
 have hx:=allocs_ext (S:=fun _=>False) [.cells #[.int .i64 0,.int .i64 0] 138,.cells #[.int .i64 0,.int .i64 0] 138] w;have hg:=allocs_get [.cells #[.int .i64 0,.int .i64 0] 138,.cells #[.int .i64 0,.int .i64 0] 138] w;have g0:=hg 0 (by simp);simp only [allocs,Nat.add_zero] at hx g0;have hl:=run_loadVar_row (P:=Tryz.prog) _ _ _ 138 _ _ _ g0 Tryz.underlying138 rfl (by kernel_rfl)
 refine bodyPost_ret (v:=.tuple #[.agg #[.int .i64 0,.int .i64 0],.bool false]) (by
  rw [results_cell_tmp rfl]
  simp [asAddr,hl]) rfl ⟨rfl,hx⟩
def siteC (a b c d:Value) (m:Nat):Array Value:=#[a,b,c,d,.map (some m),.int .i64 0]
theorem siteNew_any (w:World):Calls Tryz.prog 60 #[] w fun e w'=>(∃ s a b c d m,e=.returned (.pointer (some ⟨s,0,none⟩))/\w'.heap[s]?=some (.cells (siteC a b c d m) 217 (0,0))/\w.heap.size<=s)/\Ext w w':=by
 have hmm:=@run_makeMap Tryz.prog;obtain ⟨N,hN⟩:∃ N,N=w.heap.size:=⟨_,rfl⟩;have hx0:=allocs_ext (S:=fun _=>False) [.map #[] 0,.cells #[.pointer none,.pointer none,.pointer none,.pointer none,.map (some N),.int .i64 0] 217] w;have hg:=allocs_get [.map #[] 0,.cells #[.pointer none,.pointer none,.pointer none,.pointer none,.map (some N),.int .i64 0] 217] w;have hS0:=hg 1 (by simp);simp only [allocs,<- hN] at hx0 hS0;clear hg;go_enter Tryz.func60,Tryz.ntmps60;go_upto_region 2 with fail
 try simp only [World.size_alloc]
 simp only [<- hN];generalize ((w.alloc (.map #[] 0)).alloc (.cells #[.pointer none,.pointer none,.pointer none,.pointer none,.map (some N),.int .i64 0] 217))=W0 at hx0 hS0 ⊢;replace hN:=hid hN;replace hx0:=hid hx0;replace hS0:=hid hS0;go_wp2_with fail
 refine wp_loop_rounds 5 ?_;rw [rounds_succ];obtain ⟨M0,hM0⟩:∃ M,M=W0.heap.size:=⟨_,rfl⟩;have hxa:=allocs_ext (S:=fun _=>False) [.map #[] 0,.cells #[.map (some M0)] 220] W0;simp only [allocs] at hxa;have hSa:=hxa.at hS0.out (fun h=>h);have hS1:=hid (put_at' hSa 0 (.pointer (some ⟨M0+1,0,none⟩)));have hx1:=hid ((hx0.out.trans hxa).setCell (a:=⟨N+1,0,none⟩) (fun h=>absurd h (by show ¬ N+1 < w.heap.size;have:=hN.out;omega)) (.pointer (some ⟨M0+1,0,none⟩)));have c0:((W0.alloc (.map #[] 0)).alloc (.cells #[.map (some M0)] 220)).cell? ⟨N+1,0,none⟩=some (.pointer none):=cellN hSa 0;have z0:=freeN hSa 0;clear hxa hSa;rw [hM0] at c0 z0;go_upto_region 6 with fail
 try simp only [World.size_alloc]
 try simp only [<- hM0]
 generalize ((W0.alloc (.map #[] 0)).alloc (.cells #[.map (some M0)] 220)).setCell ⟨N+1,0,none⟩ (.pointer (some ⟨M0+1,0,none⟩))=W1 at hS1 hx1 ⊢;clear c0 z0 hM0;go_wp2_with fail
 rw [rounds_succ];obtain ⟨M1,hM1⟩:∃ M,M=W1.heap.size:=⟨_,rfl⟩;have hxa:=allocs_ext (S:=fun _=>False) [.map #[] 0,.cells #[.map (some M1)] 220] W1;simp only [allocs] at hxa;have hSa:=hxa.at hS1.out (fun h=>h);have hS2:=hid (put_at' hSa 1 (.pointer (some ⟨M1+1,0,none⟩)));have hx2:=hid ((hx1.out.trans hxa).setCell (a:=⟨N+1,1,none⟩) (fun h=>absurd h (by show ¬ N+1 < w.heap.size;have:=hN.out;omega)) (.pointer (some ⟨M1+1,0,none⟩)));have c1:((W1.alloc (.map #[] 0)).alloc (.cells #[.map (some M1)] 220)).cell? ⟨N+1,1,none⟩=some (.pointer none):=cellN hSa 1;have z1:=freeN hSa 1;clear hxa hSa;rw [hM1] at c1 z1;go_upto_region 6 with fail
 try simp only [World.size_alloc]
 try simp only [<- hM1]
 generalize ((W1.alloc (.map #[] 0)).alloc (.cells #[.map (some M1)] 220)).setCell ⟨N+1,1,none⟩ (.pointer (some ⟨M1+1,0,none⟩))=W2 at hS2 hx2 ⊢;clear c1 z1 hM1;go_wp2_with fail
 rw [rounds_succ];obtain ⟨M2,hM2⟩:∃ M,M=W2.heap.size:=⟨_,rfl⟩;have hxa:=allocs_ext (S:=fun _=>False) [.map #[] 0,.cells #[.map (some M2)] 220] W2;simp only [allocs] at hxa;have hSa:=hxa.at hS2.out (fun h=>h);have hS3:=hid (put_at' hSa 2 (.pointer (some ⟨M2+1,0,none⟩)));have hx3:=hid ((hx2.out.trans hxa).setCell (a:=⟨N+1,2,none⟩) (fun h=>absurd h (by show ¬ N+1 < w.heap.size;have:=hN.out;omega)) (.pointer (some ⟨M2+1,0,none⟩)));have c2:((W2.alloc (.map #[] 0)).alloc (.cells #[.map (some M2)] 220)).cell? ⟨N+1,2,none⟩=some (.pointer none):=cellN hSa 2;have z2:=freeN hSa 2;clear hxa hSa;rw [hM2] at c2 z2;go_upto_region 6 with fail
 try simp only [World.size_alloc]
 try simp only [<- hM2]
 generalize ((W2.alloc (.map #[] 0)).alloc (.cells #[.map (some M2)] 220)).setCell ⟨N+1,2,none⟩ (.pointer (some ⟨M2+1,0,none⟩))=W3 at hS3 hx3 ⊢;clear c2 z2 hM2;go_wp2_with fail
 rw [rounds_succ];obtain ⟨M3,hM3⟩:∃ M,M=W3.heap.size:=⟨_,rfl⟩;have hxa:=allocs_ext (S:=fun _=>False) [.map #[] 0,.cells #[.map (some M3)] 220] W3;simp only [allocs] at hxa;have hSa:=hxa.at hS3.out (fun h=>h);have hS4:=hid (put_at' hSa 3 (.pointer (some ⟨M3+1,0,none⟩)));have hx4:=hid ((hx3.out.trans hxa).setCell (a:=⟨N+1,3,none⟩) (fun h=>absurd h (by show ¬ N+1 < w.heap.size;have:=hN.out;omega)) (.pointer (some ⟨M3+1,0,none⟩)));have c3:((W3.alloc (.map #[] 0)).alloc (.cells #[.map (some M3)] 220)).cell? ⟨N+1,3,none⟩=some (.pointer none):=cellN hSa 3;have z3:=freeN hSa 3;clear hxa hSa;rw [hM3] at c3 z3;go_upto_region 6 with fail
 try simp only [World.size_alloc]
 try simp only [<- hM3]
 generalize ((W3.alloc (.map #[] 0)).alloc (.cells #[.map (some M3)] 220)).setCell ⟨N+1,3,none⟩ (.pointer (some ⟨M3+1,0,none⟩))=W4 at hS4 hx4 ⊢;clear c3 z3 hM3;go_wp2_with fail
 rw [rounds_succ];go_wp2_with fail
 go_ret;exact ⟨⟨N+1,_,_,_,_,N,rfl,hS4.out,by have:=hN.out;omega⟩,hx4.out⟩
end Go.Proofs.YtcopgcdhkgenkaaGreatDoor
namespace Cdk
open Go Go.RowKit
def putC (V:Array Value) (i:Nat) (cs:Array Value):Array Value:=(V.toList.take i++(cs.toList++V.toList.drop (i+cs.size))).toArray
theorem wp_storeM {P:Program} {o:Oper} {a:Act} {w:World} {K:Act -> World -> Prop} {Q:Exit -> Act -> World -> Prop} (ty:TypeId) (x y:Operand) (ho:o.op=.store ty x y) (b i:Nat) (V:Array Value) (v:Value) (t:TypeId) (hx:a.eval x=.pointer (some ⟨b,i,none⟩)) (hy:a.eval y=v)
  (hold:w.heap[b]?=some (.cells V t (0,0))) (hn:i+v.cells.size<=V.size) (hi:(P.info? ty).map (·.size)=some v.cells.size) (h1:v.cells.toList.all (·.oneCell')=true)
  (h:∀ w',w'.heap[b]?=some (.cells (putC V i v.cells) t (0,0)) -> Mod (Eq b) w w' -> K (a.put o.dst undef) w'):o.wp P a w K Q:=by
 have hs:(V.toList.take i).length=i:=by rw [List.length_take,Array.length_toList];omega
 have hk:((V.toList.drop i).take v.cells.size).length=v.cells.size:=by rw [List.length_take,List.length_drop,Array.length_toList];omega
 have e:V=(V.toList.take i++((V.toList.drop i).take v.cells.size++V.toList.drop (i+v.cells.size))).toArray:=by
  rw [<- List.drop_drop,List.take_append_drop,List.take_append_drop]
 rw [e] at hold;have ht:=there_of hold;have hp:=setCells_at v.cells.toList _ _ _ w hold (by rw [hk];simp);rw [hs,hk] at ht;rw [hs] at hp;unfold Oper.wp execOp;simp only [ho,hx,hy,Instr.storeAt,Instr.sureAddr,Sem.run_bind,Sem.run_pure,Result.andThen_ok,show ∀ ad,storeVar ty ad v=storeVar ty ad (.agg v.cells) from fun _=>rfl,run_storeVar_mid w b i ty v.cells ht hi (all_oneCell_toArray (fun x hx=>List.all_eq_true.1 h1 x hx))];exact h _ hp (setCells_mod b _ w _)
theorem putC_size {V:Array Value} {i:Nat} {cs:Array Value} (h:i+cs.size<=V.size):(putC V i cs).size=V.size:=by
 simp [putC];omega
theorem putC_get {V:Array Value} {i:Nat} {cs:Array Value} (h:i+cs.size<=V.size) (k:Nat):(putC V i cs)[k]?=if k < i then V[k]? else if k < i+cs.size then cs[k - i]? else V[k]?:=by
 unfold putC;rw [List.getElem?_toArray];have hl:(V.toList.take i).length=i:=by rw [List.length_take,Array.length_toList];omega
 by_cases h1:k < i
 ·rw [if_pos h1,List.getElem?_append_left (by omega),List.getElem?_take,if_pos h1,Array.getElem?_toList]
 ·rw [if_neg h1,List.getElem?_append_right (by omega),hl]
  by_cases h2:k < i+cs.size
  ·rw [if_pos h2,List.getElem?_append_left (by rw [Array.length_toList];omega),Array.getElem?_toList]
  ·rw [if_neg h2,List.getElem?_append_right (by rw [Array.length_toList];omega),List.getElem?_drop,Array.getElem?_toList,Array.length_toList]
   congr 1;omega
theorem putC_in {V:Array Value} {i:Nat} {cs:Array Value} (h:i+cs.size<=V.size) {k:Nat} (hk:k < cs.size):(putC V i cs)[i+k]?=cs[k]?:=by
 rw [putC_get h,if_neg (by omega),if_pos (by omega)];congr 1;omega
theorem putC_out {V:Array Value} {i:Nat} {cs:Array Value} (h:i+cs.size<=V.size) {k:Nat} (hk:k < i \/ i+cs.size<=k):(putC V i cs)[k]?=V[k]?:=by
 rw [putC_get h]
 by_cases h1:k < i
 ·rw [if_pos h1]
 ·rw [if_neg h1,if_neg (by omega)]
end Cdk
namespace Go.Proofs.YtcopgcdhkgenkaaGreatDoor
open Go.Shelf Go.RowKit Cdk Scr
def cls0:List Value:=(classV (.pointer none) (.pointer none) 0).toList
def nrT:List Value:=[.pointer none,.pointer none,.pointer none,.pointer none,.pointer none,.pointer none,.pointer none,.pointer none,.pointer none,.slice none 0 0,.int .i64 0]
def nr0 (j s:Nat):Array Value:=([Value.pointer (some ⟨j,0,none⟩),.pointer (some ⟨s,0,none⟩),.int .i64 0,.int .i64 0]++(cls0++(cls0++(cls0++(cls0++nrT))))).toArray
structure NrV (V:Array Value) (j s:Nat) (now tick:Int) (cl:Nat -> Array Value) (out:Value) (built:Int):Prop where
 size:V.size=299
 c0:V[0]?=some (.pointer (some ⟨j,0,none⟩))
 c1:V[1]?=some (.pointer (some ⟨s,0,none⟩))
 c2:V[2]?=some (.int .i64 now)
 c3:V[3]?=some (.int .i64 tick)
 cls:∀ c,c < 4 -> (cl c).size=71/\∀ i,i < 71 -> V[4+71*c+i]?=(cl c)[i]?
 sen:∀ i,i < 9 -> V[288+i]?=some (.pointer none)
 out:V[297]?=some out
 built:V[298]?=some (.int .i64 built)
theorem get_skip {α:Type} (a b:List α) (n k:Nat) (h:a.length=n):(a++b)[n+k]?=b[k]?:=by
 rw [List.getElem?_append_right (by omega),h,Nat.add_sub_cancel_left]
theorem get_here {α:Type} (a b:List α) (n k:Nat) (h:a.length=n) (hk:k < n):(a++b)[k]?=a[k]?:=List.getElem?_append_left (by omega)
theorem cls0_len:cls0.length=71:=by rfl
theorem nr0_cls (j s c i:Nat) (hc:c < 4) (hi:i < 71):(nr0 j s)[4+71*c+i]?=(classV (.pointer none) (.pointer none) 0)[i]?:=by
 unfold nr0;rw [List.getElem?_toArray,Nat.add_assoc,get_skip _ _ 4 _ rfl,<- Array.getElem?_toList];show _=cls0[i]?
 have h0:=cls0_len
 match c,hc with
 | 0,_=>rw [Nat.mul_zero,Nat.zero_add,get_here _ _ 71 i h0 hi]
 | 1,_=>rw [show 71*1+i=71+i by omega,get_skip _ _ 71 _ h0,get_here _ _ 71 i h0 hi]
 | 2,_=>rw [show 71*2+i=71+(71+i) by omega,get_skip _ _ 71 _ h0,get_skip _ _ 71 _ h0,get_here _ _ 71 i h0 hi]
 | 3,_=>rw [show 71*3+i=71+(71+(71+i)) by omega,get_skip _ _ 71 _ h0,get_skip _ _ 71 _ h0,get_skip _ _ 71 _ h0,get_here _ _ 71 i h0 hi]
theorem nr0_tail (j s i:Nat):(nr0 j s)[288+i]?=nrT[i]?:=by
 unfold nr0;have h0:=cls0_len;rw [List.getElem?_toArray,show 288+i=4+(71+(71+(71+(71+i)))) by omega,get_skip _ _ 4 _ rfl,get_skip _ _ 71 _ h0,get_skip _ _ 71 _ h0,get_skip _ _ 71 _ h0,get_skip _ _ 71 _ h0]
theorem nr0_V (j s:Nat):NrV (nr0 j s) j s 0 0 (fun _=>classV (.pointer none) (.pointer none) 0) (.slice none 0 0) 0 where
 size:=by unfold nr0;simp [cls0_len,nrT]
 c0:=by unfold nr0;rw [List.getElem?_toArray,get_here _ _ 4 _ rfl (by decide)];rfl
 c1:=by unfold nr0;rw [List.getElem?_toArray,get_here _ _ 4 _ rfl (by decide)];rfl
 c2:=by unfold nr0;rw [List.getElem?_toArray,get_here _ _ 4 _ rfl (by decide)];rfl
 c3:=by unfold nr0;rw [List.getElem?_toArray,get_here _ _ 4 _ rfl (by decide)];rfl
 cls:=fun c hc=>⟨cls0_len,fun i hi=>nr0_cls j s c i hc hi⟩
 sen:=fun i hi=>by
  rw [nr0_tail];have:∀ i:Fin 9,nrT[i.1]?=some (.pointer none):=by
   intro i
   match i with
   | 0 | 1 | 2 | 3 | 4 | 5 | 6 | 7 | 8=>rfl
  exact this ⟨i,hi⟩
 out:=(nr0_tail j s 9).trans rfl
 built:=(nr0_tail j s 10).trans rfl
theorem NrV.put {V:Array Value} {j s:Nat} {now tick:Int} {cl:Nat -> Array Value} {out:Value} {built:Int} (h:NrV V j s now tick cl out built) (c:Nat) (hc:c < 4) (cs:Array Value) (hs:cs.size=71):NrV (putC V (4+71*c) cs) j s now tick (fun k=>if k=c then cs else cl k) out built:=by
 have hl:4+71*c+cs.size<=V.size:=by rw [h.size,hs];omega
 have ho:=fun k hk=>putC_out (k:=k) hl hk
 refine ⟨(putC_size hl).trans h.size,(ho 0 (by omega)).trans h.c0,(ho 1 (by omega)).trans h.c1,(ho 2 (by omega)).trans h.c2,(ho 3 (by omega)).trans h.c3,fun k hk=>?_,fun i hi=>(ho _ (by omega)).trans (h.sen i hi),(ho _ (by omega)).trans h.out,(ho _ (by omega)).trans h.built⟩
 by_cases e:k=c
 ·subst e
  rw [if_pos rfl];exact ⟨hs,fun i hi=>putC_in hl (by omega)⟩
 ·rw [if_neg e]
  exact ⟨(h.cls k hk).1,fun i hi=>(ho _ (by omega)).trans ((h.cls k hk).2 i hi)⟩
structure NrAt (w:World) (r j s:Nat) (now tick:Int) (cl:Nat -> Array Value) (out:Value) (built:Int):Prop where
 at_:∃ V,w.heap[r]?=some (.cells V 134 (0,0))/\NrV V j s now tick cl out built
 jn:∃ en d size,JnAt w j 1 (.slice none 0 0) en d size 0 false
 st:∃ a b c d m,w.heap[s]?=some (.cells (siteC a b c d m) 217 (0,0))
 js:j < s
 sr:s < r
structure ClNew (w:World) (r:Nat) (C:Array Value) (c:Int) (b x m:Nat):Prop where
 cells:C=classV (.pointer (some ⟨b,0,none⟩)) (.pointer (some ⟨x,0,none⟩)) c
 bld:BldrAt w b m (.pointer none) (.pointer none)
 map:MapAt w Value.string m ([]:List (ByteArray × Value))
 rm:r < m
 mb:m < b
theorem NrAt.ext {w w':World} {r j s:Nat} {now tick:Int} {cl:Nat -> Array Value} {out:Value} {built:Int} (h:NrAt w r j s now tick cl out built) (hx:Ext w w'):NrAt w' r j s now tick cl out built:=by
 obtain ⟨⟨V,h1,h2⟩,⟨en,d,size,h3⟩,⟨a,b,c,d',m,h4⟩,h5,h6⟩:=h;exact ⟨⟨V,hx.at h1 (fun h=>h),h2⟩,⟨en,d,size,hx.at h3 (fun h=>h)⟩,⟨a,b,c,d',m,hx.at h4 (fun h=>h)⟩,h5,h6⟩
theorem ClNew.ext {w w':World} {r:Nat} {C:Array Value} {c:Int} {b x m:Nat} (h:ClNew w r C c b x m) (hx:Ext w w'):ClNew w' r C c b x m:=⟨h.cells,hx.at h.bld (fun h=>h),h.map.mod hx (fun h=>h),h.rm,h.mb⟩
theorem class_all (b x:Option Addr) (n:Int):(classV (.pointer b) (.pointer x) n).toList.all (·.oneCell')=true:=by kernel_rfl
theorem class_size (b x:Option Addr) (n:Int):(classV (.pointer b) (.pointer x) n).size=71:=by kernel_rfl
theorem openNr_zero {d db vb n h:Nat} (w:World) (hA:DiskAt w d db vb n (zeroC n) (zeroC n) (.slice none 0 0)) (hG:Gl w) (hn:n=h+h) (hh:32<=h/\h<=2097152):
  Calls Tryz.prog 32 #[.int .i64 0,.pointer (some ⟨d,0,none⟩)] w fun e w'=>(∃ (r j s:Nat) (cl:Nat -> Array Value) (bf xf mf:Nat -> Nat),e=.returned (.tuple #[.pointer (some ⟨r,0,none⟩),.int .i64 0])/\NrAt w' r j s 0 0 cl (.slice none 0 0) 0/\w.heap.size<=j/\(∀ c,c < 4 -> ClNew w' r (cl c) c (bf c) (xf c) (mf c))/\(∀ c,c+1 < 4 -> bf c < mf (c+1)))/\Mod (fun k=>k=d \/ k=db \/ k=vb) w w':=by
 have hs:=hid (size_any w hA);have hn0:¬ (n:Int)=0:=by omega
 have hop:=hid (open_zero w hA hG hn hh);have hit:=hid (fun W=>isTime_any 0 (by decide) W);have hsn:=hid (fun W=>siteNew_any W);have hdl:=hid (show d < w.heap.size/\db < w.heap.size/\vb < w.heap.size from ⟨lt_of_at hA.at_,lt_of_at hA.dur.at_,lt_of_at hA.vis.at_⟩);replace hn:=hid hn;clear hA hG;go_enter Tryz.func32,Tryz.ntmps32;go_wp2_with fail
 refine hs.out.mono ?_;rintro e w1 ⟨rfl,rfl⟩;go_wp2_with fail
 refine (hit.out _).mono ?_;rintro e w1 ⟨rfl,rfl⟩;go_wp2_with fail
 refine hop.out.mono ?_;rintro e w1 ⟨⟨j,en,rfl,hJ1,hj⟩,hm1⟩;replace hJ1:=hid hJ1;replace hm1:=hid hm1;go_wp2_with fail
 refine (hsn.out _).mono ?_;rintro e w2 ⟨⟨s,sa,sb,sc,sd,sm,rfl,hS2,hsge⟩,hx2⟩;have hJ2:=hid (hx2.at hJ1.out (fun h=>h));have hm2:=hid (hm1.out.then hx2 (fun _ _ h=>h.elim));have hjs:j < s:=Nat.lt_of_lt_of_le (lt_of_at hJ1.out) hsge;replace hS2:=hid hS2;clear hx2;go_wp2_with (refine wpList_buildW rfl 134 _ rfl (nr0 j s) (by kernel_rfl) ?_)
 have hxA:=Mod.alloc (Mod.refl (fun _=>False) w2) (.cells (nr0 j s) 134);have hr:=hid (heap_alloc_new w2 (.cells (nr0 j s) 134));have hJ:=hid (hxA.at hJ2.out (fun h=>h));have hS:=hid (hxA.at hS2.out (fun h=>h));have hx:=hid (hm2.out.then hxA (fun _ _ h=>h.elim));have hsr:s < w2.heap.size:=lt_of_at hS2.out;have hwr:w.heap.size<=w2.heap.size:=hm2.out.size;have hrZ:w2.heap.size < (w2.alloc (.cells (nr0 j s) 134)).heap.size:=by simp
 have hN:=hid (nr0_V j s);clear hxA hJ1 hJ2 hm1 hm2 hS2 hsge;generalize w2.heap.size=r at hr hsr hwr hrZ ⊢;generalize w2.alloc (.cells (nr0 j s) 134)=Z0 at hr hJ hS hx hrZ ⊢;generalize nr0 j s=V0 at hr hN ⊢;refine wp_loop_rounds 5 ?_;rw [rounds_succ];go_upto_region 12 with fail
 try simp only [List.append_eq,List.cons_append,List.nil_append]
 refine wp_region_tree (.s (.q 0 (.q 1 (.q 2 (.q 4 (.q 5 (.c1 3 (.q 6 (.c1 7 .done))))))))) (by as_aux_lemma=>kernel_rfl) (by as_aux_lemma=>kernel_rfl) (by as_aux_lemma=>kernel_rfl) (by decide) ?_;have hv0:=hid (Mod.drew0 (Eq r) Z0);refine wpTr_s (fun Wx=>Cdk.Mod (Eq r) Z0 Wx) (fun _ _=>trivial) hv0.out ?_;generalize hWd:World.drew Z0=A0 at hv0 ⊢
 iterate 5 (refine wpTr_q _ (by simp only [List.getD_cons_succ,List.getD_cons_zero];rfl) (by rfl) ?_ (fun w' hC=>?_) ?_;rotate_left;(go_simp;try with_reducible rfl);try simp only [Act.put,sA,sZ,sS])
 refine wpTr_c1 _ (by simp only [List.getD_cons_succ,List.getD_cons_zero];rfl) ?_;refine wpN_c (by rfl) (fun K hK=>?_);go_simp;refine (newClass_any 0 A0).mono ?_;rintro e A1 ⟨⟨b0,x0,m0,rfl,hge,hlt0,hb,hm⟩,hxn⟩;have hge0:Z0.heap.size<=m0:=Nat.le_trans hv0.out.size hge;have hbl0:b0 < A1.heap.size:=lt_of_at hb;have hCall:(classV (.pointer (some ⟨b0,0,none⟩)) (.pointer (some ⟨x0,0,none⟩)) 0).toList.all (·.oneCell')=true:=class_all _ _ _;have hCs:(classV (.pointer (some ⟨b0,0,none⟩)) (.pointer (some ⟨x0,0,none⟩)) 0).size=71:=class_size _ _ _;obtain ⟨C0,hC0⟩:∃ C,C=classV (.pointer (some ⟨b0,0,none⟩)) (.pointer (some ⟨x0,0,none⟩)) 0:=⟨_,rfl⟩;rw [<- hC0] at hCall hCs ⊢;replace hC0:=hid hC0;have hv1:=hid (hv0.out.trans (hxn.mono (fun _ h=>h.elim)));have hr1:=hid (hxn.at ((hWd ▸ Mod.drew0 (fun _=>False) Z0:Ext Z0 A0).at hr.out (fun h=>h)) (fun h=>h));have hxx:=hid ((hWd ▸ Mod.drew0 (fun _=>False) Z0:Ext Z0 A0).trans hxn);refine hK.out _ _ hv1.out ?_;replace hb:=hid hb;replace hm:=hid hm;clear hxn hge;clear hK K;try simp only [Act.put,sA,sZ,sS]
 refine wpTr_q _ (by simp only [List.getD_cons_succ,List.getD_cons_zero];rfl) (by rfl) ?_ (fun w' hC=>?_) ?_;rotate_left;(go_simp;try with_reducible rfl);try simp only [Act.put,sA,sZ,sS]
 refine wpTr_c1 _ (by simp only [List.getD_cons_succ,List.getD_cons_zero];rfl) ?_;refine wpN_c (by rfl) (fun K hK=>?_);refine wp_storeM 129 _ _ rfl r 4 V0 (.agg C0) _ rfl rfl hr1.out (by have:=hN.out.size;show 4+C0.size<=_;omega) (by show _=some C0.size;rw [hCs];kernel_rfl) hCall (fun Z1 hr2 hmr=>?_);have hv2:=hv1.out.trans hmr;refine hK.out _ _ hv2 ?_;have hy2:Cdk.Mod (Eq r) A1 Z1:=hmr;have hN2:=hid (show NrV (putC V0 4 (Value.agg C0).cells) j s 0 0 _ _ _ from hN.out.put 0 (by decide) C0 hCs);clear hN;have hN:=hN2;clear hN2;replace hr:=hid hr2;have hxm:Cdk.Mod (Eq r) Z0 Z1:=(hxx.out.mono (fun _ h=>h.elim)).trans hmr;replace hJ:=hid (hxm.at hJ.out (by omega));replace hS:=hid (hxm.at hS.out (by omega));have hb0:=hid (hmr.at hb.out (by omega));have hm0:=hid (hm.out.mod hmr (by omega));have hnz:A1.heap.size<=Z1.heap.size:=hmr.size;replace hx:=hid (hx.out.then hxm (fun k hk e=>by omega));clear hxm hmr hr2 hb hm hCall hCs hv1 hr1 hxx hy2 hv2;generalize putC V0 4 (Value.agg C0).cells=V1 at*;clear hK K;try simp only [Act.put,sA,sZ,sS]
 refine wpTr_done ?_;clear hv0 hWd;go_wp2_with fail
 rw [rounds_succ];go_upto_region 12 with fail
 try simp only [List.append_eq,List.cons_append,List.nil_append]
 refine wp_region_tree (.s (.q 0 (.q 1 (.q 2 (.q 4 (.q 5 (.c1 3 (.q 6 (.c1 7 .done))))))))) (by as_aux_lemma=>kernel_rfl) (by as_aux_lemma=>kernel_rfl) (by as_aux_lemma=>kernel_rfl) (by decide) ?_;have hv0:=hid (Mod.drew0 (Eq r) Z1);refine wpTr_s (fun Wx=>Cdk.Mod (Eq r) Z1 Wx) (fun _ _=>trivial) hv0.out ?_;generalize hWd:World.drew Z1=B0 at hv0 ⊢
 iterate 5 (refine wpTr_q _ (by simp only [List.getD_cons_succ,List.getD_cons_zero];rfl) (by rfl) ?_ (fun w' hC=>?_) ?_;rotate_left;(go_simp;try with_reducible rfl);try simp only [Act.put,sA,sZ,sS])
 refine wpTr_c1 _ (by simp only [List.getD_cons_succ,List.getD_cons_zero];rfl) ?_;refine wpN_c (by rfl) (fun K hK=>?_);go_simp;refine (newClass_any 1 B0).mono ?_;rintro e B1 ⟨⟨b1,x1,m1,rfl,hge,hlt1,hb,hm⟩,hxn⟩;have hge1:Z1.heap.size<=m1:=Nat.le_trans hv0.out.size hge;have hbl1:b1 < B1.heap.size:=lt_of_at hb;have hCall:(classV (.pointer (some ⟨b1,0,none⟩)) (.pointer (some ⟨x1,0,none⟩)) 1).toList.all (·.oneCell')=true:=class_all _ _ _;have hCs:(classV (.pointer (some ⟨b1,0,none⟩)) (.pointer (some ⟨x1,0,none⟩)) 1).size=71:=class_size _ _ _;obtain ⟨C1,hC1⟩:∃ C,C=classV (.pointer (some ⟨b1,0,none⟩)) (.pointer (some ⟨x1,0,none⟩)) 1:=⟨_,rfl⟩;rw [<- hC1] at hCall hCs ⊢;replace hC1:=hid hC1;have hv1:=hid (hv0.out.trans (hxn.mono (fun _ h=>h.elim)));have hr1:=hid (hxn.at ((hWd ▸ Mod.drew0 (fun _=>False) Z1:Ext Z1 B0).at hr.out (fun h=>h)) (fun h=>h));have hxx:=hid ((hWd ▸ Mod.drew0 (fun _=>False) Z1:Ext Z1 B0).trans hxn);refine hK.out _ _ hv1.out ?_;replace hb:=hid hb;replace hm:=hid hm;clear hxn hge;clear hK K;try simp only [Act.put,sA,sZ,sS]
 refine wpTr_q _ (by simp only [List.getD_cons_succ,List.getD_cons_zero];rfl) (by rfl) ?_ (fun w' hC=>?_) ?_;rotate_left;(go_simp;try with_reducible rfl);try simp only [Act.put,sA,sZ,sS]
 refine wpTr_c1 _ (by simp only [List.getD_cons_succ,List.getD_cons_zero];rfl) ?_;refine wpN_c (by rfl) (fun K hK=>?_);refine wp_storeM 129 _ _ rfl r 75 V1 (.agg C1) _ rfl rfl hr1.out (by have:=hN.out.size;show 75+C1.size<=_;omega) (by show _=some C1.size;rw [hCs];kernel_rfl) hCall (fun Z2 hr2 hmr=>?_);have hv2:=hv1.out.trans hmr;refine hK.out _ _ hv2 ?_;have hy2:Cdk.Mod (Eq r) B1 Z2:=hmr;have hN2:=hid (show NrV (putC V1 75 (Value.agg C1).cells) j s 0 0 _ _ _ from hN.out.put 1 (by decide) C1 hCs);clear hN;have hN:=hN2;clear hN2;replace hr:=hid hr2;have hxm:Cdk.Mod (Eq r) Z1 Z2:=(hxx.out.mono (fun _ h=>h.elim)).trans hmr;replace hJ:=hid (hxm.at hJ.out (by omega));replace hS:=hid (hxm.at hS.out (by omega));have hb1:=hid (hmr.at hb.out (by omega));have hm1:=hid (hm.out.mod hmr (by omega));have hnz:B1.heap.size<=Z2.heap.size:=hmr.size;have hb0':=hid (hxm.at hb0.out (by omega));have hm0':=hid (hm0.out.mod hxm (by omega));clear hb0 hm0;have hb0:=hb0';have hm0:=hm0';clear hb0' hm0';replace hx:=hid (hx.out.then hxm (fun k hk e=>by omega));clear hxm hmr hr2 hb hm hCall hCs hv1 hr1 hxx hy2 hv2;generalize putC V1 75 (Value.agg C1).cells=V2 at*;clear hK K;try simp only [Act.put,sA,sZ,sS]
 refine wpTr_done ?_;clear hv0 hWd;go_wp2_with fail
 rw [rounds_succ];go_upto_region 12 with fail
 try simp only [List.append_eq,List.cons_append,List.nil_append]
 refine wp_region_tree (.s (.q 0 (.q 1 (.q 2 (.q 4 (.q 5 (.c1 3 (.q 6 (.c1 7 .done))))))))) (by as_aux_lemma=>kernel_rfl) (by as_aux_lemma=>kernel_rfl) (by as_aux_lemma=>kernel_rfl) (by decide) ?_;have hv0:=hid (Mod.drew0 (Eq r) Z2);refine wpTr_s (fun Wx=>Cdk.Mod (Eq r) Z2 Wx) (fun _ _=>trivial) hv0.out ?_;generalize hWd:World.drew Z2=E0 at hv0 ⊢
 iterate 5 (refine wpTr_q _ (by simp only [List.getD_cons_succ,List.getD_cons_zero];rfl) (by rfl) ?_ (fun w' hC=>?_) ?_;rotate_left;(go_simp;try with_reducible rfl);try simp only [Act.put,sA,sZ,sS])
 refine wpTr_c1 _ (by simp only [List.getD_cons_succ,List.getD_cons_zero];rfl) ?_;refine wpN_c (by rfl) (fun K hK=>?_);go_simp;refine (newClass_any 2 E0).mono ?_;rintro e E1 ⟨⟨b2,x2,m2,rfl,hge,hlt2,hb,hm⟩,hxn⟩;have hge2:Z2.heap.size<=m2:=Nat.le_trans hv0.out.size hge;have hbl2:b2 < E1.heap.size:=lt_of_at hb;have hCall:(classV (.pointer (some ⟨b2,0,none⟩)) (.pointer (some ⟨x2,0,none⟩)) 2).toList.all (·.oneCell')=true:=class_all _ _ _;have hCs:(classV (.pointer (some ⟨b2,0,none⟩)) (.pointer (some ⟨x2,0,none⟩)) 2).size=71:=class_size _ _ _;obtain ⟨C2,hC2⟩:∃ C,C=classV (.pointer (some ⟨b2,0,none⟩)) (.pointer (some ⟨x2,0,none⟩)) 2:=⟨_,rfl⟩;rw [<- hC2] at hCall hCs ⊢;replace hC2:=hid hC2;have hv1:=hid (hv0.out.trans (hxn.mono (fun _ h=>h.elim)));have hr1:=hid (hxn.at ((hWd ▸ Mod.drew0 (fun _=>False) Z2:Ext Z2 E0).at hr.out (fun h=>h)) (fun h=>h));have hxx:=hid ((hWd ▸ Mod.drew0 (fun _=>False) Z2:Ext Z2 E0).trans hxn);refine hK.out _ _ hv1.out ?_;replace hb:=hid hb;replace hm:=hid hm;clear hxn hge;clear hK K;try simp only [Act.put,sA,sZ,sS]
 refine wpTr_q _ (by simp only [List.getD_cons_succ,List.getD_cons_zero];rfl) (by rfl) ?_ (fun w' hC=>?_) ?_;rotate_left;(go_simp;try with_reducible rfl);try simp only [Act.put,sA,sZ,sS]
 refine wpTr_c1 _ (by simp only [List.getD_cons_succ,List.getD_cons_zero];rfl) ?_;refine wpN_c (by rfl) (fun K hK=>?_);refine wp_storeM 129 _ _ rfl r 146 V2 (.agg C2) _ rfl rfl hr1.out (by have:=hN.out.size;show 146+C2.size<=_;omega) (by show _=some C2.size;rw [hCs];kernel_rfl) hCall (fun Z3 hr2 hmr=>?_);have hv2:=hv1.out.trans hmr;refine hK.out _ _ hv2 ?_;have hy2:Cdk.Mod (Eq r) E1 Z3:=hmr;have hN2:=hid (show NrV (putC V2 146 (Value.agg C2).cells) j s 0 0 _ _ _ from hN.out.put 2 (by decide) C2 hCs);clear hN;have hN:=hN2;clear hN2;replace hr:=hid hr2;have hxm:Cdk.Mod (Eq r) Z2 Z3:=(hxx.out.mono (fun _ h=>h.elim)).trans hmr;replace hJ:=hid (hxm.at hJ.out (by omega));replace hS:=hid (hxm.at hS.out (by omega));have hb2:=hid (hmr.at hb.out (by omega));have hm2:=hid (hm.out.mod hmr (by omega));have hnz:E1.heap.size<=Z3.heap.size:=hmr.size;have hb0':=hid (hxm.at hb0.out (by omega));have hm0':=hid (hm0.out.mod hxm (by omega));clear hb0 hm0;have hb0:=hb0';have hm0:=hm0';clear hb0' hm0';have hb1':=hid (hxm.at hb1.out (by omega));have hm1':=hid (hm1.out.mod hxm (by omega));clear hb1 hm1;have hb1:=hb1';have hm1:=hm1';clear hb1' hm1';replace hx:=hid (hx.out.then hxm (fun k hk e=>by omega));clear hxm hmr hr2 hb hm hCall hCs hv1 hr1 hxx hy2 hv2;generalize putC V2 146 (Value.agg C2).cells=V3 at*;clear hK K;try simp only [Act.put,sA,sZ,sS]
 refine wpTr_done ?_;clear hv0 hWd;go_wp2_with fail
 rw [rounds_succ];go_upto_region 12 with fail
 try simp only [List.append_eq,List.cons_append,List.nil_append]
 refine wp_region_tree (.s (.q 0 (.q 1 (.q 2 (.q 4 (.q 5 (.c1 3 (.q 6 (.c1 7 .done))))))))) (by as_aux_lemma=>kernel_rfl) (by as_aux_lemma=>kernel_rfl) (by as_aux_lemma=>kernel_rfl) (by decide) ?_;have hv0:=hid (Mod.drew0 (Eq r) Z3);refine wpTr_s (fun Wx=>Cdk.Mod (Eq r) Z3 Wx) (fun _ _=>trivial) hv0.out ?_;generalize hWd:World.drew Z3=D0 at hv0 ⊢
 iterate 5 (refine wpTr_q _ (by simp only [List.getD_cons_succ,List.getD_cons_zero];rfl) (by rfl) ?_ (fun w' hC=>?_) ?_;rotate_left;(go_simp;try with_reducible rfl);try simp only [Act.put,sA,sZ,sS])
 refine wpTr_c1 _ (by simp only [List.getD_cons_succ,List.getD_cons_zero];rfl) ?_;refine wpN_c (by rfl) (fun K hK=>?_);go_simp;refine (newClass_any 3 D0).mono ?_;rintro e D1 ⟨⟨b3,x3,m3,rfl,hge,hlt3,hb,hm⟩,hxn⟩;have hge3:Z3.heap.size<=m3:=Nat.le_trans hv0.out.size hge;have hbl3:b3 < D1.heap.size:=lt_of_at hb;have hCall:(classV (.pointer (some ⟨b3,0,none⟩)) (.pointer (some ⟨x3,0,none⟩)) 3).toList.all (·.oneCell')=true:=class_all _ _ _;have hCs:(classV (.pointer (some ⟨b3,0,none⟩)) (.pointer (some ⟨x3,0,none⟩)) 3).size=71:=class_size _ _ _;obtain ⟨C3,hC3⟩:∃ C,C=classV (.pointer (some ⟨b3,0,none⟩)) (.pointer (some ⟨x3,0,none⟩)) 3:=⟨_,rfl⟩;rw [<- hC3] at hCall hCs ⊢;replace hC3:=hid hC3;have hv1:=hid (hv0.out.trans (hxn.mono (fun _ h=>h.elim)));have hr1:=hid (hxn.at ((hWd ▸ Mod.drew0 (fun _=>False) Z3:Ext Z3 D0).at hr.out (fun h=>h)) (fun h=>h));have hxx:=hid ((hWd ▸ Mod.drew0 (fun _=>False) Z3:Ext Z3 D0).trans hxn);refine hK.out _ _ hv1.out ?_;replace hb:=hid hb;replace hm:=hid hm;clear hxn hge;clear hK K;try simp only [Act.put,sA,sZ,sS]
 refine wpTr_q _ (by simp only [List.getD_cons_succ,List.getD_cons_zero];rfl) (by rfl) ?_ (fun w' hC=>?_) ?_;rotate_left;(go_simp;try with_reducible rfl);try simp only [Act.put,sA,sZ,sS]
 refine wpTr_c1 _ (by simp only [List.getD_cons_succ,List.getD_cons_zero];rfl) ?_;refine wpN_c (by rfl) (fun K hK=>?_);refine wp_storeM 129 _ _ rfl r 217 V3 (.agg C3) _ rfl rfl hr1.out (by have:=hN.out.size;show 217+C3.size<=_;omega) (by show _=some C3.size;rw [hCs];kernel_rfl) hCall (fun Z4 hr2 hmr=>?_);have hv2:=hv1.out.trans hmr;refine hK.out _ _ hv2 ?_;have hy2:Cdk.Mod (Eq r) D1 Z4:=hmr;have hN2:=hid (show NrV (putC V3 217 (Value.agg C3).cells) j s 0 0 _ _ _ from hN.out.put 3 (by decide) C3 hCs);clear hN;have hN:=hN2;clear hN2;replace hr:=hid hr2;have hxm:Cdk.Mod (Eq r) Z3 Z4:=(hxx.out.mono (fun _ h=>h.elim)).trans hmr;replace hJ:=hid (hxm.at hJ.out (by omega));replace hS:=hid (hxm.at hS.out (by omega));have hb3:=hid (hmr.at hb.out (by omega));have hm3:=hid (hm.out.mod hmr (by omega));have hnz:D1.heap.size<=Z4.heap.size:=hmr.size;have hb0':=hid (hxm.at hb0.out (by omega));have hm0':=hid (hm0.out.mod hxm (by omega));clear hb0 hm0;have hb0:=hb0';have hm0:=hm0';clear hb0' hm0';have hb1':=hid (hxm.at hb1.out (by omega));have hm1':=hid (hm1.out.mod hxm (by omega));clear hb1 hm1;have hb1:=hb1';have hm1:=hm1';clear hb1' hm1';have hb2':=hid (hxm.at hb2.out (by omega));have hm2':=hid (hm2.out.mod hxm (by omega));clear hb2 hm2;have hb2:=hb2';have hm2:=hm2';clear hb2' hm2';replace hx:=hid (hx.out.then hxm (fun k hk e=>by omega));clear hxm hmr hr2 hb hm hCall hCs hv1 hr1 hxx hy2 hv2;generalize putC V3 217 (Value.agg C3).cells=V4 at*;clear hK K;try simp only [Act.put,sA,sZ,sS]
 refine wpTr_done ?_;clear hv0 hWd;go_wp2_with fail
 rw [rounds_succ];go_wp2_with fail
 refine (facts_nil Z4 hJ.out).mono ?_;rintro e w5 ⟨rfl,rfl⟩;go_wp2_with fail
 go_loopg [11,12,13,62] 9 (fun g s11 s12 s13 i wr=>∃ p:Nat,p+g=9/\i=.int .i64 p/\Ext Z4 wr)
 case atStart=>exact ⟨0,by omega,rfl,Mod.refl _ _⟩
 case round=>
  obtain ⟨p,hp,rfl,hxr⟩:=hrel;replace hp:=hid hp;replace hxr:=hid hxr
  by_cases hlt:p < 9
  ·have hdi:(p:Int) < 9:=by omega
   have hd:decide ((p:Int) < 9)=true:=decide_eq_true hdi;go_wp2_with fail
   refine (admission_nil (p:Int) wr).mono ?_;rintro e w6 ⟨rfl,hxn⟩;have hx7:=hid ((hxr.out.trans hxn).alloc (.cells #[.int .i64 0,.int .i64 0] 138));clear hxn;go_wp2_with fail
   go_roundg (gk - 1)
   case measure=>have:=hp.out;omega
   case rel=>exact ⟨p+1,by have:=hp.out;omega,by go_num,hx7.out⟩
  ·obtain rfl:p=9:=by have:=hp.out;omega
   have hd:decide ((((9:Nat):Int)) < 9)=false:=by decide
   go_wp2_with fail
   go_ret2
   have hX:=hxr.out;refine ⟨⟨r,j,s,_,fun c=>match c with | 0=>b0 | 1=>b1 | 2=>b2 | _=>b3,fun c=>match c with | 0=>x0 | 1=>x1 | 2=>x2 | _=>x3,fun c=>match c with | 0=>m0 | 1=>m1 | 2=>m2 | _=>m3,rfl,⟨⟨V4,hX.at hr.out (fun h=>h),hN.out⟩,⟨_,_,_,hX.at hJ.out (fun h=>h)⟩,⟨_,_,_,_,_,hX.at hS.out (fun h=>h)⟩,hjs,hsr⟩,hj,fun c hc=>?_,fun c hc=>?_⟩,(hx.out.then hX (fun _ _ h=>h.elim))⟩
   ·match c,hc with
    | 0,_=>exact ⟨hC0.out,hX.at hb0.out (fun h=>h),hm0.out.mod hX (fun h=>h),by show r < m0;omega,hlt0⟩
    | 1,_=>exact ⟨hC1.out,hX.at hb1.out (fun h=>h),hm1.out.mod hX (fun h=>h),by show r < m1;omega,hlt1⟩
    | 2,_=>exact ⟨hC2.out,hX.at hb2.out (fun h=>h),hm2.out.mod hX (fun h=>h),by show r < m2;omega,hlt2⟩
    | 3,_=>exact ⟨hC3.out,hX.at hb3.out (fun h=>h),hm3.out.mod hX (fun h=>h),by show r < m3;omega,hlt3⟩
   ·match c,hc with
    | 0,_=>show b0 < m1;omega
    | 1,_=>show b1 < m2;omega
    | 2,_=>show b2 < m3;omega
end Go.Proofs.YtcopgcdhkgenkaaGreatDoor
