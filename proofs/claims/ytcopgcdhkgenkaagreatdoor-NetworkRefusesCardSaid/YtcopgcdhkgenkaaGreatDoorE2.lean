import Derived.Test.YtcopgcdhkgenkaaGreatDoorQ2
set_option linter.all false
set_option maxRecDepth 100000
set_option maxHeartbeats 16000000
namespace Go.Proofs.YtcopgcdhkgenkaaGreatDoor
open Go.Shelf Go.RowKit Cdk Scr Nt
def dueL (t:Int) (y:Lt):Bool:=!y.he && decide (y.du<=t)
theorem filter_lt (t:Int) (q:List PLt):(q.map PLt.lt).filter (dueL t)=(q.filter (Nt.due t)).map PLt.lt:=by
 rw [List.filter_map];rfl
theorem filter_nlt (t:Int) (q:List PLt):((q.map PLt.lt).filter fun y=>!dueL t y)=(q.filter fun l=>!Nt.due t l).map PLt.lt:=by
 rw [List.filter_map];rfl
theorem isDue_any (y:Lt) (P b:Nat) (t:Int) (w:World) (hp:w.cell? ⟨P,0,none⟩=some (.pointer (some ⟨b,0,none⟩))) (hb:w.cell? ⟨b,0,none⟩=some (.int .i64 t)):
  Calls Tryz.prog 36 #[.agg (ltC y).toArray,.pointer (some ⟨P,0,none⟩)] w fun e w'=>e=.returned (.bool (dueL t y))/\Ext w w':=by
 obtain ⟨tx,rc,du,he,se⟩:=y;obtain ⟨T,hTe⟩:∃ T,T=w.heap.size:=⟨_,rfl⟩;have hT0:=heap_alloc_new w (.cells (ltC ⟨tx,rc,du,he,se⟩).toArray 82);have hx0:=Mod.alloc (Mod.refl (fun _=>False) w) (.cells (ltC ⟨tx,rc,du,he,se⟩).toArray 82);have dp:=hid (hx0.cell hp (fun h=>h));have db:=hid (hx0.cell hb (fun h=>h));rw [<- hTe] at hT0;have d2:=hid (cellN hT0 2);have d3:=hid (cellN hT0 3);have hx1:=hid hx0;replace hTe:=hid hTe;clear hT0 hx0 hp hb;unfold ltC strV at*;cases he with
 | false=>
  have hd:dueL t ⟨tx,rc,du,false,se⟩=decide (du<=t):=rfl;rw [hd];obtain ⟨D,hD⟩:∃ D,D=decide (du<=t):=⟨_,rfl⟩;have hD':decide (du<=t)=D:=hD.symm;rw [<- hD];replace hD:=hid hD;go_enter Tryz.func36,Tryz.ntmps36;go_upto_region 1 with fail
  rw [<- hTe.out];generalize w.alloc (.cells _ 82)=w1 at dp db d2 d3 hx1 ⊢;go_upto_region 1 with fail
  try simp only [List.append_eq,List.cons_append,List.nil_append]
  refine wp_region_sched (fun Wx=>Ext w1 Wx) [(0,true),(1,true),(2,true),(3,true),(4,true),(5,true),(6,true),(7,true),(8,true),(9,true),(10,true),(11,true),(12,true),(13,true)]
   (by as_aux_lemma=>kernel_rfl) (by as_aux_lemma=>kernel_rfl) (by as_aux_lemma=>kernel_rfl) (by decide) (Mod.drew0 (fun _=>False) w1) ?_
  simp only [schedOps,List.map_cons,List.map_nil,List.getD_cons_zero,List.getD_cons_succ]
  iterate 4 (refine wpS_q (by rfl) ?_ (fun w' hC=>?_) ?_;rotate_left;(have q_0:w'.cell? ⟨T,3,none⟩=some (.bool false):=hC.cell d3.out (fun h=>h);have q_2:w'.cell? ⟨T,2,none⟩=some (.int .i64 du):=hC.cell d2.out (fun h=>h);have q_p:w'.cell? ⟨P,0,none⟩=some (.pointer (some ⟨b,0,none⟩)):=hC.cell dp.out (fun h=>h);have q_t:w'.cell? ⟨b,0,none⟩=some (.int .i64 t):=hC.cell db.out (fun h=>h);go_simp;first | done | with_reducible rfl | exact rfl);try simp only [Act.put,sA,sZ,sS])
  iterate 8 (refine wpS_q (by rfl) ?_ (fun w' hC=>?_) ?_;rotate_left;(have q_0:w'.cell? ⟨T,3,none⟩=some (.bool false):=hC.cell d3.out (fun h=>h);have q_2:w'.cell? ⟨T,2,none⟩=some (.int .i64 du):=hC.cell d2.out (fun h=>h);have q_p:w'.cell? ⟨P,0,none⟩=some (.pointer (some ⟨b,0,none⟩)):=hC.cell dp.out (fun h=>h);have q_t:w'.cell? ⟨b,0,none⟩=some (.int .i64 t):=hC.cell db.out (fun h=>h);go_simp;first | done | with_reducible rfl | exact rfl);try simp only [Act.put,sA,sZ,sS])
  iterate 2 (refine wpS_q (by rfl) ?_ (fun w' hC=>?_) ?_;rotate_left;(have q_0:w'.cell? ⟨T,3,none⟩=some (.bool false):=hC.cell d3.out (fun h=>h);have q_2:w'.cell? ⟨T,2,none⟩=some (.int .i64 du):=hC.cell d2.out (fun h=>h);have q_p:w'.cell? ⟨P,0,none⟩=some (.pointer (some ⟨b,0,none⟩)):=hC.cell dp.out (fun h=>h);have q_t:w'.cell? ⟨b,0,none⟩=some (.int .i64 t):=hC.cell db.out (fun h=>h);go_simp;first | done | with_reducible rfl | exact rfl);try simp only [Act.put,sA,sZ,sS])
  refine wpS_nil ?_;go_wp2_with fail
  go_ret;exact ⟨rfl,hx1.out.drew⟩
 | true=>
  have hd:dueL t ⟨tx,rc,du,true,se⟩=false:=rfl;rw [hd];go_enter Tryz.func36,Tryz.ntmps36;go_upto_region 1 with fail
  rw [<- hTe.out];generalize w.alloc (.cells _ 82)=w1 at dp db d2 d3 hx1 ⊢;go_upto_region 1 with fail
  try simp only [List.append_eq,List.cons_append,List.nil_append]
  refine wp_region_sched (fun Wx=>Ext w1 Wx) [(0,true),(1,true),(2,true),(3,true),(4,true),(5,true),(6,true),(7,true),(8,true),(9,true),(10,true),(11,true),(12,true),(13,true)]
   (by as_aux_lemma=>kernel_rfl) (by as_aux_lemma=>kernel_rfl) (by as_aux_lemma=>kernel_rfl) (by decide) (Mod.drew0 (fun _=>False) w1) ?_
  simp only [schedOps,List.map_cons,List.map_nil,List.getD_cons_zero,List.getD_cons_succ]
  iterate 4 (refine wpS_q (by rfl) ?_ (fun w' hC=>?_) ?_;rotate_left;(have q_0:w'.cell? ⟨T,3,none⟩=some (.bool true):=hC.cell d3.out (fun h=>h);have q_2:w'.cell? ⟨T,2,none⟩=some (.int .i64 du):=hC.cell d2.out (fun h=>h);have q_p:w'.cell? ⟨P,0,none⟩=some (.pointer (some ⟨b,0,none⟩)):=hC.cell dp.out (fun h=>h);have q_t:w'.cell? ⟨b,0,none⟩=some (.int .i64 t):=hC.cell db.out (fun h=>h);go_simp;first | done | with_reducible rfl | exact rfl);try simp only [Act.put,sA,sZ,sS])
  iterate 8 (refine nT ?_)
  iterate 2 (refine wpS_q (by rfl) ?_ (fun w' hC=>?_) ?_;rotate_left;(have q_0:w'.cell? ⟨T,3,none⟩=some (.bool true):=hC.cell d3.out (fun h=>h);have q_2:w'.cell? ⟨T,2,none⟩=some (.int .i64 du):=hC.cell d2.out (fun h=>h);have q_p:w'.cell? ⟨P,0,none⟩=some (.pointer (some ⟨b,0,none⟩)):=hC.cell dp.out (fun h=>h);have q_t:w'.cell? ⟨b,0,none⟩=some (.int .i64 t):=hC.cell db.out (fun h=>h);go_simp;first | done | with_reducible rfl | exact rfl);try simp only [Act.put,sA,sZ,sS])
  refine wpS_nil ?_;go_wp2_with fail
  go_ret;exact ⟨rfl,hx1.out.drew⟩
def NrTickSpec:Prop:=∀ (U m:Nat) (w:World) (r:Nat) (tk x:Int),Gl w -> 12<=U -> m<=w.heap.size -> RoomAt U m w r tk -> (0<=x/\x<=1000000000) -> (0<=tk/\tk<=1000000) →
 Calls Tryz.prog 38 #[.pointer (some ⟨r,0,none⟩),.int .i64 x] w fun e w'=>e=.returned (.int .i64 0)/\RoomAt U m w' r (tk+1)/\Mod (fun k=>U<=k/\k < m) w w'
theorem netQ_tick {tk:Int} {U Z b:Nat} {n:Ns} {qa:Value} {w:World} (hN:NetQ U Z tk w b n qa):∃ (r m:Nat),w.cell? ⟨b,3,none⟩=some (.pointer (some ⟨r,0,none⟩))/\w.cell? ⟨b,1,none⟩=some (.int .i64 n.c)/\RoomAt U m w r tk/\(m < b/\U<=m/\m<=w.heap.size/\b < w.heap.size/\b < Z)/\n.good ∧
  (∀ w' tk',RoomAt U m w' r tk' -> Mod (fun k=>U<=k/\k < m) w w' -> NetQ U Z tk' w' b n qa):=by
 obtain ⟨d,r,m,f0,f1,fa,pf,lo,h1,h2,hb,h4,h5,h6,h7,h8⟩:=hN;have hqb:=fun k e=>(h7.block k e).1
 have hbl:=lt_of_at h1;refine ⟨r,m,cellN h1 3,cellN h1 1,h2,⟨by omega,by omega,by omega,hbl,by omega⟩,h8,fun w' tk' k1 k3=>?_⟩;have hz:=k3.size;exact ⟨d,r,m,f0,f1,fa,pf,lo,k3.at h1 (by omega),k1,⟨hb.1,hb.2.1,hb.2.2.1,hb.2.2.2.1,hb.2.2.2.2.1,hb.2.2.2.2.2.1,by omega⟩,h4.mod k3 (by omega) (fun q a c e=>by have:=h4.base;omega),h5.mod k3 (fun k hk e=>by omega),h6,h7.mod k3 (fun k hk e=>by have:=hqb k hk;omega),h8⟩
theorem delivP_s (n:Ns) (l:PLt) (h:n.good):(delivP n l).s<=n.s+2:=by
 unfold delivP;split
 ·unfold sendP recvN
  simp only;have hl:(unheld n.t l.se n.q).length<=1024:=by unfold unheld;rw [List.length_map];exact h.ql
  split
  ·exact Nat.le_trans (addP_len _ _ _ hl).2 (Nat.add_le_add_left (fatedP_len _ _) _)
  ·exact Nat.le_trans (addP_len _ _ _ hl).2 (Nat.add_le_add_left (fatedP_len _ _) _)
 ·exact Nat.le_add_right _ _
theorem foldl_s:∀ (ls:List PLt) (n:Ns),n.good -> (∀ l ∈ ls,l.ok) -> (ls.foldl delivP n).s<=n.s+2*ls.length
 | [],n,_,_=>Nat.le_refl _
 | l::r,n,h,hl=>by
  have h1:=delivP_s n l h;have h2:=foldl_s r (delivP n l) (delivP_good h (hl l (List.mem_cons_self ..))) (fun x hx=>hl x (List.mem_cons_of_mem _ hx));rw [List.foldl_cons,List.length_cons];omega
theorem tickP_s {n:Ns} (h:n.good):(tickP n).s<=n.s+2048:=by
 have:=foldl_s (n.q.filter (Nt.due (n.t+1))) _ (tick0_good h) (fun l hl=>h.q l (List.mem_filter.1 hl).1);have hl:=Nat.le_trans (List.length_filter_le (Nt.due (n.t+1)) n.q) h.ql;unfold tickP;simp only at this;omega
theorem BusyAt.ext {w w':World} {lo b M:Nat} (h:BusyAt w lo b M) (hx:Ext w w'):BusyAt w' lo b M:=by
 obtain ⟨J,k,rb,ro,rc,st,b1,b2,h1,h2,h3,h4,h5,h6,h7⟩:=h;exact ⟨J,k,rb,ro,rc,st,b1,b2,hx.at h1 (fun h=>h),hx.at h2 (fun h=>h),h3.mod hx (fun h=>h),hx.cell h4 (fun h=>h),hx.cell h5 (fun h=>h),hx.at h6 (fun h=>h),h7⟩
theorem NrV.setCls {V:Array Value} {j s:Nat} {now tick:Int} {cl:Nat -> Array Value} {out:Value} {built:Int} (h:NrV V j s now tick cl out built) {c i:Nat} (hc:c < 4) (hi:i < 71) (v:Value) {o:Nat} (ho:o=4+c*71+i):
  ∃ cl',NrV (V.setIfInBounds o v) j s now tick cl' out built/\cl' c=(cl c).setIfInBounds i v/\∀ k,k ≠ c -> cl' k=cl k:=by
 subst ho;refine ⟨fun k=>if k=c then (cl c).setIfInBounds i v else cl k,⟨by rw [Array.size_setIfInBounds];exact h.size,(set_ne _ (by omega)).trans h.c0,(set_ne _ (by omega)).trans h.c1,(set_ne _ (by omega)).trans h.c2,(set_ne _ (by omega)).trans h.c3,fun k hk=>?_,fun k hk=>(set_ne _ (by omega)).trans (h.sen k hk),(set_ne _ (by omega)).trans h.out,(set_ne _ (by omega)).trans h.built⟩,by simp,fun k hk=>by simp [hk]⟩
 by_cases e:k=c
 ·subst e
  simp only [if_true];refine ⟨by rw [Array.size_setIfInBounds];exact (h.cls k hk).1,fun q hq=>?_⟩
  by_cases e2:q=i
  ·subst e2
   rw [show 4+71*k+q=4+k*71+q by omega,set_self _ (by rw [h.size];omega),set_self _ (by rw [(h.cls k hk).1];exact hi)]
  ·rw [set_ne _ (by omega),set_ne _ (fun e=>e2 e.symm)]
   exact (h.cls k hk).2 q hq
 ·simp only [if_neg e]
  refine ⟨(h.cls k hk).1,fun q hq=>?_⟩;rw [set_ne _ (by omega)];exact (h.cls k hk).2 q hq
theorem NrV.get {V:Array Value} {j s:Nat} {now tick:Int} {cl:Nat -> Array Value} {out:Value} {built:Int} (h:NrV V j s now tick cl out built) {c i:Nat} (hc:c < 4) (hi:i < 71):V[4+c*71+i]?=(cl c)[i]?:=by
 have:=(h.cls c hc).2 i hi;rw [<- this,Nat.mul_comm c 71]
theorem classV_get (b x:Option Addr) (n:Int):(classV (.pointer b) (.pointer x) n)[0]?=some (.pointer b)/\(classV (.pointer b) (.pointer x) n)[1]?=some (.pointer x)/\(∃ v,(classV (.pointer b) (.pointer x) n)[2]?=some v)/\(classV (.pointer b) (.pointer x) n)[3]?=some (.bool false)/\(classV (.pointer b) (.pointer x) n)[4]?=some (.bool false)/\(classV (.pointer b) (.pointer x) n)[70]?=some (.int .i64 n):=by
 refine ⟨by kernel_rfl,by kernel_rfl,⟨.slice none 0 0,by kernel_rfl⟩,by kernel_rfl,by kernel_rfl,by kernel_rfl⟩
theorem cls_order {bf mf:Nat -> Nat} (h1:∀ c,c < 4 -> mf c < bf c) (h2:∀ c,c+1 < 4 -> bf c < mf (c+1)):∀ c d,c < d -> d < 4 -> bf c < mf d:=by
 intro c d hcd hd;have g1:=h1 1 (by decide);have g2:=h1 2 (by decide);have b0:=h2 0 (by decide);have b1:=h2 1 (by decide);have b2:=h2 2 (by decide);have b0:bf 0 < mf 1:=b0;have b1:bf 1 < mf 2:=b1;have b2:bf 2 < mf 3:=b2
 match c,d,hd with
 | 0,1,_=>exact b0
 | 0,2,_=>omega
 | 0,3,_=>omega
 | 1,2,_=>exact b1
 | 1,3,_=>omega
 | 2,3,_=>exact b2
 | 0,0,_=>omega
 | 1,0,_=>omega
 | 1,1,_=>omega
 | 2,0,_=>omega
 | 2,1,_=>omega
 | 2,2,_=>omega
 | 3,d,_=>omega
 | c+4,d,_=>omega
 | _,d+4,hd=>omega
theorem pages_two (x y:Value):upd (upd ([]:List (ByteArray × Value)) (adrS 1) x) (adrS 6) y=[(adrS 1,x),(adrS 6,y)]:=by
 have h1:assoc ([(adrS 1,x)]:List (ByteArray × Value)) (adrS 6)=none:=by
  have:(adrS 1) ≠ (adrS 6):=by decide
  simp [assoc,this]
 have h0:upd ([]:List (ByteArray × Value)) (adrS 1) x=[(adrS 1,x)]:=rfl;rw [h0];unfold upd;rw [h1]
 rfl
open Go.RowKit Cdk
theorem zero_u65:Tryz.zeroCells366=Array.replicate 65 (.int .u64 0):=by kernel_rfl
theorem zero_dig:Tryz.zeroCells365=(Value.slice none 0 0::(List.replicate 130 (Value.bool false)++((List.replicate 65 [Value.int .i64 0,.slice none 0 0,.int .i64 0,.int .i64 0]).flatten++(List.replicate 65 (Value.int .i64 0)++[Value.map none])))).toArray:=by kernel_rfl
theorem ones_zero (w:World):Calls Tryz.prog 166 #[.int .u64 0] w fun e w'=>e=.returned (.int .i64 0)/\w=w':=by
 have b1:bits .and .u64 0 6148914691236517205=0:=by kernel_rfl
 have b2:bits .and .u64 0 3689348814741910323=0:=by kernel_rfl
 have b3:bits .and .u64 0 1085102592571150095=0:=by kernel_rfl
 have b4:bits .and .u64 0 127=0:=by kernel_rfl
 have b0:IntKind.u64.wrap 0=0:=by kernel_rfl
 have b5:IntKind.i64.wrap 0=0:=by kernel_rfl
 have h64:∀ W:World,Calls Tryz.prog 239 #[.int .u64 0] W fun e w'=>e=.returned (.int .i64 0)/\W=w':=fun W=>by
  go_enter Tryz.func239,Tryz.ntmps239;go_wp2_with fail
  go_ret;exact ⟨rfl,rfl⟩
 have h:=hid (h64 w);go_enter Tryz.func166,Tryz.ntmps166;go_wp2_with fail
 refine h.out.mono ?_;rintro e w1 ⟨rfl,rfl⟩;go_wp2_with fail
 go_ret;exact ⟨rfl,rfl⟩
theorem valid_any (ao:Option Addr) (n cap:Nat) (w:World):Calls Tryz.prog 165 #[.slice ao n cap] w fun e w'=>e=.returned (.func (.func 237) #[] #[.pointer (some ⟨w.heap.size,0,none⟩)])/\w'=w.alloc (.cells #[.slice ao n cap] 124):=by
 go_enter Tryz.func165,Tryz.ntmps165;go_wp2_with fail
 go_ret;exact ⟨rfl,rfl⟩
theorem valid_in (n l Bz:Nat) (ao:Option Addr) (cap:Nat) (W:World) (hz:W.cell? ⟨Bz,0,none⟩=some (.slice ao 0 cap)):
  CallsIn Fence.wide n Tryz.prog 237 #[.func (.yield l) #[] #[],.pointer (some ⟨Bz,0,none⟩)] W fun e W'=>(∃ v,e=.returned v)/\Ext W W':=by
 refine callsIn_wide.2 ?_;go_enter Tryz.func237,Tryz.ntmps237;go_wp2_with fail
 refine wp_loop_rounds 1 ?_;rw [rounds_succ];go_wp2_with fail
 go_end0
 exact ⟨⟨_,rfl⟩,Mod.refl _ _⟩
structure DigV (V:Array Value):Prop where
 facts:V[0]?=some (.slice none 0 0)
 pub:∀ i:Nat,i < 65 -> V[1+i]?=some (.bool false)
 app:∀ i:Nat,i < 65 -> V[391+i]?=some (.int .i64 0)
theorem digV_all (m:Nat):DigV (Tryz.zeroCells365.setIfInBounds 456 (.map (some m))) where
 facts:=by rw [Array.getElem?_setIfInBounds_ne (by omega),zero_dig,List.getElem?_toArray];rfl
 pub:=fun i hi=>by
  rw [Array.getElem?_setIfInBounds_ne (by omega),zero_dig,List.getElem?_toArray,Nat.add_comm 1 i,List.getElem?_cons_succ,List.getElem?_append_left (by rw [List.length_replicate];omega),List.getElem?_replicate,if_pos (by omega)]
 app:=fun i hi=>by
  have hl:(List.replicate 65 [Value.int .i64 0,.slice none 0 0,.int .i64 0,.int .i64 0]).flatten.length=260:=by rw [List.length_flatten];rfl
  rw [Array.getElem?_setIfInBounds_ne (by omega),zero_dig,List.getElem?_toArray,show 391+i=(390+i)+1 by omega,List.getElem?_cons_succ,List.getElem?_append_right (by rw [List.length_replicate];omega),List.length_replicate,
   List.getElem?_append_right (by rw [hl];omega),hl,List.getElem?_append_left (by rw [List.length_replicate];omega),List.getElem?_replicate,if_pos (by omega)]
theorem set_same {V:Array Value} {i:Nat} {v:Value} (h:V[i]?=some v):V.setIfInBounds i v=V:=by
 apply Array.ext_getElem?;intro j
 by_cases hj:i=j
 ·subst hj;rw [Array.getElem?_setIfInBounds_self,if_pos (Array.getElem?_eq_some_iff.1 h).1,h]
 ·rw [Array.getElem?_setIfInBounds_ne hj]
theorem read_any (ao:Option Addr) (cap:Nat) (w:World):Calls Tryz.prog 114 #[.slice ao 0 cap] w fun e w'=>(∃ D,e=.returned (.pointer (some ⟨D,0,none⟩))/\w.heap.size<=D/\∃ V,w'.heap[D]?=some (.cells V 365 (0,0))/\DigV V)/\Ext w w':=by
 have hmm:=@run_makeMap Tryz.prog;refine (callsIn_wide (n:=3)).1 ?_;refine callsIn_of_wp_marks Tryz.func114 rfl trivial ?_ rfl;simp only [Tryz.ntmps114,List.size_toArray,List.length_cons,List.length_nil,Nat.reduceAdd,Nat.reduceSub,Array.replicate_succ,Array.replicate_zero,List.push_toArray,List.append_toArray,List.nil_append,List.cons_append];refine (wpIn_wide (n:=3)).2 ?_;go_wp2_with fail
 refine (valid_any ao 0 cap _).mono ?_;rintro e w1 ⟨rfl,rfl⟩;have hx:=allocs_ext (S:=fun _=>False) [.map #[] 0,.cells (Tryz.zeroCells365.setIfInBounds 456 (.map (some w.heap.size))) 365,.cells #[.pointer (some ⟨w.heap.size+1,0,none⟩)] 237,.cells Tryz.zeroCells366 366,.cells #[.slice ao 0 cap] 124] w;have hg:=allocs_get [.map #[] 0,.cells (Tryz.zeroCells365.setIfInBounds 456 (.map (some w.heap.size))) 365,.cells #[.pointer (some ⟨w.heap.size+1,0,none⟩)] 237,.cells Tryz.zeroCells366 366,.cells #[.slice ao 0 cap] 124] w;have hz:=allocs_size [.map #[] 0,.cells (Tryz.zeroCells365.setIfInBounds 456 (.map (some w.heap.size))) 365,.cells #[.pointer (some ⟨w.heap.size+1,0,none⟩)] 237,.cells Tryz.zeroCells366 366,.cells #[.slice ao 0 cap] 124] w;have hV:=digV_all w.heap.size;generalize (Tryz.zeroCells365.setIfInBounds 456 (.map (some w.heap.size)))=V at hx hg hz hV ⊢;have b1:=hg 1 (by simp);have b2:=hg 2 (by simp);have b3:=hg 3 (by simp);have b4:=hg 4 (by simp);simp only [allocs,List.length_cons,List.length_nil] at hx hz b1 b2 b3 b4;clear hg;try simp only [World.size_alloc]
 generalize hN:w.heap.size=N at hx hz b1 b2 b3 b4 ⊢;have hNle:w.heap.size<=N:=Nat.le_of_eq hN;generalize (((((w.alloc (Obj.map #[] 0)).alloc (Obj.cells V 365)).alloc (Obj.cells #[Value.pointer (some ⟨N+1,0,none⟩)] 237)).alloc (Obj.cells Tryz.zeroCells366 366)).alloc (Obj.cells #[.slice ao 0 cap] 124))=w2 at hx hz b1 b2 b3 b4 ⊢;replace hN:=hid hN;replace hx:=hid hx;go_wp2_with fail
 refine (wpIn_wide (n:=3)).1 ?_;refine wpIn_rangeFunc_none (F:=Fence.wide) rfl (by omega) (gf:=237) (lb:=#[.pointer (some ⟨N+1+1+1+1,0,none⟩)]) rfl trivial (enters_of Tryz.func237 (by kernel_rfl) rfl)
  (fun l W hW=>valid_in 2 l (N+1+1+1+1) ao cap W ((hW.cell (p:=⟨N+1+1+1+1,0,none⟩) (by have:=lt_of_at b4;exact this)).trans (cellN b4 0))) (fun D W hD hX hd=>?_)
 have d1:=hX.at b1 (fun h=>h);have d2:=hX.at b2 (fun h=>h);have d3:=hX.at b3 (fun h=>h);have hx2:=hid (hx.out.trans hX);replace hd:=hid hd;clear b1 b2 b3 b4 hx;go_wp2_with (refine wpList_loadW (by rfl) 366 _ rfl (N+1+1+1) _ _ _ _ rfl d3 Tryz.underlying366 rfl (by kernel_rfl) ?_)
 obtain ⟨iu,hiu,hiu1⟩:=Option.map_eq_some_iff.1 (show (Tryz.prog.info? 96).map (·.size)=some 1 by kernel_rfl);go_loopg [76] 65 (fun g i wr=>∃ j:Nat,j+g=65/\i=.int .i64 j/\wr.heap[N+1]?=some (.cells V 365 (0,0))/\wr.heap[N+1+1]?=some (.cells #[.pointer (some ⟨N+1,0,none⟩)] 237 (0,0))/\Ext w wr/\wr.heap[D]?=some (.deferred (some [])))
 case atStart=>exact ⟨0,by omega,rfl,d1,d2,hx2.out,hd.out⟩
 case round=>
  clear d1 d2 d3 hx2 hd;obtain ⟨j,hj,rfl,d1,d2,hx2,hd⟩:=hrel;replace hj:=hid hj;replace hd:=hid hd
  by_cases hlt:j < 65
  ·have hdi:(j:Int) < 65:=by omega
   have hdd:decide ((j:Int) < 65)=true:=decide_eq_true hdi;have hix:=fun W=>run_index_one (P:=Tryz.prog) (t:=366) (k:=.i64) (cs:=Tryz.zeroCells366) Tryz.underlying366 Tryz.underlying96 rfl hiu hiu1 hlt (v:=.int .u64 0) (by rw [zero_u65,Array.getElem?_replicate,if_pos hlt]) W
   have hone:=hid (ones_zero wr.drew);have pS:=set_same (hV.app j hlt);have hst:=put_at' d1 (391+j) (.int .i64 0);rw [pS] at hst;have hst2:=(put_ne' (b:=N+1+1) wr (391+j) (.int .i64 0) (by omega:N+1 ≠ N+1+1)).trans d2;have hxS:=hid (hx2.setCell (a:=⟨N+1,391+j,none⟩) (fun h=>absurd h (by show ¬ N+1 < w.heap.size;omega)) (.int .i64 0));have hdS:=hid (fun hne:N+1 ≠ D=>(put_ne' (b:=D) wr (391+j) (.int .i64 0) hne).trans hd.out);have hDne:N+1 ≠ D:=fun e=>by have:=hd.out;rw [<- e,d1] at this;cases this
   have fz:=freeN d1 (391+j);have cj:wr.cell? ⟨N+1,391+j,none⟩=some (.int .i64 0):=(cellN d1 (391+j)).trans (hV.app j hlt);replace hx2:=hid hx2;replace d1:=hid d1;replace d2:=hid d2;replace hst:=hid hst;replace hst2:=hid hst2;clear pS;go_upto_region 19 with fail
   refine wp_region_sched (fun Wx=>Wx.heap[N+1+1]?=some (.cells #[.pointer (some ⟨N+1,0,none⟩)] 237 (0,0))) [(0,true),(1,true),(2,true),(4,true),(5,true),(3,false),(6,true),(7,false)] (by as_aux_lemma=>kernel_rfl) (by as_aux_lemma=>kernel_rfl) (by as_aux_lemma=>kernel_rfl) (by decide) d2.out ?_;simp only [schedOps,List.map_cons,List.map_nil,List.getD_cons_zero,List.getD_cons_succ]
   iterate 5 (refine wpS_q (by rfl) ?_ (fun w' hC=>?_) ?_;rotate_left;(have q0:w'.cell? ⟨N+1+1,0,none⟩=some (.pointer (some ⟨N+1,0,none⟩)):=cellN hC 0;go_simp;try with_reducible rfl);try simp only [Act.put,sA,sZ,sS])
   refine wpS_c (by rfl) (fun K hK=>?_);go_simp;refine hone.out.mono ?_;rintro e w5 ⟨rfl,rfl⟩;refine hK.out _ _ d2.out ?_;clear hK K;try simp only [Act.put,sA,sZ,sS]
   iterate 1 (refine wpS_q (by rfl) ?_ (fun w' hC=>?_) ?_;rotate_left;(have q0:w'.cell? ⟨N+1+1,0,none⟩=some (.pointer (some ⟨N+1,0,none⟩)):=cellN hC 0;go_simp;try with_reducible rfl);try simp only [Act.put,sA,sZ,sS])
   refine wpS_c (by rfl) (fun K hK=>?_);go_simp;refine hK.out _ _ hst2.out ?_;clear hK K;refine wpS_nil ?_;go_wp2_with fail
   go_roundg (gk - 1)
   case measure=>have:=hj.out;omega
   case rel=>exact ⟨j+1,by have:=hj.out;omega,by go_num,hst.out,hst2.out,hxS.out.drew,hdS.out hDne⟩
  ·have hndi:¬ (j:Int) < 65:=by omega
   have hdd:decide ((j:Int) < 65)=false:=decide_eq_false hndi;have c2:wr.cell? ⟨N+1+1,0,none⟩=some (.pointer (some ⟨N+1,0,none⟩)):=cellN d2 0;replace hx2:=hid hx2;replace d1:=hid d1;go_wp2_with fail
   have hgD:wr.grownBy (wr.putObj D (.deferred none)) (some D):=grownBy_putObj' wr D _;refine ⟨by simp,.inl ⟨_,_,rfl,run_takeDeferred hd.out,?_⟩⟩;refine ⟨_,by simp [results,Tryz.func114,go_sem];rfl,?_⟩;refine ⟨⟨N+1,rfl,by omega,V,?_,hV⟩,Ext.ofGrown hx2.out hgD (fun r e=>by cases e;have:=hN.out;omega)⟩;refine (World.putObj_heap_other (fun e=>?_)).trans d1.out;have:=hd.out;rw [<- e,d1.out] at this;cases this
theorem out_any (D:Nat) (V:Array Value) (c t:Int) (w:World) (h:w.heap[D]?=some (.cells V 365 (0,0))) (hV:DigV V):Calls Tryz.prog 167 #[.pointer (some ⟨D,0,none⟩),.int .i64 c,.int .i64 t] w fun e w'=>e=.returned (.slice none 0 0)/\Ext w w':=by
 have hx:=hid (Mod.alloc (Mod.refl (fun _=>False) w) (.cells Tryz.zeroCells125 125));have h1:=hid (hx.out.at h (fun h=>h));have hsort:=hid (fun W=>Tryz.slices_Sort_int_none none 0 W);go_enter Tryz.func167,Tryz.ntmps167;go_wp2_with fail
 generalize (w.alloc (Obj.cells Tryz.zeroCells125 125))=W0 at hx h1 ⊢;refine wp_loop_rounds 2 ?_;rw [rounds_succ];go_wp2_with fail
 go_loopg [7,9,10] 64 (fun g sv gv i wr=>∃ j:Nat,j+g=65/\1<=j/\sv=.slice none 0 0/\gv=.bool false/\i=.int .i64 j/\wr=W0)
 case atStart=>exact ⟨1,by omega,by omega,rfl,rfl,rfl,rfl⟩
 case round=>
  obtain ⟨j,hj,hj1,rfl,rfl,rfl,rfl⟩:=hrel;replace hj:=hid hj
  by_cases hlt:j<=64
  ·have hdi:(j:Int)<=64:=by omega
   have hdd:decide ((j:Int)<=64)=true:=decide_eq_true hdi;have hc:wr.cell? ⟨D,1+j,none⟩=some (.bool false):=(cellN h1.out (1+j)).trans (hV.pub j (by omega));have hji:(j:Int) < 65:=by omega
   go_wp2_with fail
   go_roundg (gk - 1)
   case measure=>have:=hj.out;omega
   case rel=>exact ⟨j+1,by have:=hj.out;omega,by omega,rfl,rfl,by go_num,rfl⟩
  ·have hndi:¬ (j:Int)<=64:=by omega
   have hdd:decide ((j:Int)<=64)=false:=decide_eq_false hndi;go_wp2_with fail
   rw [rounds_succ];go_wp2_with fail
   refine (hsort.out _).mono ?_;rintro e w1 ⟨rfl,rfl⟩;go_wp2_with fail
   go_ret;exact ⟨rfl,hx.out⟩
theorem visible_any (D:Nat) (V:Array Value) (c t:Int) (hc:0<=c/\c < 4) (w:World) (h:w.heap[D]?=some (.cells V 365 (0,0))) (hV:DigV V):Calls Tryz.prog 115 #[.pointer (some ⟨D,0,none⟩),.int .i64 c,.int .i64 t] w fun e w'=>e=.returned (.slice none 0 0)/\Ext w w':=by
 have hmm:=@run_makeMap Tryz.prog;have h0:¬ c < 0:=by omega
 have h4:¬ 4<=c:=by omega
 have hout:=hid (fun W hW=>out_any D V c t W hW hV);have hx:=allocs_ext (S:=fun _=>False) [.cells #[.pointer (some ⟨D,0,none⟩)] 237,.cells #[.int .i64 c] 3,.cells #[.int .i64 t] 3] w;have hg:=allocs_get [.cells #[.pointer (some ⟨D,0,none⟩)] 237,.cells #[.int .i64 c] 3,.cells #[.int .i64 t] 3] w 0 (by simp);simp only [allocs,Nat.add_zero] at hx hg;have hh:=hid (hx.at h (fun h=>h));go_enter Tryz.func115,Tryz.ntmps115;go_wp2_with fail
 refine (hout.out _ hh.out).mono ?_;rintro e w1 ⟨rfl,hx1⟩;have k0:=hx1.at hg (fun h=>h);have hx2:=hx.trans hx1;have d0:w1.cell? ⟨w.heap.size,0,none⟩=some (.pointer (some ⟨D,0,none⟩)):=cellN k0 0;have hd1:=hx1.at hh.out (fun h=>h);have e0:w1.cell? ⟨D,0,none⟩=some (.slice none 0 0):=(cellN hd1 0).trans hV.facts;have hx3:=(((Mod.refl (fun _=>False) w1).alloc (.cells #[.slice none 0 0] 31)).alloc (.cells Tryz.zeroCells125 125)).alloc (.map #[] 0);have d3:=hx3.cell d0 (fun h=>h);have e3:=hx3.cell e0 (fun h=>h);replace hx2:=hid hx2;clear hx hg hh k0 hx1 hd1 hx3;go_wp2_with fail
 refine wp_loop_rounds 1 ?_;rw [rounds_succ];go_wp2_with fail
 refine wp_loop_rounds 1 ?_;rw [rounds_succ];go_wp2_with fail
 go_ret;exact ⟨rfl,(((hx2.out.alloc _).alloc _).alloc _)⟩
theorem Visible_any (ao:Option Addr) (cap:Nat) (c t:Int) (hc:0<=c/\c < 4) (w:World):Calls Tryz.prog 70 #[.slice ao 0 cap,.int .i64 c,.int .i64 t] w fun e w'=>e=.returned (.slice none 0 0)/\Ext w w':=by
 go_enter Tryz.func70,Tryz.ntmps70;go_wp2_with fail
 refine (read_any ao cap _).mono ?_;rintro e w1 ⟨⟨D,rfl,-,V,h1,hV⟩,hx1⟩;replace hx1:=hid hx1;replace h1:=hid h1;replace hV:=hid hV;go_wp2_with fail
 refine (visible_any D V c t hc _ h1.out hV.out).mono ?_;rintro e w2 ⟨rfl,hx2⟩;replace hx2:=hid hx2;go_wp2_with fail
 go_ret;exact ⟨rfl,hx1.out.trans hx2.out⟩
end Go.Proofs.YtcopgcdhkgenkaaGreatDoor
