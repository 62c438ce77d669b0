import Derived.Test.YtcopgcdhkgenkaaGreatDoorP2
set_option linter.all false
set_option maxRecDepth 100000
set_option maxHeartbeats 16000000
namespace Go.Proofs.YtcopgcdhkgenkaaGreatDoor.Dw
open Go.Shelf Go.RowKit Cdk Scr
attribute [local go_sem] Oper.semAt_some
theorem Bld.grown {B b:Nat} {tx:Bs} {W W':World} {row:Option Nat} (h:Bld B b tx W) (hg:W.grownBy W' row) (hr:∀ r,row=some r -> ∃ o:Obj,W.heap[r]?=some o/\o.isCells=false):Bld B b tx W':=by
 have aux:∀ p,Lib.BuilderAt bldT u8T B b p (Lib.byteCells tx) W -> Lib.BuilderAt bldT u8T B b p (Lib.byteCells tx) W':=by
  rintro p ⟨hB,v,hb,hown,hne⟩;refine ⟨hB,v,grown_cells hg hr hb,hown.kept hg ?_,hne⟩;cases hv:v.ownBlock with
  | none=>exact .inl rfl
  | some k=>
   refine .inr (fun e=>?_);obtain ⟨o,ho,hc⟩:=hr k e.symm;rcases hown.2 with ⟨rfl,_⟩ | ⟨g,cap,cur,rfl,_,hgg,_⟩
   ·cases hv
   ·simp only [Value.ownBlock,Option.some.injEq] at hv
    subst hv;rw [hgg] at ho;injection ho with ho;subst ho;cases hc
 exact h.imp (aux _) (aux _)
theorem Bld.setOther {B b k:Nat} {tx:Bs} {W:World} (h:Bld B b tx W) (v:Value) {u:Value} {t:TypeId} (hk:W.heap[k]?=some (.cells #[u] t (0,0))) (ht:t ≠ u8T) (hne:k ≠ b):Bld B b tx (W.setCell ⟨k,0,none⟩ v):=by
 have aux:∀ p,Lib.BuilderAt bldT u8T B b p (Lib.byteCells tx) W -> Lib.BuilderAt bldT u8T B b p (Lib.byteCells tx) (W.setCell ⟨k,0,none⟩ v):=by
  rintro p ⟨hB,v',hb,hown,hv⟩;have hg:W.grownBy (W.setCell ⟨k,0,none⟩ v) (some k):=⟨rfl,rfl,rfl,by simp [World.setCell],fun j hj e=>Below.heap_setCell W ⟨k,0,none⟩ v j (fun e'=>e (by rw [e']))⟩;refine ⟨hB,v',(Below.heap_setCell W ⟨k,0,none⟩ v b (fun e=>hne e.symm)).trans hb,hown.kept hg (.inr (fun e=>?_)),hv⟩;rcases hown.2 with ⟨rfl,_⟩ | ⟨g,cap,cur,rfl,_,hgg,_⟩
  ·cases e
  ·simp only [Value.ownBlock,Option.some.injEq] at e
   subst e;rw [hk] at hgg;injection hgg with hgg;injection hgg with _ h2 _
   exact ht h2
 exact h.imp (aux _) (aux _)
structure OpI (w:World) (T N:Nat) (H:Bs) (pre:List Bs) (W:World):Prop where
 mod:Ext w W
 bld:Bld T T (H++pre.flatMap fun y=>putI 0++putS y) W
 bo:∃ u,W.heap[N]?=some (.cells #[u] 9 (0,0))
 bn:∃ u,W.heap[N+1]?=some (.cells #[u] 9 (0,0))
theorem opI_own (w:World) (T N B:Nat) (H:Bs) (hT:w.heap.size<=B):OwnFrom B (fun p W=>OpI w T N H p W):=by
 intro p W W' row h hg hrow;have hr:=fun r e=>(hrow r e).2
 obtain ⟨u,hu⟩:=h.bn;obtain ⟨v,hv⟩:=h.bo;exact ⟨Ext.ofGrown h.mod hg (fun r e=>by have:=(hrow r e).1;omega),h.bld.grown hg hr,⟨v,grown_cells hg hr hv⟩,⟨u,grown_cells hg hr hu⟩⟩
theorem opI_box {w:World} {T N:Nat} {H:Bs} (hT:w.heap.size<=N+1) (hne:N+1 ≠ T) {p:List Bs} {W:World} (v:Value) (h:OpI w T N H p W):OpI w T N H p (W.setCell ⟨N+1,0,none⟩ v):=by
 obtain ⟨u,hu⟩:=h.bn;obtain ⟨v',hv⟩:=h.bo;exact ⟨h.mod.setCell (fun e=>absurd e (by show ¬ N+1 < w.heap.size;omega)) _,h.bld.setOther v hu (by decide) hne,⟨v',(put_ne W 0 _ (by omega)).trans hv⟩,⟨v,put1 hu⟩⟩
theorem diff0_ops (x:Bs):putI 0++putI (crc x)++(opsL x).flatMap (fun y=>putI 0++putS y)=Nt.diff0 x:=by
 unfold opsL Nt.diff0;split
 ·rfl
 ·simp
theorem crc_nil:crc []=0:=by decide+kernel
theorem diff_any (x:Bs) (hx:x.length<=8192) (w:World) (hG:Gl w):Calls Tryz.prog 42 #[.string ⟨#[]⟩,.string ⟨x.toArray⟩] w fun e w'=>e=.returned (.string ⟨(Nt.diff0 x).toArray⟩)/\Ext w w':=by
 refine (callsIn_wide (n:=3)).1 ?_;refine callsIn_of_wp_marks Tryz.func42 rfl trivial ?_ rfl;simp only [Tryz.ntmps42,List.size_toArray,List.length_cons,List.length_nil,Nat.reduceAdd,Nat.reduceSub,Array.replicate_succ,Array.replicate_zero,List.push_toArray,List.append_toArray,List.nil_append,List.cons_append];refine (wpIn_wide (n:=3)).2 ?_;obtain ⟨X,hX⟩:∃ X:ByteArray,X=⟨x.toArray⟩:=⟨_,rfl⟩;have hXs:X.size=x.length:=by rw [hX];rfl
 rw [<- hX];have hl:¬ (8192:Int) < (X.size:Int):=by omega
 have hl0:¬ (8192:Int) < 0:=by decide
 obtain ⟨T,hT⟩:∃ T,T=w.heap.size:=⟨_,rfl⟩;have hb0:=Bld.fresh w;have hx0:=(Mod.refl (fun _=>False) w).alloc (.cells #[.pointer none,.slice none 0 0] bldT);have hcr:=crc_rng x;have hsn:=hid (fun W (h:Gl W)=>sum_any [] W h (by decide));have hsx:=hid (fun W (h:Gl W)=>sum_any x W h (by omega));rw [<- hX] at hsx;rw [crc_nil] at hsn;have hdf:=hid (diff0_ops x);have hXo:=hid hX;clear hX;go_wp2_with fail
 rw [<- hT] at hb0 ⊢;have hTw:w.heap.size<=T:=Nat.le_of_eq hT.symm;generalize w.alloc (.cells #[.pointer none,.slice none 0 0] bldT)=w1 at hb0 hx0 ⊢;replace hT:=hid hT;refine (hsn.out _ (hG.ext hx0)).mono ?_;rintro e w1' ⟨rfl,rfl⟩;have hn1:=hid (num_any T T [] 0 (by decide) (by decide) w1 hb0 (by decide));replace hx0:=hid hx0;clear hb0;go_wp2_with fail
 refine hn1.out.mono ?_;rintro e w2 ⟨rfl,hb2,hk2⟩;have hx2:=hid (hx0.out.then hk2.1 (fun k hk e=>by omega));replace hb2:=hid hb2;have hG2:=hid (hG.ext hx2.out);clear hk2 hn1 hx0;go_wp2_with fail
 refine (hsx.out _ hG2.out).mono ?_;rintro e w2' ⟨rfl,rfl⟩;have hp0:=hid (putI_len 0);have hn3:=hid (num_any T T ([]++putI 0) (crc x) (by omega) (by omega) w2 hb2.out (by have:=hp0.out;rw [List.nil_append];omega));go_wp2_with fail
 refine hn3.out.mono ?_;rintro e w3 ⟨rfl,hb3,hk3⟩;have hx3:=hid (hx2.out.then hk3.1 (fun k hk e=>by omega));rw [List.nil_append] at hb3;have hTz:T < w3.heap.size:=hb3.lt.2;replace hb3:=hid hb3;clear hk3 hn3 hb2 hx2;have ho:=hid (operations_any ⟨#[]⟩ X w3);go_wp2_with fail
 refine ho.out.mono ?_;rintro e w4 ⟨rfl,rfl⟩;obtain ⟨N,hN⟩:∃ N,N=w3.heap.size:=⟨_,rfl⟩;have hxa:=allocs_ext (S:=fun _=>False) [.cells #[.string ⟨#[]⟩] 9,.cells #[.string X] 9] w3;have hg:=allocs_get [.cells #[.string ⟨#[]⟩] 9,.cells #[.string X] 9] w3;have hz:=allocs_size [.cells #[.string ⟨#[]⟩] 9,.cells #[.string X] 9] w3;have k0:=hg 0 (by simp);have k1:=hg 1 (by simp);simp only [allocs,<- hN,Nat.add_zero,List.length_cons,List.length_nil] at hxa k0 k1 hz;clear hg ho;rw [<- hN] at hTz ⊢;generalize (w3.alloc (.cells #[.string ⟨#[]⟩] 9)).alloc (.cells #[.string X] 9)=w4 at hxa k0 k1 hz ⊢;have hNw:w.heap.size<=N:=by have:=hx3.out.size;omega
 have hs:=ops_seq 2 N (N+1) (by omega) x hx w4 k0 (by rw [<- hXo.out];exact k1);have hI0:OpI w T N (putI 0++putI (crc x)) [] w4:=⟨hx3.out.trans hxa,by rw [List.flatMap_nil,List.append_nil];exact hb3.out.ext hxa,⟨_,k0⟩,⟨_,k1⟩⟩;replace hN:=hid hN;clear hxa k0 k1;replace hI0:=hid hI0;go_wp2_with fail
 refine (wpIn_wide (n:=3)).1 ?_;refine wpIn_rangeFunc_B (F:=Fence.wide) rfl (by omega) (gf:=131) (lb:=#[.pointer (some ⟨N,0,none⟩),.pointer (some ⟨N+1,0,none⟩)]) rfl trivial (enters_of Tryz.func131 (by kernel_rfl) rfl)
  hs (fun k hk=>by rcases hk with rfl | rfl <;> omega) (by omega) (Below.refl _ _) (fun _=>rfl) (fun pre W=>OpI w T N (putI 0++putI (crc x)) pre W) (fun _ _ _=>False)
  (opI_own w T N w4.heap.size _ (by omega)) (fun p A v hh=>opI_box (by omega) (by omega) v hh) (fun c s W W' row h _ _=>h) hI0.out (fun y=>#[.int .i64 0,.int .i64 0,.string ⟨y.toArray⟩]) 172 ?aa ?assign ?body ?done (fun D c pre W _ _ h=>h.elim)
 case assign=>
  intro l y U W K hU hK
  gi_wp2
  rw [<- hU];exact hK
 case body=>
  rintro l pre y U W hI hU hb hlen rfl;have hp0:pre=[]:=List.length_eq_zero_iff.1 (by omega);subst hp0;replace hI:=hid hI;have q0:W.cell? ⟨U,0,none⟩=some (.int .i64 0):=cellN hb 0;have q1:W.cell? ⟨U,1,none⟩=some (.int .i64 0):=cellN hb 1;have q2:W.cell? ⟨U,2,none⟩=some (.string ⟨y.toArray⟩):=cellN hb 2;have hlb:(putI 0++putI (crc y)++([]:List Bs).flatMap fun y=>putI 0++putS y).length<=100000:=by
   have:=putI_len 0;have:=putI_len (crc y);simp only [List.flatMap_nil,List.append_nil,List.length_append];omega
  have hop:=hid (op_any T T _ y W hI.out.bld hlb hx);clear hlb
  gi_wp2
  refine ⟨trivial,callsIn_wide.2 ?_⟩;refine hop.out.mono ?_;rintro e W2 ⟨rfl,hb2,hk2⟩;obtain ⟨u,hu⟩:=hI.out.bn;obtain ⟨v,hv⟩:=hI.out.bo;have hstr:∀ k u,k ≠ T -> W.heap[k]?=some (.cells #[u] 9 (0,0)) -> W2.heap[k]?=some (.cells #[u] 9 (0,0)):=fun k u hne hu=>hk2.2 k _ hu (fun cs fr e=>by injection e with e1 e2;exact absurd e2 (by decide)) hne
  have hE:Ext w W2:=hI.out.mod.then hk2.1 (fun k hk e=>by omega)
  have hkk:KeepsOthers W W2:=keep_of_mod (S:=fun k=>¬ ∀ o,W.heap[k]?=some o -> W2.heap[k]?=some o) ⟨hk2.1.os,hk2.1.tape,hk2.1.output,hk2.1.size,fun k hk h=>by
   have h':∀ o,W.heap[k]?=some o -> W2.heap[k]?=some o:=Classical.not_not.1 h;have hs:W.heap[k]?=some W.heap[k]:=Array.getElem?_eq_getElem hk
   rw [h' _ hs,hs]⟩ (fun k o hk ho h=>h (fun o' hk'=>by
    rw [hk] at hk';injection hk' with hk';subst hk'
    refine hk2.2 k o hk (fun cs fr e=>by subst e;cases ho) (fun e=>?_);subst e
    rcases hI.out.bld with h | h <;> (obtain ⟨-,v,hv,-⟩:=h;rw [hk] at hv;injection hv with hv;subst hv;cases ho)))
  have hfin:OpI w T N (putI 0++putI (crc y)) ([]++[y]) W2:=⟨hE,by simpa using hb2,⟨v,hstr _ _ (by omega) hv⟩,⟨u,hstr _ _ (by omega) hu⟩⟩;have hkb:∀ k,(k=N \/ k=N+1) -> W2.heap[k]?=W.heap[k]?:=fun k hk=>by
   rcases hk with rfl | rfl
   ·rw [hstr _ _ (by omega) hv,hv]
   ·rw [hstr _ _ (by omega) hu,hu]
  replace hfin:=hid hfin;replace hkk:=hid hkk;replace hkb:=hid hkb;clear hop hb2 hk2 hu hv hstr hE q0 q1 q2 hb
  gi_wp2
  exact ⟨hkk.out,hkb.out,hfin.out⟩
 case done=>
  rintro D xs W hD rfl hI hd;have hb:=hI.bld;rw [hdf.out] at hb;have hne:Nt.diff0 x ≠ []:=fun e=>by
   have h1:1<=(putI 0).length:=by decide
   have h2:=congrArg List.length e;unfold Nt.diff0 at h2;simp only [List.length_append,List.length_nil] at h2;omega
  have hst:=hid (bstr_any T T _ W hb hne);have hX:=hid hI.mod;have hDw:w.heap.size<=D:=by omega
  replace hd:=hid hd;clear hI hb hne;go_wp2_with fail
  refine hst.out.mono ?_;rintro e W5 ⟨rfl,hm5,ho5⟩;have hE5:=hid (hX.out.then hm5 (fun k hk e=>by omega));have hd5:W5.heap[D]?=some (.deferred (some [])):=ho5 D _ hd.out (fun cs fr e=>nomatch e);replace hd5:=hid hd5;clear hm5 ho5;go_wp2_with fail
  have hgD:W5.grownBy (W5.putObj D (.deferred none)) (some D):=grownBy_putObj' _ D _;refine ⟨by simp,.inl ⟨_,_,rfl,run_takeDeferred hd5.out,?_⟩⟩;refine ⟨_,by simp [results,Tryz.func42,go_sem];rfl,?_⟩;exact ⟨rfl,Ext.ofGrown hE5.out hgD (fun r e=>by cases e;omega)⟩
end Go.Proofs.YtcopgcdhkgenkaaGreatDoor.Dw
namespace Go.Proofs.YtcopgcdhkgenkaaGreatDoor.Dw
open Go.Shelf Go.RowKit Cdk Scr
theorem demand_ok (w:World):Calls Tryz.prog 213 #[.bool true] w fun e w'=>e=.returned (.tuple #[])/\w=w':=by
 go_enter Tryz.func213,Tryz.ntmps213;go_wp2_with fail
 go_end0
 exact ⟨rfl,rfl⟩
theorem rdNum_any (R a:Nat) (d:Bs) (n:Int) (r:Bs) (hd:d.length<=1000000) (ha:a<=d.length) (hg:getI (d.drop a)=some (n,r)) (w:World) (hR:w.heap[R]?=some (.cells #[.string ⟨d.toArray⟩,.int .i64 a] 418 (0,0))):
  Calls Tryz.prog 214 #[.pointer (some ⟨R,0,none⟩)] w fun e w'=>∃ b:Nat,a < b/\b<=d.length/\r=d.drop b/\e=.returned (.int .i64 n)/\w'.heap[R]?=some (.cells #[.string ⟨d.toArray⟩,.int .i64 b] 418 (0,0))/\Mod (Eq R) w w':=by
 replace hg:=hid hg;replace hR:=hid hR;go_enter Tryz.func214,Tryz.ntmps214;go_upto_region 1 with fail
 try simp only [List.append_eq,List.cons_append,List.nil_append]
 refine wp_region_tree (.s (.q 0 (.q 1 (.q 2 (.q 3 (.q 4 (.q 5 (.q 6 (.q 7 (.c1 8 (.q 9 (.q 10 (.q 11 (.q 12 (.q 13 (.q 14 (.q 15 .done))))))))))))))))) (by as_aux_lemma=>kernel_rfl) (by as_aux_lemma=>kernel_rfl) (by as_aux_lemma=>kernel_rfl) (by decide) ?_;have hv0:=hid (Mod.drew0 (fun _=>False) w);refine wpTr_s (fun Wx=>Ext w Wx) (fun _ _=>trivial) hv0.out ?_;generalize hWd:World.drew w=V0 at hv0 ⊢
 iterate 8 (refine wpTr_q _ (by simp only [List.getD_cons_succ,List.getD_cons_zero];rfl) (by rfl) ?_ (fun w' hC=>?_) ?_;rotate_left;(have q_0:w'.cell? ⟨R,0,none⟩=some (.string ⟨d.toArray⟩):=hC.cell (cellN hR.out 0) (fun h=>h);have q_1:w'.cell? ⟨R,1,none⟩=some (.int .i64 a):=hC.cell (cellN hR.out 1) (fun h=>h);go_simp;try with_reducible rfl);try simp only [Act.put,sA,sZ,sS])
 refine wpTr_c1 _ (by simp only [List.getD_cons_succ,List.getD_cons_zero];rfl) ?_;refine wpN_c (by rfl) (fun K hK=>?_);go_simp;refine (int_any d a ha hd V0).mono ?_;rintro e w9 ⟨rfl,hi⟩;unfold intR intE at hi;rw [hg.out] at hi;simp only at hi;obtain ⟨b,hb0,hbl,hrb,rfl⟩:=hi;have hv1:=hv0;refine hK.out _ _ hv1.out ?_;clear hK K;try simp only [Act.put,sA,sZ,sS]
 iterate 7 (refine wpTr_q _ (by simp only [List.getD_cons_succ,List.getD_cons_zero];rfl) (by rfl) ?_ (fun w' hC=>?_) ?_;rotate_left;(have q_0:w'.cell? ⟨R,0,none⟩=some (.string ⟨d.toArray⟩):=hC.cell (cellN hR.out 0) (fun h=>h);have q_1:w'.cell? ⟨R,1,none⟩=some (.int .i64 a):=hC.cell (cellN hR.out 1) (fun h=>h);go_simp;try with_reducible rfl);try simp only [Act.put,sA,sZ,sS])
 refine wpTr_done ?_;have hR1:=hid (hv1.out.at hR.out (fun h=>h));have z1:=freeN hR1.out 1;have c1:V0.cell? ⟨R,1,none⟩=some (.int .i64 a):=cellN hR1.out 1;have hR2:=hid (put_at' hR1.out 1 (.int .i64 (b:Int)));have hm2:=hid (((hv1.out.mono (T:=Eq R) (fun _ h=>h.elim))).setCell (a:=⟨R,1,none⟩) (fun _=>rfl) (.int .i64 (b:Int)));replace hrb:=hid hrb;go_wp2_with fail
 go_ret;exact ⟨b,hb0,hbl,hrb.out,rfl,hR2.out,hm2.out⟩
theorem rdText_any (R a:Nat) (d:Bs) (x:Bs) (r:Bs) (hd:d.length<=1000000) (ha:a<=d.length) (hg:getS (d.drop a)=some (x,r)) (w:World) (hR:w.heap[R]?=some (.cells #[.string ⟨d.toArray⟩,.int .i64 a] 418 (0,0))):
  Calls Tryz.prog 283 #[.pointer (some ⟨R,0,none⟩)] w fun e w'=>∃ b:Nat,a < b/\b<=d.length/\r=d.drop b/\e=.returned (.string ⟨x.toArray⟩)/\w'.heap[R]?=some (.cells #[.string ⟨d.toArray⟩,.int .i64 b] 418 (0,0))/\Mod (Eq R) w w':=by
 replace hg:=hid hg;replace hR:=hid hR;go_enter Tryz.func283,Tryz.ntmps283;go_upto_region 1 with fail
 try simp only [List.append_eq,List.cons_append,List.nil_append]
 refine wp_region_tree (.s (.q 0 (.q 1 (.q 2 (.q 3 (.q 4 (.q 5 (.q 6 (.q 7 (.c1 8 (.q 9 (.q 10 (.q 11 (.q 12 (.q 13 (.q 14 (.q 15 .done))))))))))))))))) (by as_aux_lemma=>kernel_rfl) (by as_aux_lemma=>kernel_rfl) (by as_aux_lemma=>kernel_rfl) (by decide) ?_;have hv0:=hid (Mod.drew0 (fun _=>False) w);refine wpTr_s (fun Wx=>Ext w Wx) (fun _ _=>trivial) hv0.out ?_;generalize hWd:World.drew w=V0 at hv0 ⊢
 iterate 8 (refine wpTr_q _ (by simp only [List.getD_cons_succ,List.getD_cons_zero];rfl) (by rfl) ?_ (fun w' hC=>?_) ?_;rotate_left;(have q_0:w'.cell? ⟨R,0,none⟩=some (.string ⟨d.toArray⟩):=hC.cell (cellN hR.out 0) (fun h=>h);have q_1:w'.cell? ⟨R,1,none⟩=some (.int .i64 a):=hC.cell (cellN hR.out 1) (fun h=>h);go_simp;try with_reducible rfl);try simp only [Act.put,sA,sZ,sS])
 refine wpTr_c1 _ (by simp only [List.getD_cons_succ,List.getD_cons_zero];rfl) ?_;refine wpN_c (by rfl) (fun K hK=>?_);go_simp;refine (string_any d a ha hd V0).mono ?_;rintro e w9 ⟨rfl,hi⟩;unfold strR strE at hi;rw [hg.out] at hi;simp only at hi;obtain ⟨b,hb0,hbl,hrb,rfl⟩:=hi;have hv1:=hv0;refine hK.out _ _ hv1.out ?_;clear hK K;try simp only [Act.put,sA,sZ,sS]
 iterate 7 (refine wpTr_q _ (by simp only [List.getD_cons_succ,List.getD_cons_zero];rfl) (by rfl) ?_ (fun w' hC=>?_) ?_;rotate_left;(have q_0:w'.cell? ⟨R,0,none⟩=some (.string ⟨d.toArray⟩):=hC.cell (cellN hR.out 0) (fun h=>h);have q_1:w'.cell? ⟨R,1,none⟩=some (.int .i64 a):=hC.cell (cellN hR.out 1) (fun h=>h);go_simp;try with_reducible rfl);try simp only [Act.put,sA,sZ,sS])
 refine wpTr_done ?_;have hR1:=hid (hv1.out.at hR.out (fun h=>h));have z1:=freeN hR1.out 1;have c1:V0.cell? ⟨R,1,none⟩=some (.int .i64 a):=cellN hR1.out 1;have hR2:=hid (put_at' hR1.out 1 (.int .i64 (b:Int)));have hm2:=hid (((hv1.out.mono (T:=Eq R) (fun _ h=>h.elim))).setCell (a:=⟨R,1,none⟩) (fun _=>rfl) (.int .i64 (b:Int)));replace hrb:=hid hrb;go_wp2_with fail
 go_ret;exact ⟨b,hb0,hbl,hrb.out,rfl,hR2.out,hm2.out⟩
theorem added_any (R a:Nat) (d x r r':Bs) (hd:d.length<=1000000) (ha:a<=d.length) (hg:getI (d.drop a)=some (0,r)) (hg2:getS r=some (x,r')) (hx:x ≠ []) (old:ByteArray) (w:World) (hR:w.heap[R]?=some (.cells #[.string ⟨d.toArray⟩,.int .i64 a] 418 (0,0))):
  Calls Tryz.prog 215 #[.pointer (some ⟨R,0,none⟩),.string old] w fun e w'=>∃ b:Nat,a < b/\b<=d.length/\r'=d.drop b/\e=.returned (.string ⟨x.toArray⟩)/\w'.heap[R]?=some (.cells #[.string ⟨d.toArray⟩,.int .i64 b] 418 (0,0))/\Mod (Eq R) w w':=by
 have hn:=hid (rdNum_any R a d 0 r hd ha hg w hR);have hdm:=hid (fun W=>demand_ok W);obtain ⟨X,hX⟩:∃ X:ByteArray,X=⟨x.toArray⟩:=⟨_,rfl⟩;have hXe:X.isEmpty=false:=by
  rw [hX];cases x with
  | nil=>exact absurd rfl hx
  | cons y l=>rfl
 have hXt:X.toList.isEmpty=false:=by
  rw [ByteArray.toList_eq,hX];cases x with
  | nil=>exact absurd rfl hx
  | cons y l=>rfl
 have htx:=hid (fun b W h1 h2 h3=>rdText_any R b d x r' hd h1 h2 W h3);rw [<- hX] at htx ⊢;replace hX:=hid hX;replace hg2:=hid hg2;clear hR hg;go_enter Tryz.func215,Tryz.ntmps215;go_wp2_with fail
 refine hn.out.mono ?_;rintro e w1 ⟨b,hb1,hb2,hb3,rfl,hR1,hm1⟩;have ht:=hid (htx.out b w1 hb2 (by rw [<- hb3];exact hg2.out) hR1);replace hm1:=hid hm1;replace hb3:=hid hb3;clear hR1 hn;go_wp2_with fail
 refine (hdm.out _).mono ?_;rintro e w2 ⟨rfl,rfl⟩;go_wp2_with fail
 refine ht.out.mono ?_;rintro e w3 ⟨b2,hc1,hc2,hc3,rfl,hR3,hm3⟩;replace hm3:=hid hm3;replace hc3:=hid hc3;replace hR3:=hid hR3;clear ht;go_wp2_with fail
 refine (hdm.out _).mono ?_;rintro e w4 ⟨rfl,rfl⟩;go_wp2_with fail
 go_ret;exact ⟨b2,by omega,hc2,hc3.out,rfl,hR3.out,hm1.out.trans hm3.out⟩
theorem acatch_idle (p q:Nat) (w:World):
  CallsD Tryz.prog 211 #[.pointer (some ⟨p,0,none⟩),.pointer (some ⟨q,0,none⟩)] .returning w fun e u' w'=>e=.returned (.tuple #[])/\u'=.returning/\w'=w:=by
 refine callsD_of_wpS Tryz.func211 rfl fun c₀ cs hu=>?_
 apply wpS_seq;apply wpS_region;simp [wpOpsS,go_sem,recoverD,hu,Tryz.ntmps211,Exit.thenS];refine wpS_of_wp ?_;simp only [Array.replicate_succ,Array.replicate_zero,List.push_toArray,List.setIfInBounds_toArray,List.set_cons_zero,List.set_cons_succ,List.append_toArray,List.nil_append,List.cons_append];go_wp2_with fail
 cases c₀
 simp_all [bodyPostS,results,Tryz.results211]
open Go.Shelf Go.RowKit Cdk Scr Nt
def restD (x:Bs):Bs:=if x=[] then [] else putI 0++putS x
theorem diff0_1 (x:Bs):getI ((diff0 x).drop 0)=some (0,putI (crc x)++restD x):=by
 rw [List.drop_zero];unfold diff0;rw [List.append_assoc];exact getI_putI (by decide) (by decide) _
theorem diff0_2 (x:Bs):getI (putI (crc x)++restD x)=some (crc x,restD x):=by
 have:=crc_rng x;exact getI_putI (by omega) (by omega) _
theorem restD_nil:restD []=[]:=if_pos rfl
theorem restD_1 {x:Bs} (h:x ≠ []):getI (restD x)=some (0,putS x):=by
 unfold restD;rw [if_neg h];exact getI_putI (by decide) (by decide) _
theorem restD_2 {x:Bs} (h:x.length<=8192):getS (putS x)=some (x,[]):=by
 have:=getS_putS (s:=x) (by omega) []
 rwa [List.append_nil] at this
theorem drop_end {d:Bs} {b:Nat} (h:[]=d.drop b) (hb:b<=d.length):b=d.length:=by
 have:=congrArg List.length h;simp only [List.length_nil,List.length_drop] at this;omega
theorem Bld.ofNew {T:Nat} {W:World} (h:W.heap[T]?=some (.cells #[.pointer none,.slice none 0 0] bldT (0,0))):Bld T T [] W:=
 .inl ⟨Nat.le_refl _,_,h,⟨by have:=lt_of_at h;omega,.inl ⟨rfl,rfl⟩⟩,by simp [Value.ownBlock]⟩
theorem apply_any (x:Bs) (hx:x.length<=8192) (w:World) (hG:Gl w):Calls Tryz.prog 154 #[.string ⟨#[]⟩,.string ⟨(diff0 x).toArray⟩] w fun e w'=>e=.returned (.tuple #[.string ⟨x.toArray⟩,.int .i64 0])/\Ext w w':=by
 have hmf:∀ (fn:Fn) (first cap:Array Value) (w:World),(Instr.makeFunc fn first cap).run Tryz.prog w=.ok (.func fn first cap) w:=fun _ _ _ _=>rfl
 have hdl:=diff0_len x hx;have h1:=hid (diff0_1 x);obtain ⟨d,hd⟩:∃ d,d=diff0 x:=⟨_,rfl⟩;rw [<- hd] at h1 hdl ⊢;obtain ⟨U,hU⟩:∃ U,U=w.heap.size:=⟨_,rfl⟩;have hx0:=allocs_ext (S:=fun _=>False) [.cells #[.string ⟨#[]⟩] 9,.cells #[.int .i64 0] 26,.cells #[.string ⟨d.toArray⟩,.int .i64 0] 418] w;have hg:=allocs_get [.cells #[.string ⟨#[]⟩] 9,.cells #[.int .i64 0] 26,.cells #[.string ⟨d.toArray⟩,.int .i64 0] 418] w;have hz:=allocs_size [.cells #[.string ⟨#[]⟩] 9,.cells #[.int .i64 0] 26,.cells #[.string ⟨d.toArray⟩,.int .i64 0] 418] w;have k0:=hg 0 (by simp);have k1:=hg 1 (by simp);have k2:=hg 2 (by simp);simp only [allocs,<- hU,Nat.add_zero,List.length_cons,List.length_nil] at hx0 k0 k1 k2 hz;clear hg;have hdm:=hid (fun W=>demand_ok W);have hdmT:=hid (fun (b:Bool) (h:b=true) W=>(by subst h;exact demand_ok W:Calls Tryz.prog 213 #[.bool b] W fun e w'=>e=.returned (.tuple #[])/\W=w'));have hsn:=hid (fun W (h:Gl W)=>sum_any [] W h (by decide));have hsx:=hid (fun W (h:Gl W)=>sum_any x W h (by omega));rw [crc_nil] at hsn;replace hd:=hid hd;have hcr:=crc_rng x;have h2:=hid (diff0_2 x);have hUz:w.heap.size+1=U+1:=by rw [hU]
 have hUw:w.heap.size<=U:=Nat.le_of_eq hU.symm
 go_enter_defers Tryz.func154,Tryz.ntmps154
 go_wp2_with fail
 refine (hdm.out _).mono ?_;rintro e w1 ⟨rfl,rfl⟩;go_upto_region 4 with fail
 try simp only [World.size_alloc]
 rw [<- hU];generalize (((w.alloc (.cells #[.string ⟨#[]⟩] 9)).alloc (.cells #[.int .i64 0] 26)).alloc (.cells #[.string ⟨d.toArray⟩,.int .i64 0] 418))=w1 at hx0 k0 k1 k2 hz ⊢;replace hU:=hid hU;clear hUz;replace hx0:=hid hx0;replace k0:=hid k0;replace k1:=hid k1;have hn1:=hid (rdNum_any (U+1+1) 0 d 0 _ (by omega) (Nat.zero_le _) h1.out w1 k2);clear k2;go_wp2_with fail
 refine hn1.out.mono ?_;rintro e w2 ⟨b1,hb1,hb1l,hb1r,rfl,hR2,hm2⟩;have hx2:=hid (hx0.out.then hm2 (fun k hk e=>by omega));have hU2:=hid (hm2.at k0.out (by omega));have hC2:=hid (hm2.at k1.out (by omega));have hn2:=hid (rdNum_any (U+1+1) b1 d (crc x) _ (by omega) hb1l (by rw [<- hb1r];exact h2.out) w2 hR2);replace hb1r:=hid hb1r;clear hm2 hn1 hR2 k0 k1 hx0;go_wp2_with fail
 refine (hsn.out w2 (hG.ext hx2.out)).mono ?_;rintro e w2' ⟨rfl,rfl⟩;go_wp2_with fail
 refine (hdm.out _).mono ?_;rintro e w2' ⟨rfl,rfl⟩;go_wp2_with fail
 refine hn2.out.mono ?_;rintro e w3 ⟨b2,hb2,hb2l,hb2r,rfl,hR3,hm3⟩;have hx3:=hid (hx2.out.then hm3 (fun k hk e=>by omega));have hU3:=hid (hm3.at hU2.out (by omega));have hC3:=hid (hm3.at hC2.out (by omega));have hUl:U+1+1 < w3.heap.size:=lt_of_at hR3;replace hb2r:=hid hb2r;clear hm3 hn2 hU2 hC2 hx2;obtain ⟨T,hT⟩:∃ T,T=w3.heap.size:=⟨_,rfl⟩;have hbl:=Bld.fresh w3;have hTc:=heap_alloc_new w3 (.cells #[.pointer none,.slice none 0 0] bldT);have hxT:=(Mod.refl (fun _=>False) w3).alloc (.cells #[.pointer none,.slice none 0 0] bldT);have hR4:=hxT.at hR3 (fun h=>h);have hx4:=hid (hx3.out.trans hxT);have hU4:=hid (hxT.at hU3.out (fun h=>h));have hC4:=hid (hxT.at hC3.out (fun h=>h));rw [<- hT] at hbl hTc;have r1:w3.cell? ⟨U+1+1,1,none⟩=some (.int .i64 b2):=cellN hR3 1;go_upto_region 7 with fail
 rw [<- hT] at hUl ⊢;generalize w3.alloc (.cells #[.pointer none,.slice none 0 0] bldT)=w4 at hbl hTc hxT hR4 hx4 hU4 hC4 ⊢;have hTw:w.heap.size<=T:=by omega
 replace hT:=hid hT;have s1:w4.cell? ⟨U+1+1,1,none⟩=some (.int .i64 b2):=cellN hR4 1;replace hR4:=hid hR4;clear hxT hR3 hU3 hC3 hx3 r1;have hsx2:=hid (fun W (h:Ext w W)=>hsx.out W (hG.ext h))
 by_cases hx00:x=[]
 case' pos=>
  have hend:b2=d.length:=drop_end (by rw [<- hb2r.out,hx00];exact restD_nil.symm) hb2l;have hlt:¬ (b2:Int) < (d.length:Int):=by omega
  have hst:Hid (Calls Tryz.prog 83 #[.pointer (some ⟨T,0,none⟩)] w4 fun e w'=>e=.returned (.string ⟨x.toArray⟩)/\Ext w4 w'):=hid (by rw [hx00];exact bstr_nil T (.pointer none) w4 hTc);replace hx00:=hid hx00;clear hbl hTc hend;refine wp_loop_rounds 1 ?_;rw [rounds_succ];go_wp2_with fail
  refine hst.out.mono ?_;rintro e w9 ⟨rfl,hx9⟩;have hU9:=hid (hx9.at hU4.out (fun h=>h));have hC9:=hid (hx9.at hC4.out (fun h=>h));have hE9:=hid (hx4.out.trans hx9);clear hx9 hst hlt hU4 hC4 hx4 s1
 case' neg=>
  have hne:(restD x).length ≠ 0:=fun e=>by
   have h0:restD x=[]:=List.length_eq_zero_iff.1 e;have h1:=restD_1 hx00;rw [h0] at h1;cases h1
  have hlt:(b2:Int) < (d.length:Int):=by
   have:=congrArg List.length hb2r.out;rw [List.length_drop] at this;omega
  have had:=hid (fun W h=>added_any (U+1+1) b2 d x (putS x) [] (by omega) hb2l (by rw [<- hb2r.out];exact restD_1 hx00) (restD_2 hx) hx00 ⟨#[]⟩ W h);have hxl:(x.length:Int)<=8192 - 0:=by omega
  have hxn:Hid (x ≠ []):=hid hx00;clear hx00 hne hbl;replace hTc:=hid hTc;refine wp_loop_rounds 2 ?_;rw [rounds_succ];go_wp2_with fail
  refine (had.out w4 hR4.out).mono ?_;rintro e w5 ⟨b3,hb3,hb3l,hb3r,rfl,hR5,hm5⟩;have hend:b3=d.length:=drop_end hb3r hb3l;have hlt5:¬ (b3:Int) < (d.length:Int):=by omega
  have hT5:=hm5.at hTc.out (by omega);have hb5:=Bld.ofNew hT5;have hU5:=hid (hm5.at hU4.out (by omega));have hC5:=hid (hm5.at hC4.out (by omega));have hE5:=hid (hx4.out.then hm5 (fun k hk e=>by omega));have hln:=hid (blen_any T T [] w5 hb5);have hpt:=hid (putStr_any T T [] ⟨x.toArray⟩ w5 hb5 (by rw [size_bs];simp only [List.length_nil];omega));replace hR5:=hid hR5;clear hm5 hT5 hb5 had hTc hU4 hC4 hx4 s1 hlt hR4 hb3r hend;go_wp2_with fail
  refine hln.out.mono ?_;rintro e w5 ⟨rfl,rfl⟩;go_wp2_with fail
  refine (hdmT.out _ (decide_eq_true (by omega)) _).mono ?_;rintro e w5' ⟨rfl,rfl⟩;go_wp2_with fail
  refine hpt.out.mono ?_;rintro e w6 ⟨rfl,hb6,hk6⟩;have hko:∀ k c t,k ≠ T -> t ≠ u8T -> w5.heap[k]?=some (.cells c t (0,0)) -> w6.heap[k]?=some (.cells c t (0,0)):=fun k c t hne ht hk=>hk6.2 k _ hk (fun cs fr e=>by injection e with _ e2;exact ht e2) hne
  have hUT:U+1+1 < T:=hUl;have hU6:=hid (hko U _ _ (by omega) (by decide) hU5.out);have hC6:=hid (hko (U+1) _ _ (by omega) (by decide) hC5.out);have hR6:=hko (U+1+1) _ _ (by omega) (by decide) hR5.out;have hE6:=hid (hE5.out.then hk6.1 (fun k hk e=>by omega));have s3:w6.cell? ⟨U+1+1,1,none⟩=some (.int .i64 b3):=cellN hR6 1;have hst:=hid (bstr_any T T x w6 hb6 hxn.out);clear hk6 hko hR6 hR5 hU5 hC5 hE5 hln hpt hb6;go_wp2_with fail
  rw [rounds_succ];go_wp2_with fail
  refine hst.out.mono ?_;rintro e w9 ⟨rfl,hm9,ho9⟩;have hU9:=hid (ho9 U _ hU6.out (fun cs fr e=>by injection e with _ e2;exact absurd e2 (by decide)));have hC9:=hid (ho9 (U+1) _ hC6.out (fun cs fr e=>by injection e with _ e2;exact absurd e2 (by decide)));have hE9:=hid (hE6.out.then hm9 (fun k hk e=>by omega));clear hm9 ho9 hst hU6 hC6 hE6 s3 hlt5 hxl hxn
 all_goals
  have u0:w9.cell? ⟨U,0,none⟩=some (.string ⟨#[]⟩):=cellN hU9.out 0;have z0:=freeN hU9.out 0;have hUA:=hid (put1 (v:=.string ⟨x.toArray⟩) hU9.out);have hCA:=hid ((put_ne w9 (b:=U) (k:=U+1) 0 (.string ⟨x.toArray⟩) (by omega)).trans hC9.out);have hEA:=hid (hE9.out.setCell (a:=⟨U,0,none⟩) (fun h=>absurd h (by show ¬ U < w.heap.size;omega)) (.string ⟨x.toArray⟩));clear hU9 hC9 hE9;go_upto_region 12 with fail
  clear u0 z0;generalize w9.setCell ⟨U,0,none⟩ (.string ⟨x.toArray⟩)=wA at hUA hCA hEA ⊢;have u1:wA.cell? ⟨U,0,none⟩=some (.string ⟨x.toArray⟩):=cellN hUA.out 0;go_wp2_with fail
  refine (hsx2.out _ hEA.out).mono ?_;rintro e w5' ⟨rfl,rfl⟩;go_wp2_with fail
  refine (hdm.out _).mono ?_;rintro e w5' ⟨rfl,rfl⟩;have z0:=freeN hUA.out 0;have c1:wA.cell? ⟨U+1,0,none⟩=some (.int .i64 0):=cellN hCA.out 0;have z1:=freeN hCA.out 0;have hUB:=put1 (v:=.string ⟨x.toArray⟩) hUA.out;have hCB:=(put_ne wA (b:=U) (k:=U+1) 0 (.string ⟨x.toArray⟩) (by omega)).trans hCA.out;have c2:(wA.setCell ⟨U,0,none⟩ (.string ⟨x.toArray⟩)).cell? ⟨U+1,0,none⟩=some (.int .i64 0):=cellN hCB 0;have z2:=freeN hCB 0;have hCC:=hid (put1 (v:=.int .i64 0) hCB);have hUC:=hid ((put_ne (wA.setCell ⟨U,0,none⟩ (.string ⟨x.toArray⟩)) (b:=U+1) (k:=U) 0 (.int .i64 0) (by omega)).trans hUB);have hEC:=hid ((hEA.out.setCell (a:=⟨U,0,none⟩) (fun h=>absurd h (by show ¬ U < w.heap.size;omega)) (.string ⟨x.toArray⟩)).setCell (a:=⟨U+1,0,none⟩) (fun h=>absurd h (by show ¬ U+1 < w.heap.size;omega)) (.int .i64 0));clear hUA hCA hEA hUB hCB;go_wp2_with fail
  generalize ((wA.setCell ⟨U,0,none⟩ (.string ⟨x.toArray⟩)).setCell ⟨U+1,0,none⟩ (.int .i64 0))=wC at hUC hCC hEC ⊢;refine leaves_cons (f:=211) (args:=#[.pointer (some ⟨U,0,none⟩),.pointer (some ⟨U+1,0,none⟩)]) (by simp) (by simp [go_sem]) ?_;refine (acatch_idle U (U+1) _).mono ?_;rintro e u' w'' ⟨rfl,rfl,rfl⟩;have v0:w''.cell? ⟨U,0,none⟩=some (.string ⟨x.toArray⟩):=cellN hUC.out 0;have v1:w''.cell? ⟨U+1,0,none⟩=some (.int .i64 0):=cellN hCC.out 0;refine ⟨_,results_cells2 rfl _ _ ⟨U,0,none⟩ ⟨U+1,0,none⟩ (.string ⟨x.toArray⟩) (.int .i64 0) rfl rfl (by go_simp) (by go_simp),?_⟩;exact ⟨rfl,hEC.out⟩
end Go.Proofs.YtcopgcdhkgenkaaGreatDoor.Dw
namespace Cdk
open Go Go.RowKit
theorem wp_updateM {K:Type} [DecidableEq K] {P:Program} {kt:TypeId} {mk:K -> Value} {o:Oper} {a:Act} {w:World} {mb:Nat} {d:List (K × Value)} {KK:Act -> World -> Prop} {Q:Exit -> Act -> World -> Prop} (m x v:Operand) (t e:TypeId) (hop:o.op=Op.mapUpdate t m x v) (ok:KeyOk P kt mk) (ht:P.underlying t=some (.map kt e))
  (h:MapAt w mk mb d) (k:K) (val:Value) (hm:a.eval m=.map (some mb)) (hx:a.eval x=mk k) (hv:a.eval v=val)
  (hK:∀ w',MapAt w' mk mb (upd d k val) -> Mod (Eq mb) w w' -> KK (a.put o.dst undef) w'):o.wp P a w KK Q:=by
 obtain ⟨w',hrun,r1,r2,r3⟩:=run_updateM ok ht h k val;unfold Oper.wp;simp [execOp,hop,hm,hx,hv,hrun,Result.andThen];exact hK w' r1 r2
end Cdk
namespace Go.Proofs.YtcopgcdhkgenkaaGreatDoor
open Go.Shelf Go.RowKit Cdk Scr Nt
theorem dlv_cells (pa sq st:Nat) (x:Bs):(msC (dlvM pa sq st x)).toArray=#[.int .i64 1,.int .i64 pa,.int .i64 sq,.int .i64 st,.int .i64 0,.int .i64 (crc x),.string ⟨(diff0 x).toArray⟩]:=rfl
theorem applied_any (old:ByteArray) (pa sq st:Nat) (x:Bs) (hx:x.length<=8192) (w:World) (hG:Gl w):Calls Tryz.prog 109 #[.string old,.agg #[.int .i64 1,.int .i64 pa,.int .i64 sq,.int .i64 st,.int .i64 0,.int .i64 (crc x),.string ⟨(diff0 x).toArray⟩]] w fun e w'=>e=.returned (.tuple #[.string ⟨x.toArray⟩,.bool true])/\Ext w w':=by
 have hsn:=hid (fun W (h:Gl W)=>sum_any [] W h (by decide));have hsx:=hid (fun W (h:Gl W)=>sum_any x W h (by omega));rw [Dw.crc_nil] at hsn;have hap:=hid (fun W (h:Gl W)=>Dw.apply_any x hx W h);have hT0:=heap_alloc_new w (.cells #[.int .i64 1,.int .i64 pa,.int .i64 sq,.int .i64 st,.int .i64 0,.int .i64 (crc x),.string ⟨(diff0 x).toArray⟩] 45);have hx0:=Mod.alloc (Mod.refl (fun _=>False) w) (.cells #[.int .i64 1,.int .i64 pa,.int .i64 sq,.int .i64 st,.int .i64 0,.int .i64 (crc x),.string ⟨(diff0 x).toArray⟩] 45);obtain ⟨T,hTe⟩:∃ T,T=w.heap.size:=⟨_,rfl⟩;go_enter Tryz.func109,Tryz.ntmps109;go_upto_region 2 with fail
 rw [<- hTe] at hT0 ⊢;generalize w.alloc (.cells #[.int .i64 1,.int .i64 pa,.int .i64 sq,.int .i64 st,.int .i64 0,.int .i64 (crc x),.string ⟨(diff0 x).toArray⟩] 45)=w1 at hT0 hx0 ⊢;replace hTe:=hid hTe;have hG1:=hid (hG.ext hx0);have hT:=hid hT0;have hx1:=hid hx0;have c4:w1.cell? ⟨T,4,none⟩=some (.int .i64 0):=cellN hT0 4;clear hT0 hx0 hG;go_upto_region 4 with fail
 try simp only [List.append_eq,List.cons_append,List.nil_append]
 refine wp_region_tree (.s (.q 0 (.q 2 (.q 3 (.c1 1 (.q 4 .done)))))) (by as_aux_lemma=>kernel_rfl) (by as_aux_lemma=>kernel_rfl) (by as_aux_lemma=>kernel_rfl) (by decide) ?_;have hv0:=hid (Mod.drew0 (fun _=>False) w1);refine wpTr_s (fun Wx=>Ext w1 Wx) (fun _ _=>trivial) hv0.out ?_;generalize hWd:World.drew w1=V0 at hv0 ⊢
 iterate 3 (refine wpTr_q _ (by simp only [List.getD_cons_succ,List.getD_cons_zero];rfl) (by rfl) ?_ (fun w' hC=>?_) ?_;rotate_left;(have q_b:w'.cell? ⟨T,4,none⟩=some (.int .i64 0):=hC.cell (cellN hT.out 4) (fun h=>h);have q_v:w'.cell? ⟨T,5,none⟩=some (.int .i64 (crc x)):=hC.cell (cellN hT.out 5) (fun h=>h);go_simp;try with_reducible rfl);try simp only [Act.put,sA,sZ,sS])
 refine wpTr_c1 _ (by simp only [List.getD_cons_succ,List.getD_cons_zero];rfl) ?_;refine wpN_c (by rfl) (fun K hK=>?_);go_simp;refine (hsn.out V0 (hG1.out.ext hv0.out)).mono ?_;rintro e w9 ⟨rfl,rfl⟩;have hv1:=hv0;refine hK.out _ _ hv1.out ?_;clear hK K;try simp only [Act.put,sA,sZ,sS]
 refine wpTr_q _ (by simp only [List.getD_cons_succ,List.getD_cons_zero];rfl) (by rfl) ?_ (fun w' hC=>?_) ?_;rotate_left;(have q_b:w'.cell? ⟨T,4,none⟩=some (.int .i64 0):=hC.cell (cellN hT.out 4) (fun h=>h);have q_v:w'.cell? ⟨T,5,none⟩=some (.int .i64 (crc x)):=hC.cell (cellN hT.out 5) (fun h=>h);go_simp;try with_reducible rfl);try simp only [Act.put,sA,sZ,sS]
 refine wpTr_done ?_;have hT4:=hid (hv0.out.at hT.out (fun h=>h));have hx4:=hid (hx1.out.trans hv0.out);have d6:V0.cell? ⟨T,6,none⟩=some (.string ⟨(diff0 x).toArray⟩):=cellN hT4.out 6;clear hWd c4;go_wp2_with fail
 refine (hap.out V0 (hG1.out.ext hv0.out)).mono ?_;rintro e w7 ⟨rfl,hxa⟩;have hT7:=hid (hxa.at hT4.out (fun h=>h));have hx7:=hid (hx4.out.trans hxa);have hG7:=hid ((hG1.out.ext hv0.out).ext hxa);clear hxa d6 hT4 hx4;go_upto_region 7 with fail
 try simp only [List.append_eq,List.cons_append,List.nil_append]
 refine wp_region_tree (.s (.q 0 (.q 1 (.q 2 (.q 3 (.q 4 (.q 6 (.q 7 (.c1 5 (.q 8 (.q 9 (.q 10 (.q 11 .done))))))))))))) (by as_aux_lemma=>kernel_rfl) (by as_aux_lemma=>kernel_rfl) (by as_aux_lemma=>kernel_rfl) (by decide) ?_;have hu0:=hid (Mod.drew0 (fun _=>False) w7);refine wpTr_s (fun Wx=>Ext w7 Wx) (fun _ _=>trivial) hu0.out ?_;generalize hWd:World.drew w7=U0 at hu0 ⊢
 iterate 7 (refine wpTr_q _ (by simp only [List.getD_cons_succ,List.getD_cons_zero];rfl) (by rfl) ?_ (fun w' hC=>?_) ?_;rotate_left;(have q_b:w'.cell? ⟨T,4,none⟩=some (.int .i64 0):=hC.cell (cellN hT7.out 4) (fun h=>h);have q_v:w'.cell? ⟨T,5,none⟩=some (.int .i64 (crc x)):=hC.cell (cellN hT7.out 5) (fun h=>h);go_simp;try with_reducible rfl);try simp only [Act.put,sA,sZ,sS])
 refine wpTr_c1 _ (by simp only [List.getD_cons_succ,List.getD_cons_zero];rfl) ?_;refine wpN_c (by rfl) (fun K hK=>?_);go_simp;refine (hsx.out U0 (hG7.out.ext hu0.out)).mono ?_;rintro e w9 ⟨rfl,rfl⟩;have hu1:=hu0;refine hK.out _ _ hu1.out ?_;clear hK K;try simp only [Act.put,sA,sZ,sS]
 iterate 4 (refine wpTr_q _ (by simp only [List.getD_cons_succ,List.getD_cons_zero];rfl) (by rfl) ?_ (fun w' hC=>?_) ?_;rotate_left;(have q_b:w'.cell? ⟨T,4,none⟩=some (.int .i64 0):=hC.cell (cellN hT7.out 4) (fun h=>h);have q_v:w'.cell? ⟨T,5,none⟩=some (.int .i64 (crc x)):=hC.cell (cellN hT7.out 5) (fun h=>h);go_simp;try with_reducible rfl);try simp only [Act.put,sA,sZ,sS])
 refine wpTr_done ?_;go_wp2_with fail
 go_ret2
 exact ⟨rfl,hx7.out.trans hu0.out⟩
theorem answer_any (T:Nat) (kd sq ba ve:Int) (pa st:Int) (V:Array Value) (h1:V[1]?=some (.int .i64 pa)) (h3:V[3]?=some (.int .i64 st)) (w:World) (hT:w.heap[T]?=some (.cells V 45 (0,0))):
  Calls Tryz.prog 108 #[.int .i64 kd,.int .i64 sq,.int .i64 ba,.int .i64 ve,.pointer (some ⟨T,0,none⟩)] w fun e w'=>∃ A,e=.returned (.slice (some ⟨A,0,none⟩) 1 1)/\w.heap.size<=A/\w'.heap[A]?=some (.cells #[.int .i64 kd,.int .i64 pa,.int .i64 sq,.int .i64 st,.int .i64 ba,.int .i64 ve,.string ⟨#[]⟩] 45 (0,0))/\Ext w w':=by
 have c1:w.cell? ⟨T,1,none⟩=some (.int .i64 pa):=(cellN hT 1).trans h1;have c3:w.cell? ⟨T,3,none⟩=some (.int .i64 st):=(cellN hT 3).trans h3;have hx0:=Mod.alloc (Mod.refl (fun _=>False) w) (.cells #[.int .i64 kd,.int .i64 pa,.int .i64 sq,.int .i64 st,.int .i64 ba,.int .i64 ve,.string ⟨#[]⟩] 45);have hA:=heap_alloc_new w (.cells #[.int .i64 kd,.int .i64 pa,.int .i64 sq,.int .i64 st,.int .i64 ba,.int .i64 ve,.string ⟨#[]⟩] 45);have elM:El Tryz.prog 45 (.agg #[.int .i64 0,.int .i64 0,.int .i64 0,.int .i64 0,.int .i64 0,.int .i64 0,.string .empty]) 7 64:=⟨by kernel_rfl,rfl,by decide,by decide⟩;go_enter Tryz.func108,Tryz.ntmps108;go_wp2_with (refine wpList_slice1 rfl _ _ rfl Tryz.underlying86 elM (by decide) #[.int .i64 kd,.int .i64 pa,.int .i64 sq,.int .i64 st,.int .i64 ba,.int .i64 ve,.string ⟨#[]⟩] rfl rfl ?_)
 go_wp2_with fail
 go_ret;exact ⟨_,rfl,Nat.le_refl _,hA,hx0⟩
end Go.Proofs.YtcopgcdhkgenkaaGreatDoor
