import Derived.Test.YtcopgcdhkgenkaaGreatDoorPK7
set_option linter.all false
set_option maxRecDepth 100000
set_option maxHeartbeats 16000000
namespace Go.Proofs.YtcopgcdhkgenkaaGreatDoor.Ps
open Go.RowKit Cdk Tpl
structure Rd (B:Nat) (ao:Option Addr) (cap:Nat) (T:List Tk) (sz:Nat) (k:Nat) (w:World):Prop where
 cell:w.heap[B]?=some (.cells #[.slice ao T.length cap,.int .i64 k,.int .i64 sz] 605 (0,0))
 row:RowIs w ao (T.flatMap tokC)
 apart:∀ b off,ao=some ⟨b,off,none⟩ -> b ≠ B
 le:k<=T.length
 small:T.length<=1001
 sz:sz<=1000
section
variable {B:Nat} {ao:Option Addr} {cap:Nat} {T:List Tk} {sz k:Nat} {w w':World}
theorem Rd.mod {S:Nat -> Prop} (h:Rd B ao cap T sz k w) (hm:Mod S w w') (hB:¬ S B) (hS:∀ b off,ao=some ⟨b,off,none⟩ -> ¬ S b):Rd B ao cap T sz k w':=
 ⟨hm.at h.cell hB,h.row.mod hm hS,h.apart,h.le,h.small,h.sz⟩
theorem Rd.ext (h:Rd B ao cap T sz k w) (hm:Ext w w'):Rd B ao cap T sz k w':=h.mod hm (fun h=>h) (fun _ _ _ h=>h)
theorem Rd.tok (h:Rd B ao cap T sz k w) (hk:k < T.length):∃ b off,ao=some ⟨b,off,none⟩/\w.cell? ⟨b,off+k*3,none⟩=some (.int .i64 T[k].kind)/\w.cell? ⟨b,off+k*3+1,none⟩=some (.string ⟨T[k].text.toArray⟩)/\w.cell? ⟨b,off+k*3+2,none⟩=some (.int .i64 T[k].off):=by
 obtain ⟨b,off,he,hc⟩:=h.row.at (by rw [flat_length _ 3 tokC_len];omega);have f:=fun j (hj:j < 3)=>flat_get tokC 3 tokC_len T k j T[k] (List.getElem?_eq_getElem hk) hj
 have f0:=hc _ _ ((f 0 (by omega)).trans rfl);have f1:=hc _ _ ((f 1 (by omega)).trans rfl);have f2:=hc _ _ ((f 2 (by omega)).trans rfl);simp only [<- Nat.add_assoc,Nat.add_zero] at f0 f1 f2;exact ⟨b,off,he,f0,f1,f2⟩
end
def moreB (kd:Nat):List Tk -> Bool
 | []=>false
 | t::_=>decide (t.kind=kd)
theorem drop_tok {T:List Tk} {k:Nat} (hk:k < T.length):T.drop k=T[k]::T.drop (k+1):=List.drop_eq_getElem_cons hk
theorem more_any {B:Nat} {ao:Option Addr} {cap:Nat} {T:List Tk} {sz k:Nat} (kd:Nat) (w:World) (h:Rd B ao cap T sz k w):
  Calls Tryz.prog 487 #[.pointer (some ⟨B,0,none⟩),.int .i64 kd] w fun e w'=>e=.returned (.bool (moreB kd (T.drop k)))/\Ext w w':=by
 have hsm:=h.small;have hle:=h.le;have c0:w.cell? ⟨B,0,none⟩=some (.slice ao T.length cap):=cell_of' h.cell 0;have c1:w.cell? ⟨B,1,none⟩=some (.int .i64 k):=cell_of' h.cell 1;have hx:=fun n=>(Mod.refl (fun _=>False) w).ofDrewN n
 by_cases hk:k < T.length
 ·obtain ⟨b,off,rfl,g0,g1,g2⟩:=h.tok hk
  have hres:Hid (moreB kd (T.drop k)=((T[k].kind:Int)==(kd:Int))):=hid (by
   rw [drop_tok hk];simp only [moreB];rw [Bool.eq_iff_iff];simp;omega)
  generalize moreB kd (T.drop k)=r at hres ⊢;generalize T[k].kind=tk at hres g0;have hd:decide ((k:Int) < (T.length:Int))=true:=decide_eq_true (by omega);clear g1 g2;clear hle;generalize hn:T.length=n at hsm hk c0 hd;replace hn:=hid hn;replace h:=hid h;have hki:(k:Int) < (n:Int):=by omega
  go_enter Tryz.func487,Tryz.ntmps487;go_wp2_with fail
  go_quiet (fail)
  go_wp2;go_ret;refine ⟨?_,hx _⟩;rw [hres.out]
  rfl
 ·have hres:moreB kd (T.drop k)=false:=by rw [List.drop_eq_nil_of_le (by omega)];rfl
  have hd:decide ((k:Int) < (T.length:Int))=false:=decide_eq_false (by omega);rw [hres];generalize hn:T.length=n at*;replace hn:=hid hn;replace h:=hid h;replace hres:=hid hres;go_enter Tryz.func487,Tryz.ntmps487;go_wp2_with fail
  go_quiet (fail)
  go_wp2;go_ret;exact ⟨rfl,hx _⟩
def misE (a:Nat):PanicEntry:={ v:=.iface 602 (.int .i64 a),recovered:=false }
theorem put_at {w:World} {b:Nat} {cs:Array Value} {t:TypeId} {fr:Nat × Nat} (h:w.heap[b]?=some (.cells cs t fr)) (j:Nat) (v:Value):(w.setCell ⟨b,j,none⟩ v).heap[b]?=some (.cells (cs.setIfInBounds j v) t fr):=by
 simp only [World.setCell,Array.getElem?_modify,if_true];rw [h];simp
theorem need_ok {B:Nat} {ao:Option Addr} {cap:Nat} {T:List Tk} {sz k:Nat} (kd:Nat) (w:World) (h:Rd B ao cap T sz k w) (hk:k < T.length) (hkd:T[k].kind=kd):
  Calls Tryz.prog 488 #[.pointer (some ⟨B,0,none⟩),.int .i64 kd] w fun e w'=>e=.returned (tokV T[k])/\Rd B ao cap T sz (k+1) w'/\Mod (Eq B) w w':=by
 have hsm:=h.small;obtain ⟨t,ht⟩:∃ t,t=T[k]:=⟨_,rfl⟩;rw [<- ht] at hkd ⊢;unfold tokV;obtain ⟨n,hn⟩:∃ n,n=T.length:=⟨_,rfl⟩;have hd:decide ((n:Int)<=(k:Int))=false:=decide_eq_false (by omega);have hki:(k:Int) < (n:Int):=by omega
 have hne:((t.kind:Int) !=(kd:Int))=false:=by rw [hkd];simp
 rw [<- hn] at hsm;replace hn:=hid hn;replace h:=hid h;replace ht:=hid ht;replace hkd:=hid hkd;go_enter Tryz.func488,Tryz.ntmps488;go_wp2_with fail
 have hxR:=Mod.alloc (Mod.refl (fun _=>False) w) (.cells #[.int .i64 0,.string ⟨#[]⟩,.int .i64 0] 669);have hR0:=heap_alloc_new w (.cells #[.int .i64 0,.string ⟨#[]⟩,.int .i64 0] 669);have hBw:=lt_of_at h.out.cell;generalize hR:w.heap.size=R at hR0 hBw ⊢;generalize (w.alloc (.cells #[.int .i64 0,.string ⟨#[]⟩,.int .i64 0] 669))=w0 at hxR hR0 ⊢;have h0:=h.out.ext hxR;have c0:w0.cell? ⟨B,0,none⟩=some (.slice ao T.length cap):=cell_of' h0.cell 0;have c1:w0.cell? ⟨B,1,none⟩=some (.int .i64 k):=cell_of' h0.cell 1;have z:=free_of' h0.cell;have zR:=free_of' hR0;rw [<- hn.out] at c0;obtain ⟨b,off,hao,g0,g1,g2⟩:=h0.tok hk;subst hao;rw [<- ht.out] at g0 g1 g2;replace h0:=hid h0;replace hR:=hid hR;replace hR0:=hid hR0
 go_quiet (fail)
 go_wp2_with fail
 try simp only [World.drewN_zero]
 have hd1:Ext w0 (w0.drewN nq):=(Mod.refl _ w0).ofDrewN nq;generalize hw1:w0.drewN nq=w1 at hd1 ⊢;clear hw1 c0 c1 z zR g0 g1 g2;have h1:=h0.out.ext hd1;have hR1:=hd1.at hR0.out (fun h=>h);have hx1:=(hxR.trans hd1).drew;have c0:w1.drew.cell? ⟨B,0,none⟩=some (.slice (some ⟨b,off,none⟩) T.length cap):=cell_of' h1.cell 0;have c1:w1.drew.cell? ⟨B,1,none⟩=some (.int .i64 k):=cell_of' h1.cell 1;rw [<- hn.out] at c0;obtain ⟨b',off',hao,g0,g1,g2⟩:=h1.tok hk;obtain ⟨rfl,rfl⟩:b=b'/\off=off':=by simpa using hao
 rw [<- ht.out] at g0 g1 g2;replace h1:=hid (h1.ext (Mod.drew0 _ _));replace hR1:=hid ((Mod.drew0 (fun _=>False) _).at hR1 (fun h=>h));refine wp_region_schedE (fun w'=>w'.cell? ⟨B,0,none⟩=some (.slice (some ⟨b,off,none⟩) n cap)/\w'.cell? ⟨B,1,none⟩=some (.int .i64 k)/\w'.cell? ⟨b,off+k*3,none⟩=some (.int .i64 t.kind)/\w'.cell? ⟨b,off+k*3+1,none⟩=some (.string ⟨t.text.toArray⟩)/\w'.cell? ⟨b,off+k*3+2,none⟩=some (.int .i64 t.off)) [(0,true),(1,true),(2,true),(3,true),(4,true),(5,true),(6,true),(7,true),(8,true),(9,true),(10,false),(11,false)] (by as_aux_lemma=>kernel_rfl) (by as_aux_lemma=>kernel_rfl) (by as_aux_lemma=>kernel_rfl) (by decide) ⟨c0,c1,g0,g1,g2⟩ ?_;simp only [schedOps,List.map_cons,List.map_nil,List.getD_cons_zero,List.getD_cons_succ];repeat (first | (refine wpT_p (by rfl) (by rfl) ?_ (fun w' hC=>?_) ?_;rotate_left;(go_simp;try with_reducible rfl);try simp only [Act.put,sA,sZ,sS]) | (refine wpT_q (by rfl) (by rfl) ?_ (fun w' hC=>?_) ?_;rotate_left;(go_simp;try with_reducible rfl);try simp only [Act.put,sA,sZ,sS]))
 refine wpT_c (by rfl) (fun K hK=>?_);go_simp;have hxS:=Mod.alloc (Mod.refl (fun _=>False) w1.drew) (.cells #[.int .i64 0,.string ⟨#[]⟩,.int .i64 0] 669);refine hK.out _ _ ⟨hxS.cell c0 (fun h=>h),hxS.cell c1 (fun h=>h),hxS.cell g0 (fun h=>h),hxS.cell g1 (fun h=>h),hxS.cell g2 (fun h=>h)⟩ ?_;clear hK K;try simp only [Act.put,sA,sZ,sS]
 refine wpT_e (by rfl) (fun K hK=>?_);go_simp;refine hK.out _ _ ?_;clear hK K;clear c0 c1 g0 g1 g2;have hx3:=(Mod.alloc (Mod.refl (fun _=>False) w1) (.cells #[.int .i64 t.kind,.string ⟨t.text.toArray⟩,.int .i64 t.off] 669)).drew;have hS0:=(Mod.drew0 (fun _=>False) _).at (heap_alloc_new w1 (.cells #[.int .i64 t.kind,.string ⟨t.text.toArray⟩,.int .i64 t.off] 669)) (fun h=>h);have hBS:B < w1.heap.size:=lt_of_at h1.out.cell;have hRS:R < w1.heap.size:=lt_of_at hR1.out;have hws:w.heap.size<=w1.heap.size:=(hxR.trans hd1).size;generalize hS:w1.heap.size=SS at hS0 hBS hRS hws ⊢;generalize ((w1.alloc (.cells #[.int .i64 t.kind,.string ⟨t.text.toArray⟩,.int .i64 t.off] 669)).drew)=w3 at hx3 hS0 ⊢;have q0:w3.cell? ⟨SS,0,none⟩=some (.int .i64 t.kind):=cell_of' hS0 0;have q1:w3.cell? ⟨SS,1,none⟩=some (.string ⟨t.text.toArray⟩):=cell_of' hS0 1;have q2:w3.cell? ⟨SS,2,none⟩=some (.int .i64 t.off):=cell_of' hS0 2;have h3:=(h0.out.ext hd1).ext hx3;have hR3:=hx3.at (hd1.at hR0.out (fun h=>h)) (fun h=>h);have c0:w3.cell? ⟨B,0,none⟩=some (.slice (some ⟨b,off,none⟩) T.length cap):=cell_of' h3.cell 0;have c1:w3.cell? ⟨B,1,none⟩=some (.int .i64 k):=cell_of' h3.cell 1;have zB:=free_of' h3.cell;have zR3:=free_of' hR3;have r0:w3.cell? ⟨R,0,none⟩=some (.int .i64 0):=cell_of' hR3 0;have r1:w3.cell? ⟨R,1,none⟩=some (.string ⟨#[]⟩):=cell_of' hR3 1;have r2:w3.cell? ⟨R,2,none⟩=some (.int .i64 0):=cell_of' hR3 2;have hBR:¬ B=R:=by omega
 have hRB:¬ R=B:=by omega
 have hBS':¬ B=SS:=by omega
 have hSB:¬ SS=B:=by omega
 have hRS':¬ R=SS:=by omega
 have hSR:¬ SS=R:=by omega
 rw [<- hn.out] at c0;replace hS:=hid hS;replace hS0:=hid hS0;replace h3:=hid h3;replace hR3:=hid hR3;go_wp2_with fail
 have hm4:=(((((hxR.trans hd1).trans hx3).mono (fun _ h=>h.elim):Mod (Eq B) w w3).setCell (a:=⟨B,1,none⟩) (fun _=>rfl) (.int .i64 ((k:Int)+1))));have hB4:(w3.setCell ⟨B,1,none⟩ (.int .i64 ((k:Int)+1))).heap[B]?=some (.cells #[.slice (some ⟨b,off,none⟩) n cap,.int .i64 ((k:Int)+1),.int .i64 sz] 605 (0,0)):=by
  have:=h3.out.cell;rw [<- hn.out] at this;exact put_at this 1 _
 have hR4:=(put_ne w3 (b:=B) (k:=R) 1 (.int .i64 ((k:Int)+1)) (by omega)).trans hR3.out;have hr4:=h3.out.row.mod ((Mod.refl (Eq B) w3).setCell (a:=⟨B,1,none⟩) (fun _=>rfl) (.int .i64 ((k:Int)+1))) (fun b' o' e e'=>h3.out.apart b' o' e e'.symm);generalize (w3.setCell ⟨B,1,none⟩ (.int .i64 ((k:Int)+1)))=w4 at hm4 hB4 hR4 hr4 ⊢;have hR5:=setCell3 (x:=.int .i64 t.kind) (y:=.string ⟨t.text.toArray⟩) (z:=.int .i64 t.off) hR4;have hm5:=((((Mod.refl (Eq R) w4).setCell (a:=⟨R,0,none⟩) (fun _=>rfl) (.int .i64 t.kind)).setCell (a:=⟨R,1,none⟩) (fun _=>rfl) (.string ⟨t.text.toArray⟩)).setCell (a:=⟨R,2,none⟩) (fun _=>rfl) (.int .i64 t.off));generalize (((w4.setCell ⟨R,0,none⟩ (.int .i64 t.kind)).setCell ⟨R,1,none⟩ (.string ⟨t.text.toArray⟩)).setCell ⟨R,2,none⟩ (.int .i64 t.off))=w5 at hR5 hm5 ⊢;refine bodyPost_ret (results_cell_row rfl _ _ R _ _ _ _ rfl hR5 Tryz.underlying669 rfl tok_size) rfl ⟨rfl,?_,?_⟩
 ·refine ⟨?_,?_,h3.out.apart,by omega,h3.out.small,h3.out.sz⟩
  ·rw [hm5.block B (lt_of_at hB4) (fun e=>by omega),hB4,hn.out];rfl
  ·exact hr4.mod hm5 (fun b' o' e e'=>by
    have h8:R<=b':=Nat.le_of_eq e';obtain ⟨b9,o9,h9,h10⟩:=h.out.row 0 _ (List.getElem?_eq_getElem (by rw [flat_length _ 3 tokC_len];omega));have:=World.block_lt_of_cell? w _ h10;rw [e] at h9;injection h9 with h9;injection h9 with h9 _ _
    have h11:=hR.out;simp only at this
    omega)
 ·exact hm4.then hm5 (fun k' hk' e=>by have:=hR.out;omega)
theorem need_bad {B:Nat} {ao:Option Addr} {cap:Nat} {T:List Tk} {sz k:Nat} (kd:Nat) (w:World) (h:Rd B ao cap T sz k w) (hk:k < T.length) (hkd:T[k].kind ≠ kd):
  Calls Tryz.prog 488 #[.pointer (some ⟨B,0,none⟩),.int .i64 kd] w fun e w'=>e=.panicked [misE T[k].off]/\Ext w w':=by
 have hsm:=h.small;obtain ⟨t,ht⟩:∃ t,t=T[k]:=⟨_,rfl⟩;rw [<- ht] at hkd ⊢;unfold misE;obtain ⟨n,hn⟩:∃ n,n=T.length:=⟨_,rfl⟩;have hd:decide ((n:Int)<=(k:Int))=false:=decide_eq_false (by omega);have hki:(k:Int) < (n:Int):=by omega
 have hne:((t.kind:Int) !=(kd:Int))=true:=by rw [bne_iff_ne];omega
 rw [<- hn] at hsm;replace hn:=hid hn;replace h:=hid h;replace ht:=hid ht;replace hkd:=hid hkd;go_enter Tryz.func488,Tryz.ntmps488;go_wp2_with fail
 have hxR:=Mod.alloc (Mod.refl (fun _=>False) w) (.cells #[.int .i64 0,.string ⟨#[]⟩,.int .i64 0] 669);have hR0:=heap_alloc_new w (.cells #[.int .i64 0,.string ⟨#[]⟩,.int .i64 0] 669);have hBw:=lt_of_at h.out.cell;generalize hR:w.heap.size=R at hR0 hBw ⊢;generalize (w.alloc (.cells #[.int .i64 0,.string ⟨#[]⟩,.int .i64 0] 669))=w0 at hxR hR0 ⊢;have h0:=h.out.ext hxR;have c0:w0.cell? ⟨B,0,none⟩=some (.slice ao T.length cap):=cell_of' h0.cell 0;have c1:w0.cell? ⟨B,1,none⟩=some (.int .i64 k):=cell_of' h0.cell 1;have z:=free_of' h0.cell;have zR:=free_of' hR0;rw [<- hn.out] at c0;obtain ⟨b,off,hao,g0,g1,g2⟩:=h0.tok hk;subst hao;rw [<- ht.out] at g0 g1 g2;replace h0:=hid h0;replace hR:=hid hR;replace hR0:=hid hR0
 go_quiet (fail)
 go_wp2_with fail
 try simp only [World.drewN_zero]
 have hd1:Ext w0 (w0.drewN nq):=(Mod.refl _ w0).ofDrewN nq;generalize hw1:w0.drewN nq=w1 at hd1 ⊢;clear hw1 c0 c1 z zR g0 g1 g2;have h1:=h0.out.ext hd1;have hR1:=hd1.at hR0.out (fun h=>h);have hx1:=(hxR.trans hd1).drew;have c0:w1.drew.cell? ⟨B,0,none⟩=some (.slice (some ⟨b,off,none⟩) T.length cap):=cell_of' h1.cell 0;have c1:w1.drew.cell? ⟨B,1,none⟩=some (.int .i64 k):=cell_of' h1.cell 1;rw [<- hn.out] at c0;obtain ⟨b',off',hao,g0,g1,g2⟩:=h1.tok hk;obtain ⟨rfl,rfl⟩:b=b'/\off=off':=by simpa using hao
 rw [<- ht.out] at g0 g1 g2;replace h1:=hid (h1.ext (Mod.drew0 _ _));replace hR1:=hid ((Mod.drew0 (fun _=>False) _).at hR1 (fun h=>h));refine wp_region_schedE (fun w'=>w'.cell? ⟨B,0,none⟩=some (.slice (some ⟨b,off,none⟩) n cap)/\w'.cell? ⟨B,1,none⟩=some (.int .i64 k)/\w'.cell? ⟨b,off+k*3,none⟩=some (.int .i64 t.kind)/\w'.cell? ⟨b,off+k*3+1,none⟩=some (.string ⟨t.text.toArray⟩)/\w'.cell? ⟨b,off+k*3+2,none⟩=some (.int .i64 t.off)) [(0,true),(1,true),(2,true),(3,true),(4,true),(5,true),(6,true),(7,true),(8,true),(9,true),(10,false),(11,false)] (by as_aux_lemma=>kernel_rfl) (by as_aux_lemma=>kernel_rfl) (by as_aux_lemma=>kernel_rfl) (by decide) ⟨c0,c1,g0,g1,g2⟩ ?_;simp only [schedOps,List.map_cons,List.map_nil,List.getD_cons_zero,List.getD_cons_succ];repeat (first | (refine wpT_p (by rfl) (by rfl) ?_ (fun w' hC=>?_) ?_;rotate_left;(go_simp;try with_reducible rfl);try simp only [Act.put,sA,sZ,sS]) | (refine wpT_q (by rfl) (by rfl) ?_ (fun w' hC=>?_) ?_;rotate_left;(go_simp;try with_reducible rfl);try simp only [Act.put,sA,sZ,sS]))
 refine wpT_c (by rfl) (fun K hK=>?_);go_simp;have hxS:=Mod.alloc (Mod.refl (fun _=>False) w1.drew) (.cells #[.int .i64 0,.string ⟨#[]⟩,.int .i64 0] 669);refine hK.out _ _ ⟨hxS.cell c0 (fun h=>h),hxS.cell c1 (fun h=>h),hxS.cell g0 (fun h=>h),hxS.cell g1 (fun h=>h),hxS.cell g2 (fun h=>h)⟩ ?_;clear hK K;try simp only [Act.put,sA,sZ,sS]
 refine wpT_e (by rfl) (fun K hK=>?_);go_simp;refine hK.out _ _ ?_;clear hK K;clear c0 c1 g0 g1 g2;have hx3:=(Mod.alloc (Mod.refl (fun _=>False) w1) (.cells #[.int .i64 t.kind,.string ⟨t.text.toArray⟩,.int .i64 t.off] 669)).drew;have hS0:=(Mod.drew0 (fun _=>False) _).at (heap_alloc_new w1 (.cells #[.int .i64 t.kind,.string ⟨t.text.toArray⟩,.int .i64 t.off] 669)) (fun h=>h);have hBS:B < w1.heap.size:=lt_of_at h1.out.cell;have hRS:R < w1.heap.size:=lt_of_at hR1.out;have hws:w.heap.size<=w1.heap.size:=(hxR.trans hd1).size;generalize hS:w1.heap.size=SS at hS0 hBS hRS hws ⊢;generalize ((w1.alloc (.cells #[.int .i64 t.kind,.string ⟨t.text.toArray⟩,.int .i64 t.off] 669)).drew)=w3 at hx3 hS0 ⊢;have q0:w3.cell? ⟨SS,0,none⟩=some (.int .i64 t.kind):=cell_of' hS0 0;have q1:w3.cell? ⟨SS,1,none⟩=some (.string ⟨t.text.toArray⟩):=cell_of' hS0 1;have q2:w3.cell? ⟨SS,2,none⟩=some (.int .i64 t.off):=cell_of' hS0 2;have h3:=(h0.out.ext hd1).ext hx3;have hR3:=hx3.at (hd1.at hR0.out (fun h=>h)) (fun h=>h);have c0:w3.cell? ⟨B,0,none⟩=some (.slice (some ⟨b,off,none⟩) T.length cap):=cell_of' h3.cell 0;have c1:w3.cell? ⟨B,1,none⟩=some (.int .i64 k):=cell_of' h3.cell 1;have zB:=free_of' h3.cell;have zR3:=free_of' hR3;have r0:w3.cell? ⟨R,0,none⟩=some (.int .i64 0):=cell_of' hR3 0;have r1:w3.cell? ⟨R,1,none⟩=some (.string ⟨#[]⟩):=cell_of' hR3 1;have r2:w3.cell? ⟨R,2,none⟩=some (.int .i64 0):=cell_of' hR3 2;have hBR:¬ B=R:=by omega
 have hRB:¬ R=B:=by omega
 have hBS':¬ B=SS:=by omega
 have hSB:¬ SS=B:=by omega
 have hRS':¬ R=SS:=by omega
 have hSR:¬ SS=R:=by omega
 rw [<- hn.out] at c0;replace hS:=hid hS;replace hS0:=hid hS0;replace h3:=hid h3;replace hR3:=hid hR3;go_wp2_with fail
 exact ⟨rfl,rfl,(hxR.trans hd1).trans hx3⟩
theorem need_end {B:Nat} {ao:Option Addr} {cap:Nat} {T:List Tk} {sz k:Nat} (kd:Nat) (w:World) (h:Rd B ao cap T sz k w) (hk:¬ k < T.length):
  Calls Tryz.prog 488 #[.pointer (some ⟨B,0,none⟩),.int .i64 kd] w fun e w'=>e=.panicked [misE sz]/\Ext w w':=by
 have hsm:=h.small;unfold misE;obtain ⟨n,hn⟩:∃ n,n=T.length:=⟨_,rfl⟩;have hd:decide ((n:Int)<=(k:Int))=true:=decide_eq_true (by omega);have hd':decide (n<=k)=true:=decide_eq_true (by omega);have hnk:n<=k:=by omega
 rw [<- hn] at hsm;replace hn:=hid hn;replace h:=hid h;replace hk:=hid hk;go_enter Tryz.func488,Tryz.ntmps488;go_wp2_with fail
 have hxR:=Mod.alloc (Mod.refl (fun _=>False) w) (.cells #[.int .i64 0,.string ⟨#[]⟩,.int .i64 0] 669);generalize hR:w.heap.size=R;generalize (w.alloc (.cells #[.int .i64 0,.string ⟨#[]⟩,.int .i64 0] 669))=w0 at hxR ⊢;have h0:=h.out.ext hxR;have c0:w0.cell? ⟨B,0,none⟩=some (.slice ao T.length cap):=cell_of' h0.cell 0;have c1:w0.cell? ⟨B,1,none⟩=some (.int .i64 k):=cell_of' h0.cell 1;have c2:w0.cell? ⟨B,2,none⟩=some (.int .i64 sz):=cell_of' h0.cell 2;rw [<- hn.out] at c0;replace h0:=hid h0;replace hR:=hid hR
 go_quiet (fail)
 go_wp2_with fail
 exact ⟨rfl,rfl,hxR.trans ((Mod.refl _ w0).ofDrewN _)⟩
theorem need_any {B:Nat} {ao:Option Addr} {cap:Nat} {T:List Tk} {sz k:Nat} (kd:Nat) (w:World) (h:Rd B ao cap T sz k w):
  Calls Tryz.prog 488 #[.pointer (some ⟨B,0,none⟩),.int .i64 kd] w fun e w'=>
   (∃ hk:k < T.length,T[k].kind=kd/\e=.returned (tokV T[k])/\Rd B ao cap T sz (k+1) w'/\Mod (Eq B) w w') \/ (∃ a,Tpl.need sz kd (T.drop k)=.error a/\e=.panicked [misE a]/\Ext w w'):=by
 by_cases hk:k < T.length
 ·by_cases hkd:T[k].kind=kd
  ·exact (need_ok kd w h hk hkd).mono fun e w' ⟨h1,h2,h3⟩=>.inl ⟨hk,hkd,h1,h2,h3⟩
  ·exact (need_bad kd w h hk hkd).mono fun e w' ⟨h1,h2⟩=>.inr ⟨_,by rw [drop_tok hk];simp only [Tpl.need,if_neg hkd],h1,h2⟩
 ·exact (need_end kd w h hk).mono fun e w' ⟨h1,h2⟩=>.inr ⟨_,by rw [List.drop_eq_nil_of_le (by omega)];rfl,h1,h2⟩
theorem need_hit {sz kd:Nat} {T:List Tk} {k:Nat} (hk:k < T.length) (hkd:T[k].kind=kd):Tpl.need sz kd (T.drop k)=.ok (T[k],T.drop (k+1)):=by
 rw [drop_tok hk];simp only [Tpl.need,if_pos hkd]
theorem more_hit {kd:Nat} {T:List Tk} {k:Nat} (h:moreB kd (T.drop k)=true):∃ hk:k < T.length,T[k].kind=kd:=by
 by_cases hk:k < T.length
 ·rw [drop_tok hk] at h;simp only [moreB,decide_eq_true_eq] at h;exact ⟨hk,h⟩
 ·rw [List.drop_eq_nil_of_le (by omega)] at h;cases h
def strV (s:Bs):Value:=.string ⟨s.toArray⟩
def strC (s:Bs):List Value:=[strV s]
theorem strC_len (s:Bs):(strC s).length=1:=rfl
theorem Index_any (ao:Option Addr) (cap:Nat) (l:List Bs) (hl:l.length<=100) (x:Bs) (w:World) (hrow:RowIs w ao (l.flatMap strC)):
  Calls Tryz.prog 515 #[.slice ao l.length cap,strV x] w fun e w'=>(∃ i:Int,e=.returned (.int .i64 i)/\decide (0<=i)=decide (x ∈ l))/\w=w':=by
 unfold strV;obtain ⟨n,hn⟩:∃ n,n=l.length:=⟨_,rfl⟩;rw [<- hn] at hl ⊢;replace hn:=hid hn;replace hrow:=hid hrow;go_enter Tryz.func515,Tryz.ntmps515;go_wp2_with fail
 go_loopg [8] n (fun g e wr=>∃ j:Nat,j+g=n/\e=.int .i64 j/\wr=w/\x ∉ l.take j)
 case atStart=>exact ⟨0,by omega,rfl,rfl,by simp⟩
 case round=>
  obtain ⟨j,hj,rfl,rfl,hnot⟩:=hrel;replace hj:=hid hj;replace hnot:=hid hnot;have hjn:j<=n:=by have:=hj.out;omega
  by_cases hlt:j < n
  ·have hjl:j < l.length:=by have:=hn.out;omega
   obtain ⟨b,off,rfl,hc⟩:=hrow.out.at (by rw [flat_length _ 1 strC_len];omega);have g0:=hc _ _ ((flat_get strC 1 strC_len l j 0 l[j] (List.getElem?_eq_getElem hjl) (by omega)).trans rfl);simp only [Nat.mul_one,Nat.add_zero,strV] at g0;have hlti:(j:Int) < (n:Int):=by omega
   have hd:decide ((j:Int) < (n:Int))=true:=decide_eq_true hlti;have hb:(x==l[j])=decide (x=l[j]):=by rw [Bool.eq_iff_iff,decide_eq_true_eq,beq_iff_eq]
   clear hc;cases he:decide (x=l[j]) with
   | true=>
    rw [he] at hb;go_wp2;go_ret;refine ⟨⟨j,rfl,?_⟩,rfl⟩;rw [decide_eq_true_eq] at he;rw [decide_eq_true (by omega),eq_comm,decide_eq_true_eq,he];exact List.getElem_mem _
   | false=>
    rw [he] at hb;go_wp2_with fail
    go_roundg (gk - 1)
    case measure=>have:=hj.out;omega
    case rel=>
     refine ⟨j+1,by have:=hj.out;omega,by simp,rfl,?_⟩;rw [List.take_add_one,List.getElem?_eq_getElem hjl];simp only [Option.toList,List.mem_append,List.mem_singleton,not_or];exact ⟨hnot.out,by simpa using he⟩
  ·have hd:decide ((j:Int) < (n:Int))=false:=decide_eq_false (by omega)
   have hni:¬ (j:Int) < (n:Int):=by omega
   go_wp2;go_ret;refine ⟨⟨-1,rfl,?_⟩,rfl⟩;have:=hnot.out;have hn2:=hn.out;rw [List.take_of_length_le (by omega)] at this;simp [this]
theorem Contains_any (ao:Option Addr) (cap:Nat) (l:List Bs) (hl:l.length<=100) (x:Bs) (w:World) (hrow:RowIs w ao (l.flatMap strC)):
  Calls Tryz.prog 410 #[.slice ao l.length cap,strV x] w fun e w'=>e=.returned (.bool (decide (x ∈ l)))/\w=w':=by
 have hI:=hid (Index_any ao cap l hl x w hrow);unfold strV at hI ⊢;obtain ⟨n,hn⟩:∃ n,n=l.length:=⟨_,rfl⟩;rw [<- hn] at hI ⊢;replace hn:=hid hn;replace hrow:=hid hrow;generalize decide (x ∈ l)=r at hI ⊢;go_enter Tryz.func410,Tryz.ntmps410;go_wp2_with fail
 refine hI.out.mono ?_;rintro e w' ⟨⟨i,rfl,hi⟩,rfl⟩;replace hi:=hid hi;go_wp2;go_ret;refine ⟨?_,rfl⟩;rw [<- hi.out]
 rfl
structure NC where
 kd:Nat
 tx:Bs
 nm:Bs
 ar:Bs
 ct:Int
 fl:Value
 ks:Value
 es:Value
def ncC (c:NC):List Value:=[.int .i64 c.kd,strV c.tx,strV c.nm,strV c.ar,.int .i64 c.ct,c.fl,c.ks,c.es]
def ncV (c:NC):Value:=.agg (ncC c).toArray
def Thaw (w:World) (b:Nat):Prop:=∃ cs t,w.heap[b]?=some (.cells cs t (0,0))
def CapOk (w:World) (ao:Option Addr) (n cap:Nat):Prop:=(ao=none -> cap=0)/\n<=cap/\∀ b off,ao=some ⟨b,off,none⟩ -> Thaw w b
theorem CapOk.nil {w:World}:CapOk w none 0 0:=⟨fun _=>rfl,Nat.le_refl _,fun _ _ e=>nomatch e⟩
theorem CapOk.some {w:World} {b:Nat} (h:Thaw w b) (off n:Nat):CapOk w (some ⟨b,off,none⟩) n n:=
 ⟨(fun h=>nomatch h),Nat.le_refl _,fun _ _ e=>by injection e with e;injection e with e _ _;exact e ▸ h⟩
theorem CapOk.mod {S:Nat -> Prop} {w w':World} {ao:Option Addr} {n cap:Nat} (h:CapOk w ao n cap) (hm:Mod S w w') (hS:∀ b off,ao=.some ⟨b,off,none⟩ -> ¬ S b):CapOk w' ao n cap:=
 ⟨h.1,h.2.1,fun b off e=>by obtain ⟨c,t,hc⟩:=h.2.2 b off e;exact ⟨c,t,hm.at hc (hS b off e)⟩⟩
theorem Own.capOk {α:Type} {f:α -> List Value} {base:Nat} {e:TypeId} {size:Nat} {w:World} {ao:Option Addr} {n cap:Nat} {xs:List α} (h:Cdk.Own w base e size f (.slice ao n cap) xs):CapOk w ao n cap:=by
 have ht:∀ b off,ao=some ⟨b,off,none⟩ -> Thaw w b:=fun b off e=>by
  obtain ⟨ao',cap',e1,-,hb⟩:=h.row;injection e1 with e1 _ _
  obtain ⟨c,hc⟩:=h.cells (hb b off (e1 ▸ e));exact ⟨c,_,hc⟩
 rcases h.2 with ⟨h1,_⟩ | ⟨g,c,cur,h1,hb,hg,hle,hcm,hcs,_⟩
 ·cases h1;exact .nil
 ·cases h1;exact ⟨(fun h=>nomatch h),hle,ht⟩
def StrsAt (F:Nat -> Prop) (w:World) (v:Value) (l:List Bs):Prop:=
 ∃ ao cap,v=.slice ao l.length cap/\RowIs w ao (l.flatMap strC)/\(∀ b off,ao=some ⟨b,off,none⟩ -> F b)/\CapOk w ao l.length cap
mutual
inductive NodeAt (F:Nat -> Prop) (w:World):NC -> Nd -> Prop
 | mk (c:NC) (fl:List Bs) (ks es:List Nd):StrsAt F w c.fl fl -> NodesAt F w c.ks ks -> NodesAt F w c.es es -> NodeAt F w c (.mk c.kd c.tx c.nm c.ar c.ct fl ks es)
inductive NodesAt (F:Nat -> Prop) (w:World):Value -> List Nd -> Prop
 | mk (ao:Option Addr) (cap:Nat) (rows:List NC) (l:List Nd):RowIs w ao (rows.flatMap ncC) -> (∀ b off,ao=some ⟨b,off,none⟩ -> F b) -> RowsAt F w rows l -> CapOk w ao rows.length cap -> NodesAt F w (.slice ao rows.length cap) l
inductive RowsAt (F:Nat -> Prop) (w:World):List NC -> List Nd -> Prop
 | nil:RowsAt F w [] []
 | cons (c:NC) (n:Nd) (rows:List NC) (l:List Nd):NodeAt F w c n -> RowsAt F w rows l -> RowsAt F w (c::rows) (n::l)
end
theorem StrsAt.mod {F S:Nat -> Prop} {w w':World} {v:Value} {l:List Bs} (h:StrsAt F w v l) (hm:Mod S w w') (hS:∀ k,F k -> ¬ S k):StrsAt F w' v l:=by
 obtain ⟨ao,cap,rfl,hr,hb,hc⟩:=h;exact ⟨ao,cap,rfl,hr.mod hm (fun b off e=>hS b (hb b off e)),hb,hc.mod hm (fun b off e=>hS b (hb b off e))⟩
theorem StrsAt.mono {F F':Nat -> Prop} {w:World} {v:Value} {l:List Bs} (h:StrsAt F w v l) (hF:∀ k,F k -> F' k):StrsAt F' w v l:=by
 obtain ⟨ao,cap,rfl,hr,hb,hc⟩:=h;exact ⟨ao,cap,rfl,hr,fun b off e=>hF b (hb b off e),hc⟩
theorem StrsAt.nil (F:Nat -> Prop) (w:World):StrsAt F w (.slice none 0 0) []:=⟨none,0,rfl,RowIs.nil _ _,by simp,.nil⟩
section
variable {F F' S:Nat -> Prop} {w w':World}
mutual
theorem NodeAt.mod (hm:Mod S w w') (hS:∀ k,F k -> ¬ S k):∀ {c:NC} {n:Nd},NodeAt F w c n -> NodeAt F w' c n
 | _,_,.mk c fl ks es h1 h2 h3=>.mk c fl ks es (h1.mod hm hS) (NodesAt.mod hm hS h2) (NodesAt.mod hm hS h3)
theorem NodesAt.mod (hm:Mod S w w') (hS:∀ k,F k -> ¬ S k):∀ {v:Value} {l:List Nd},NodesAt F w v l -> NodesAt F w' v l
 | _,_,.mk ao cap rows l h1 h2 h3 h4=>.mk ao cap rows l (h1.mod hm (fun b off e=>hS b (h2 b off e))) h2 (RowsAt.mod hm hS h3) (h4.mod hm (fun b off e=>hS b (h2 b off e)))
theorem RowsAt.mod (hm:Mod S w w') (hS:∀ k,F k -> ¬ S k):∀ {rows:List NC} {l:List Nd},RowsAt F w rows l -> RowsAt F w' rows l
 | _,_,.nil=>.nil
 | _,_,.cons c n rows l h1 h2=>.cons c n rows l (NodeAt.mod hm hS h1) (RowsAt.mod hm hS h2)
end
mutual
theorem NodeAt.mono (hF:∀ k,F k -> F' k):∀ {c:NC} {n:Nd},NodeAt F w c n -> NodeAt F' w c n
 | _,_,.mk c fl ks es h1 h2 h3=>.mk c fl ks es (h1.mono hF) (NodesAt.mono hF h2) (NodesAt.mono hF h3)
theorem NodesAt.mono (hF:∀ k,F k -> F' k):∀ {v:Value} {l:List Nd},NodesAt F w v l -> NodesAt F' w v l
 | _,_,.mk ao cap rows l h1 h2 h3 h4=>.mk ao cap rows l h1 (fun b off e=>hF b (h2 b off e)) (RowsAt.mono hF h3) h4
theorem RowsAt.mono (hF:∀ k,F k -> F' k):∀ {rows:List NC} {l:List Nd},RowsAt F w rows l -> RowsAt F' w rows l
 | _,_,.nil=>.nil
 | _,_,.cons c n rows l h1 h2=>.cons c n rows l (NodeAt.mono hF h1) (RowsAt.mono hF h2)
end
theorem NodesAt.nil (F:Nat -> Prop) (w:World):NodesAt F w (.slice none 0 0) []:=.mk none 0 [] [] (RowIs.nil _ _) (by simp) .nil .nil
theorem RowsAt.snoc:∀ {rows:List NC} {l:List Nd} {c:NC} {n:Nd},RowsAt F w rows l -> NodeAt F w c n -> RowsAt F w (rows++[c]) (l++[n])
 | _,_,_,_,.nil,h=>.cons _ _ _ _ h .nil
 | _,_,_,_,.cons c n rows l h1 h2,h=>.cons _ _ _ _ h1 (RowsAt.snoc h2 h)
theorem StrsAt.slice {v:Value} {l:List Bs} (h:StrsAt F w v l):∃ ao n cap,v=.slice ao n cap:=by obtain ⟨ao,cap,rfl,_⟩:=h;exact ⟨_,_,_,rfl⟩
theorem NodesAt.slice {v:Value} {l:List Nd} (h:NodesAt F w v l):∃ ao n cap,v=.slice ao n cap:=by cases h;exact ⟨_,_,_,rfl⟩
theorem NodeAt.one {c:NC} {n:Nd} (h:NodeAt F w c n):∀ u ∈ ncC c,u.oneCell'=true:=by
 cases h with
 | mk c fl ks es h1 h2 h3=>
  obtain ⟨_,_,_,e1⟩:=h1.slice;obtain ⟨_,_,_,e2⟩:=h2.slice;obtain ⟨_,_,_,e3⟩:=h3.slice;intro u hu;simp only [ncC,List.mem_cons,List.not_mem_nil,or_false] at hu;rcases hu with rfl | rfl | rfl | rfl | rfl | rfl | rfl | rfl
  all_goals first | rfl | (rw [e1];rfl) | (rw [e2];rfl) | (rw [e3];rfl)
end
def ResP {α:Type} (B:Nat) (ao:Option Addr) (cap:Nat) (T:List Tk) (sz k:Nat) (w:World) (r:Except Nat (α × List Tk)) (good:α -> Value -> World -> Prop) (e:Ending) (w':World):Prop:=
 (∃ x k' v,r=.ok (x,T.drop k')/\k < k'/\e=.returned v/\good x v w'/\Rd B ao cap T sz k' w'/\Mod (Eq B) w w') \/ (∃ a,r=.error a/\e=.panicked [misE a]/\Mod (Eq B) w w')
def Since (w w':World) (k:Nat):Prop:=w.heap.size<=k/\k < w'.heap.size
def fieldS (sz fuel:Nat) (ts:List Tk):Except Nat (List Bs × List Tk):=do
 let (fl,r) <- filtersS sz fuel ts []
 let (_,r) <- Tpl.need sz 7 r
 .ok (fl,r)
theorem rd_old {B:Nat} {ao:Option Addr} {cap:Nat} {T:List Tk} {sz k:Nat} {w:World} (h:Rd B ao cap T sz k w) (hT:0 < T.length):∀ b off,ao=some ⟨b,off,none⟩ -> ¬ w.heap.size<=b:=by
 intro b off e;obtain ⟨b9,o9,h9,h10⟩:=h.row 0 _ (List.getElem?_eq_getElem (by rw [flat_length _ 3 tokC_len];omega));have:=World.block_lt_of_cell? w _ h10;rw [e] at h9;injection h9 with h9;injection h9 with h9 _ _
 simp only at this;omega
theorem wp_region_schedEP {P:Program} {Q:Exit -> Act -> World -> Prop} {id:Nat} {l:List Oper} {a:Act} {w:World} (C:World -> Prop) (sch:List (Nat × Bool)) (hm:P.follows .mixedOrders=true)
  (hno:Region.noSelect l.toArray=true) (hok:schedOkL .any l.toArray sch (Array.replicate l.length false)=true) (hlen:sch.length<=l.length)
  (hQ:∀ c a d v w,Q (.panic c) (Act.put a d v) w -> Q (.panic c) a w) (hC:C w.drew) (h:wpT P l.toArray C Q (schedOps l sch) a w.drew):(Code.region id l.toArray true).wp P Q a w:=
 wp_region_any hm (wpAny_of_last (S:=C) _ _ _ _ (wpT_sound (md:=.any) hno hQ sch l.length (Array.replicate l.length false) a w.drew hlen hok hC h))
theorem fld_text (x y z:Value) (w:World):(Instr.field 669 (.agg #[x,y,z]) 1).run Tryz.prog w=.ok y w:=by
 have h:=Tryz.underlying669;unfold Instr.field;simp [go_sem,run_underlying h,Tryz.underlying9,asAgg]
theorem need_miss {B:Nat} {ao:Option Addr} {cap:Nat} {T:List Tk} {sz k:Nat} (kd:Nat) (w:World) (h:Rd B ao cap T sz k w) (hk:moreB kd (T.drop k)=false):
  Calls Tryz.prog 488 #[.pointer (some ⟨B,0,none⟩),.int .i64 kd] w fun e w'=>∃ a,Tpl.need sz kd (T.drop k)=.error a/\e=.panicked [misE a]/\Ext w w':=
 (need_any kd w h).mono fun e w' h'=>by
  rcases h' with ⟨h1,h2,_⟩ | h'
  ·rw [drop_tok h1] at hk;simp only [moreB,decide_eq_false_iff_not] at hk;exact absurd h2 hk
  ·exact h'
theorem el9:El Tryz.prog 9 (.string .empty) 1 16:=⟨by kernel_rfl,rfl,by decide,by decide⟩
theorem cells8 {w:World} {b:Nat} {a b0 c d e f g h:Value} {t:TypeId} {fr:Nat × Nat} (hh:w.heap[b]?=some (.cells #[a,b0,c,d,e,f,g,h] t fr)):
  w.cell? ⟨b,0,none⟩=some a/\w.cell? ⟨b,1,none⟩=some b0/\w.cell? ⟨b,2,none⟩=some c/\w.cell? ⟨b,3,none⟩=some d/\w.cell? ⟨b,4,none⟩=some e/\w.cell? ⟨b,5,none⟩=some f/\w.cell? ⟨b,6,none⟩=some g/\w.cell? ⟨b,7,none⟩=some h:=
 ⟨cell_of' hh 0,cell_of' hh 1,cell_of' hh 2,cell_of' hh 3,cell_of' hh 4,cell_of' hh 5,cell_of' hh 6,cell_of' hh 7⟩
def put8 (w:World) (b:Nat) (x0 x1 x2 x3 x4 x5 x6 x7:Value):World:=
 (((((((w.setCell ⟨b,0,none⟩ x0).setCell ⟨b,1,none⟩ x1).setCell ⟨b,2,none⟩ x2).setCell ⟨b,3,none⟩ x3).setCell ⟨b,4,none⟩ x4).setCell ⟨b,5,none⟩ x5).setCell ⟨b,6,none⟩ x6).setCell ⟨b,7,none⟩ x7
theorem put8_at {w:World} {b:Nat} {a b0 c d e f g h x0 x1 x2 x3 x4 x5 x6 x7:Value} {t:TypeId} {fr:Nat × Nat} (hh:w.heap[b]?=some (.cells #[a,b0,c,d,e,f,g,h] t fr)):
  (put8 w b x0 x1 x2 x3 x4 x5 x6 x7).heap[b]?=some (.cells #[x0,x1,x2,x3,x4,x5,x6,x7] t fr):=
by
 have h0:=put_at hh 0 x0
 simp only [List.setIfInBounds_toArray,List.set_cons_zero] at h0
 have h1:=put_at h0 1 x1
 simp only [sA,sZ,sS] at h1
 have h2:=put_at h1 2 x2
 simp only [sA,sZ,sS] at h2
 have h3:=put_at h2 3 x3
 simp only [sA,sZ,sS] at h3
 have h4:=put_at h3 4 x4
 simp only [sA,sZ,sS] at h4
 have h5:=put_at h4 5 x5
 simp only [sA,sZ,sS] at h5
 have h6:=put_at h5 6 x6
 simp only [sA,sZ,sS] at h6
 have h7:=put_at h6 7 x7
 simp only [sA,sZ,sS] at h7
 exact h7
theorem put8_mod (w:World) (b:Nat) (x0 x1 x2 x3 x4 x5 x6 x7:Value):Mod (Eq b) w (put8 w b x0 x1 x2 x3 x4 x5 x6 x7):=
 ((((((((Mod.refl (Eq b) w).setCell (a:=⟨b,0,none⟩) (fun _=>rfl) x0).setCell (a:=⟨b,1,none⟩) (fun _=>rfl) x1).setCell (a:=⟨b,2,none⟩) (fun _=>rfl) x2).setCell (a:=⟨b,3,none⟩) (fun _=>rfl) x3).setCell (a:=⟨b,4,none⟩) (fun _=>rfl) x4).setCell (a:=⟨b,5,none⟩) (fun _=>rfl) x5).setCell (a:=⟨b,6,none⟩) (fun _=>rfl) x6).setCell (a:=⟨b,7,none⟩) (fun _=>rfl) x7
theorem node_size:(Tryz.prog.info? 673).map (·.size)=some 8:=by kernel_rfl
theorem field_any {B:Nat} {ao:Option Addr} {cap:Nat} {T:List Tk} {sz k:Nat} (fuel:Nat) (nm:Bs) (w:World) (h:Rd B ao cap T sz k w) (hf:T.length - k < fuel):
  Calls Tryz.prog 491 #[.pointer (some ⟨B,0,none⟩),strV nm] w
   (ResP B ao cap T sz k w (fieldS sz fuel (T.drop k)) fun fl v w'=>∃ c:NC,v=ncV c/\NodeAt (Since w w') w' c (.mk 2 [] nm [] 0 fl [] [])):=by
 obtain ⟨post,hpost⟩:∃ post,post=ResP B ao cap T sz k w (fieldS sz fuel (T.drop k)) (fun fl v w'=>∃ c:NC,v=ncV c/\NodeAt (Since w w') w' c (.mk 2 [] nm [] 0 fl [] [])):=⟨_,rfl⟩;rw [<- hpost];replace hpost:=hid hpost;unfold strV;have hBw:=lt_of_at h.cell;have hsm:=h.small;replace h:=hid h;have hfl:=fld_text;go_enter Tryz.func491,Tryz.ntmps491;go_wp2_with fail
 have hx1:=Mod.alloc (Mod.refl (fun _=>False) w) (.cells #[.int .i64 0,.string ⟨#[]⟩,.string ⟨#[]⟩,.string ⟨#[]⟩,.int .i64 0,.slice none 0 0,.slice none 0 0,.slice none 0 0] 673);have hR0:=heap_alloc_new w (.cells #[.int .i64 0,.string ⟨#[]⟩,.string ⟨#[]⟩,.string ⟨#[]⟩,.int .i64 0,.slice none 0 0,.slice none 0 0,.slice none 0 0] 673);have hs1:(w.alloc (.cells #[.int .i64 0,.string ⟨#[]⟩,.string ⟨#[]⟩,.string ⟨#[]⟩,.int .i64 0,.slice none 0 0,.slice none 0 0,.slice none 0 0] 673)).heap.size=w.heap.size+1:=World.size_alloc _ _;generalize (w.alloc (.cells #[.int .i64 0,.string ⟨#[]⟩,.string ⟨#[]⟩,.string ⟨#[]⟩,.int .i64 0,.slice none 0 0,.slice none 0 0,.slice none 0 0] 673))=w1 at hx1 hR0 hs1 ⊢;have hx2:=Mod.alloc (Mod.refl (fun _=>False) w1) (.cells #[.int .i64 2,.string ⟨#[]⟩,.string ⟨nm.toArray⟩,.string ⟨#[]⟩,.int .i64 0,.slice none 0 0,.slice none 0 0,.slice none 0 0] 673);have hR1:=heap_alloc_new w1 (.cells #[.int .i64 2,.string ⟨#[]⟩,.string ⟨nm.toArray⟩,.string ⟨#[]⟩,.int .i64 0,.slice none 0 0,.slice none 0 0,.slice none 0 0] 673);rw [hs1] at hR1;generalize (w1.alloc (.cells #[.int .i64 2,.string ⟨#[]⟩,.string ⟨nm.toArray⟩,.string ⟨#[]⟩,.int .i64 0,.slice none 0 0,.slice none 0 0,.slice none 0 0] 673))=w2 at hx2 hR1 ⊢;have hR0':=hx2.at hR0 (fun h=>h);have hx:=hx1.trans hx2;obtain ⟨R,hR⟩:∃ R,R=w.heap.size:=⟨_,rfl⟩;rw [<- hR] at hR0' hR1 hBw ⊢;clear hx1 hx2 hR0 hs1;replace hR:=hid hR
 go_loopg [8] (T.length - k) (fun g e wr=>∃ (k' f:Nat) (acc:List Bs) (v:Value),k<=k'/\T.length - k' < f/\g=T.length - k'/\acc.length<=k'/\filtersS sz fuel (T.drop k) []=filtersS sz f (T.drop k') acc/\Cdk.Own wr (R+2) 9 1 strC v acc ∧
  wr.heap[R]?=some (.cells #[.int .i64 0,.string ⟨#[]⟩,.string ⟨#[]⟩,.string ⟨#[]⟩,.int .i64 0,.slice none 0 0,.slice none 0 0,.slice none 0 0] 673 (0,0))/\wr.heap[R+1]?=some (.cells #[.int .i64 2,.string ⟨#[]⟩,.string ⟨nm.toArray⟩,.string ⟨#[]⟩,.int .i64 0,v,.slice none 0 0,.slice none 0 0] 673 (0,0))/\Rd B ao cap T sz k' wr/\Mod (Eq B) w wr)
 case atStart=>exact ⟨k,fuel,[],_,Nat.le_refl _,hf,rfl,Nat.zero_le _,rfl,Cdk.Own.nil _ _ _ _ _,hR0',hR1,h.out.ext hx,hx.mono (fun _ h=>h.elim)⟩
 case round=>
  clear hx hR0' hR1;obtain ⟨k',f,acc,v,hkk,hf',hg,hal,hfil,hown,hR0,hR1,hrd,hm⟩:=hrel;have hkT:=hrd.le;obtain ⟨aov,capv,rfl,-,-⟩:=hown.row;replace hg:=hid hg;replace hfil:=hid hfil;replace hown:=hid hown;replace hR0:=hid hR0;replace hR1:=hid hR1;replace hrd:=hid hrd;replace hm:=hid hm;go_wp2_with fail
  refine (more_any 5 _ hrd.out).mono ?_;rintro e wa ⟨rfl,hxa⟩;cases hb:moreB 5 (T.drop k') with
  | true=>
   obtain ⟨hk1,hkd1⟩:=more_hit hb;replace hb:=hid hb;go_wp2_with fail
   refine (need_ok 5 _ (hrd.out.ext hxa) hk1 hkd1).mono ?_;rintro e wb ⟨rfl,hrdb,hmb⟩;have hmB:=(hm.out.then hxa (fun _ _ h=>h.elim)).trans hmb;have hBR1:¬ B=R+1:=by omega
   have hBR0:¬ B=R:=by omega
   have hR1b:=hmb.at (hxa.at hR1.out (fun h=>h)) hBR1;have hR0b:=hmb.at (hxa.at hR0.out (fun h=>h)) hBR0;have hownb:=(hown.out.ext hxa).mod hmb (fun k hk e=>by have:=(hown.out.block k hk).1;omega);replace hkd1:=hid hkd1;clear hxa hmb;replace hm:=hid hmB;clear hmB;replace hown:=hid hownb;clear hownb;cases hb2:moreB 2 (T.drop (k'+1)) with
   | true=>
    obtain ⟨hk2,hkd2⟩:=more_hit hb2;replace hb2:=hid hb2;go_wp2_with fail
    have c5:wb.drew.cell? ⟨R+1,5,none⟩=some (.slice aov acc.length capv):=cell_of' hR1b 5;replace hrdb:=hid hrdb;replace hR1b:=hid hR1b;replace hR0b:=hid hR0b;refine wp_region_schedE (fun w'=>w'.cell? ⟨R+1,5,none⟩=some (.slice aov acc.length capv)) [(0,true),(1,true),(2,true),(3,false),(4,true),(5,false),(6,false),(7,true),(8,false)] (by as_aux_lemma=>kernel_rfl) (by as_aux_lemma=>kernel_rfl) (by as_aux_lemma=>kernel_rfl) (by decide) c5 ?_;simp only [schedOps,List.map_cons,List.map_nil,List.getD_cons_zero,List.getD_cons_succ];repeat (first | (refine wpT_p (by rfl) (by rfl) ?_ (fun w' hC=>?_) ?_;rotate_left;(go_simp;try with_reducible rfl);try simp only [Act.put,sA,sZ,sS]) | (refine wpT_q (by rfl) (by rfl) ?_ (fun w' hC=>?_) ?_;rotate_left;(go_simp;try with_reducible rfl);try simp only [Act.put,sA,sZ,sS]))
    refine wpT_c (by rfl) (fun K hK=>?_);go_simp;refine (need_ok 2 _ (hrdb.out.ext (Mod.drew0 _ _)) hk2 hkd2).mono ?_;rintro e wc ⟨rfl,hrdc,hmc⟩;replace hmc:=(Mod.drew0 (Eq B) _).trans hmc;have hRcc:=hmc.at hR1b.out hBR1;have hRc0:=hmc.at hR0b.out hBR0;have hownc:=hown.out.mod hmc (fun k hk e=>by have:=(hown.out.block k hk).1;omega);have c5c:wc.cell? ⟨R+1,5,none⟩=some (.slice aov acc.length capv):=cell_of' hRcc 5;refine hK.out _ _ c5c ?_;clear hK K;clear c5;replace hrdc:=hid hrdc;replace hmc:=hid hmc;replace hRcc:=hid hRcc;replace hRc0:=hid hRc0;replace hownc:=hid hownc;try simp only [Act.put,sA,sZ,sS]
    unfold tokV;replace hkd2:=hid hkd2;repeat (first | (refine wpT_p (by rfl) (by rfl) ?_ (fun w' hC=>?_) ?_;rotate_left;(go_simp;try with_reducible rfl);try simp only [Act.put,sA,sZ,sS]) | (refine wpT_q (by rfl) (by rfl) ?_ (fun w' hC=>?_) ?_;rotate_left;(go_simp;try with_reducible rfl);try simp only [Act.put,sA,sZ,sS]))
    refine wpT_c (by rfl) (fun K hK=>?_);go_simp;have hxd:=Mod.alloc (Mod.refl (fun _=>False) wc) (.cells #[.string ⟨T[k'+1].text.toArray⟩] 9);refine hK.out _ _ (hxd.cell c5c (fun h=>h)) ?_;clear hK K;try simp only [Act.put,sA,sZ,sS]
    repeat (first | (refine wpT_p (by rfl) (by rfl) ?_ (fun w' hC=>?_) ?_;rotate_left;(go_simp;try with_reducible rfl);try simp only [Act.put,sA,sZ,sS]) | (refine wpT_q (by rfl) (by rfl) ?_ (fun w' hC=>?_) ?_;rotate_left;(go_simp;try with_reducible rfl);try simp only [Act.put,sA,sZ,sS]))
    refine wpT_c (by rfl) (fun K hK=>?_);refine wp_app _ _ _ rfl Tryz.underlying40 el9 rfl (hownc.out.ext hxd) _ 1 1 rfl [T[k'+1].text] rfl (by exact RowIs.new _ _ _) strC_len (fun z hz u hu=>?_) (by simp only [List.length_singleton];omega) (by rw [World.size_alloc];have:=lt_of_at hRcc.out;omega) (by simp) (fun v6 w6 H6=>?_)
    ·simp only [List.mem_singleton] at hz;subst hz
     simp [strC] at hu;subst hu;rfl
    try simp only [Act.put,sA,sZ,sS]
    have hnb:¬ (Value.slice aov acc.length capv).ownBlock=some (R+1):=fun e=>by have:=(hownc.out.block _ e).1;omega
    refine hK.out _ _ (H6.out.2.cell (hxd.cell c5c (fun h=>h)) hnb) ?_;clear hK K;obtain ⟨ao6,cap6,rfl,-,-⟩:=H6.out.1.row;rw [List.length_append,List.length_singleton];repeat (first | (refine wpT_p (by rfl) (by rfl) ?_ (fun w' hC=>?_) ?_;rotate_left;(go_simp;try with_reducible rfl);try simp only [Act.put,sA,sZ,sS]) | (refine wpT_q (by rfl) (by rfl) ?_ (fun w' hC=>?_) ?_;rotate_left;(go_simp;try with_reducible rfl);try simp only [Act.put,sA,sZ,sS]))
    have hR6:=H6.out.2.at (hxd.at hRcc.out (fun h=>h)) hnb;have c56:w6.cell? ⟨R+1,5,none⟩=some (.slice aov acc.length capv):=cell_of' hR6 5;have z6:=free_of' hR6;replace hR6:=hid hR6;refine wpT_e (by rfl) (fun K hK=>?_);go_simp;refine hK.out _ _ ?_;clear hK K;clear c56 z6;go_wp2_with fail
    go_roundg (T.length - (k'+2))
    case measure=>have:=hg.out;omega
    case rel=>
     have hmd:Mod (fun j=>j=B \/ (Value.slice aov acc.length capv).ownBlock=some j) wb w6:=((hmc.out.mono (fun _ h=>.inl h.symm)).then (hxd.mono (T:=fun _=>False) (fun _ h=>h)) (fun _ _ h=>h.elim)).then H6.out.2 (fun _ _ h=>.inr h);have hmS:=(Mod.refl (Eq (R+1)) w6).setCell (a:=⟨R+1,5,none⟩) (fun _=>rfl) (.slice ao6 (acc.length+1) cap6);have hO:=hownc.out;have hRR:=hR.out;refine ⟨k'+2,f - 1,acc++[T[k'+1].text],_,by omega,?_,rfl,?_,?_,?_,?_,put_at hR6.out 5 _,?_,?_⟩
     ·omega
     ·simp only [List.length_append,List.length_singleton];omega
     ·rw [hfil.out]
      cases f with
      | zero=>omega
      | succ f=>
       rw [drop_tok hk1];simp only [filtersS,if_pos hkd1.out,need_hit hk2 hkd2.out,bind,Except.bind,Nat.add_sub_cancel]
     ·have h8:=H6.out.1.mod hmS (fun j hj e=>by have:=(H6.out.1.block j hj).1;omega)
      rw [show acc.length+1=(acc++[T[k'+1].text]).length by simp];simpa using h8
     ·rw [put_ne w6 5 _ (by omega)]
      exact H6.out.2.at (hxd.at hRc0.out (fun h=>h)) (fun e=>by have:=(hO.block _ e).1;omega)
     ·have h8:=(hrdc.out.ext hxd).mod H6.out.2 (fun e=>by have:=(hO.block _ e).1;omega) (fun b off e e'=>by
       have h9:=(hO.block _ e').1
       exact rd_old h.out (by omega) b off e (by omega))
      exact h8.mod hmS (by omega) (fun b off e e'=>rd_old h.out (by omega) b off e (by omega))
     ·exact ((hm.out.then hmd (fun j hj e=>by
       rcases e with e | e
       ·exact e.symm
       ·have:=(hO.block _ e).1;omega)).then hmS (fun j hj e=>by omega))
   | false=>
    go_wp2_with fail
    replace hrdb:=hid hrdb;have hmiss:∀ a,Tpl.need sz 2 (T.drop (k'+1))=.error a -> fieldS sz fuel (T.drop k)=.error a:=fun a ha=>by
     unfold fieldS;rw [hfil.out];cases f with
     | zero=>omega
     | succ f=>
      rw [drop_tok hk1];simp only [filtersS,if_pos hkd1.out,ha,bind,Except.bind]
    replace hmiss:=hid hmiss;replace hb2:=hid hb2;have c5:wb.drew.cell? ⟨R+1,5,none⟩=some (.slice aov acc.length capv):=cell_of' hR1b 5;refine wp_region_schedEP (fun w'=>w'.cell? ⟨R+1,5,none⟩=some (.slice aov acc.length capv)) [(0,true),(1,true),(2,true),(3,false),(4,true),(5,false),(6,false),(7,true),(8,false)] (by as_aux_lemma=>kernel_rfl) (by as_aux_lemma=>kernel_rfl) (by as_aux_lemma=>kernel_rfl) (by decide) (fun c a d v w h=>by cases d <;> exact h) c5 ?_;simp only [schedOps,List.map_cons,List.map_nil,List.getD_cons_zero,List.getD_cons_succ];repeat (first | (refine wpT_p (by rfl) (by rfl) ?_ (fun w' hC=>?_) ?_;rotate_left;(go_simp;try with_reducible rfl);try simp only [Act.put,sA,sZ,sS]) | (refine wpT_q (by rfl) (by rfl) ?_ (fun w' hC=>?_) ?_;rotate_left;(go_simp;try with_reducible rfl);try simp only [Act.put,sA,sZ,sS]))
    refine wpT_c (by rfl) (fun K hK=>?_);go_simp;refine (need_miss 2 _ (hrdb.out.ext (Mod.drew0 _ _)) hb2.out).mono ?_;rintro e wc ⟨a,ha,rfl,hxc⟩;refine ⟨rfl,?_⟩;rw [hpost.out];exact .inr ⟨a,hmiss.out a ha,rfl,hm.out.then ((Mod.drew0 _ _).trans hxc) (fun _ _ h=>h.elim)⟩
  | false=>
   go_wp2_with fail
   refine (need_any 7 _ (hrd.out.ext hxa)).mono ?_;have hft:filtersS sz f (T.drop k') acc=.ok (acc,T.drop k'):=by
    cases f with
    | zero=>omega
    | succ f=>
     by_cases hk':k' < T.length
     ·rw [drop_tok hk'] at hb ⊢
      simp only [moreB,decide_eq_false_iff_not] at hb;simp only [filtersS,if_neg hb]
     ·rw [List.drop_eq_nil_of_le (by omega)];rfl
   have hspec:fieldS sz fuel (T.drop k)=(Tpl.need sz 7 (T.drop k')).map (fun x=>(acc,x.2)):=by
    unfold fieldS;rw [hfil.out,hft];cases h9:Tpl.need sz 7 (T.drop k') <;> simp [h9,bind,Except.bind,Except.map]
   replace hb:=hid hb;replace hft:=hid hft;rintro e wb (⟨hk7,hkd7,rfl,hrdb,hmb⟩ | ⟨a,ha,rfl,hxb⟩)
   ·have hBR1:¬ B=R+1:=by omega
    have hBR0:¬ B=R:=by omega
    have hR1b:=hmb.at (hxa.at hR1.out (fun h=>h)) hBR1;have hR0b:=hmb.at (hxa.at hR0.out (fun h=>h)) hBR0;have hownb:=(hown.out.ext hxa).mod hmb (fun k hk e=>by have:=(hown.out.block k hk).1;omega);obtain ⟨a0,a1,a2,a3,a4,a5,a6,a7⟩:=cells8 hR1b;obtain ⟨b0,b1,b2,b3,b4,b5,b6,b7⟩:=cells8 hR0b;have z0:=free_of' hR0b;replace hR0b:=hid hR0b;replace hR1b:=hid hR1b;replace hrdb:=hid hrdb;replace hownb:=hid hownb;replace hkd7:=hid hkd7;replace hspec:=hid hspec;go_wp2_with fail
    have hR0c:=put8_at (x0:=.int .i64 2) (x1:=.string ⟨#[]⟩) (x2:=.string ⟨nm.toArray⟩) (x3:=.string ⟨#[]⟩) (x4:=.int .i64 0) (x5:=.slice aov acc.length capv) (x6:=.slice none 0 0) (x7:=.slice none 0 0) hR0b.out;have hmc:=put8_mod wb R (.int .i64 2) (.string ⟨#[]⟩) (.string ⟨nm.toArray⟩) (.string ⟨#[]⟩) (.int .i64 0) (.slice aov acc.length capv) (.slice none 0 0) (.slice none 0 0);change bodyPost _ _ _ _ _ (put8 wb R (.int .i64 2) (.string ⟨#[]⟩) (.string ⟨nm.toArray⟩) (.string ⟨#[]⟩) (.int .i64 0) (.slice aov acc.length capv) (.slice none 0 0) (.slice none 0 0));generalize (put8 wb R (.int .i64 2) (.string ⟨#[]⟩) (.string ⟨nm.toArray⟩) (.string ⟨#[]⟩) (.int .i64 0) (.slice aov acc.length capv) (.slice none 0 0) (.slice none 0 0))=wz at hR0c hmc ⊢;refine bodyPost_ret (results_cell_row rfl _ _ R _ _ _ _ rfl hR0c Tryz.underlying673 rfl node_size) rfl ?_;rw [hpost.out];have hownz:=hownb.out.mod hmc (fun k hk e=>by have:=(hown.out.block k hk).1;omega);have hmw:=(hm.out.then hxa (fun _ _ h=>h.elim)).trans hmb;have hmz:=hmw.then hmc (fun k' hk' e=>by have:=hR.out;omega);refine .inl ⟨acc,k'+1,_,?_,by omega,rfl,?_,hrdb.out.mod hmc (by omega) (fun b off e=>?_),hmz⟩
    ·rw [hspec.out,need_hit hk7 hkd7.out];rfl
    ·obtain ⟨ao2,cap2,hv2,hr2,hb2⟩:=hownz.row
     refine ⟨⟨2,[],nm,[],0,.slice aov acc.length capv,.slice none 0 0,.slice none 0 0⟩,rfl,.mk ⟨2,[],nm,[],0,.slice aov acc.length capv,.slice none 0 0,.slice none 0 0⟩ acc [] [] ⟨ao2,cap2,hv2,hr2,fun b off e=>?_,Own.capOk (hv2 ▸ hownz)⟩ (NodesAt.nil _ _) (NodesAt.nil _ _)⟩;have h5:=hownz.block b (hb2 b off e);have h6:=hR.out;exact ⟨by omega,h5.2⟩
    ·intro e'
     exact rd_old h.out (by omega) b off e (by have:=hR.out;omega)
   ·go_wp2_with fail
    refine ⟨rfl,?_⟩;rw [hpost.out];refine .inr ⟨a,?_,rfl,?_⟩
    ·rw [hspec,ha];rfl
    ·exact hm.out.then (hxa.trans hxb) (fun _ _ h=>h.elim)
end Go.Proofs.YtcopgcdhkgenkaaGreatDoor.Ps
