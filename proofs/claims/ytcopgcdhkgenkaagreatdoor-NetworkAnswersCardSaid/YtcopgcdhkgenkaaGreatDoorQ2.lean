import Derived.Test.YtcopgcdhkgenkaaGreatDoorQ3
set_option linter.all false
set_option maxRecDepth 100000
set_option maxHeartbeats 16000000
namespace Go.Proofs.YtcopgcdhkgenkaaGreatDoor
open Go.Shelf Go.RowKit Cdk Scr Nt
def DlvP (U Z:Nat) (tk:Int) (b:Nat) (n:Ns) (l:PLt) (qa:Value) (w:World) (e:Ending) (w':World):Prop:=e=.returned (.tuple #[])/\(∃ qa',NetQ U Z tk w' b (delivP n l) qa'/\(qa'.ownBlock=qa.ownBlock \/ ∀ k,qa'.ownBlock=some k -> w.heap.size<=k))/\Mod (fun k=>(U<=k/\k < Z) \/ qa.ownBlock=some k) w w'
theorem deliver_any {tk:Int} {U Z b:Nat} {n:Ns} {qa:Value} (l:PLt) (hl:l.ok) (w:World) (hG:Gl w) (hU:12<=U) (hN:NetQ U Z tk w b n qa) (hs:n.s<=999000) (ht:n.t<=999999):
  Calls Tryz.prog 37 #[.pointer (some ⟨b,0,none⟩),.agg (ltC l.lt).toArray] w (DlvP U Z tk b n l qa w):=by
 obtain ⟨R,hR⟩:∃ R,R=DlvP U Z tk b n l qa w:=⟨_,rfl⟩
 rw [<- hR]
 replace hR:=hid hR
 have hNw:=hid hN
 obtain ⟨d,r,m,f0,f1,fa,pf,lo,hB,-,hbo,-,-,-,hq,hgood⟩:=hN
 have ht0:=hgood.t
 have hqlt:=hid (fun k e=>(hq.block k e).2)
 have hbw:b < w.heap.size:=lt_of_at hB
 obtain ⟨tx,htx⟩:∃ tx,tx=l.c.tx:=⟨_,rfl⟩
 obtain ⟨rc,hrc⟩:∃ rc,rc=l.rc:=⟨_,rfl⟩
 obtain ⟨du,hdu⟩:∃ du,du=l.du:=⟨_,rfl⟩
 obtain ⟨he,hhe0⟩:∃ he,he=l.he:=⟨_,rfl⟩
 obtain ⟨se,hse⟩:∃ se,se=l.se:=⟨_,rfl⟩
 have harg:(ltC l.lt).toArray=#[.string ⟨tx.toArray⟩,.int .i64 rc,.int .i64 du,.bool he,.int .i64 se]:=by rw [htx,hrc,hdu,hhe0,hse];rfl
 rw [harg]
 clear harg
 obtain ⟨Q,hQ⟩:∃ Q,Q=n.q.map PLt.lt:=⟨_,rfl⟩
 rw [<- hQ] at hq
 obtain ⟨N,hNe⟩:∃ N,N=Q.length:=⟨_,rfl⟩
 obtain ⟨aq,cq,rfl,-,-⟩:=hq.row
 rw [<- hNe] at hq hB hqlt hNw hR
 have hBn:(Value.slice aq N cq).ownBlock ≠ some b:=own_ne7 hq hB (by decide)
 obtain ⟨T,hTe⟩:∃ T,T=w.heap.size:=⟨_,rfl⟩
 have hT0:=heap_alloc_new w (.cells #[.string ⟨tx.toArray⟩,.int .i64 rc,.int .i64 du,.bool he,.int .i64 se] 82)
 have hx0:=Mod.alloc (Mod.refl (fun _=>False) w) (.cells #[.string ⟨tx.toArray⟩,.int .i64 rc,.int .i64 du,.bool he,.int .i64 se] 82)
 have hN1:N<=1024:=by rw [hNe,hQ,List.length_map];exact hgood.ql
 replace htx:=hid htx
 replace hrc:=hid hrc
 replace hdu:=hid hdu
 replace hhe0:=hid hhe0
 replace hse:=hid hse
 replace hQ:=hid hQ
 replace hNe:=hid hNe
 go_enter Tryz.func37,Tryz.ntmps37
 go_upto_region 1 with fail
 rw [<- hTe] at hT0 ⊢
 generalize w.alloc (.cells #[.string ⟨tx.toArray⟩,.int .i64 rc,.int .i64 du,.bool he,.int .i64 se] 82)=w1 at hT0 hx0 ⊢
 have hwT:w.heap.size=T:=hTe.symm
 replace hTe:=hid hTe
 have hwT:=hid hwT
 have hTle:w.heap.size<=T:=Nat.le_of_eq hwT.out
 have hT:=hid hT0
 have hx1:=hid hx0
 have hq1:=hid (hq.ext hx0)
 have hB1:=hx0.at hB (fun h=>h)
 have b6:w1.cell? ⟨b,6,none⟩=some (.slice aq N cq):=cellN hB1 6
 replace hB:=hid hB1
 clear hT0 hx0 hq hB1
 replace hBn:=hid hBn
 go_wp2_with fail
 go_loopg [4,5,13] N (fun g s4 s5 i wr=>∃ j:Nat,j+g=N/\i=.int .i64 j/\LtsAt wr Z (.slice aq N cq) ((Q.take j).map (relL n.t se)++Q.drop j)/\Mod (fun k=>(Value.slice aq N cq).ownBlock=some k) w1 wr)
 case atStart=>exact ⟨0,by omega,rfl,by simpa using hq1.out,Mod.refl _ _⟩
 case round=>
  clear hq1 b6
  obtain ⟨j,hj,rfl,hO,hM⟩:=hrel
  replace hj:=hid hj
  replace hBn:=hBn.out
  by_cases hlt:j < N
  ·have hjl:j < Q.length:=by have:=hNe.out;omega
   have hdi:(j:Int) < (N:Int):=by omega
   have hd:decide ((j:Int) < (N:Int))=true:=decide_eq_true hdi
   have hgt:=rel_get (t:=n.t) (se:=se) hjl
   have hst:=rel_set (t:=n.t) (se:=se) hjl
   have hsm:=hid (fun h=>rel_same (t:=n.t) (se:=se) hjl h)
   obtain ⟨y,hy⟩:∃ y,y=Q[j]:=⟨_,rfl⟩
   rw [<- hy] at hgt hst hsm
   have hlen:((Q.take j).map (relL n.t se)++Q.drop j).length=N:=by rw [List.length_append,List.length_map,List.length_take,List.length_drop];have:=hNe.out;omega
   obtain ⟨xs,hxs⟩:∃ xs,xs=(Q.take j).map (relL n.t se)++Q.drop j:=⟨_,rfl⟩
   rw [<- hxs] at hO hgt hst hsm hlen
   have hOs:∃ g cap' cur,Value.slice aq N cq=.slice (some ⟨g,0,none⟩) xs.length cap'/\Z<=g/\wr.heap[g]?=some (.cells cur 82 (0,0)):=by
    rcases hO.2 with ⟨e,hn⟩ | ⟨g',cap,cur,e,hb,hh,-⟩
    ·rw [hlen] at hn;omega
    ·exact ⟨g',cap,cur,e,hb,hh⟩
   obtain ⟨g,cap',cur,hve,hgZ,hgc⟩:=hOs
   rw [hlen] at hve
   injection hve with hv1 hv2 hv3
   subst hv1
   have hgb:(Value.slice (some ⟨g,0,none⟩) N cq).ownBlock=some g:=rfl
   have hgw:g < w.heap.size:=hqlt.out g rfl
   have hrow:∀ i u,i < 5 -> (ltC y)[i]?=some u -> wr.cell? ⟨g,j*5+i,none⟩=some u:=fun i u hi hu=>by
    obtain ⟨a1,c1,e1,hr,-⟩:=hO.row
    injection e1 with e1 e2 e3;subst e1
    have hfg:=flat_get ltC 5 ltC_len xs j i y hgt hi
    obtain ⟨b1,o1,e,hc⟩:=hr (j*5+i) u (hfg.trans hu)
    injection e with e;injection e with e1 e2;subst e1 e2
    rw [Nat.zero_add] at hc;exact hc
   have g2:=hid (hrow 2 (.int .i64 y.du) (by decide) rfl)
   have g3:=hid (hrow 3 (.bool y.he) (by decide) rfl)
   have g4:=hid (hrow 4 (.int .i64 y.se) (by decide) rfl)
   have f2:=freeN hgc (j*5+2)
   have f3:=freeN hgc (j*5+3)
   have hTr:wr.heap[T]?=some (.cells #[.string ⟨tx.toArray⟩,.int .i64 rc,.int .i64 du,.bool he,.int .i64 se] 82 (0,0)):=hM.at hT.out (fun h=>by have h:some g=some T:=h;injection h with h;omega)
   have t4:=hid (cellN hTr 4)
   have hBr:=hM.at hB.out (fun h=>by injection h with h;subst h;exact hBn rfl)
   have b6:wr.cell? ⟨b,6,none⟩=some (.slice (some ⟨g,0,none⟩) N cq):=cellN hBr 6
   have b0:wr.cell? ⟨b,0,none⟩=some (.int .i64 n.t):=cellN hBr 0
   have hgi:(j:Int) < (N:Int):=hdi
   replace hO:=hid hO
   replace hM:=hid hM
   replace hgt:=hid hgt
   replace hst:=hid hst
   replace hxs:=hid hxs
   replace hlen:=hid hlen
   replace hgc:=hid hgc
   replace hTr:=hid hTr
   replace hBr:=hid hBr
   replace hy:=hid hy
   clear hrow hv3
   by_cases hup:(y.he && decide (y.se < se))=true
   ·have hh1:y.he=true:=(Bool.and_eq_true_iff.1 hup).1
    have hh2:y.se < se:=of_decide_eq_true (Bool.and_eq_true_iff.1 hup).2
    have hrel2:relL n.t se y={ y with he:=false,du:=n.t+1 }:=if_pos hup
    obtain ⟨ytx,yrc,ydu,yhe,yse⟩:=y
    simp only at hh1 hh2 g2 g3 g4 hrel2
    subst hh1
    have hO1:=hO.out.mod (Mod.drew0 (fun _=>False) wr) (fun _ _ h=>h)
    have hO2:=own_put hO1 ltC_len (i:=j) (j:=3) (x:=⟨ytx,yrc,ydu,true,yse⟩) (y:=⟨ytx,yrc,ydu,false,yse⟩) (u:=.bool false) hgb hgt.out (by decide) rfl
    have hgt2:(xs.set j ⟨ytx,yrc,ydu,false,yse⟩)[j]?=some ⟨ytx,yrc,ydu,false,yse⟩:=by rw [List.getElem?_set_self (by have:=hlen.out;omega)]
    have hO3:=own_put hO2 ltC_len (i:=j) (j:=2) (x:=⟨ytx,yrc,ydu,false,yse⟩) (y:=⟨ytx,yrc,n.t+1,false,yse⟩) (u:=.int .i64 (n.t+1)) hgb hgt2 (by decide) rfl
    rw [List.set_set,<- hrel2,hst.out] at hO3
    have hc1:=put_at' (show wr.drew.heap[g]?=some (.cells cur 82 (0,0)) from hgc.out) (j*5+3) (.bool false)
    have f2':=freeN hc1 (j*5+2)
    have b0':(wr.drew.setCell ⟨g,j*5+3,none⟩ (.bool false)).cell? ⟨b,0,none⟩=some (.int .i64 n.t):=(show (wr.drew.setCell ⟨g,j*5+3,none⟩ (.bool false)).cell? ⟨b,0,none⟩=wr.cell? ⟨b,0,none⟩ from World.cell?_of_block (put_ne wr.drew (j*5+3) (.bool false) (fun e:b=g=>by subst e;exact hBn rfl))).trans b0
    have g2':(wr.drew.setCell ⟨g,j*5+3,none⟩ (.bool false)).cell? ⟨g,j*5+2,none⟩=some (.int .i64 ydu):=by
     rw [cellN hc1,Array.getElem?_setIfInBounds_ne (by omega),<- cellN (show wr.heap[g]?=_ from hgc.out)];exact g2.out
    have hM3:=hid (((hM.out.drew).setCell (a:=⟨g,j*5+3,none⟩) (fun _=>hgb) (.bool false)).setCell (a:=⟨g,j*5+2,none⟩) (fun _=>hgb) (.int .i64 (n.t+1)))
    have hw1:IntKind.i64.wrap (n.t+1)=n.t+1:=IntWalk.i64_in _ (by omega)
    have f3':wr.drew.frozen? ⟨g,j*5+3,none⟩=false:=f3
    have g3':wr.drew.cell? ⟨g,j*5+3,none⟩=some (.bool true):=g3.out
    replace hO3:=hid hO3
    have f2s:(wr.setCell ⟨g,j*5+3,none⟩ (.bool false)).drew.frozen? ⟨g,j*5+2,none⟩=false:=f2'
    have g2s:(wr.setCell ⟨g,j*5+3,none⟩ (.bool false)).drew.cell? ⟨g,j*5+2,none⟩=some (.int .i64 ydu):=g2'
    have b0s:(wr.setCell ⟨g,j*5+3,none⟩ (.bool false)).drew.cell? ⟨b,0,none⟩=some (.int .i64 n.t):=b0'
    clear hO1 hO2 hc1 hup hgt2 hrel2 f2' g2' b0'
    go_upto_region 5 with fail
    try simp only [List.append_eq,List.cons_append,List.nil_append]
    refine wp_region_sched (fun Wx=>Ext wr Wx) [(0,true),(1,true),(2,true),(3,true),(4,true),(5,true),(6,true),(7,true),(8,true),(9,true),(10,true),(11,true),(12,true)]
     (by as_aux_lemma=>kernel_rfl) (by as_aux_lemma=>kernel_rfl) (by as_aux_lemma=>kernel_rfl) (by decide) (Mod.drew0 (fun _=>False) wr) ?_
    simp only [schedOps,List.map_cons,List.map_nil,List.getD_cons_zero,List.getD_cons_succ]
    have hy0:=hid (Mod.drew0 (fun _=>False) wr)
    iterate 5 (refine wpS_q (by rfl) ?_ (fun w' hC=>?_) ?_;rotate_left;(have q_h:w'.cell? ⟨g,j*5+3,none⟩=some (.bool true):=hC.cell g3.out (fun h=>h);have q_s:w'.cell? ⟨g,j*5+4,none⟩=some (.int .i64 yse):=hC.cell g4.out (fun h=>h);have q_l:w'.cell? ⟨T,4,none⟩=some (.int .i64 se):=hC.cell t4.out (fun h=>h);go_simp;first | done | with_reducible rfl | exact rfl);try simp only [Act.put,sA,sZ,sS])
    iterate 7 (refine wpS_q (by rfl) ?_ (fun w' hC=>?_) ?_;rotate_left;(have q_h:w'.cell? ⟨g,j*5+3,none⟩=some (.bool true):=hC.cell g3.out (fun h=>h);have q_s:w'.cell? ⟨g,j*5+4,none⟩=some (.int .i64 yse):=hC.cell g4.out (fun h=>h);have q_l:w'.cell? ⟨T,4,none⟩=some (.int .i64 se):=hC.cell t4.out (fun h=>h);go_simp;first | done | with_reducible rfl | exact rfl);try simp only [Act.put,sA,sZ,sS])
    refine wpS_q (by rfl) ?_ (fun w' hC=>?_) ?_;rotate_left;(have q_h:w'.cell? ⟨g,j*5+3,none⟩=some (.bool true):=hC.cell g3.out (fun h=>h);have q_s:w'.cell? ⟨g,j*5+4,none⟩=some (.int .i64 yse):=hC.cell g4.out (fun h=>h);have q_l:w'.cell? ⟨T,4,none⟩=some (.int .i64 se):=hC.cell t4.out (fun h=>h);go_simp;first | done | with_reducible rfl | exact rfl);try simp only [Act.put,sA,sZ,sS]
    refine wpS_nil ?_
    go_wp2_with fail
    go_roundg (gk - 1)
    case measure=>have:=hj.out;omega
    case rel=>exact ⟨j+1,by have:=hj.out;omega,by go_num,hO3.out,hM3.out⟩
   ·have hsame:relL n.t se y=y:=if_neg hup
    have hO3:=hO.out.mod (Mod.drew0 (fun _=>False) wr) (fun _ _ h=>h)
    first | rw [hxs.out,hsm.out hsame] at hO3 | rw [hsm.out hsame] at hO3
    have hM3:=hid hM.out.drew
    replace hO3:=hid hO3
    by_cases hh1:y.he=true
    ·have hh2:¬ y.se < se:=fun h=>hup (by rw [hh1,decide_eq_true h];rfl)
     rw [hh1] at g3
     clear hup hsame
     go_upto_region 5 with fail
     try simp only [List.append_eq,List.cons_append,List.nil_append]
     refine wp_region_sched (fun Wx=>Ext wr Wx) [(0,true),(1,true),(2,true),(3,true),(4,true),(5,true),(6,true),(7,true),(8,true),(9,true),(10,true),(11,true),(12,true)]
      (by as_aux_lemma=>kernel_rfl) (by as_aux_lemma=>kernel_rfl) (by as_aux_lemma=>kernel_rfl) (by decide) (Mod.drew0 (fun _=>False) wr) ?_
     simp only [schedOps,List.map_cons,List.map_nil,List.getD_cons_zero,List.getD_cons_succ]
     have hy0:=hid (Mod.drew0 (fun _=>False) wr)
     iterate 5 (refine wpS_q (by rfl) ?_ (fun w' hC=>?_) ?_;rotate_left;(have q_h:w'.cell? ⟨g,j*5+3,none⟩=some (.bool true):=hC.cell g3.out (fun h=>h);have q_s:w'.cell? ⟨g,j*5+4,none⟩=some (.int .i64 y.se):=hC.cell g4.out (fun h=>h);have q_l:w'.cell? ⟨T,4,none⟩=some (.int .i64 se):=hC.cell t4.out (fun h=>h);go_simp;first | done | with_reducible rfl | exact rfl);try simp only [Act.put,sA,sZ,sS])
     iterate 7 (refine wpS_q (by rfl) ?_ (fun w' hC=>?_) ?_;rotate_left;(have q_h:w'.cell? ⟨g,j*5+3,none⟩=some (.bool true):=hC.cell g3.out (fun h=>h);have q_s:w'.cell? ⟨g,j*5+4,none⟩=some (.int .i64 y.se):=hC.cell g4.out (fun h=>h);have q_l:w'.cell? ⟨T,4,none⟩=some (.int .i64 se):=hC.cell t4.out (fun h=>h);go_simp;first | done | with_reducible rfl | exact rfl);try simp only [Act.put,sA,sZ,sS])
     refine wpS_q (by rfl) ?_ (fun w' hC=>?_) ?_;rotate_left;(have q_h:w'.cell? ⟨g,j*5+3,none⟩=some (.bool true):=hC.cell g3.out (fun h=>h);have q_s:w'.cell? ⟨g,j*5+4,none⟩=some (.int .i64 y.se):=hC.cell g4.out (fun h=>h);have q_l:w'.cell? ⟨T,4,none⟩=some (.int .i64 se):=hC.cell t4.out (fun h=>h);go_simp;first | done | with_reducible rfl | exact rfl);try simp only [Act.put,sA,sZ,sS]
     refine wpS_nil ?_
     go_wp2_with fail
     go_roundg (gk - 1)
     case measure=>have:=hj.out;omega
     case rel=>exact ⟨j+1,by have:=hj.out;omega,by go_num,hO3.out,hM3.out⟩
    ·have hh2:y.he=false:=by simpa using hh1
     rw [hh2] at g3
     clear hup hsame
     go_upto_region 5 with fail
     try simp only [List.append_eq,List.cons_append,List.nil_append]
     refine wp_region_sched (fun Wx=>Ext wr Wx) [(0,true),(1,true),(2,true),(3,true),(4,true),(5,true),(6,true),(7,true),(8,true),(9,true),(10,true),(11,true),(12,true)]
      (by as_aux_lemma=>kernel_rfl) (by as_aux_lemma=>kernel_rfl) (by as_aux_lemma=>kernel_rfl) (by decide) (Mod.drew0 (fun _=>False) wr) ?_
     simp only [schedOps,List.map_cons,List.map_nil,List.getD_cons_zero,List.getD_cons_succ]
     have hy0:=hid (Mod.drew0 (fun _=>False) wr)
     iterate 5 (refine wpS_q (by rfl) ?_ (fun w' hC=>?_) ?_;rotate_left;(have q_h:w'.cell? ⟨g,j*5+3,none⟩=some (.bool false):=hC.cell g3.out (fun h=>h);have q_s:w'.cell? ⟨g,j*5+4,none⟩=some (.int .i64 y.se):=hC.cell g4.out (fun h=>h);have q_l:w'.cell? ⟨T,4,none⟩=some (.int .i64 se):=hC.cell t4.out (fun h=>h);go_simp;first | done | with_reducible rfl | exact rfl);try simp only [Act.put,sA,sZ,sS])
     iterate 7 (refine nT ?_)
     refine wpS_q (by rfl) ?_ (fun w' hC=>?_) ?_;rotate_left;(have q_h:w'.cell? ⟨g,j*5+3,none⟩=some (.bool false):=hC.cell g3.out (fun h=>h);have q_s:w'.cell? ⟨g,j*5+4,none⟩=some (.int .i64 y.se):=hC.cell g4.out (fun h=>h);have q_l:w'.cell? ⟨T,4,none⟩=some (.int .i64 se):=hC.cell t4.out (fun h=>h);go_simp;first | done | with_reducible rfl | exact rfl);try simp only [Act.put,sA,sZ,sS]
     refine wpS_nil ?_
     go_wp2_with fail
     go_roundg (gk - 1)
     case measure=>have:=hj.out;omega
     case rel=>exact ⟨j+1,by have:=hj.out;omega,by go_num,hO3.out,hM3.out⟩
  ·have hj0:j=N:=by have:=hj.out;omega
   have hndi:¬ (j:Int) < (N:Int):=by omega
   have hd:decide ((j:Int) < (N:Int))=false:=decide_eq_false hndi
   have hOf:LtsAt wr Z (.slice aq N cq) ((unheld n.t l.se n.q).map PLt.lt):=by
    rw [unheld_lt,<- hQ.out,<- hse.out]
    have e:(Q.take j).map (relL n.t se)++Q.drop j=Q.map (relL n.t se):=by
     have hjl:j=Q.length:=by rw [hj0,hNe.out]
     rw [hjl,List.take_length,List.drop_length,List.append_nil]
    rw [<- e];exact hO
   have hN2:=hid (netQ_unheld n.t l.se (hNw.out.ext hx1.out) hM hOf)
   have hTr:wr.heap[T]?=some (.cells #[.string ⟨tx.toArray⟩,.int .i64 rc,.int .i64 du,.bool he,.int .i64 se] 82 (0,0)):=hM.at hT.out (fun h=>by have:=hqlt.out _ h;omega)
   have t0:wr.cell? ⟨T,0,none⟩=some (.string ⟨tx.toArray⟩):=cellN hTr 0
   have t1:wr.cell? ⟨T,1,none⟩=some (.int .i64 rc):=cellN hTr 1
   have hqZ:=hid (fun k (e:(Value.slice aq N cq).ownBlock=some k)=>(hO.block k e).1)
   have hZ12:12<=Z:=by omega
   have hMw:Hid (Mod (fun k=>(U<=k/\k < Z) \/ (Value.slice aq N cq).ownBlock=some k) w wr):=hid ((hx1.out.mono (fun _ h=>h.elim)).trans (hM.mono (fun k e=>.inr e)))
   have hGr:=hid (hG.mod hMw.out (fun k hk=>by rcases hk with h | h;omega;have:=hqZ.out k h;omega))
   have htl:tx.length<=1000000:=by
    rw [htx.out]
    cases h:l.c with
    | dlv pa sq st x=>exact (encM_len (dlv_v (h ▸ hl.1))).2
    | ans mm=>exact (encM_len (h ▸ hl.1:(Pl.ans mm).ok).1).2
    | bad mm=>show (flipB (encM mm)).length<=_;unfold flipB;rw [List.length_set];exact (encM_len (h ▸ hl.1:(Pl.bad mm).ok)).2
   have hdc:=hid (msgDecode_any tx htl wr hGr.out)
   have hde:=dec_ok hl.1
   rw [<- htx.out] at hde
   replace hTr:=hid hTr
   clear hO hM hOf hT hB
   go_wp2_with fail
   refine hdc.out.mono ?_;rintro e w2 ⟨hx2,hE⟩
   rw [hde] at hE
   have hT2:=hid (hx2.at hTr.out (fun h=>h))
   have s1:w2.cell? ⟨T,1,none⟩=some (.int .i64 rc):=cellN hT2.out 1
   have hN3:=hid (hN2.out.ext hx2)
   have hM3:=hid (hMw.out.trans (hx2.mono (T:=fun k=>(U<=k/\k < Z) \/ (Value.slice aq N cq).ownBlock=some k) (fun _ h=>h.elim)))
   have hG3:=hid (hGr.out.ext hx2)
   clear hdc hx2 hTr t0 t1 hN2 hMw hGr hde
   cases hc:l.c with
   | bad mm=>
    rw [hc] at hE
    obtain ⟨-,rfl⟩:=hE
    have hxa:=hid (Mod.alloc (Mod.refl (fun _=>False) w2) (.cells #[.int .i64 0,.int .i64 0,.int .i64 0,.int .i64 0,.int .i64 0,.int .i64 0,.string ⟨#[]⟩] 45))
    go_wp2_with fail
    refine bodyPost_ret (results_none rfl _ _ _) rfl ?_
    rw [hR.out]
    refine ⟨rfl,⟨_,?_,.inl rfl⟩,hM3.out.trans (hxa.out.mono (fun _ h=>h.elim))⟩
    rw [delivP_bad hc]
    exact hN3.out.ext hxa.out
   | ans mm=>
    rw [hc] at hE
    have hva:=(hc ▸ hl.1:(Pl.ans mm).ok).1
    have hrc0:rc=0:=by rw [hrc.out];exact hl.2.2 mm hc
    subst hrc0
    have hgm:=vMs_good hva
    obtain ⟨kd,pz,sq,st,ba,ve,dt⟩:=mm
    obtain ⟨pn,hpn⟩:∃ pn:Nat,(pn:Int)=pz:=⟨pz.toNat,by have:=hgm.pa;simp only at this;omega⟩
    subst hpn
    have hpr:1<=pn/\pn<=8:=by have:=hgm.pa;simp only at this;omega
    have hE':e=.returned (.tuple #[.agg #[.int .i64 kd,.int .i64 pn,.int .i64 sq,.int .i64 st,.int .i64 ba,.int .i64 ve,.string ⟨dt.toArray⟩],.int .i64 0]):=hE
    subst hE'
    clear hE hva hgm
    obtain ⟨T2,hT2e⟩:∃ T2,T2=w2.heap.size:=⟨_,rfl⟩
    have hxa:=Mod.alloc (Mod.refl (fun _=>False) w2) (.cells #[.int .i64 kd,.int .i64 pn,.int .i64 sq,.int .i64 st,.int .i64 ba,.int .i64 ve,.string ⟨dt.toArray⟩] 45)
    have hM20:=heap_alloc_new w2 (.cells #[.int .i64 kd,.int .i64 pn,.int .i64 sq,.int .i64 st,.int .i64 ba,.int .i64 ve,.string ⟨dt.toArray⟩] 45)
    have hT3:=hid (hxa.at hT2.out (fun h=>h))
    have hN4:=hid (hN3.out.ext hxa)
    have hM4:=hid (hM3.out.trans (hxa.mono (T:=fun k=>(U<=k/\k < Z) \/ (Value.slice aq N cq).ownBlock=some k) (fun _ h=>h.elim)))
    go_upto_region 11 with fail
    rw [<- hT2e] at hM20 ⊢
    generalize w2.alloc (.cells #[.int .i64 kd,.int .i64 pn,.int .i64 sq,.int .i64 st,.int .i64 ba,.int .i64 ve,.string ⟨dt.toArray⟩] 45)=w3 at hxa hM20 hT3 hN4 hM4 ⊢
    have hwT2:w2.heap.size<=T2:=Nat.le_of_eq hT2e.symm
    replace hT2e:=hid hT2e
    have hMg:=hid hM20
    have u1:w3.cell? ⟨T,1,none⟩=some (.int .i64 0):=cellN hT3.out 1
    obtain ⟨rr,jj,ss,now,built,cl,c3,c1,hNr,hrb,hnow,hqne,hgd,hback⟩:=netQ_room hN4.out
    have hzz:w.heap.size<=w2.heap.size:=hM3.out.size
    have hc1h:=hid c1
    have hc3h:=hid c3
    replace hNr:=hid hNr
    replace hback:=hid hback
    replace hqne:=hid hqne
    clear hxa hM20 hT2 hN3 hM3 s1 hG3
    go_upto_region 14 with fail
    try simp only [List.append_eq,List.cons_append,List.nil_append]
    refine wp_region_tree (.s (.q 0 (.q 1 (.q 2 (.q 3 (.q 4 (.q 5 (.q 6 (.q 7 (.q 8 (.q 9 (.c1 10 .done)))))))))))) (by as_aux_lemma=>kernel_rfl) (by as_aux_lemma=>kernel_rfl) (by as_aux_lemma=>kernel_rfl) (by decide) ?_
    have hs0:=hid (Mod.drew0 (Eq rr) w3)
    refine wpTr_s (fun Wx=>Mod (Eq rr) w3 Wx) (fun _ _=>trivial) hs0.out ?_
    have hNr0:=hid (hNr.out.ext (Mod.drew0 (fun _=>False) w3))
    generalize hWd:World.drew w3=S0 at hs0 hNr0 ⊢
    iterate 10 (refine wpTr_q _ (by simp only [List.getD_cons_succ,List.getD_cons_zero];rfl) (by rfl) ?_ (fun w' hC=>?_) ?_;rotate_left;(have q_3:w'.cell? ⟨b,3,none⟩=some (.pointer (some ⟨rr,0,none⟩)):=hC.cell hc3h.out (fun h=>by have h:rr=b:=h;omega);have q_1:w'.cell? ⟨b,1,none⟩=some (.int .i64 n.c):=hC.cell hc1h.out (fun h=>by have h:rr=b:=h;omega);have q_m0:w'.cell? ⟨T2,0,none⟩=some (.int .i64 kd):=hC.cell (cellN hMg.out 0) (fun h=>by have h:rr=T2:=h;omega);have q_m1:w'.cell? ⟨T2,1,none⟩=some (.int .i64 pn):=hC.cell (cellN hMg.out 1) (fun h=>by have h:rr=T2:=h;omega);have q_m2:w'.cell? ⟨T2,2,none⟩=some (.int .i64 sq):=hC.cell (cellN hMg.out 2) (fun h=>by have h:rr=T2:=h;omega);have q_m3:w'.cell? ⟨T2,3,none⟩=some (.int .i64 st):=hC.cell (cellN hMg.out 3) (fun h=>by have h:rr=T2:=h;omega);have q_m4:w'.cell? ⟨T2,4,none⟩=some (.int .i64 ba):=hC.cell (cellN hMg.out 4) (fun h=>by have h:rr=T2:=h;omega);have q_m5:w'.cell? ⟨T2,5,none⟩=some (.int .i64 ve):=hC.cell (cellN hMg.out 5) (fun h=>by have h:rr=T2:=h;omega);have q_m6:w'.cell? ⟨T2,6,none⟩=some (.string ⟨dt.toArray⟩):=hC.cell (cellN hMg.out 6) (fun h=>by have h:rr=T2:=h;omega);go_simp;first | done | with_reducible rfl | exact rfl);try simp only [Act.put,sA,sZ,sS])
    refine wpTr_c1 _ (by simp only [List.getD_cons_succ,List.getD_cons_zero];rfl) ?_
    refine wpN_c (by rfl) (fun K hK=>?_)
    go_simp
    refine (nrReceive_any n.c hgd.c kd sq st ba ve pn hpr ⟨dt.toArray⟩ S0 hNr0.out).mono ?_;rintro e w5 ⟨rfl,hN5,hm5⟩
    have hs1:=hid (hs0.out.trans hm5)
    refine hK.out _ _ hs1.out ?_
    clear hK K
    try simp only [Act.put,sA,sZ,sS]
    refine wpTr_done ?_
    have hNf:=hid (hback.out w5 (max now n.c) hN5 (by have hc9:0<=n.c/\n.c<=1000000000:=hgd.c;omega) hs1.out)
    have hMf:=hid (hM4.out.trans (hs1.out.mono (T:=fun k=>(U<=k/\k < Z) \/ (Value.slice aq N cq).ownBlock=some k) (fun k e=>.inl (by have e:rr=k:=e;omega))))
    clear hN5 hm5 hWd hs0 hs1 hNr0
    go_wp2_with fail
    go_end0
    rw [hR.out]
    refine ⟨rfl,⟨_,?_,.inl rfl⟩,hMf.out⟩
    rw [delivP_ans hc]
    exact hNf.out
   | dlv pa sq st x=>
    rw [hc] at hE
    have hok:(Pl.dlv pa sq st x).ok:=hc ▸ hl.1
    have hrc0:rc=(pa:Int):=by rw [hrc.out];have:=hl.2.1 (by rw [hc];rfl);rw [this,hc];rfl
    subst hrc0
    have hE':e=.returned (.tuple #[.agg #[.int .i64 1,.int .i64 pa,.int .i64 sq,.int .i64 st,.int .i64 0,.int .i64 (crc x),.string ⟨(diff0 x).toArray⟩],.int .i64 0]):=hE
    subst hE'
    clear hE
    obtain ⟨T2,hT2e⟩:∃ T2,T2=w2.heap.size:=⟨_,rfl⟩
    have hxa:=Mod.alloc (Mod.refl (fun _=>False) w2) (.cells #[.int .i64 1,.int .i64 pa,.int .i64 sq,.int .i64 st,.int .i64 0,.int .i64 (crc x),.string ⟨(diff0 x).toArray⟩] 45)
    have hM20:=heap_alloc_new w2 (.cells #[.int .i64 1,.int .i64 pa,.int .i64 sq,.int .i64 st,.int .i64 0,.int .i64 (crc x),.string ⟨(diff0 x).toArray⟩] 45)
    have hT3:=hid (hxa.at hT2.out (fun h=>h))
    have hN4:=hid (hN3.out.ext hxa)
    have hG4:=hid (hG3.out.ext hxa)
    have hM4:=hid (hM3.out.trans (hxa.mono (T:=fun k=>(U<=k/\k < Z) \/ (Value.slice aq N cq).ownBlock=some k) (fun _ h=>h.elim)))
    go_upto_region 11 with fail
    rw [<- hT2e] at hM20 ⊢
    generalize w2.alloc (.cells #[.int .i64 1,.int .i64 pa,.int .i64 sq,.int .i64 st,.int .i64 0,.int .i64 (crc x),.string ⟨(diff0 x).toArray⟩] 45)=w3 at hxa hM20 hT3 hN4 hM4 hG4 ⊢
    have hwT2:w2.heap.size<=T2:=Nat.le_of_eq hT2e.symm
    replace hT2e:=hid hT2e
    have hMg:=hid hM20
    have u1:w3.cell? ⟨T,1,none⟩=some (.int .i64 pa):=cellN hT3.out 1
    have hb9:((pa:Int)==0)=false:=by rw [beq_eq_false_iff_ne];have:=hok.1;omega
    have hb8:((pa:Int) !=0)=true:=by rw [bne_iff_ne];have:=hok.1;omega
    obtain ⟨mm,p,F,c4,hlk,hPt,hFb,hmb,hqq,hgd,hback⟩:=netQ_part hN4.out pa sq st x hok
    have hzz:w.heap.size<=w2.heap.size:=hM3.out.size
    obtain ⟨S,hS⟩:∃ S:Nat -> Prop,S=fun k=>F k \/ k=b \/ (Value.slice aq N cq).ownBlock=some k:=⟨_,rfl⟩
    have hql:=hid (fun k e=>hqlt.out k e)
    have hST:¬ S T:=by rw [hS];rintro (h | h | h);(have:=hFb _ h;omega);omega;(have:=hql.out _ h;omega)
    have hST2:¬ S T2:=by rw [hS];rintro (h | h | h);(have:=hFb _ h;omega);omega;(have:=hql.out _ h;omega)
    have hSm:¬ S mm:=by rw [hS];rintro (h | h | h);(have:=hFb _ h;omega);omega;(have:=hqq _ h;omega)
    have hSw:∀ k,S k -> (U<=k/\k < Z) \/ (Value.slice aq N cq).ownBlock=some k:=by
     intro k h;rw [hS] at h
     rcases h with h | h | h
     ·have:=hFb _ h;exact .inl (by omega)
     ·exact .inl (by omega)
     ·exact .inr h
    have hSF:∀ k,F k -> S k:=fun k h=>by rw [hS];exact .inl h
    have hSb:∀ k,(k=b \/ (Value.slice aq N cq).ownBlock=some k) -> S k:=fun k h=>by rw [hS];exact .inr h
    have c4h:=hid c4
    have hlkh:=hid hlk
    have hPth:=hid hPt
    have hσ9:=hid (hgd.σ pa st)
    have hκ9:=hid (hgd.κ pa st)
    replace hS:=hid hS
    replace hback:=hid hback
    have hFb':=hid hFb
    clear hxa hM20 hT2 hN3 hM3 s1 hG3 c4 hlk hPt hFb
    go_upto_region 12 with fail
    try simp only [List.append_eq,List.cons_append,List.nil_append]
    refine wp_region_tree (.s (.q 0 (.q 1 (.q 2 (.q 3 (.q 5 (.q 6 (.q 8 (.c1 4 (.q 7 (.c1 9 (.c1 10 .done)))))))))))) (by as_aux_lemma=>kernel_rfl) (by as_aux_lemma=>kernel_rfl) (by as_aux_lemma=>kernel_rfl) (by decide) ?_
    have hs0:=hid (Mod.drew0 S w3)
    refine wpTr_s (fun Wx=>Mod S w3 Wx) (fun _ _=>trivial) hs0.out ?_
    have hx0:=hid (Mod.drew0 (fun _=>False) w3)
    generalize hWd:World.drew w3=S0 at hs0 hx0 ⊢
    iterate 7 (refine wpTr_q _ (by simp only [List.getD_cons_succ,List.getD_cons_zero];rfl) (by rfl) ?_ (fun w' hC=>?_) ?_;rotate_left;(have q_1:w'.cell? ⟨T,1,none⟩=some (.int .i64 pa):=hC.cell (cellN hT3.out 1) hST;have q_lk:=hlkh.out S w' hC hSm;have q_m0:w'.cell? ⟨T2,0,none⟩=some (.int .i64 1):=hC.cell (cellN hMg.out 0) hST2;have q_m1:w'.cell? ⟨T2,1,none⟩=some (.int .i64 pa):=hC.cell (cellN hMg.out 1) hST2;have q_m2:w'.cell? ⟨T2,2,none⟩=some (.int .i64 sq):=hC.cell (cellN hMg.out 2) hST2;have q_m3:w'.cell? ⟨T2,3,none⟩=some (.int .i64 st):=hC.cell (cellN hMg.out 3) hST2;have q_m4:w'.cell? ⟨T2,4,none⟩=some (.int .i64 0):=hC.cell (cellN hMg.out 4) hST2;have q_m5:w'.cell? ⟨T2,5,none⟩=some (.int .i64 (crc x)):=hC.cell (cellN hMg.out 5) hST2;have q_m6:w'.cell? ⟨T2,6,none⟩=some (.string ⟨(diff0 x).toArray⟩):=hC.cell (cellN hMg.out 6) hST2;go_simp;first | done | with_reducible rfl | exact rfl);try simp only [Act.put,sA,sZ,sS])
    refine wpTr_c1 _ (by simp only [List.getD_cons_succ,List.getD_cons_zero];rfl) ?_
    refine wpN_c (by rfl) (fun K hK=>?_)
    have q_4:S0.cell? ⟨b,4,none⟩=some (.map (some mm)):=hx0.out.cell c4h.out (fun h=>h)
    go_simp
    refine hK.out _ _ hs0.out ?_
    clear hK K
    try simp only [Act.put,sA,sZ,sS]
    iterate 1 (refine wpTr_q _ (by simp only [List.getD_cons_succ,List.getD_cons_zero];rfl) (by rfl) ?_ (fun w' hC=>?_) ?_;rotate_left;(have q_1:w'.cell? ⟨T,1,none⟩=some (.int .i64 pa):=hC.cell (cellN hT3.out 1) hST;have q_lk:=hlkh.out S w' hC hSm;have q_m0:w'.cell? ⟨T2,0,none⟩=some (.int .i64 1):=hC.cell (cellN hMg.out 0) hST2;have q_m1:w'.cell? ⟨T2,1,none⟩=some (.int .i64 pa):=hC.cell (cellN hMg.out 1) hST2;have q_m2:w'.cell? ⟨T2,2,none⟩=some (.int .i64 sq):=hC.cell (cellN hMg.out 2) hST2;have q_m3:w'.cell? ⟨T2,3,none⟩=some (.int .i64 st):=hC.cell (cellN hMg.out 3) hST2;have q_m4:w'.cell? ⟨T2,4,none⟩=some (.int .i64 0):=hC.cell (cellN hMg.out 4) hST2;have q_m5:w'.cell? ⟨T2,5,none⟩=some (.int .i64 (crc x)):=hC.cell (cellN hMg.out 5) hST2;have q_m6:w'.cell? ⟨T2,6,none⟩=some (.string ⟨(diff0 x).toArray⟩):=hC.cell (cellN hMg.out 6) hST2;go_simp;first | done | with_reducible rfl | exact rfl);try simp only [Act.put,sA,sZ,sS])
    refine wpTr_c1 _ (by simp only [List.getD_cons_succ,List.getD_cons_zero];rfl) ?_
    refine wpN_c (by rfl) (fun K hK=>?_)
    go_simp
    refine (receive_any (F:=F) { n with q:=unheld n.t l.se n.q } pa sq st x hok hσ9.out hκ9.out S0 (hG4.out.ext hx0.out) (hPth.out.mod hx0.out (fun _ _ h=>h)) (fun k hk=>by have:=(hFb'.out k hk).2.2;have:=hx0.out.size;omega)).mono ?_
    rintro e w5 ⟨⟨A,rfl,hAge,hA⟩,hP5,hm5⟩
    have hs1:=hid (hs0.out.trans (hm5.mono hSF))
    have hN5:=hid (hback.out w5 hP5 ((hx0.out.mono (fun _ h=>h.elim)).trans hm5))
    have hG5:=hid (hG4.out.mod hs1.out (fun k hk=>by rcases hSw k hk with h | h;omega;have:=hqq k h;omega))
    refine hK.out _ _ hs1.out ?_
    have hArow:=hid (RowIs.block (cs:=msC (recvA { n with q:=unheld n.t l.se n.q } pa sq st x)) hA)
    clear hK K hP5 hm5
    try simp only [Act.put,sA,sZ,sS]
    refine wpTr_c1 _ (by simp only [List.getD_cons_succ,List.getD_cons_zero];rfl) ?_
    refine wpN_c (by rfl) (fun K hK=>?_)
    go_simp
    have hfl:(recvN { n with q:=unheld n.t l.se n.q } pa sq st x).s=n.s/\(recvN { n with q:=unheld n.t l.se n.q } pa sq st x).t=n.t:=by unfold recvN;split <;> exact ⟨rfl,rfl⟩
    refine (netSend_any (.ans (recvA { n with q:=unheld n.t l.se n.q } pa sq st x)) (recvA_v hok hσ9.out.2) (.inr ⟨_,rfl,(recvA_v hok hσ9.out.2).2⟩) A 0 1 w5 hG5.out hN5.out hArow.out (by rw [hfl.1];omega) (by rw [hfl.2];omega)).mono ?_
    rintro e w6 ⟨rfl,⟨qa',hN6,ho6⟩,hm6⟩
    have hs2:=hid (hs1.out.trans (hm6.mono hSb))
    refine hK.out _ _ hs2.out ?_
    have ho7:Hid (qa'.ownBlock=(Value.slice aq N cq).ownBlock \/ ∀ k,qa'.ownBlock=some k -> w.heap.size<=k):=hid (ho6.imp id (fun h k e=>by have:=h k e;have:=hs1.out.size;have:=hM4.out.size;omega))
    replace hN6:=hid hN6
    clear hK K hm6 ho6
    try simp only [Act.put,sA,sZ,sS]
    refine wpTr_done ?_
    have hMf:=hid (hM4.out.trans (hs2.out.mono (T:=fun k=>(U<=k/\k < Z) \/ (Value.slice aq N cq).ownBlock=some k) hSw))
    clear hWd hs0 hs1 hs2
    go_wp2_with fail
    go_end0
    rw [hR.out]
    refine ⟨rfl,⟨qa',?_,ho7.out⟩,hMf.out⟩
    rw [delivP_dlv hc]
    exact hN6.out
end Go.Proofs.YtcopgcdhkgenkaaGreatDoor
