import Derived.Test.YtjjfphalcibjfaaGreatDoorC6
import Derived.Test.YtjjfphalcibjfaaGreatDoorTh10
import Derived.Test.YtjjfphalcibjfaaGreatDoorWhole
set_option maxRecDepth 100000
set_option maxHeartbeats 16000000
namespace Go.Proofs.YtjjfphalcibjfaaGreatDoor
open Go.Shelf Go.RowKit Cdk Scr
theorem zd9 (l:List Int):(join 44 (l.map itoa)).length<=l.length*22:=by
 have:=zcB 44 21 (l.map itoa) (fun x hx=>by
  obtain ⟨n,-,rfl⟩:=List.mem_map.1 hx
  exact zaM n)
 simpa using this
theorem zcm (l:List Bs):(listW l).length<=(join 44 l).length+1:=by
 unfold listW;split
 ·simp
 ·omega
theorem zc9 (v:Value) (lb:Lb) (w:World) (hG:Gl w) (h:zaF (fun k=>k < w.heap.size) w v lb.aft) (h1:I64 lb.til) (h2:I64 lb.app) (h3:I64 lb.den) (h4:∀ x ∈ lb.aft,I64 x) (h5:lb.aft.length<=1000):
  Calls Tryz.prog 116 #[.agg (lbC v lb).toArray] w fun e w'=>e=.returned (.string ⟨(labelW lb).toArray⟩)/\Ext w w':=by
 obtain ⟨til,aft,app,den⟩:=lb;simp only at h h1 h2 h3 h4 h5;obtain ⟨tz,htz⟩:∃ tz,tz=labelW ⟨til,aft,app,den⟩:=⟨_,rfl⟩;rw [<- htz];obtain ⟨ao,cap,rfl⟩:=h.slice;obtain ⟨n,hn⟩:∃ n,n=aft.length:=⟨_,rfl⟩;unfold lbC;simp only;rw [<- hn] at h h5 ⊢;unfold labelW at htz;simp only at htz;have hle:=zd9 aft;have hx0:=Mod.alloc (Mod.refl (fun _=>False) w) (.cells #[.int .i64 til,.slice ao n cap,.int .i64 app,.int .i64 den] 26);have hT:=heap_alloc_new w (.cells #[.int .i64 til,.slice ao n cap,.int .i64 app,.int .i64 den] 26);have hn0:aft=[] ↔ n=0:=by rw [hn,List.length_eq_zero_iff]
 replace hn:=hid hn;replace hn0:=hid hn0;replace h:=hid h;replace hG:=hid hG;replace h1:=hid h1;replace h2:=hid h2;replace h3:=hid h3;replace h4:=hid h4;replace hx0:=hid hx0;replace hT:=hid hT;replace hle:=hid hle
 by_cases c1:til=0
 rotate_left
 ·have d1:(til==0)=false:=by rw [beq_eq_false_iff_ne];exact c1
  replace htz:=hid (show tz=join 47 [itoa til,listW (aft.map itoa),itoa app,itoa den] by rw [htz,if_neg (by rintro ⟨e1,e2,e3,e4⟩;exact c1 e1)]);go_enter Tryz.func116,Tryz.ntmps116;go_upto_region 1 with fail
  generalize (w.alloc _)=W at hx0 hT ⊢;generalize w.heap.size=T at hT ⊢;have f0:W.cell? ⟨T,0,none⟩=some (.int .i64 til):=zaa hT.out 0;have f1:W.cell? ⟨T,1,none⟩=some (.slice ao n cap):=zaa hT.out 1;have f2:W.cell? ⟨T,2,none⟩=some (.int .i64 app):=zaa hT.out 2;have f3:W.cell? ⟨T,3,none⟩=some (.int .i64 den):=zaa hT.out 3;go_upto_region 3 with fail
  clear f0 f1 f2 f3;have hTd:=hid ((Mod.drew0 (fun _=>False) W).at hT.out (fun h=>h));have hxd:=hid (hx0.out.drew);clear hT hx0;refine zad (fun w'=>w'.heap[T]?=some (.cells #[.int .i64 til,.slice ao n cap,.int .i64 app,.int .i64 den] 26 (0,0))) [(0,true),(1,true),(3,true),(4,true),(6,true),(7,true),(9,true),(10,true),(2,false),(5,false),(8,false),(11,false),(12,false),(13,true)] (by as_aux_lemma=>kernel_rfl) (by as_aux_lemma=>kernel_rfl) (by as_aux_lemma=>kernel_rfl) (by decide) hTd.out ?_;generalize W.drew=W0 at hTd hxd ⊢;simp only [zak,List.map_cons,List.map_nil,List.getD_cons_zero,List.getD_cons_succ];repeat (refine zaB (by rfl) ?_ (fun w' hC=>?_) ?_;rotate_left;(have q0:w'.cell? ⟨T,0,none⟩=some (.int .i64 til):=zaa hC 0;have q1:w'.cell? ⟨T,1,none⟩=some (.slice ao n cap):=zaa hC 1;have q2:w'.cell? ⟨T,2,none⟩=some (.int .i64 app):=zaa hC 2;have q3:w'.cell? ⟨T,3,none⟩=some (.int .i64 den):=zaa hC 3;go_simp;try with_reducible rfl);try simp only [Act.put,sA,sZ,sS])
  refine zaj (by rfl) (fun K hK=>?_);go_simp;refine (zaw til h1.out W0 (hG.out.ext hxd.out)).mono ?_;rintro e W1 ⟨rfl,hxn⟩;refine hK.out _ _ (hxn.at hTd.out (fun h=>h)) ?_;have hTe:=hid (hxn.at hTd.out (fun h=>h));have hxe:=hid (hxd.out.trans hxn);clear hK K hTd hxd hxn;try simp only [Act.put,sA,sZ,sS]
  refine zaj (by rfl) (fun K hK=>?_);go_simp;refine (zbz (.slice ao n cap) aft h4.out W1 (hG.out.ext hxe.out) ((h.out.ext hxe.out).mono (fun k hk=>Nat.lt_of_lt_of_le hk hxe.out.size)) (by rw [<- hn.out];exact h5) (by have:=hle.out;rw [<- hn.out] at this;omega)).mono ?_;rintro e W2 ⟨rfl,hxn⟩;refine hK.out _ _ (hxn.at hTe.out (fun h=>h)) ?_;have hTd:=hid (hxn.at hTe.out (fun h=>h));have hxd:=hid (hxe.out.trans hxn);clear hK K hTe hxe hxn;try simp only [Act.put,sA,sZ,sS]
  refine zaj (by rfl) (fun K hK=>?_);go_simp;refine (zaw app h2.out W2 (hG.out.ext hxd.out)).mono ?_;rintro e W3 ⟨rfl,hxn⟩;refine hK.out _ _ (hxn.at hTd.out (fun h=>h)) ?_;have hTe:=hid (hxn.at hTd.out (fun h=>h));have hxe:=hid (hxd.out.trans hxn);clear hK K hTd hxd hxn;try simp only [Act.put,sA,sZ,sS]
  refine zaj (by rfl) (fun K hK=>?_);go_simp;refine (zaw den h3.out W3 (hG.out.ext hxe.out)).mono ?_;rintro e W4 ⟨rfl,hxn⟩;refine hK.out _ _ (hxn.at hTe.out (fun h=>h)) ?_;have hTd:=hid (hxn.at hTe.out (fun h=>h));have hxd:=hid (hxe.out.trans hxn);clear hK K hTe hxe hxn;try simp only [Act.put,sA,sZ,sS]
  refine zaj (by rfl) (fun K hK=>?_);go_simp;have hxA:=Mod.alloc (Mod.refl (fun _=>False) W4) (.cells #[.string ⟨(itoa til).toArray⟩,.string ⟨(listW (aft.map itoa)).toArray⟩,.string ⟨(itoa app).toArray⟩,.string ⟨(itoa den).toArray⟩] 9);have hA:=heap_alloc_new W4 (.cells #[.string ⟨(itoa til).toArray⟩,.string ⟨(listW (aft.map itoa)).toArray⟩,.string ⟨(itoa app).toArray⟩,.string ⟨(itoa den).toArray⟩] 9);refine hK.out _ _ (hxA.at hTd.out (fun h=>h)) ?_;have hxe:=hid (hxd.out.trans hxA);clear hK K hxd hxA hTd;generalize W4.heap.size=Z at hA ⊢;generalize (W4.alloc _)=W5 at hA hxe ⊢;have hrow:zbw (fun _=>True) W5 (.slice (some ⟨Z,0,none⟩) 4 4) [itoa til,listW (aft.map itoa),itoa app,itoa den]:=⟨some ⟨Z,0,none⟩,4,rfl,zaR.block hA,fun _ _ _ _=>trivial,by simp,⟨by simp,by decide⟩,fun e=>nomatch e⟩;have hjl:(join 47 [itoa til,listW (aft.map itoa),itoa app,itoa den]).length<=1000000:=by
   have l1:=zaM til;have l2:=zaM app;have l3:=zaM den;have l4:=zcm (aft.map itoa);have l5:=hle.out;rw [<- hn.out] at l5;simp only [join,List.length_append,List.length_cons];omega
  have hjn:=hid (zbZ _ _ 47 W5 hrow (by omega));clear hA hrow hjl;try simp only [Act.put,sA,sZ,sS]
  repeat (refine qT ?_)
  refine zas ?_;go_wp2_with fail
  refine hjn.out.mono ?_;rintro e W6 ⟨rfl,hx6⟩;have hx6:=hid (hxe.out.trans hx6);go_wp2_with fail
  go_ret;exact ⟨by rw [htz.out];rfl,hx6.out⟩
 have d1:(til==0)=true:=by rw [c1];rfl
 replace c1:=hid c1
 by_cases c2:n=0
 rotate_left
 ·have d2:((n:Int)==0)=false:=by rw [beq_eq_false_iff_ne];omega
  have d2i:¬ (n:Int)=0:=by omega
  replace htz:=hid (show tz=join 47 [itoa til,listW (aft.map itoa),itoa app,itoa den] by rw [htz,if_neg (by rintro ⟨e1,e2,e3,e4⟩;exact c2 (hn0.out.1 e2))]);go_enter Tryz.func116,Tryz.ntmps116;go_upto_region 1 with fail
  generalize (w.alloc _)=W at hx0 hT ⊢;generalize w.heap.size=T at hT ⊢;have f0:W.cell? ⟨T,0,none⟩=some (.int .i64 til):=zaa hT.out 0;have f1:W.cell? ⟨T,1,none⟩=some (.slice ao n cap):=zaa hT.out 1;have f2:W.cell? ⟨T,2,none⟩=some (.int .i64 app):=zaa hT.out 2;have f3:W.cell? ⟨T,3,none⟩=some (.int .i64 den):=zaa hT.out 3;go_upto_region 3 with fail
  clear f0 f1 f2 f3;have hTd:=hid ((Mod.drew0 (fun _=>False) W).at hT.out (fun h=>h));have hxd:=hid (hx0.out.drew);clear hT hx0;refine zad (fun w'=>w'.heap[T]?=some (.cells #[.int .i64 til,.slice ao n cap,.int .i64 app,.int .i64 den] 26 (0,0))) [(0,true),(1,true),(3,true),(4,true),(6,true),(7,true),(9,true),(10,true),(2,false),(5,false),(8,false),(11,false),(12,false),(13,true)] (by as_aux_lemma=>kernel_rfl) (by as_aux_lemma=>kernel_rfl) (by as_aux_lemma=>kernel_rfl) (by decide) hTd.out ?_;generalize W.drew=W0 at hTd hxd ⊢;simp only [zak,List.map_cons,List.map_nil,List.getD_cons_zero,List.getD_cons_succ];repeat (refine zaB (by rfl) ?_ (fun w' hC=>?_) ?_;rotate_left;(have q0:w'.cell? ⟨T,0,none⟩=some (.int .i64 til):=zaa hC 0;have q1:w'.cell? ⟨T,1,none⟩=some (.slice ao n cap):=zaa hC 1;have q2:w'.cell? ⟨T,2,none⟩=some (.int .i64 app):=zaa hC 2;have q3:w'.cell? ⟨T,3,none⟩=some (.int .i64 den):=zaa hC 3;go_simp;try with_reducible rfl);try simp only [Act.put,sA,sZ,sS])
  refine zaj (by rfl) (fun K hK=>?_);go_simp;refine (zaw til h1.out W0 (hG.out.ext hxd.out)).mono ?_;rintro e W1 ⟨rfl,hxn⟩;refine hK.out _ _ (hxn.at hTd.out (fun h=>h)) ?_;have hTe:=hid (hxn.at hTd.out (fun h=>h));have hxe:=hid (hxd.out.trans hxn);clear hK K hTd hxd hxn;try simp only [Act.put,sA,sZ,sS]
  refine zaj (by rfl) (fun K hK=>?_);go_simp;refine (zbz (.slice ao n cap) aft h4.out W1 (hG.out.ext hxe.out) ((h.out.ext hxe.out).mono (fun k hk=>Nat.lt_of_lt_of_le hk hxe.out.size)) (by rw [<- hn.out];exact h5) (by have:=hle.out;rw [<- hn.out] at this;omega)).mono ?_;rintro e W2 ⟨rfl,hxn⟩;refine hK.out _ _ (hxn.at hTe.out (fun h=>h)) ?_;have hTd:=hid (hxn.at hTe.out (fun h=>h));have hxd:=hid (hxe.out.trans hxn);clear hK K hTe hxe hxn;try simp only [Act.put,sA,sZ,sS]
  refine zaj (by rfl) (fun K hK=>?_);go_simp;refine (zaw app h2.out W2 (hG.out.ext hxd.out)).mono ?_;rintro e W3 ⟨rfl,hxn⟩;refine hK.out _ _ (hxn.at hTd.out (fun h=>h)) ?_;have hTe:=hid (hxn.at hTd.out (fun h=>h));have hxe:=hid (hxd.out.trans hxn);clear hK K hTd hxd hxn;try simp only [Act.put,sA,sZ,sS]
  refine zaj (by rfl) (fun K hK=>?_);go_simp;refine (zaw den h3.out W3 (hG.out.ext hxe.out)).mono ?_;rintro e W4 ⟨rfl,hxn⟩;refine hK.out _ _ (hxn.at hTe.out (fun h=>h)) ?_;have hTd:=hid (hxn.at hTe.out (fun h=>h));have hxd:=hid (hxe.out.trans hxn);clear hK K hTe hxe hxn;try simp only [Act.put,sA,sZ,sS]
  refine zaj (by rfl) (fun K hK=>?_);go_simp;have hxA:=Mod.alloc (Mod.refl (fun _=>False) W4) (.cells #[.string ⟨(itoa til).toArray⟩,.string ⟨(listW (aft.map itoa)).toArray⟩,.string ⟨(itoa app).toArray⟩,.string ⟨(itoa den).toArray⟩] 9);have hA:=heap_alloc_new W4 (.cells #[.string ⟨(itoa til).toArray⟩,.string ⟨(listW (aft.map itoa)).toArray⟩,.string ⟨(itoa app).toArray⟩,.string ⟨(itoa den).toArray⟩] 9);refine hK.out _ _ (hxA.at hTd.out (fun h=>h)) ?_;have hxe:=hid (hxd.out.trans hxA);clear hK K hxd hxA hTd;generalize W4.heap.size=Z at hA ⊢;generalize (W4.alloc _)=W5 at hA hxe ⊢;have hrow:zbw (fun _=>True) W5 (.slice (some ⟨Z,0,none⟩) 4 4) [itoa til,listW (aft.map itoa),itoa app,itoa den]:=⟨some ⟨Z,0,none⟩,4,rfl,zaR.block hA,fun _ _ _ _=>trivial,by simp,⟨by simp,by decide⟩,fun e=>nomatch e⟩;have hjl:(join 47 [itoa til,listW (aft.map itoa),itoa app,itoa den]).length<=1000000:=by
   have l1:=zaM til;have l2:=zaM app;have l3:=zaM den;have l4:=zcm (aft.map itoa);have l5:=hle.out;rw [<- hn.out] at l5;simp only [join,List.length_append,List.length_cons];omega
  have hjn:=hid (zbZ _ _ 47 W5 hrow (by omega));clear hA hrow hjl;try simp only [Act.put,sA,sZ,sS]
  repeat (refine qT ?_)
  refine zas ?_;go_wp2_with fail
  refine hjn.out.mono ?_;rintro e W6 ⟨rfl,hx6⟩;have hx6:=hid (hxe.out.trans hx6);go_wp2_with fail
  go_ret;exact ⟨by rw [htz.out];rfl,hx6.out⟩
 have d2:((n:Int)==0)=true:=by rw [c2];rfl
 have e2:=hid (hn0.out.2 c2);replace c2:=hid c2
 by_cases c3:app=0
 rotate_left
 ·have d3:(app==0)=false:=by rw [beq_eq_false_iff_ne];exact c3
  replace htz:=hid (show tz=join 47 [itoa til,listW (aft.map itoa),itoa app,itoa den] by rw [htz,if_neg (by rintro ⟨e1,e2,e3,e4⟩;exact c3 e3)]);go_enter Tryz.func116,Tryz.ntmps116;go_upto_region 1 with fail
  generalize (w.alloc _)=W at hx0 hT ⊢;generalize w.heap.size=T at hT ⊢;have f0:W.cell? ⟨T,0,none⟩=some (.int .i64 til):=zaa hT.out 0;have f1:W.cell? ⟨T,1,none⟩=some (.slice ao n cap):=zaa hT.out 1;have f2:W.cell? ⟨T,2,none⟩=some (.int .i64 app):=zaa hT.out 2;have f3:W.cell? ⟨T,3,none⟩=some (.int .i64 den):=zaa hT.out 3;go_upto_region 3 with fail
  clear f0 f1 f2 f3;have hTd:=hid ((Mod.drew0 (fun _=>False) W).at hT.out (fun h=>h));have hxd:=hid (hx0.out.drew);clear hT hx0;refine zad (fun w'=>w'.heap[T]?=some (.cells #[.int .i64 til,.slice ao n cap,.int .i64 app,.int .i64 den] 26 (0,0))) [(0,true),(1,true),(3,true),(4,true),(6,true),(7,true),(9,true),(10,true),(2,false),(5,false),(8,false),(11,false),(12,false),(13,true)] (by as_aux_lemma=>kernel_rfl) (by as_aux_lemma=>kernel_rfl) (by as_aux_lemma=>kernel_rfl) (by decide) hTd.out ?_;generalize W.drew=W0 at hTd hxd ⊢;simp only [zak,List.map_cons,List.map_nil,List.getD_cons_zero,List.getD_cons_succ];repeat (refine zaB (by rfl) ?_ (fun w' hC=>?_) ?_;rotate_left;(have q0:w'.cell? ⟨T,0,none⟩=some (.int .i64 til):=zaa hC 0;have q1:w'.cell? ⟨T,1,none⟩=some (.slice ao n cap):=zaa hC 1;have q2:w'.cell? ⟨T,2,none⟩=some (.int .i64 app):=zaa hC 2;have q3:w'.cell? ⟨T,3,none⟩=some (.int .i64 den):=zaa hC 3;go_simp;try with_reducible rfl);try simp only [Act.put,sA,sZ,sS])
  refine zaj (by rfl) (fun K hK=>?_);go_simp;refine (zaw til h1.out W0 (hG.out.ext hxd.out)).mono ?_;rintro e W1 ⟨rfl,hxn⟩;refine hK.out _ _ (hxn.at hTd.out (fun h=>h)) ?_;have hTe:=hid (hxn.at hTd.out (fun h=>h));have hxe:=hid (hxd.out.trans hxn);clear hK K hTd hxd hxn;try simp only [Act.put,sA,sZ,sS]
  refine zaj (by rfl) (fun K hK=>?_);go_simp;refine (zbz (.slice ao n cap) aft h4.out W1 (hG.out.ext hxe.out) ((h.out.ext hxe.out).mono (fun k hk=>Nat.lt_of_lt_of_le hk hxe.out.size)) (by rw [<- hn.out];exact h5) (by have:=hle.out;rw [<- hn.out] at this;omega)).mono ?_;rintro e W2 ⟨rfl,hxn⟩;refine hK.out _ _ (hxn.at hTe.out (fun h=>h)) ?_;have hTd:=hid (hxn.at hTe.out (fun h=>h));have hxd:=hid (hxe.out.trans hxn);clear hK K hTe hxe hxn;try simp only [Act.put,sA,sZ,sS]
  refine zaj (by rfl) (fun K hK=>?_);go_simp;refine (zaw app h2.out W2 (hG.out.ext hxd.out)).mono ?_;rintro e W3 ⟨rfl,hxn⟩;refine hK.out _ _ (hxn.at hTd.out (fun h=>h)) ?_;have hTe:=hid (hxn.at hTd.out (fun h=>h));have hxe:=hid (hxd.out.trans hxn);clear hK K hTd hxd hxn;try simp only [Act.put,sA,sZ,sS]
  refine zaj (by rfl) (fun K hK=>?_);go_simp;refine (zaw den h3.out W3 (hG.out.ext hxe.out)).mono ?_;rintro e W4 ⟨rfl,hxn⟩;refine hK.out _ _ (hxn.at hTe.out (fun h=>h)) ?_;have hTd:=hid (hxn.at hTe.out (fun h=>h));have hxd:=hid (hxe.out.trans hxn);clear hK K hTe hxe hxn;try simp only [Act.put,sA,sZ,sS]
  refine zaj (by rfl) (fun K hK=>?_);go_simp;have hxA:=Mod.alloc (Mod.refl (fun _=>False) W4) (.cells #[.string ⟨(itoa til).toArray⟩,.string ⟨(listW (aft.map itoa)).toArray⟩,.string ⟨(itoa app).toArray⟩,.string ⟨(itoa den).toArray⟩] 9);have hA:=heap_alloc_new W4 (.cells #[.string ⟨(itoa til).toArray⟩,.string ⟨(listW (aft.map itoa)).toArray⟩,.string ⟨(itoa app).toArray⟩,.string ⟨(itoa den).toArray⟩] 9);refine hK.out _ _ (hxA.at hTd.out (fun h=>h)) ?_;have hxe:=hid (hxd.out.trans hxA);clear hK K hxd hxA hTd;generalize W4.heap.size=Z at hA ⊢;generalize (W4.alloc _)=W5 at hA hxe ⊢;have hrow:zbw (fun _=>True) W5 (.slice (some ⟨Z,0,none⟩) 4 4) [itoa til,listW (aft.map itoa),itoa app,itoa den]:=⟨some ⟨Z,0,none⟩,4,rfl,zaR.block hA,fun _ _ _ _=>trivial,by simp,⟨by simp,by decide⟩,fun e=>nomatch e⟩;have hjl:(join 47 [itoa til,listW (aft.map itoa),itoa app,itoa den]).length<=1000000:=by
   have l1:=zaM til;have l2:=zaM app;have l3:=zaM den;have l4:=zcm (aft.map itoa);have l5:=hle.out;rw [<- hn.out] at l5;simp only [join,List.length_append,List.length_cons];omega
  have hjn:=hid (zbZ _ _ 47 W5 hrow (by omega));clear hA hrow hjl;try simp only [Act.put,sA,sZ,sS]
  repeat (refine qT ?_)
  refine zas ?_;go_wp2_with fail
  refine hjn.out.mono ?_;rintro e W6 ⟨rfl,hx6⟩;have hx6:=hid (hxe.out.trans hx6);go_wp2_with fail
  go_ret;exact ⟨by rw [htz.out];rfl,hx6.out⟩
 have d3:(app==0)=true:=by rw [c3];rfl
 replace c3:=hid c3
 by_cases c4:den=0
 rotate_left
 ·have d4:(den==0)=false:=by rw [beq_eq_false_iff_ne];exact c4
  replace htz:=hid (show tz=join 47 [itoa til,listW (aft.map itoa),itoa app,itoa den] by rw [htz,if_neg (by rintro ⟨e1,e2,e3,e4⟩;exact c4 e4)]);go_enter Tryz.func116,Tryz.ntmps116;go_upto_region 1 with fail
  generalize (w.alloc _)=W at hx0 hT ⊢;generalize w.heap.size=T at hT ⊢;have f0:W.cell? ⟨T,0,none⟩=some (.int .i64 til):=zaa hT.out 0;have f1:W.cell? ⟨T,1,none⟩=some (.slice ao n cap):=zaa hT.out 1;have f2:W.cell? ⟨T,2,none⟩=some (.int .i64 app):=zaa hT.out 2;have f3:W.cell? ⟨T,3,none⟩=some (.int .i64 den):=zaa hT.out 3;go_upto_region 3 with fail
  clear f0 f1 f2 f3;have hTd:=hid ((Mod.drew0 (fun _=>False) W).at hT.out (fun h=>h));have hxd:=hid (hx0.out.drew);clear hT hx0;refine zad (fun w'=>w'.heap[T]?=some (.cells #[.int .i64 til,.slice ao n cap,.int .i64 app,.int .i64 den] 26 (0,0))) [(0,true),(1,true),(3,true),(4,true),(6,true),(7,true),(9,true),(10,true),(2,false),(5,false),(8,false),(11,false),(12,false),(13,true)] (by as_aux_lemma=>kernel_rfl) (by as_aux_lemma=>kernel_rfl) (by as_aux_lemma=>kernel_rfl) (by decide) hTd.out ?_;generalize W.drew=W0 at hTd hxd ⊢;simp only [zak,List.map_cons,List.map_nil,List.getD_cons_zero,List.getD_cons_succ];repeat (refine zaB (by rfl) ?_ (fun w' hC=>?_) ?_;rotate_left;(have q0:w'.cell? ⟨T,0,none⟩=some (.int .i64 til):=zaa hC 0;have q1:w'.cell? ⟨T,1,none⟩=some (.slice ao n cap):=zaa hC 1;have q2:w'.cell? ⟨T,2,none⟩=some (.int .i64 app):=zaa hC 2;have q3:w'.cell? ⟨T,3,none⟩=some (.int .i64 den):=zaa hC 3;go_simp;try with_reducible rfl);try simp only [Act.put,sA,sZ,sS])
  refine zaj (by rfl) (fun K hK=>?_);go_simp;refine (zaw til h1.out W0 (hG.out.ext hxd.out)).mono ?_;rintro e W1 ⟨rfl,hxn⟩;refine hK.out _ _ (hxn.at hTd.out (fun h=>h)) ?_;have hTe:=hid (hxn.at hTd.out (fun h=>h));have hxe:=hid (hxd.out.trans hxn);clear hK K hTd hxd hxn;try simp only [Act.put,sA,sZ,sS]
  refine zaj (by rfl) (fun K hK=>?_);go_simp;refine (zbz (.slice ao n cap) aft h4.out W1 (hG.out.ext hxe.out) ((h.out.ext hxe.out).mono (fun k hk=>Nat.lt_of_lt_of_le hk hxe.out.size)) (by rw [<- hn.out];exact h5) (by have:=hle.out;rw [<- hn.out] at this;omega)).mono ?_;rintro e W2 ⟨rfl,hxn⟩;refine hK.out _ _ (hxn.at hTe.out (fun h=>h)) ?_;have hTd:=hid (hxn.at hTe.out (fun h=>h));have hxd:=hid (hxe.out.trans hxn);clear hK K hTe hxe hxn;try simp only [Act.put,sA,sZ,sS]
  refine zaj (by rfl) (fun K hK=>?_);go_simp;refine (zaw app h2.out W2 (hG.out.ext hxd.out)).mono ?_;rintro e W3 ⟨rfl,hxn⟩;refine hK.out _ _ (hxn.at hTd.out (fun h=>h)) ?_;have hTe:=hid (hxn.at hTd.out (fun h=>h));have hxe:=hid (hxd.out.trans hxn);clear hK K hTd hxd hxn;try simp only [Act.put,sA,sZ,sS]
  refine zaj (by rfl) (fun K hK=>?_);go_simp;refine (zaw den h3.out W3 (hG.out.ext hxe.out)).mono ?_;rintro e W4 ⟨rfl,hxn⟩;refine hK.out _ _ (hxn.at hTe.out (fun h=>h)) ?_;have hTd:=hid (hxn.at hTe.out (fun h=>h));have hxd:=hid (hxe.out.trans hxn);clear hK K hTe hxe hxn;try simp only [Act.put,sA,sZ,sS]
  refine zaj (by rfl) (fun K hK=>?_);go_simp;have hxA:=Mod.alloc (Mod.refl (fun _=>False) W4) (.cells #[.string ⟨(itoa til).toArray⟩,.string ⟨(listW (aft.map itoa)).toArray⟩,.string ⟨(itoa app).toArray⟩,.string ⟨(itoa den).toArray⟩] 9);have hA:=heap_alloc_new W4 (.cells #[.string ⟨(itoa til).toArray⟩,.string ⟨(listW (aft.map itoa)).toArray⟩,.string ⟨(itoa app).toArray⟩,.string ⟨(itoa den).toArray⟩] 9);refine hK.out _ _ (hxA.at hTd.out (fun h=>h)) ?_;have hxe:=hid (hxd.out.trans hxA);clear hK K hxd hxA hTd;generalize W4.heap.size=Z at hA ⊢;generalize (W4.alloc _)=W5 at hA hxe ⊢;have hrow:zbw (fun _=>True) W5 (.slice (some ⟨Z,0,none⟩) 4 4) [itoa til,listW (aft.map itoa),itoa app,itoa den]:=⟨some ⟨Z,0,none⟩,4,rfl,zaR.block hA,fun _ _ _ _=>trivial,by simp,⟨by simp,by decide⟩,fun e=>nomatch e⟩;have hjl:(join 47 [itoa til,listW (aft.map itoa),itoa app,itoa den]).length<=1000000:=by
   have l1:=zaM til;have l2:=zaM app;have l3:=zaM den;have l4:=zcm (aft.map itoa);have l5:=hle.out;rw [<- hn.out] at l5;simp only [join,List.length_append,List.length_cons];omega
  have hjn:=hid (zbZ _ _ 47 W5 hrow (by omega));clear hA hrow hjl;try simp only [Act.put,sA,sZ,sS]
  repeat (refine qT ?_)
  refine zas ?_;go_wp2_with fail
  refine hjn.out.mono ?_;rintro e W6 ⟨rfl,hx6⟩;have hx6:=hid (hxe.out.trans hx6);go_wp2_with fail
  go_ret;exact ⟨by rw [htz.out];rfl,hx6.out⟩
 replace htz:=hid (show tz=[42] by rw [htz,if_pos ⟨c1.out,e2.out,c3.out,c4⟩]);have d4:(den==0)=true:=by rw [c4];rfl
 replace c4:=hid c4;go_enter Tryz.func116,Tryz.ntmps116;go_upto_region 1 with fail
 generalize (w.alloc _)=W at hx0 hT ⊢;generalize w.heap.size=T at hT ⊢;have f0:W.cell? ⟨T,0,none⟩=some (.int .i64 til):=zaa hT.out 0;have f1:W.cell? ⟨T,1,none⟩=some (.slice ao n cap):=zaa hT.out 1;have f2:W.cell? ⟨T,2,none⟩=some (.int .i64 app):=zaa hT.out 2;have f3:W.cell? ⟨T,3,none⟩=some (.int .i64 den):=zaa hT.out 3;go_wp2_with fail
 go_ret;exact ⟨by rw [htz.out];rfl,hx0.out⟩
theorem zlU (k:Nat) (hk:k < 16):(⟨#[48,49,50,51,52,53,54,55,56,57,97,98,99,100,101,102]⟩:ByteArray)[k]'(by show k < 16;exact hk)=hexD k:=by
 have:∀ k:Fin 16,(⟨#[48,49,50,51,52,53,54,55,56,57,97,98,99,100,101,102]⟩:ByteArray)[k.val]'(by show k.val < 16;exact k.isLt)=hexD k.val:=by decide
 exact this ⟨k,hk⟩
def zf5 (c:UInt8):Bs:=[hexD (c.toNat / 16),hexD (c.toNat % 16)]
theorem zcX (t:Bs) (w:World) (hlen:t.length<=1000000):
  Calls Tryz.prog 127 #[.string ⟨t.toArray⟩] w fun e w'=>e=.returned (.string ⟨(hexW t).toArray⟩)/\Ext w w':=by
 obtain ⟨tz,htz⟩:∃ tz,tz=hexW t:=⟨_,rfl⟩;rw [<- htz];obtain ⟨s,hs⟩:∃ s:ByteArray,s=⟨t.toArray⟩:=⟨_,rfl⟩;have hst:s.data.toList=t:=by rw [hs]
 have hsl:s.size<=1000000:=by rw [hs];exact hlen
 have he:s.toList.isEmpty=t.isEmpty:=by rw [hs];simp
 rw [<- hs];cases hb:t.isEmpty with
 | true=>
  replace htz:=hid (show tz=[42] by rw [htz,hexW,if_pos hb]);rw [hb] at he;clear hst hb;replace hs:=hid hs;go_enter Tryz.func127,Tryz.ntmps127;go_wp2_with fail
  go_ret;exact ⟨by rw [htz.out];rfl,Mod.refl _ _⟩
 | false=>
  replace htz:tz=s.data.toList.flatMap zf5:=by rw [htz,hexW,if_neg (by rw [hb];decide),hst];rfl
  rw [hb] at he;clear hst hb;replace hs:=hid hs;replace htz:=hid htz;have hb0:=Bld.fresh w;have hxb:=Mod.alloc (Mod.refl (fun _=>False) w) (.cells #[.pointer none,.slice none 0 0] zfT);go_enter Tryz.func127,Tryz.ntmps127;go_wp2_with fail
  generalize (w.alloc _)=w1 at hb0 hxb ⊢;obtain ⟨B,hB⟩:∃ B,B=w.heap.size:=⟨_,rfl⟩;rw [<- hB] at hb0 ⊢;replace hb0:=hid hb0;replace hxb:=hid hxb;replace hB:=hid hB;go_loopg [9] s.size (fun g i wr=>∃ (j:Nat) (ty:Bs),j+g=s.size/\i=.int .i64 j/\Bld B B ty wr/\za4 B B w1 wr/\tz=ty++(s.data.toList.drop j).flatMap zf5/\ty.length=2*j)
  case atStart=>exact ⟨0,[],by omega,rfl,hb0.out,za4.refl _ _ _,htz.out,by simp⟩
  case round=>
   clear htz hb0;obtain ⟨j,ty,hj,rfl,hBr,hK,ht,hlen⟩:=hrel;replace hj:=hid hj
   by_cases hlt:j < s.size
   ·have hd:decide ((j:Int) < (s.size:Int))=true:=decide_eq_true (by omega)
    have hdi:(j:Int) < (s.size:Int):=by omega
    rw [drop_at s hlt] at ht;have ht2:tz=((ty++[hexD (s[j].toNat / 16)])++[hexD (s[j].toNat % 16)])++(s.data.toList.drop (j+1)).flatMap zf5:=by rw [ht];simp [zf5]
    clear ht;have hc:=s[j].toNat_lt;have e1:=zlU (s[j].toNat / 16) (by omega);have e2:=zlU (s[j].toNat % 16) (by omega);have e3:bits .and .u8 (s[j].toNat:Int) 15=((s[j].toNat % 16:Nat):Int):=by rw [u8_and15 _ (by omega) (by omega)];omega
    replace ht2:=hid ht2;replace hlen:=hid hlen;go_wp2_with fail
    refine (zcY B B ty _ _ hBr (by have:=hlen.out;omega)).mono ?_;rintro e w2 ⟨rfl,hB2,hK2⟩;have hK2:=hid (hK.trans hK2);clear hBr hK;replace hB2:=hid hB2;go_wp2_with fail
    refine (zcY B B _ _ _ hB2.out (by have:=hlen.out;simp;omega)).mono ?_;rintro e w3 ⟨rfl,hB3,hK3⟩;have hK3:=hid (hK2.out.trans hK3);clear hB2 hK2;replace hB3:=hid hB3;go_wp2_with fail
    go_roundg (gk - 1)
    case measure=>have:=hj.out;omega
    case rel=>exact ⟨j+1,_,by have:=hj.out;omega,by go_num,hB3.out,hK3.out,ht2.out,by have:=hlen.out;simp;omega⟩
   ·obtain rfl:j=s.size:=by have:=hj.out;omega
    have hdi:¬ (s.size:Int) < (s.size:Int):=by omega
    have hd:decide ((s.size:Int) < (s.size:Int))=false:=decide_eq_false hdi;rw [List.drop_eq_nil_of_le (Nat.le_of_eq (zaO s).symm)] at ht;simp only [List.flatMap_nil,List.append_nil] at ht;have hm:=hid ((hxb.out.mono (T:=fun k=>B<=k) (fun _ h=>h.elim)).trans hK.1);have hst:=hid (zfN B B ty wr hBr);replace ht:=hid ht;replace hlen:=hid hlen;clear hBr hK;go_wp2_with fail
    refine hst.out.mono ?_;rintro e w4 ⟨rfl,hm4⟩;replace hm4:=hid hm4;go_wp2_with fail
    go_ret;exact ⟨by rw [ht.out];rfl,zaG (by rw [hB.out];exact Nat.le_refl _) (hm.out.trans hm4.out)⟩
open Go.RowKit Cdk Scr
def acA (a1:Option Addr) (n1 c1:Nat) (a2:Option Addr) (n2 c2:Nat) (a3:Option Addr) (n3 c3:Nat) (a4:Option Addr) (n4 c4:Nat) (a5:Option Addr) (n5 c5:Nat) (a:Ac):Array Value:=
 #[.int .i64 a.kd,.int .i64 a.fc.n,.int .i64 a.fc.tm,.int .i64 a.fc.kd,.int .i64 a.fc.st,.string ⟨a.fc.lg.toArray⟩,.int .i64 a.fc.rv,.int .i64 a.fc.bs,.string ⟨a.fc.ti.toArray⟩,.string ⟨a.fc.au.toArray⟩,.slice a1 n1 c1,.slice a2 n2 c2,.int .i64 a.fc.lb.til,.slice a3 n3 c3,.int .i64 a.fc.lb.app,.int .i64 a.fc.lb.den,.int .i64 a.fc.ed,.int .i64 a.fc.bk,.int .i64 a.fc.se,.string ⟨a.fc.tx.toArray⟩,.string ⟨a.fc.nm.toArray⟩,.int .i64 a.fc.pa,.int .i64 a.fc.cl,.int .i64 a.fc.un,
  .int .i64 a.n,.int .i64 a.cl,.string ⟨a.tx.toArray⟩,.slice a4 n4 c4,.slice a5 n5 c5,.int .i64 a.ms.kd,.int .i64 a.ms.pa,.int .i64 a.ms.sq,.int .i64 a.ms.st,.int .i64 a.ms.ba,.int .i64 a.ms.ve,.string ⟨a.ms.da.toArray⟩]
theorem znw (a1:Option Addr) (n1 c1:Nat) (a2:Option Addr) (n2 c2:Nat) (a3:Option Addr) (n3 c3:Nat) (a4:Option Addr) (n4 c4:Nat) (a5:Option Addr) (n5 c5:Nat) (a:Ac):(acC (⟨⟨.slice a1 n1 c1,.slice a2 n2 c2,.slice a3 n3 c3⟩,.slice a4 n4 c4,.slice a5 n5 c5⟩,a)).toArray=acA a1 n1 c1 a2 n2 c2 a3 n3 c3 a4 n4 c4 a5 n5 c5 a:=rfl
theorem zhS (m1 m2:Ms) (w:World):(Op.equalIn 10000 30 (.agg (msC m1).toArray) (.agg (msC m2).toArray)).run Tryz.prog w=.ok (decide (m1=m2)) w:=by
 obtain ⟨a1,a2,a3,a4,a5,a6,a7⟩:=m1;obtain ⟨b1,b2,b3,b4,b5,b6,b7⟩:=m2;have u3:=Tryz.underlying3;have u9:=Tryz.underlying9;have i3:=Tryz.isAgg3;have i9:=Tryz.isAgg9;have z3:=Tryz.sizeOf3;have z9:=Tryz.sizeOf9;have hS:Tryz.prog.underlying 30=some (.struct (Tryz.prog.fieldsOf 30)):=by kernel_rfl
 have hp:Tryz.prog.stoodInHeld 30=false:=by kernel_rfl
 unfold msC zbR;simp only;rw [show (10000:Nat)=9999+1 from rfl,run_equalIn_agg w 9999 30 _ _ hS hp];simp only [Program.fieldsOf,Tryz.underlying30];go_simp;repeat' split
 all_goals simp [*]
theorem zbU {F:Nat -> Prop} (a11:Option Addr) (n11 c11:Nat) (a12:Option Addr) (n12 c12:Nat) (a13:Option Addr) (n13 c13:Nat) (a14:Option Addr) (n14 c14:Nat) (a15:Option Addr) (n15 c15:Nat) (a:Ac) (a21:Option Addr) (n21 c21:Nat) (a22:Option Addr) (n22 c22:Nat) (a23:Option Addr) (n23 c23:Nat) (a24:Option Addr) (n24 c24:Nat) (a25:Option Addr) (n25 c25:Nat) (b:Ac) (w:World) (h1:AcAt F w ⟨⟨.slice a11 n11 c11,.slice a12 n12 c12,.slice a13 n13 c13⟩,.slice a14 n14 c14,.slice a15 n15 c15⟩ a) (h2:AcAt F w ⟨⟨.slice a21 n21 c21,.slice a22 n22 c22,.slice a23 n23 c23⟩,.slice a24 n24 c24,.slice a25 n25 c25⟩ b):
  Calls Tryz.prog 16 #[.agg (acA a11 n11 c11 a12 n12 c12 a13 n13 c13 a14 n14 c14 a15 n15 c15 a),.agg (acA a21 n21 c21 a22 n22 c22 a23 n23 c23 a24 n24 c24 a25 n25 c25 b)] w fun e w'=>e=.returned (.bool (decide (a=b)))/\Ext w w':=by
 obtain ⟨r,hr⟩:∃ r,r=decide (a=b):=⟨_,rfl⟩;rw [<- hr];have H1:=hid (fun W (hX:Ext w W)=>zdA (F:=F) (.slice a14 n14 c14) (.slice a24 n24 c24) a.fa b.fa W (h1.fa.ext hX) (h2.fa.ext hX));have H2:=hid (fun W (hX:Ext w W)=>zdA (F:=F) (.slice a15 n15 c15) (.slice a25 n25 c25) a.ke b.ke W (h1.ke.ext hX) (h2.ke.ext hX));have H3:=hid (fun W (hX:Ext w W)=>zdL (F:=F) a11 n11 c11 a12 n12 c12 a13 n13 c13 a.fc a21 n21 c21 a22 n22 c22 a23 n23 c23 b.fc W (h1.fc.ext hX) (h2.fc.ext hX));clear h1 h2;obtain ⟨k1,f1,n1,cl1,x1,fa1,ke1,m1⟩:=a;obtain ⟨m1kd,m1pa,m1sq,m1st,m1ba,m1ve,m1da⟩:=m1;obtain ⟨k2,f2,n2,cl2,x2,fa2,ke2,m2⟩:=b;obtain ⟨m2kd,m2pa,m2sq,m2st,m2ba,m2ve,m2da⟩:=m2;replace hr:r=(decide (k1=k2) && (decide (n1=n2) && (decide (cl1=cl2) && (decide (x1=x2) && (decide ((⟨m1kd,m1pa,m1sq,m1st,m1ba,m1ve,m1da⟩:Ms)=⟨m2kd,m2pa,m2sq,m2st,m2ba,m2ve,m2da⟩) && (decide (fa1=fa2) && (decide (ke1=ke2) && (decide (f1=f2))))))))):=by
  rw [hr,Bool.eq_iff_iff];simp only [Ac.mk.injEq,decide_eq_true_eq,Bool.and_eq_true];constructor
  ·rintro ⟨h1,h2,h3,h4,h5,h6,h7,h8⟩;exact ⟨h1,h3,h4,h5,h8,h6,h7,h2⟩
  ·rintro ⟨h1,h3,h4,h5,h8,h6,h7,h2⟩;exact ⟨h1,h2,h3,h4,h5,h6,h7,h8⟩
 simp only at H1 H2 H3;generalize decide (fa1=fa2)=b_fa at hr H1;generalize decide (ke1=ke2)=b_ke at hr H2;generalize decide (f1=f2)=b_f at hr H3;have hms:=fun W=>zhS ⟨m1kd,m1pa,m1sq,m1st,m1ba,m1ve,m1da⟩ ⟨m2kd,m2pa,m2sq,m2st,m2ba,m2ve,m2da⟩ W
 unfold msC zbR at hms;simp only at hms;generalize decide ((⟨m1kd,m1pa,m1sq,m1st,m1ba,m1ve,m1da⟩:Ms)=⟨m2kd,m2pa,m2sq,m2st,m2ba,m2ve,m2da⟩)=b_m at hr hms;have e_k:=zcV k1 k2;generalize decide (k1=k2)=b_k at hr e_k;have e_n:=zcV n1 n2;generalize decide (n1=n2)=b_n at hr e_n;have e_cl:=zcV cl1 cl2;generalize decide (cl1=cl2)=b_cl at hr e_cl;have e_x:(x1 !=x2)=!decide (x1=x2):=by rw [Bool.eq_iff_iff,bne_iff_ne];simp
 have g_x:=zbO x1 x2;generalize decide (x1=x2)=b_x at hr e_x g_x;replace hr:=hid hr;obtain ⟨hx,hA,hB,-⟩:=zaY w #[.int .i64 k1,.int .i64 f1.n,.int .i64 f1.tm,.int .i64 f1.kd,.int .i64 f1.st,.string ⟨f1.lg.toArray⟩,.int .i64 f1.rv,.int .i64 f1.bs,.string ⟨f1.ti.toArray⟩,.string ⟨f1.au.toArray⟩,.slice a11 n11 c11,.slice a12 n12 c12,.int .i64 f1.lb.til,.slice a13 n13 c13,.int .i64 f1.lb.app,.int .i64 f1.lb.den,.int .i64 f1.ed,.int .i64 f1.bk,.int .i64 f1.se,.string ⟨f1.tx.toArray⟩,.string ⟨f1.nm.toArray⟩,.int .i64 f1.pa,.int .i64 f1.cl,.int .i64 f1.un,.int .i64 n1,.int .i64 cl1,.string ⟨x1.toArray⟩,.slice a14 n14 c14,.slice a15 n15 c15,.int .i64 m1kd,.int .i64 m1pa,.int .i64 m1sq,.int .i64 m1st,.int .i64 m1ba,.int .i64 m1ve,.string ⟨m1da.toArray⟩] #[.int .i64 k2,.int .i64 f2.n,.int .i64 f2.tm,.int .i64 f2.kd,.int .i64 f2.st,.string ⟨f2.lg.toArray⟩,.int .i64 f2.rv,.int .i64 f2.bs,.string ⟨f2.ti.toArray⟩,.string ⟨f2.au.toArray⟩,.slice a21 n21 c21,.slice a22 n22 c22,.int .i64 f2.lb.til,.slice a23 n23 c23,.int .i64 f2.lb.app,.int .i64 f2.lb.den,.int .i64 f2.ed,.int .i64 f2.bk,.int .i64 f2.se,.string ⟨f2.tx.toArray⟩,.string ⟨f2.nm.toArray⟩,.int .i64 f2.pa,.int .i64 f2.cl,.int .i64 f2.un,.int .i64 n2,.int .i64 cl2,.string ⟨x2.toArray⟩,.slice a24 n24 c24,.slice a25 n25 c25,.int .i64 m2kd,.int .i64 m2pa,.int .i64 m2sq,.int .i64 m2st,.int .i64 m2ba,.int .i64 m2ve,.string ⟨m2da.toArray⟩] 32 32;replace hx:=hid hx;unfold acA;simp only;go_enter Tryz.func16,Tryz.ntmps16;go_upto_region 1 with (fail)
 generalize ((w.alloc (.cells #[.int .i64 k1,.int .i64 f1.n,.int .i64 f1.tm,.int .i64 f1.kd,.int .i64 f1.st,.string ⟨f1.lg.toArray⟩,.int .i64 f1.rv,.int .i64 f1.bs,.string ⟨f1.ti.toArray⟩,.string ⟨f1.au.toArray⟩,.slice a11 n11 c11,.slice a12 n12 c12,.int .i64 f1.lb.til,.slice a13 n13 c13,.int .i64 f1.lb.app,.int .i64 f1.lb.den,.int .i64 f1.ed,.int .i64 f1.bk,.int .i64 f1.se,.string ⟨f1.tx.toArray⟩,.string ⟨f1.nm.toArray⟩,.int .i64 f1.pa,.int .i64 f1.cl,.int .i64 f1.un,.int .i64 n1,.int .i64 cl1,.string ⟨x1.toArray⟩,.slice a14 n14 c14,.slice a15 n15 c15,.int .i64 m1kd,.int .i64 m1pa,.int .i64 m1sq,.int .i64 m1st,.int .i64 m1ba,.int .i64 m1ve,.string ⟨m1da.toArray⟩] 32)).alloc (.cells #[.int .i64 k2,.int .i64 f2.n,.int .i64 f2.tm,.int .i64 f2.kd,.int .i64 f2.st,.string ⟨f2.lg.toArray⟩,.int .i64 f2.rv,.int .i64 f2.bs,.string ⟨f2.ti.toArray⟩,.string ⟨f2.au.toArray⟩,.slice a21 n21 c21,.slice a22 n22 c22,.int .i64 f2.lb.til,.slice a23 n23 c23,.int .i64 f2.lb.app,.int .i64 f2.lb.den,.int .i64 f2.ed,.int .i64 f2.bk,.int .i64 f2.se,.string ⟨f2.tx.toArray⟩,.string ⟨f2.nm.toArray⟩,.int .i64 f2.pa,.int .i64 f2.cl,.int .i64 f2.un,.int .i64 n2,.int .i64 cl2,.string ⟨x2.toArray⟩,.slice a24 n24 c24,.slice a25 n25 c25,.int .i64 m2kd,.int .i64 m2pa,.int .i64 m2sq,.int .i64 m2st,.int .i64 m2ba,.int .i64 m2ve,.string ⟨m2da.toArray⟩] 32))=W at hx hA hB ⊢;generalize w.heap.size=R at hA hB ⊢;have p_0:W.cell? ⟨R,0,none⟩=some (.int .i64 k1):=zaa hA 0;have q_0:W.cell? ⟨R+1,0,none⟩=some (.int .i64 k2):=zaa hB 0;have p_24:W.cell? ⟨R,24,none⟩=some (.int .i64 n1):=zaa hA 24;have q_24:W.cell? ⟨R+1,24,none⟩=some (.int .i64 n2):=zaa hB 24;have p_25:W.cell? ⟨R,25,none⟩=some (.int .i64 cl1):=zaa hA 25;have q_25:W.cell? ⟨R+1,25,none⟩=some (.int .i64 cl2):=zaa hB 25;have p_26:W.cell? ⟨R,26,none⟩=some (.string ⟨x1.toArray⟩):=zaa hA 26;have q_26:W.cell? ⟨R+1,26,none⟩=some (.string ⟨x2.toArray⟩):=zaa hB 26;have p_29:W.cell? ⟨R,29,none⟩=some (.int .i64 m1kd):=zaa hA 29;have q_29:W.cell? ⟨R+1,29,none⟩=some (.int .i64 m2kd):=zaa hB 29;have p_30:W.cell? ⟨R,30,none⟩=some (.int .i64 m1pa):=zaa hA 30;have q_30:W.cell? ⟨R+1,30,none⟩=some (.int .i64 m2pa):=zaa hB 30;have p_31:W.cell? ⟨R,31,none⟩=some (.int .i64 m1sq):=zaa hA 31;have q_31:W.cell? ⟨R+1,31,none⟩=some (.int .i64 m2sq):=zaa hB 31;have p_32:W.cell? ⟨R,32,none⟩=some (.int .i64 m1st):=zaa hA 32;have q_32:W.cell? ⟨R+1,32,none⟩=some (.int .i64 m2st):=zaa hB 32;have p_33:W.cell? ⟨R,33,none⟩=some (.int .i64 m1ba):=zaa hA 33;have q_33:W.cell? ⟨R+1,33,none⟩=some (.int .i64 m2ba):=zaa hB 33;have p_34:W.cell? ⟨R,34,none⟩=some (.int .i64 m1ve):=zaa hA 34;have q_34:W.cell? ⟨R+1,34,none⟩=some (.int .i64 m2ve):=zaa hB 34;have p_35:W.cell? ⟨R,35,none⟩=some (.string ⟨m1da.toArray⟩):=zaa hA 35;have q_35:W.cell? ⟨R+1,35,none⟩=some (.string ⟨m2da.toArray⟩):=zaa hB 35;have p_27:W.cell? ⟨R,27,none⟩=some (.slice a14 n14 c14):=zaa hA 27;have q_27:W.cell? ⟨R+1,27,none⟩=some (.slice a24 n24 c24):=zaa hB 27;replace hA:=hid hA;replace hB:=hid hB;cases b_k with
 | false=>
  go_wp2_with fail
  go_ret;exact ⟨by rw [hr.out];simp,hx.out⟩
 | true=>
 cases b_n with
 | false=>
  go_wp2_with fail
  go_ret;exact ⟨by rw [hr.out];simp,hx.out⟩
 | true=>
 cases b_cl with
 | false=>
  go_wp2_with fail
  go_ret;exact ⟨by rw [hr.out];simp,hx.out⟩
 | true=>
 cases b_x with
 | false=>
  go_wp2_with fail
  go_ret;exact ⟨by rw [hr.out];simp,hx.out⟩
 | true=>
 cases b_m with
 | false=>
  go_wp2_with fail
  go_ret;exact ⟨by rw [hr.out];simp,hx.out⟩
 | true=>
 go_upto_region 3 with (fail)
 refine za0 ?_;simp only [List.map_cons,List.map_nil,zcr];go_wp2_with fail
 refine (H1.out _ hx.out).mono ?_;rintro e W2 ⟨rfl,hxn⟩;replace hA:=hid (hxn.at hA.out (fun h=>h));replace hB:=hid (hxn.at hB.out (fun h=>h));replace hx:=hid (hx.out.trans hxn);clear hxn p_0 q_0 p_24 q_24 p_25 q_25 p_26 q_26 p_29 q_29 p_30 q_30 p_31 q_31 p_32 q_32 p_33 q_33 p_34 q_34 p_35 q_35 p_27 q_27;have p_28:W2.cell? ⟨R,28,none⟩=some (.slice a15 n15 c15):=zaa hA.out 28;have q_28:W2.cell? ⟨R+1,28,none⟩=some (.slice a25 n25 c25):=zaa hB.out 28;cases b_fa with
 | false=>
  go_wp2_with fail
  go_ret;exact ⟨by rw [hr.out];simp,hx.out⟩
 | true=>
 go_wp2_with fail
 refine (H2.out _ hx.out).mono ?_;rintro e W3 ⟨rfl,hxn⟩;replace hA:=hid (hxn.at hA.out (fun h=>h));replace hB:=hid (hxn.at hB.out (fun h=>h));replace hx:=hid (hx.out.trans hxn);clear hxn p_28 q_28;cases b_ke with
 | false=>
  go_wp2_with fail
  go_ret;exact ⟨by rw [hr.out];simp,hx.out⟩
 | true=>
 unfold fcA at H3;go_wp2_with (first | (refine zaW (by rfl) 28 _ rfl R 1 [.int .i64 k1] [.int .i64 f1.n,.int .i64 f1.tm,.int .i64 f1.kd,.int .i64 f1.st,.string ⟨f1.lg.toArray⟩,.int .i64 f1.rv,.int .i64 f1.bs,.string ⟨f1.ti.toArray⟩,.string ⟨f1.au.toArray⟩,.slice a11 n11 c11,.slice a12 n12 c12,.int .i64 f1.lb.til,.slice a13 n13 c13,.int .i64 f1.lb.app,.int .i64 f1.lb.den,.int .i64 f1.ed,.int .i64 f1.bk,.int .i64 f1.se,.string ⟨f1.tx.toArray⟩,.string ⟨f1.nm.toArray⟩,.int .i64 f1.pa,.int .i64 f1.cl,.int .i64 f1.un] [.int .i64 n1,.int .i64 cl1,.string ⟨x1.toArray⟩,.slice a14 n14 c14,.slice a15 n15 c15,.int .i64 m1kd,.int .i64 m1pa,.int .i64 m1sq,.int .i64 m1st,.int .i64 m1ba,.int .i64 m1ve,.string ⟨m1da.toArray⟩] _ _ _ rfl rfl hA.out Tryz.underlying28 rfl (by kernel_rfl) ?_) | (refine zaW (by rfl) 28 _ rfl (R+1) 1 [.int .i64 k2] [.int .i64 f2.n,.int .i64 f2.tm,.int .i64 f2.kd,.int .i64 f2.st,.string ⟨f2.lg.toArray⟩,.int .i64 f2.rv,.int .i64 f2.bs,.string ⟨f2.ti.toArray⟩,.string ⟨f2.au.toArray⟩,.slice a21 n21 c21,.slice a22 n22 c22,.int .i64 f2.lb.til,.slice a23 n23 c23,.int .i64 f2.lb.app,.int .i64 f2.lb.den,.int .i64 f2.ed,.int .i64 f2.bk,.int .i64 f2.se,.string ⟨f2.tx.toArray⟩,.string ⟨f2.nm.toArray⟩,.int .i64 f2.pa,.int .i64 f2.cl,.int .i64 f2.un] [.int .i64 n2,.int .i64 cl2,.string ⟨x2.toArray⟩,.slice a24 n24 c24,.slice a25 n25 c25,.int .i64 m2kd,.int .i64 m2pa,.int .i64 m2sq,.int .i64 m2st,.int .i64 m2ba,.int .i64 m2ve,.string ⟨m2da.toArray⟩] _ _ _ rfl rfl hB.out Tryz.underlying28 rfl (by kernel_rfl) ?_))
 refine (H3.out _ hx.out).mono ?_;rintro e W4 ⟨rfl,hxn⟩;replace hx:=hid (hx.out.trans hxn);clear hxn hA hB;go_wp2_with fail
 go_ret;exact ⟨by rw [hr.out];simp,hx.out⟩
end Go.Proofs.YtjjfphalcibjfaaGreatDoor
