import Derived.Test.YtjjfphalcibjfaaGreatDoorC6
import Derived.Test.YtjjfphalcibjfaaGreatDoorA12
import Derived.Test.YtjjfphalcibjfaaGreatDoorWhole
import Derived.Test.YtjjfphalcibjfaaGreatDoorC0
set_option maxRecDepth 100000
set_option maxHeartbeats 16000000
namespace Go.Proofs.YtjjfphalcibjfaaGreatDoor
open Go.Shelf Go.RowKit Cdk Scr
theorem zfB (l:List Int):(join 44 (l.map itoa)).length<=l.length*22:=by
 have:=zdd 44 21 (l.map itoa) (fun x hx=>by
  obtain ⟨n,-,rfl⟩:=List.mem_map.1 hx
  exact zaR n)
 simpa using this
theorem zcH (l:List Bs):(listW l).length<=(join 44 l).length+1:=by
 unfold listW;split
 ·simp
 ·omega
theorem zd6 (v:Value) (lb:Lb) (w:World) (hG:Gl w) (h:zaF (fun k=>k < w.heap.size) w v lb.aft) (h1:I64 lb.til) (h2:I64 lb.app) (h3:I64 lb.den) (h4:∀ x ∈ lb.aft,I64 x) (h5:lb.aft.length<=1000):
  Calls Tryz.prog 116 #[.agg (lbC v lb).toArray] w fun e w'=>e=.returned (.string ⟨(labelW lb).toArray⟩)/\Ext w w':=by
 obtain ⟨til,aft,app,den⟩:=lb;simp only at h h1 h2 h3 h4 h5;obtain ⟨tz,htz⟩:∃ tz,tz=labelW ⟨til,aft,app,den⟩:=⟨_,rfl⟩;rw [<- htz];obtain ⟨ao,cap,rfl⟩:=h.slice;obtain ⟨n,hn⟩:∃ n,n=aft.length:=⟨_,rfl⟩;unfold lbC;simp only;rw [<- hn] at h h5 ⊢;unfold labelW at htz;simp only at htz;have hle:=zfB aft;have hx0:=Mod.alloc (Mod.refl (fun _=>False) w) (.cells #[.int .i64 til,.slice ao n cap,.int .i64 app,.int .i64 den] 26);have hT:=heap_alloc_new w (.cells #[.int .i64 til,.slice ao n cap,.int .i64 app,.int .i64 den] 26);have hn0:aft=[] ↔ n=0:=by rw [hn,List.length_eq_zero_iff]
 replace hn:=Y hn;replace hn0:=Y hn0;replace h:=Y h;replace hG:=Y hG;replace h1:=Y h1;replace h2:=Y h2;replace h3:=Y h3;replace h4:=Y h4;replace hx0:=Y hx0;replace hT:=Y hT;replace hle:=Y hle
 by_cases c1:til=0
 rotate_left
 ·have d1:(til==0)=false:=by rw [beq_eq_false_iff_ne];exact c1
  replace htz:=Y (show tz=join 47 [itoa til,listW (aft.map itoa),itoa app,itoa den] by rw [htz,if_neg (by rintro ⟨e1,e2,e3,e4⟩;exact c1 e1)]);go_enter Tryz.func116,Tryz.ntmps116;go_upto_region 1 with fail
  generalize (w.alloc _)=W at hx0 hT ⊢;generalize w.heap.size=T at hT ⊢;have f0:=cS hT.o 0;have f1:=cS hT.o 1;have f2:=cS hT.o 2;have f3:=cS hT.o 3;go_upto_region 3 with fail
  clear f0 f1 f2 f3;have hTd:=Y ((Mod.drew0 (fun _=>False) W).at hT.o id);have hxd:=Y (hx0.o.drew);clear hT hx0;refine rS (fun w'=>w'.heap[T]?=some (.cells #[.int .i64 til,.slice ao n cap,.int .i64 app,.int .i64 den] 26 (0,0))) [(0,true),(1,true),(3,true),(4,true),(6,true),(7,true),(9,true),(10,true),(2,false),(5,false),(8,false),(11,false),(12,false),(13,true)] hTd.o ?_;generalize W.drew=W0 at hTd hxd ⊢;simp only [zah,List.map_cons,List.map_nil,List.getD_cons_zero,List.getD_cons_succ];repeat (refine zav (by rfl) ?_ (fun w' hC=>?_) ?_;rotate_left;(have q0:=cS hC 0;have q1:=cS hC 1;have q2:=cS hC 2;have q3:=cS hC 3;go_simp;try with_reducible rfl);try simp only [Act.put,sA,sZ,sS])
  refine zak (by rfl) (fun K hK=>?_);go_simp;refine (zaw til h1.o W0 (hG.o.ext hxd.o)).mono ?_;rintro e W1 ⟨rfl,hxn⟩;refine hK.o _ _ (hxn.at hTd.o id) ?_;have hTe:=Y (hxn.at hTd.o id);have hxe:=Y (hxd.o.trans hxn);clear hK K hTd hxd hxn;try simp only [Act.put,sA,sZ,sS]
  refine zak (by rfl) (fun K hK=>?_);go_simp;refine (zbF (.slice ao n cap) aft h4.o W1 (hG.o.ext hxe.o) ((h.o.ext hxe.o).mono (fun k hk=>Nat.lt_of_lt_of_le hk hxe.o.size)) (by rw [<- hn.o];exact h5) (by have:=hle.o;rw [<- hn.o] at this;omega)).mono ?_;rintro e W2 ⟨rfl,hxn⟩;refine hK.o _ _ (hxn.at hTe.o id) ?_;have hTd:=Y (hxn.at hTe.o id);have hxd:=Y (hxe.o.trans hxn);clear hK K hTe hxe hxn;try simp only [Act.put,sA,sZ,sS]
  refine zak (by rfl) (fun K hK=>?_);go_simp;refine (zaw app h2.o W2 (hG.o.ext hxd.o)).mono ?_;rintro e W3 ⟨rfl,hxn⟩;refine hK.o _ _ (hxn.at hTd.o id) ?_;have hTe:=Y (hxn.at hTd.o id);have hxe:=Y (hxd.o.trans hxn);clear hK K hTd hxd hxn;try simp only [Act.put,sA,sZ,sS]
  refine zak (by rfl) (fun K hK=>?_);go_simp;refine (zaw den h3.o W3 (hG.o.ext hxe.o)).mono ?_;rintro e W4 ⟨rfl,hxn⟩;refine hK.o _ _ (hxn.at hTe.o id) ?_;have hTd:=Y (hxn.at hTe.o id);have hxd:=Y (hxe.o.trans hxn);clear hK K hTe hxe hxn;try simp only [Act.put,sA,sZ,sS]
  refine zak (by rfl) (fun K hK=>?_);go_simp;have hxA:=Mod.alloc (Mod.refl (fun _=>False) W4) (.cells #[.string ⟨(itoa til).toArray⟩,.string ⟨(listW (aft.map itoa)).toArray⟩,.string ⟨(itoa app).toArray⟩,.string ⟨(itoa den).toArray⟩] 9);have hA:=heap_alloc_new W4 (.cells #[.string ⟨(itoa til).toArray⟩,.string ⟨(listW (aft.map itoa)).toArray⟩,.string ⟨(itoa app).toArray⟩,.string ⟨(itoa den).toArray⟩] 9);refine hK.o _ _ (hxA.at hTd.o id) ?_;have hxe:=Y (hxd.o.trans hxA);clear hK K hxd hxA hTd;generalize W4.heap.size=Z at hA ⊢;generalize (W4.alloc _)=W5 at hA hxe ⊢;have hrow:zbC (fun _=>True) W5 (.slice (some ⟨Z,0,none⟩) 4 4) [itoa til,listW (aft.map itoa),itoa app,itoa den]:=⟨some ⟨Z,0,none⟩,4,rfl,zaJ.block hA,fun _ _ _ _=>trivial,by simp,⟨by simp,by decide⟩,fun e=>nomatch e⟩;have hjl:(join 47 [itoa til,listW (aft.map itoa),itoa app,itoa den]).length<=1000000:=by
   have l1:=zaR til;have l2:=zaR app;have l3:=zaR den;have l4:=zcH (aft.map itoa);have l5:=hle.o;rw [<- hn.o] at l5;simp only [join,List.length_append,List.length_cons];omega
  have hjn:=Y (zci _ _ 47 W5 hrow (by omega));clear hA hrow hjl;try simp only [Act.put,sA,sZ,sS]
  repeat (refine qT ?_)
  refine zar ?_;go_wp2_with fail
  refine hjn.o.mono ?_;rintro e W6 ⟨rfl,hx6⟩;have hx6:=Y (hxe.o.trans hx6);go_wp2_with fail
  go_ret;exact ⟨by rw [htz.o];rfl,hx6.o⟩
 have d1:(til==0)=true:=by rw [c1];rfl
 replace c1:=Y c1
 by_cases c2:n=0
 rotate_left
 ·have d2:((n:Int)==0)=false:=by rw [beq_eq_false_iff_ne];omega
  have d2i:¬ (n:Int)=0:=by omega
  replace htz:=Y (show tz=join 47 [itoa til,listW (aft.map itoa),itoa app,itoa den] by rw [htz,if_neg (by rintro ⟨e1,e2,e3,e4⟩;exact c2 (hn0.o.1 e2))]);go_enter Tryz.func116,Tryz.ntmps116;go_upto_region 1 with fail
  generalize (w.alloc _)=W at hx0 hT ⊢;generalize w.heap.size=T at hT ⊢;have f0:=cS hT.o 0;have f1:=cS hT.o 1;have f2:=cS hT.o 2;have f3:=cS hT.o 3;go_upto_region 3 with fail
  clear f0 f1 f2 f3;have hTd:=Y ((Mod.drew0 (fun _=>False) W).at hT.o id);have hxd:=Y (hx0.o.drew);clear hT hx0;refine rS (fun w'=>w'.heap[T]?=some (.cells #[.int .i64 til,.slice ao n cap,.int .i64 app,.int .i64 den] 26 (0,0))) [(0,true),(1,true),(3,true),(4,true),(6,true),(7,true),(9,true),(10,true),(2,false),(5,false),(8,false),(11,false),(12,false),(13,true)] hTd.o ?_;generalize W.drew=W0 at hTd hxd ⊢;simp only [zah,List.map_cons,List.map_nil,List.getD_cons_zero,List.getD_cons_succ];repeat (refine zav (by rfl) ?_ (fun w' hC=>?_) ?_;rotate_left;(have q0:=cS hC 0;have q1:=cS hC 1;have q2:=cS hC 2;have q3:=cS hC 3;go_simp;try with_reducible rfl);try simp only [Act.put,sA,sZ,sS])
  refine zak (by rfl) (fun K hK=>?_);go_simp;refine (zaw til h1.o W0 (hG.o.ext hxd.o)).mono ?_;rintro e W1 ⟨rfl,hxn⟩;refine hK.o _ _ (hxn.at hTd.o id) ?_;have hTe:=Y (hxn.at hTd.o id);have hxe:=Y (hxd.o.trans hxn);clear hK K hTd hxd hxn;try simp only [Act.put,sA,sZ,sS]
  refine zak (by rfl) (fun K hK=>?_);go_simp;refine (zbF (.slice ao n cap) aft h4.o W1 (hG.o.ext hxe.o) ((h.o.ext hxe.o).mono (fun k hk=>Nat.lt_of_lt_of_le hk hxe.o.size)) (by rw [<- hn.o];exact h5) (by have:=hle.o;rw [<- hn.o] at this;omega)).mono ?_;rintro e W2 ⟨rfl,hxn⟩;refine hK.o _ _ (hxn.at hTe.o id) ?_;have hTd:=Y (hxn.at hTe.o id);have hxd:=Y (hxe.o.trans hxn);clear hK K hTe hxe hxn;try simp only [Act.put,sA,sZ,sS]
  refine zak (by rfl) (fun K hK=>?_);go_simp;refine (zaw app h2.o W2 (hG.o.ext hxd.o)).mono ?_;rintro e W3 ⟨rfl,hxn⟩;refine hK.o _ _ (hxn.at hTd.o id) ?_;have hTe:=Y (hxn.at hTd.o id);have hxe:=Y (hxd.o.trans hxn);clear hK K hTd hxd hxn;try simp only [Act.put,sA,sZ,sS]
  refine zak (by rfl) (fun K hK=>?_);go_simp;refine (zaw den h3.o W3 (hG.o.ext hxe.o)).mono ?_;rintro e W4 ⟨rfl,hxn⟩;refine hK.o _ _ (hxn.at hTe.o id) ?_;have hTd:=Y (hxn.at hTe.o id);have hxd:=Y (hxe.o.trans hxn);clear hK K hTe hxe hxn;try simp only [Act.put,sA,sZ,sS]
  refine zak (by rfl) (fun K hK=>?_);go_simp;have hxA:=Mod.alloc (Mod.refl (fun _=>False) W4) (.cells #[.string ⟨(itoa til).toArray⟩,.string ⟨(listW (aft.map itoa)).toArray⟩,.string ⟨(itoa app).toArray⟩,.string ⟨(itoa den).toArray⟩] 9);have hA:=heap_alloc_new W4 (.cells #[.string ⟨(itoa til).toArray⟩,.string ⟨(listW (aft.map itoa)).toArray⟩,.string ⟨(itoa app).toArray⟩,.string ⟨(itoa den).toArray⟩] 9);refine hK.o _ _ (hxA.at hTd.o id) ?_;have hxe:=Y (hxd.o.trans hxA);clear hK K hxd hxA hTd;generalize W4.heap.size=Z at hA ⊢;generalize (W4.alloc _)=W5 at hA hxe ⊢;have hrow:zbC (fun _=>True) W5 (.slice (some ⟨Z,0,none⟩) 4 4) [itoa til,listW (aft.map itoa),itoa app,itoa den]:=⟨some ⟨Z,0,none⟩,4,rfl,zaJ.block hA,fun _ _ _ _=>trivial,by simp,⟨by simp,by decide⟩,fun e=>nomatch e⟩;have hjl:(join 47 [itoa til,listW (aft.map itoa),itoa app,itoa den]).length<=1000000:=by
   have l1:=zaR til;have l2:=zaR app;have l3:=zaR den;have l4:=zcH (aft.map itoa);have l5:=hle.o;rw [<- hn.o] at l5;simp only [join,List.length_append,List.length_cons];omega
  have hjn:=Y (zci _ _ 47 W5 hrow (by omega));clear hA hrow hjl;try simp only [Act.put,sA,sZ,sS]
  repeat (refine qT ?_)
  refine zar ?_;go_wp2_with fail
  refine hjn.o.mono ?_;rintro e W6 ⟨rfl,hx6⟩;have hx6:=Y (hxe.o.trans hx6);go_wp2_with fail
  go_ret;exact ⟨by rw [htz.o];rfl,hx6.o⟩
 have d2:((n:Int)==0)=true:=by rw [c2];rfl
 have e2:=Y (hn0.o.2 c2);replace c2:=Y c2
 by_cases c3:app=0
 rotate_left
 ·have d3:(app==0)=false:=by rw [beq_eq_false_iff_ne];exact c3
  replace htz:=Y (show tz=join 47 [itoa til,listW (aft.map itoa),itoa app,itoa den] by rw [htz,if_neg (by rintro ⟨e1,e2,e3,e4⟩;exact c3 e3)]);go_enter Tryz.func116,Tryz.ntmps116;go_upto_region 1 with fail
  generalize (w.alloc _)=W at hx0 hT ⊢;generalize w.heap.size=T at hT ⊢;have f0:=cS hT.o 0;have f1:=cS hT.o 1;have f2:=cS hT.o 2;have f3:=cS hT.o 3;go_upto_region 3 with fail
  clear f0 f1 f2 f3;have hTd:=Y ((Mod.drew0 (fun _=>False) W).at hT.o id);have hxd:=Y (hx0.o.drew);clear hT hx0;refine rS (fun w'=>w'.heap[T]?=some (.cells #[.int .i64 til,.slice ao n cap,.int .i64 app,.int .i64 den] 26 (0,0))) [(0,true),(1,true),(3,true),(4,true),(6,true),(7,true),(9,true),(10,true),(2,false),(5,false),(8,false),(11,false),(12,false),(13,true)] hTd.o ?_;generalize W.drew=W0 at hTd hxd ⊢;simp only [zah,List.map_cons,List.map_nil,List.getD_cons_zero,List.getD_cons_succ];repeat (refine zav (by rfl) ?_ (fun w' hC=>?_) ?_;rotate_left;(have q0:=cS hC 0;have q1:=cS hC 1;have q2:=cS hC 2;have q3:=cS hC 3;go_simp;try with_reducible rfl);try simp only [Act.put,sA,sZ,sS])
  refine zak (by rfl) (fun K hK=>?_);go_simp;refine (zaw til h1.o W0 (hG.o.ext hxd.o)).mono ?_;rintro e W1 ⟨rfl,hxn⟩;refine hK.o _ _ (hxn.at hTd.o id) ?_;have hTe:=Y (hxn.at hTd.o id);have hxe:=Y (hxd.o.trans hxn);clear hK K hTd hxd hxn;try simp only [Act.put,sA,sZ,sS]
  refine zak (by rfl) (fun K hK=>?_);go_simp;refine (zbF (.slice ao n cap) aft h4.o W1 (hG.o.ext hxe.o) ((h.o.ext hxe.o).mono (fun k hk=>Nat.lt_of_lt_of_le hk hxe.o.size)) (by rw [<- hn.o];exact h5) (by have:=hle.o;rw [<- hn.o] at this;omega)).mono ?_;rintro e W2 ⟨rfl,hxn⟩;refine hK.o _ _ (hxn.at hTe.o id) ?_;have hTd:=Y (hxn.at hTe.o id);have hxd:=Y (hxe.o.trans hxn);clear hK K hTe hxe hxn;try simp only [Act.put,sA,sZ,sS]
  refine zak (by rfl) (fun K hK=>?_);go_simp;refine (zaw app h2.o W2 (hG.o.ext hxd.o)).mono ?_;rintro e W3 ⟨rfl,hxn⟩;refine hK.o _ _ (hxn.at hTd.o id) ?_;have hTe:=Y (hxn.at hTd.o id);have hxe:=Y (hxd.o.trans hxn);clear hK K hTd hxd hxn;try simp only [Act.put,sA,sZ,sS]
  refine zak (by rfl) (fun K hK=>?_);go_simp;refine (zaw den h3.o W3 (hG.o.ext hxe.o)).mono ?_;rintro e W4 ⟨rfl,hxn⟩;refine hK.o _ _ (hxn.at hTe.o id) ?_;have hTd:=Y (hxn.at hTe.o id);have hxd:=Y (hxe.o.trans hxn);clear hK K hTe hxe hxn;try simp only [Act.put,sA,sZ,sS]
  refine zak (by rfl) (fun K hK=>?_);go_simp;have hxA:=Mod.alloc (Mod.refl (fun _=>False) W4) (.cells #[.string ⟨(itoa til).toArray⟩,.string ⟨(listW (aft.map itoa)).toArray⟩,.string ⟨(itoa app).toArray⟩,.string ⟨(itoa den).toArray⟩] 9);have hA:=heap_alloc_new W4 (.cells #[.string ⟨(itoa til).toArray⟩,.string ⟨(listW (aft.map itoa)).toArray⟩,.string ⟨(itoa app).toArray⟩,.string ⟨(itoa den).toArray⟩] 9);refine hK.o _ _ (hxA.at hTd.o id) ?_;have hxe:=Y (hxd.o.trans hxA);clear hK K hxd hxA hTd;generalize W4.heap.size=Z at hA ⊢;generalize (W4.alloc _)=W5 at hA hxe ⊢;have hrow:zbC (fun _=>True) W5 (.slice (some ⟨Z,0,none⟩) 4 4) [itoa til,listW (aft.map itoa),itoa app,itoa den]:=⟨some ⟨Z,0,none⟩,4,rfl,zaJ.block hA,fun _ _ _ _=>trivial,by simp,⟨by simp,by decide⟩,fun e=>nomatch e⟩;have hjl:(join 47 [itoa til,listW (aft.map itoa),itoa app,itoa den]).length<=1000000:=by
   have l1:=zaR til;have l2:=zaR app;have l3:=zaR den;have l4:=zcH (aft.map itoa);have l5:=hle.o;rw [<- hn.o] at l5;simp only [join,List.length_append,List.length_cons];omega
  have hjn:=Y (zci _ _ 47 W5 hrow (by omega));clear hA hrow hjl;try simp only [Act.put,sA,sZ,sS]
  repeat (refine qT ?_)
  refine zar ?_;go_wp2_with fail
  refine hjn.o.mono ?_;rintro e W6 ⟨rfl,hx6⟩;have hx6:=Y (hxe.o.trans hx6);go_wp2_with fail
  go_ret;exact ⟨by rw [htz.o];rfl,hx6.o⟩
 have d3:(app==0)=true:=by rw [c3];rfl
 replace c3:=Y c3
 by_cases c4:den=0
 rotate_left
 ·have d4:(den==0)=false:=by rw [beq_eq_false_iff_ne];exact c4
  replace htz:=Y (show tz=join 47 [itoa til,listW (aft.map itoa),itoa app,itoa den] by rw [htz,if_neg (by rintro ⟨e1,e2,e3,e4⟩;exact c4 e4)]);go_enter Tryz.func116,Tryz.ntmps116;go_upto_region 1 with fail
  generalize (w.alloc _)=W at hx0 hT ⊢;generalize w.heap.size=T at hT ⊢;have f0:=cS hT.o 0;have f1:=cS hT.o 1;have f2:=cS hT.o 2;have f3:=cS hT.o 3;go_upto_region 3 with fail
  clear f0 f1 f2 f3;have hTd:=Y ((Mod.drew0 (fun _=>False) W).at hT.o id);have hxd:=Y (hx0.o.drew);clear hT hx0;refine rS (fun w'=>w'.heap[T]?=some (.cells #[.int .i64 til,.slice ao n cap,.int .i64 app,.int .i64 den] 26 (0,0))) [(0,true),(1,true),(3,true),(4,true),(6,true),(7,true),(9,true),(10,true),(2,false),(5,false),(8,false),(11,false),(12,false),(13,true)] hTd.o ?_;generalize W.drew=W0 at hTd hxd ⊢;simp only [zah,List.map_cons,List.map_nil,List.getD_cons_zero,List.getD_cons_succ];repeat (refine zav (by rfl) ?_ (fun w' hC=>?_) ?_;rotate_left;(have q0:=cS hC 0;have q1:=cS hC 1;have q2:=cS hC 2;have q3:=cS hC 3;go_simp;try with_reducible rfl);try simp only [Act.put,sA,sZ,sS])
  refine zak (by rfl) (fun K hK=>?_);go_simp;refine (zaw til h1.o W0 (hG.o.ext hxd.o)).mono ?_;rintro e W1 ⟨rfl,hxn⟩;refine hK.o _ _ (hxn.at hTd.o id) ?_;have hTe:=Y (hxn.at hTd.o id);have hxe:=Y (hxd.o.trans hxn);clear hK K hTd hxd hxn;try simp only [Act.put,sA,sZ,sS]
  refine zak (by rfl) (fun K hK=>?_);go_simp;refine (zbF (.slice ao n cap) aft h4.o W1 (hG.o.ext hxe.o) ((h.o.ext hxe.o).mono (fun k hk=>Nat.lt_of_lt_of_le hk hxe.o.size)) (by rw [<- hn.o];exact h5) (by have:=hle.o;rw [<- hn.o] at this;omega)).mono ?_;rintro e W2 ⟨rfl,hxn⟩;refine hK.o _ _ (hxn.at hTe.o id) ?_;have hTd:=Y (hxn.at hTe.o id);have hxd:=Y (hxe.o.trans hxn);clear hK K hTe hxe hxn;try simp only [Act.put,sA,sZ,sS]
  refine zak (by rfl) (fun K hK=>?_);go_simp;refine (zaw app h2.o W2 (hG.o.ext hxd.o)).mono ?_;rintro e W3 ⟨rfl,hxn⟩;refine hK.o _ _ (hxn.at hTd.o id) ?_;have hTe:=Y (hxn.at hTd.o id);have hxe:=Y (hxd.o.trans hxn);clear hK K hTd hxd hxn;try simp only [Act.put,sA,sZ,sS]
  refine zak (by rfl) (fun K hK=>?_);go_simp;refine (zaw den h3.o W3 (hG.o.ext hxe.o)).mono ?_;rintro e W4 ⟨rfl,hxn⟩;refine hK.o _ _ (hxn.at hTe.o id) ?_;have hTd:=Y (hxn.at hTe.o id);have hxd:=Y (hxe.o.trans hxn);clear hK K hTe hxe hxn;try simp only [Act.put,sA,sZ,sS]
  refine zak (by rfl) (fun K hK=>?_);go_simp;have hxA:=Mod.alloc (Mod.refl (fun _=>False) W4) (.cells #[.string ⟨(itoa til).toArray⟩,.string ⟨(listW (aft.map itoa)).toArray⟩,.string ⟨(itoa app).toArray⟩,.string ⟨(itoa den).toArray⟩] 9);have hA:=heap_alloc_new W4 (.cells #[.string ⟨(itoa til).toArray⟩,.string ⟨(listW (aft.map itoa)).toArray⟩,.string ⟨(itoa app).toArray⟩,.string ⟨(itoa den).toArray⟩] 9);refine hK.o _ _ (hxA.at hTd.o id) ?_;have hxe:=Y (hxd.o.trans hxA);clear hK K hxd hxA hTd;generalize W4.heap.size=Z at hA ⊢;generalize (W4.alloc _)=W5 at hA hxe ⊢;have hrow:zbC (fun _=>True) W5 (.slice (some ⟨Z,0,none⟩) 4 4) [itoa til,listW (aft.map itoa),itoa app,itoa den]:=⟨some ⟨Z,0,none⟩,4,rfl,zaJ.block hA,fun _ _ _ _=>trivial,by simp,⟨by simp,by decide⟩,fun e=>nomatch e⟩;have hjl:(join 47 [itoa til,listW (aft.map itoa),itoa app,itoa den]).length<=1000000:=by
   have l1:=zaR til;have l2:=zaR app;have l3:=zaR den;have l4:=zcH (aft.map itoa);have l5:=hle.o;rw [<- hn.o] at l5;simp only [join,List.length_append,List.length_cons];omega
  have hjn:=Y (zci _ _ 47 W5 hrow (by omega));clear hA hrow hjl;try simp only [Act.put,sA,sZ,sS]
  repeat (refine qT ?_)
  refine zar ?_;go_wp2_with fail
  refine hjn.o.mono ?_;rintro e W6 ⟨rfl,hx6⟩;have hx6:=Y (hxe.o.trans hx6);go_wp2_with fail
  go_ret;exact ⟨by rw [htz.o];rfl,hx6.o⟩
 replace htz:=Y (show tz=[42] by rw [htz,if_pos ⟨c1.o,e2.o,c3.o,c4⟩]);have d4:(den==0)=true:=by rw [c4];rfl
 replace c4:=Y c4;go_enter Tryz.func116,Tryz.ntmps116;go_upto_region 1 with fail
 generalize (w.alloc _)=W at hx0 hT ⊢;generalize w.heap.size=T at hT ⊢;have f0:=cS hT.o 0;have f1:=cS hT.o 1;have f2:=cS hT.o 2;have f3:=cS hT.o 3;go_wp2_with fail
 go_ret;exact ⟨by rw [htz.o];rfl,hx0.o⟩
theorem znh (k:Nat) (hk:k < 16):(⟨#[48,49,50,51,52,53,54,55,56,57,97,98,99,100,101,102]⟩:ByteArray)[k]'(by show k < 16;exact hk)=hexD k:=by
 have:∀ k:Fin 16,(⟨#[48,49,50,51,52,53,54,55,56,57,97,98,99,100,101,102]⟩:ByteArray)[k.val]'(by show k.val < 16;exact k.isLt)=hexD k.val:=by decide
 exact this ⟨k,hk⟩
def zhE (c:UInt8):Bs:=[hexD (c.toNat / 16),hexD (c.toNat % 16)]
theorem zdv (t:Bs) (w:World) (hlen:t.length<=1000000):
  Calls Tryz.prog 127 #[.string ⟨t.toArray⟩] w fun e w'=>e=.returned (.string ⟨(hexW t).toArray⟩)/\Ext w w':=by
 obtain ⟨tz,htz⟩:∃ tz,tz=hexW t:=⟨_,rfl⟩;rw [<- htz];obtain ⟨s,hs⟩:∃ s:ByteArray,s=⟨t.toArray⟩:=⟨_,rfl⟩;have hst:s.data.toList=t:=by rw [hs]
 have hsl:s.size<=1000000:=by rw [hs];exact hlen
 have he:s.toList.isEmpty=t.isEmpty:=by rw [hs];simp
 rw [<- hs];cases hb:t.isEmpty with
 | true=>
  replace htz:=Y (show tz=[42] by rw [htz,hexW,if_pos hb]);rw [hb] at he;clear hst hb;replace hs:=Y hs;go_enter Tryz.func127,Tryz.ntmps127;go_wp2_with fail
  go_ret;exact ⟨by rw [htz.o];rfl,Mod.refl _ _⟩
 | false=>
  replace htz:tz=s.data.toList.flatMap zhE:=by rw [htz,hexW,if_neg (by rw [hb];decide),hst];rfl
  rw [hb] at he;clear hst hb;replace hs:=Y hs;replace htz:=Y htz;have hb0:=Bld.fresh w;have hxb:=Mod.alloc (Mod.refl (fun _=>False) w) (.cells #[.pointer none,.slice none 0 0] zhl);go_enter Tryz.func127,Tryz.ntmps127;go_wp2_with fail
  generalize (w.alloc _)=w1 at hb0 hxb ⊢;obtain ⟨B,hB⟩:∃ B,B=w.heap.size:=⟨_,rfl⟩;rw [<- hB] at hb0 ⊢;replace hb0:=Y hb0;replace hxb:=Y hxb;replace hB:=Y hB;go_loopg [9] s.size (fun g i wr=>∃ (j:Nat) (ty:Bs),j+g=s.size/\i=.int .i64 j/\Bld B B ty wr/\za4 B B w1 wr/\tz=ty++(s.data.toList.drop j).flatMap zhE/\ty.length=2*j)
  case atStart=>exact ⟨0,[],by omega,rfl,hb0.o,za4.refl _ _ _,htz.o,by simp⟩
  case round=>
   clear htz hb0;obtain ⟨j,ty,hj,rfl,hBr,hK,ht,hlen⟩:=hrel;replace hj:=Y hj
   by_cases hlt:j < s.size
   ·have hd:decide ((j:Int) < (s.size:Int))=true:=decide_eq_true (by omega)
    have hdi:(j:Int) < (s.size:Int):=by omega
    rw [drop_at s hlt] at ht;have ht2:tz=((ty++[hexD (s[j].toNat / 16)])++[hexD (s[j].toNat % 16)])++(s.data.toList.drop (j+1)).flatMap zhE:=by rw [ht];simp [zhE]
    clear ht;have hc:=s[j].toNat_lt;have e1:=znh (s[j].toNat / 16) (by omega);have e2:=znh (s[j].toNat % 16) (by omega);have e3:bits .and .u8 (s[j].toNat:Int) 15=((s[j].toNat % 16:Nat):Int):=by rw [u8_and15 _ (by omega) (by omega)];omega
    replace ht2:=Y ht2;replace hlen:=Y hlen;go_wp2_with fail
    refine (zdB B B ty _ _ hBr (by have:=hlen.o;omega)).mono ?_;rintro e w2 ⟨rfl,hB2,hK2⟩;have hK2:=Y (hK.trans hK2);clear hBr hK;replace hB2:=Y hB2;go_wp2_with fail
    refine (zdB B B _ _ _ hB2.o (by have:=hlen.o;simp;omega)).mono ?_;rintro e w3 ⟨rfl,hB3,hK3⟩;have hK3:=Y (hK2.o.trans hK3);clear hB2 hK2;replace hB3:=Y hB3;go_wp2_with fail
    go_roundg (gk - 1)
    case measure=>have:=hj.o;omega
    case rel=>exact ⟨j+1,_,by have:=hj.o;omega,by go_num,hB3.o,hK3.o,ht2.o,by have:=hlen.o;simp;omega⟩
   ·obtain rfl:j=s.size:=by have:=hj.o;omega
    have hdi:¬ (s.size:Int) < (s.size:Int):=by omega
    have hd:decide ((s.size:Int) < (s.size:Int))=false:=decide_eq_false hdi;rw [List.drop_eq_nil_of_le (Nat.le_of_eq (zaN s).symm)] at ht;simp only [List.flatMap_nil,List.append_nil] at ht;have hm:=Y ((hxb.o.mono (T:=fun k=>B<=k) (fun _ h=>h.elim)).trans hK.1);have hst:=Y (zgL B B ty wr hBr);replace ht:=Y ht;replace hlen:=Y hlen;clear hBr hK;go_wp2_with fail
    refine hst.o.mono ?_;rintro e w4 ⟨rfl,hm4⟩;replace hm4:=Y hm4;go_wp2_with fail
    go_ret;exact ⟨by rw [ht.o];rfl,zao (by rw [hB.o];exact Nat.le_refl _) (hm.o.trans hm4.o)⟩
open Go.RowKit Cdk Scr
def acA (a1:Option Addr) (n1 c1:Nat) (a2:Option Addr) (n2 c2:Nat) (a3:Option Addr) (n3 c3:Nat) (a4:Option Addr) (n4 c4:Nat) (a5:Option Addr) (n5 c5:Nat) (a:Ac):Array Value:=
 #[.int .i64 a.kd,.int .i64 a.fc.n,.int .i64 a.fc.tm,.int .i64 a.fc.kd,.int .i64 a.fc.st,.string ⟨a.fc.lg.toArray⟩,.int .i64 a.fc.rv,.int .i64 a.fc.bs,.string ⟨a.fc.ti.toArray⟩,.string ⟨a.fc.au.toArray⟩,.slice a1 n1 c1,.slice a2 n2 c2,.int .i64 a.fc.lb.til,.slice a3 n3 c3,.int .i64 a.fc.lb.app,.int .i64 a.fc.lb.den,.int .i64 a.fc.ed,.int .i64 a.fc.bk,.int .i64 a.fc.se,.string ⟨a.fc.tx.toArray⟩,.string ⟨a.fc.nm.toArray⟩,.int .i64 a.fc.pa,.int .i64 a.fc.cl,.int .i64 a.fc.un,
  .int .i64 a.n,.int .i64 a.cl,.string ⟨a.tx.toArray⟩,.slice a4 n4 c4,.slice a5 n5 c5,.int .i64 a.ms.kd,.int .i64 a.ms.pa,.int .i64 a.ms.sq,.int .i64 a.ms.st,.int .i64 a.ms.ba,.int .i64 a.ms.ve,.string ⟨a.ms.da.toArray⟩]
theorem zjl (m1 m2:Ms) (w:World):(Op.equalIn 10000 30 (.agg (msC m1).toArray) (.agg (msC m2).toArray)).run Tryz.prog w=.ok (decide (m1=m2)) w:=by
 obtain ⟨a1,a2,a3,a4,a5,a6,a7⟩:=m1;obtain ⟨b1,b2,b3,b4,b5,b6,b7⟩:=m2;have u3:=Tryz.underlying3;have u9:=Tryz.underlying9;have i3:=Tryz.isAgg3;have i9:=Tryz.isAgg9;have z3:=Tryz.sizeOf3;have z9:=Tryz.sizeOf9;have hS:Tryz.prog.underlying 30=some (.struct (Tryz.prog.fieldsOf 30)):=by kernel_rfl
 have hp:Tryz.prog.stoodInHeld 30=false:=by kernel_rfl
 unfold msC zb0;simp only;rw [show (10000:Nat)=9999+1 from rfl,run_equalIn_agg w 9999 30 _ _ hS hp];simp only [Program.fieldsOf,Tryz.underlying30];go_simp;repeat' split
 all_goals simp [*]
theorem zdE {F:Nat -> Prop} (a11:Option Addr) (n11 c11:Nat) (a12:Option Addr) (n12 c12:Nat) (a13:Option Addr) (n13 c13:Nat) (a14:Option Addr) (n14 c14:Nat) (a15:Option Addr) (n15 c15:Nat) (a:Ac) (a21:Option Addr) (n21 c21:Nat) (a22:Option Addr) (n22 c22:Nat) (a23:Option Addr) (n23 c23:Nat) (a24:Option Addr) (n24 c24:Nat) (a25:Option Addr) (n25 c25:Nat) (b:Ac) (w:World) (h1:AcAt F w ⟨⟨.slice a11 n11 c11,.slice a12 n12 c12,.slice a13 n13 c13⟩,.slice a14 n14 c14,.slice a15 n15 c15⟩ a) (h2:AcAt F w ⟨⟨.slice a21 n21 c21,.slice a22 n22 c22,.slice a23 n23 c23⟩,.slice a24 n24 c24,.slice a25 n25 c25⟩ b):
  Calls Tryz.prog 16 #[.agg (acA a11 n11 c11 a12 n12 c12 a13 n13 c13 a14 n14 c14 a15 n15 c15 a),.agg (acA a21 n21 c21 a22 n22 c22 a23 n23 c23 a24 n24 c24 a25 n25 c25 b)] w fun e w'=>e=.returned (.bool (decide (a=b)))/\Ext w w':=by
 obtain ⟨r,hr⟩:∃ r,r=decide (a=b):=⟨_,rfl⟩;rw [<- hr];have H1:=Y (fun W (hX:Ext w W)=>zer (F:=F) (.slice a14 n14 c14) (.slice a24 n24 c24) a.fa b.fa W (h1.fa.ext hX) (h2.fa.ext hX));have H2:=Y (fun W (hX:Ext w W)=>zer (F:=F) (.slice a15 n15 c15) (.slice a25 n25 c25) a.ke b.ke W (h1.ke.ext hX) (h2.ke.ext hX));have H3:=Y (fun W (hX:Ext w W)=>zeH (F:=F) a11 n11 c11 a12 n12 c12 a13 n13 c13 a.fc a21 n21 c21 a22 n22 c22 a23 n23 c23 b.fc W (h1.fc.ext hX) (h2.fc.ext hX));clear h1 h2;obtain ⟨k1,f1,n1,cl1,x1,fa1,ke1,m1⟩:=a;obtain ⟨m1kd,m1pa,m1sq,m1st,m1ba,m1ve,m1da⟩:=m1;obtain ⟨k2,f2,n2,cl2,x2,fa2,ke2,m2⟩:=b;obtain ⟨m2kd,m2pa,m2sq,m2st,m2ba,m2ve,m2da⟩:=m2;replace hr:r=(decide (k1=k2) && (decide (n1=n2) && (decide (cl1=cl2) && (decide (x1=x2) && (decide ((⟨m1kd,m1pa,m1sq,m1st,m1ba,m1ve,m1da⟩:Ms)=⟨m2kd,m2pa,m2sq,m2st,m2ba,m2ve,m2da⟩) && (decide (fa1=fa2) && (decide (ke1=ke2) && (decide (f1=f2))))))))):=by
  rw [hr,Bool.eq_iff_iff];simp only [Ac.mk.injEq,decide_eq_true_eq,Bool.and_eq_true];constructor
  ·rintro ⟨h1,h2,h3,h4,h5,h6,h7,h8⟩;exact ⟨h1,h3,h4,h5,h8,h6,h7,h2⟩
  ·rintro ⟨h1,h3,h4,h5,h8,h6,h7,h2⟩;exact ⟨h1,h2,h3,h4,h5,h6,h7,h8⟩
 simp only at H1 H2 H3;generalize decide (fa1=fa2)=b_fa at hr H1;generalize decide (ke1=ke2)=b_ke at hr H2;generalize decide (f1=f2)=b_f at hr H3;have hms:=fun W=>zjl ⟨m1kd,m1pa,m1sq,m1st,m1ba,m1ve,m1da⟩ ⟨m2kd,m2pa,m2sq,m2st,m2ba,m2ve,m2da⟩ W
 unfold msC zb0 at hms;simp only at hms;generalize decide ((⟨m1kd,m1pa,m1sq,m1st,m1ba,m1ve,m1da⟩:Ms)=⟨m2kd,m2pa,m2sq,m2st,m2ba,m2ve,m2da⟩)=b_m at hr hms;have e_k:=zdu k1 k2;generalize decide (k1=k2)=b_k at hr e_k;have e_n:=zdu n1 n2;generalize decide (n1=n2)=b_n at hr e_n;have e_cl:=zdu cl1 cl2;generalize decide (cl1=cl2)=b_cl at hr e_cl;have e_x:(x1 !=x2)=!decide (x1=x2):=by rw [Bool.eq_iff_iff,bne_iff_ne];simp
 have g_x:=zbZ x1 x2;generalize decide (x1=x2)=b_x at hr e_x g_x;replace hr:=Y hr;obtain ⟨hx,hA,hB,-⟩:=zaV w #[.int .i64 k1,.int .i64 f1.n,.int .i64 f1.tm,.int .i64 f1.kd,.int .i64 f1.st,.string ⟨f1.lg.toArray⟩,.int .i64 f1.rv,.int .i64 f1.bs,.string ⟨f1.ti.toArray⟩,.string ⟨f1.au.toArray⟩,.slice a11 n11 c11,.slice a12 n12 c12,.int .i64 f1.lb.til,.slice a13 n13 c13,.int .i64 f1.lb.app,.int .i64 f1.lb.den,.int .i64 f1.ed,.int .i64 f1.bk,.int .i64 f1.se,.string ⟨f1.tx.toArray⟩,.string ⟨f1.nm.toArray⟩,.int .i64 f1.pa,.int .i64 f1.cl,.int .i64 f1.un,.int .i64 n1,.int .i64 cl1,.string ⟨x1.toArray⟩,.slice a14 n14 c14,.slice a15 n15 c15,.int .i64 m1kd,.int .i64 m1pa,.int .i64 m1sq,.int .i64 m1st,.int .i64 m1ba,.int .i64 m1ve,.string ⟨m1da.toArray⟩] #[.int .i64 k2,.int .i64 f2.n,.int .i64 f2.tm,.int .i64 f2.kd,.int .i64 f2.st,.string ⟨f2.lg.toArray⟩,.int .i64 f2.rv,.int .i64 f2.bs,.string ⟨f2.ti.toArray⟩,.string ⟨f2.au.toArray⟩,.slice a21 n21 c21,.slice a22 n22 c22,.int .i64 f2.lb.til,.slice a23 n23 c23,.int .i64 f2.lb.app,.int .i64 f2.lb.den,.int .i64 f2.ed,.int .i64 f2.bk,.int .i64 f2.se,.string ⟨f2.tx.toArray⟩,.string ⟨f2.nm.toArray⟩,.int .i64 f2.pa,.int .i64 f2.cl,.int .i64 f2.un,.int .i64 n2,.int .i64 cl2,.string ⟨x2.toArray⟩,.slice a24 n24 c24,.slice a25 n25 c25,.int .i64 m2kd,.int .i64 m2pa,.int .i64 m2sq,.int .i64 m2st,.int .i64 m2ba,.int .i64 m2ve,.string ⟨m2da.toArray⟩] 32 32;replace hx:=Y hx;unfold acA;simp only;go_enter Tryz.func16,Tryz.ntmps16;go_upto_region 1 with (fail)
 generalize ((w.alloc (.cells #[.int .i64 k1,.int .i64 f1.n,.int .i64 f1.tm,.int .i64 f1.kd,.int .i64 f1.st,.string ⟨f1.lg.toArray⟩,.int .i64 f1.rv,.int .i64 f1.bs,.string ⟨f1.ti.toArray⟩,.string ⟨f1.au.toArray⟩,.slice a11 n11 c11,.slice a12 n12 c12,.int .i64 f1.lb.til,.slice a13 n13 c13,.int .i64 f1.lb.app,.int .i64 f1.lb.den,.int .i64 f1.ed,.int .i64 f1.bk,.int .i64 f1.se,.string ⟨f1.tx.toArray⟩,.string ⟨f1.nm.toArray⟩,.int .i64 f1.pa,.int .i64 f1.cl,.int .i64 f1.un,.int .i64 n1,.int .i64 cl1,.string ⟨x1.toArray⟩,.slice a14 n14 c14,.slice a15 n15 c15,.int .i64 m1kd,.int .i64 m1pa,.int .i64 m1sq,.int .i64 m1st,.int .i64 m1ba,.int .i64 m1ve,.string ⟨m1da.toArray⟩] 32)).alloc (.cells #[.int .i64 k2,.int .i64 f2.n,.int .i64 f2.tm,.int .i64 f2.kd,.int .i64 f2.st,.string ⟨f2.lg.toArray⟩,.int .i64 f2.rv,.int .i64 f2.bs,.string ⟨f2.ti.toArray⟩,.string ⟨f2.au.toArray⟩,.slice a21 n21 c21,.slice a22 n22 c22,.int .i64 f2.lb.til,.slice a23 n23 c23,.int .i64 f2.lb.app,.int .i64 f2.lb.den,.int .i64 f2.ed,.int .i64 f2.bk,.int .i64 f2.se,.string ⟨f2.tx.toArray⟩,.string ⟨f2.nm.toArray⟩,.int .i64 f2.pa,.int .i64 f2.cl,.int .i64 f2.un,.int .i64 n2,.int .i64 cl2,.string ⟨x2.toArray⟩,.slice a24 n24 c24,.slice a25 n25 c25,.int .i64 m2kd,.int .i64 m2pa,.int .i64 m2sq,.int .i64 m2st,.int .i64 m2ba,.int .i64 m2ve,.string ⟨m2da.toArray⟩] 32))=W at hx hA hB ⊢;generalize w.heap.size=R at hA hB ⊢;have p_0:=cS hA 0;have q_0:=cS hB 0;have p_24:=cS hA 24;have q_24:=cS hB 24;have p_25:=cS hA 25;have q_25:=cS hB 25;have p_26:=cS hA 26;have q_26:=cS hB 26;have p_29:=cS hA 29;have q_29:=cS hB 29;have p_30:=cS hA 30;have q_30:=cS hB 30;have p_31:=cS hA 31;have q_31:=cS hB 31;have p_32:=cS hA 32;have q_32:=cS hB 32;have p_33:=cS hA 33;have q_33:=cS hB 33;have p_34:=cS hA 34;have q_34:=cS hB 34;have p_35:=cS hA 35;have q_35:=cS hB 35;have p_27:=cS hA 27;have q_27:=cS hB 27;replace hA:=Y hA;replace hB:=Y hB;cases b_k with
 | false=>
  go_wp2_with fail
  go_ret;exact ⟨by rw [hr.o];simp,hx.o⟩
 | true=>
 cases b_n with
 | false=>
  go_wp2_with fail
  go_ret;exact ⟨by rw [hr.o];simp,hx.o⟩
 | true=>
 cases b_cl with
 | false=>
  go_wp2_with fail
  go_ret;exact ⟨by rw [hr.o];simp,hx.o⟩
 | true=>
 cases b_x with
 | false=>
  go_wp2_with fail
  go_ret;exact ⟨by rw [hr.o];simp,hx.o⟩
 | true=>
 cases b_m with
 | false=>
  go_wp2_with fail
  go_ret;exact ⟨by rw [hr.o];simp,hx.o⟩
 | true=>
 go_upto_region 3 with (fail)
 refine zaX ?_;simp only [List.map_cons,List.map_nil,zcJ];go_wp2_with fail
 refine (H1.o _ hx.o).mono ?_;rintro e W2 ⟨rfl,hxn⟩;replace hA:=Y (hxn.at hA.o id);replace hB:=Y (hxn.at hB.o id);replace hx:=Y (hx.o.trans hxn);clear hxn p_0 q_0 p_24 q_24 p_25 q_25 p_26 q_26 p_29 q_29 p_30 q_30 p_31 q_31 p_32 q_32 p_33 q_33 p_34 q_34 p_35 q_35 p_27 q_27;have p_28:=cS hA.o 28;have q_28:=cS hB.o 28;cases b_fa with
 | false=>
  go_wp2_with fail
  go_ret;exact ⟨by rw [hr.o];simp,hx.o⟩
 | true=>
 go_wp2_with fail
 refine (H2.o _ hx.o).mono ?_;rintro e W3 ⟨rfl,hxn⟩;replace hA:=Y (hxn.at hA.o id);replace hB:=Y (hxn.at hB.o id);replace hx:=Y (hx.o.trans hxn);clear hxn p_28 q_28;cases b_ke with
 | false=>
  go_wp2_with fail
  go_ret;exact ⟨by rw [hr.o];simp,hx.o⟩
 | true=>
 unfold fcA at H3;go_wp2_with (first | (refine zaW (by rfl) 28 _ rfl R 1 [.int .i64 k1] [.int .i64 f1.n,.int .i64 f1.tm,.int .i64 f1.kd,.int .i64 f1.st,.string ⟨f1.lg.toArray⟩,.int .i64 f1.rv,.int .i64 f1.bs,.string ⟨f1.ti.toArray⟩,.string ⟨f1.au.toArray⟩,.slice a11 n11 c11,.slice a12 n12 c12,.int .i64 f1.lb.til,.slice a13 n13 c13,.int .i64 f1.lb.app,.int .i64 f1.lb.den,.int .i64 f1.ed,.int .i64 f1.bk,.int .i64 f1.se,.string ⟨f1.tx.toArray⟩,.string ⟨f1.nm.toArray⟩,.int .i64 f1.pa,.int .i64 f1.cl,.int .i64 f1.un] [.int .i64 n1,.int .i64 cl1,.string ⟨x1.toArray⟩,.slice a14 n14 c14,.slice a15 n15 c15,.int .i64 m1kd,.int .i64 m1pa,.int .i64 m1sq,.int .i64 m1st,.int .i64 m1ba,.int .i64 m1ve,.string ⟨m1da.toArray⟩] _ _ _ rfl rfl hA.o Tryz.underlying28 rfl (by kernel_rfl) ?_) | (refine zaW (by rfl) 28 _ rfl (R+1) 1 [.int .i64 k2] [.int .i64 f2.n,.int .i64 f2.tm,.int .i64 f2.kd,.int .i64 f2.st,.string ⟨f2.lg.toArray⟩,.int .i64 f2.rv,.int .i64 f2.bs,.string ⟨f2.ti.toArray⟩,.string ⟨f2.au.toArray⟩,.slice a21 n21 c21,.slice a22 n22 c22,.int .i64 f2.lb.til,.slice a23 n23 c23,.int .i64 f2.lb.app,.int .i64 f2.lb.den,.int .i64 f2.ed,.int .i64 f2.bk,.int .i64 f2.se,.string ⟨f2.tx.toArray⟩,.string ⟨f2.nm.toArray⟩,.int .i64 f2.pa,.int .i64 f2.cl,.int .i64 f2.un] [.int .i64 n2,.int .i64 cl2,.string ⟨x2.toArray⟩,.slice a24 n24 c24,.slice a25 n25 c25,.int .i64 m2kd,.int .i64 m2pa,.int .i64 m2sq,.int .i64 m2st,.int .i64 m2ba,.int .i64 m2ve,.string ⟨m2da.toArray⟩] _ _ _ rfl rfl hB.o Tryz.underlying28 rfl (by kernel_rfl) ?_))
 refine (H3.o _ hx.o).mono ?_;rintro e W4 ⟨rfl,hxn⟩;replace hx:=Y (hx.o.trans hxn);clear hxn hA hB;go_wp2_with fail
 go_ret;exact ⟨by rw [hr.o];simp,hx.o⟩
end Go.Proofs.YtjjfphalcibjfaaGreatDoor
namespace Cdk
open Go Go.RowKit
theorem zaM {P:Program} {w:World} {ops:Array Oper} {rest:List Oper} {o:Oper} {a:Act} {Q:Exit -> Act -> World -> Prop} (hw:Region.wanted o (yielded ops a.tmps)=true) (ty:TypeId) (x:Operand) (ho:o.op=.load ty x) (b n:Nat) (cs:Array Value) (d:TypeDesc) (hx:a.eval x=.pointer (some ⟨b,n,none⟩))
  (hr:w.rangeAt b n cs.toList) (hu:P.underlying ty=some d) (hd:d.isRow=true) (hi:(P.info? ty).map (·.size)=some cs.size)
  (h:wpList P ops Q rest (a.put o.dst (.agg cs)) w):wpList P ops Q (o::rest) a w:=by
 obtain ⟨cs⟩:=cs;simp only [wpList];rw [if_pos hw];exact .inl (wp_load_mid ty x ho b n hx cs d hr hu hd (by simpa using hi) h)
theorem zfl {P:Program} {ops:Array Oper} {C:World -> Prop} {o:Oper} {a:Act} {w:World} {Q:Exit -> Act -> World -> Prop} {r:List (Oper × Bool)} (hw:Region.wanted o (yielded ops a.tmps)=true) (ty:TypeId) (x:Operand) (ho:o.op=.load ty x) (b n:Nat) (cs:Array Value) (d:TypeDesc) (hx:a.eval x=.pointer (some ⟨b,n,none⟩))
  (hS:∀ w,C w -> w.rangeAt b n cs.toList) (hu:P.underlying ty=some d) (hd:d.isRow=true) (hi:(P.info? ty).map (·.size)=some cs.toList.length)
  (h:wpS P ops C Q r (a.put o.dst (.agg cs)) w):wpS P ops C Q ((o,true)::r) a w:=by
 obtain ⟨cs⟩:=cs;exact ⟨_,yieldsIf_load_mid hw ty x ho b n hx cs d hS hu hd hi,h⟩
theorem zhW {w w':World} {b n:Nat} {cs:List Value} (h:w.rangeAt b n cs) (hx:Ext w w'):w'.rangeAt b n cs:=fun i u hu=>hx.cell (h i u hu) id
end Cdk
namespace Go.Proofs.YtjjfphalcibjfaaGreatDoor
open Go Go.RowKit Cdk
theorem zaD {W:World} {T n k:Nat} {V:Array Value} {cs:List Value} {t:TypeId} {fr:Nat × Nat} (hT:W.heap[T]?=some (.cells V t fr)) (h:(V.toList.drop n).take k=cs):W.rangeAt T n cs:=fun j u hu=>by
 have hj:(V.toList.drop n)[j]?=some u:=by
  rw [<- h] at hu;rw [List.getElem?_take] at hu;split at hu
  ·exact hu
  ·cases hu
 rw [List.getElem?_drop] at hj;exact (zaa hT (n+j)).trans (by rw [<- Array.getElem?_toList];exact hj)
end Go.Proofs.YtjjfphalcibjfaaGreatDoor
