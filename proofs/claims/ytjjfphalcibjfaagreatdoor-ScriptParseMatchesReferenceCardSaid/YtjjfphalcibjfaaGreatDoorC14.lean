import Derived.Test.YtjjfphalcibjfaaGreatDoorC11
import Derived.Test.YtjjfphalcibjfaaGreatDoorC0
set_option maxRecDepth 100000
set_option maxHeartbeats 16000000
namespace Go.Proofs.YtjjfphalcibjfaaGreatDoor
open Go.Shelf Go.RowKit Cdk Scr
theorem zlh (a1:Option Addr) (n1 c1:Nat) (a2:Option Addr) (n2 c2:Nat) (a3:Option Addr) (n3 c3:Nat) (a4:Option Addr) (n4 c4:Nat) (a5:Option Addr) (n5 c5:Nat) (a:Ac) (w:World) (hG:Gl w) (h:AcAt (fun k=>k < w.heap.size) w ⟨⟨.slice a1 n1 c1,.slice a2 n2 c2,.slice a3 n3 c3⟩,.slice a4 n4 c4,.slice a5 n5 c5⟩ a) (ok:AcOk a):Calls Tryz.prog 126 #[.agg (acA a1 n1 c1 a2 n2 c2 a3 n3 c3 a4 n4 c4 a5 n5 c5 a)] w (InP ([a.fc.nm,hexW a.fc.tx]) w):=by
 obtain ⟨V,hV⟩:∃ V,V=acA a1 n1 c1 a2 n2 c2 a3 n3 c3 a4 n4 c4 a5 n5 c5 a:=⟨_,rfl⟩;rw [<- hV];have v20:V[20]?=some (.string ⟨a.fc.nm.toArray⟩):=by rw [hV];rfl
 have v19:V[19]?=some (.string ⟨a.fc.tx.toArray⟩):=by rw [hV];rfl
 have hx0:=Mod.alloc (Mod.refl (fun _=>False) w) (.cells V 32);have hT:=heap_alloc_new w (.cells V 32);have hwT:w.heap.size<=(w.alloc (.cells V 32)).heap.size:=hx0.size;replace hV:=Y hV;replace hG:=Y hG;replace h:=Y h;replace ok:=Y ok;replace hx0:=Y hx0;replace hT:=Y hT;replace v20:=Y v20;replace v19:=Y v19;go_enter Tryz.func126,Tryz.ntmps126;go_upto_region 1 with fail
 generalize (w.alloc _)=W at hx0 hT hwT ⊢;generalize w.heap.size=T at hT ⊢;have hT0:=Y ((Mod.drew0 (fun _=>False) W).at hT.o id);have hy0:=Y (hx0.o.drew);clear hT hx0;refine rS (fun w'=>w'.heap[T]?=some (.cells V 32 (0,0))) [(0,true),(1,true),(2,true),(3,true),(4,true),(5,true),(6,false),(7,false),(8,true)] hT0.o ?_;generalize W.drew=W0 at hT0 hy0 ⊢;simp only [zah,List.map_cons,List.map_nil,List.getD_cons_zero,List.getD_cons_succ];repeat (refine zav (by rfl) ?_ (fun w' hC=>?_) ?_;rotate_left;(have q20:w'.cell? ⟨T,20,none⟩=some (.string ⟨a.fc.nm.toArray⟩):=(zaa hC 20).trans v20.o;have q19:w'.cell? ⟨T,19,none⟩=some (.string ⟨a.fc.tx.toArray⟩):=(zaa hC 19).trans v19.o;go_simp;try with_reducible rfl);try simp only [Act.put,sA,sZ,sS])
 refine zak (by rfl) (fun K hK=>?_);go_simp;refine (zdv a.fc.tx W0 (by have:=ok.o.fc.tx;omega)).mono ?_;rintro e W1 ⟨rfl,hxn⟩;refine hK.o _ _ (hxn.at hT0.o id) ?_;have hT1:=Y (hxn.at hT0.o id);have hy1:=Y (hy0.o.trans hxn);clear hK K hT0 hy0 hxn;try simp only [Act.put,sA,sZ,sS]
 repeat (refine qT ?_)
 refine zak (by rfl) (fun K hK=>?_);go_simp;have hfin:=Y (zaz hy1.o [a.fc.nm,hexW a.fc.tx] rfl rfl);refine hK.o _ _ ((Mod.alloc (Mod.refl (fun _=>False) W1) _).at hT1.o id) ?_;clear hK K hT1 hy1;try simp only [Act.put,sA,sZ,sS]
 repeat (refine qT ?_)
 refine zar ?_;go_wp2_with fail
 go_ret;exact hfin.o
theorem zpa (a1:Option Addr) (n1 c1:Nat) (a2:Option Addr) (n2 c2:Nat) (a3:Option Addr) (n3 c3:Nat) (a4:Option Addr) (n4 c4:Nat) (a5:Option Addr) (n5 c5:Nat) (a:Ac) (w:World) (hG:Gl w) (h:AcAt (fun k=>k < w.heap.size) w ⟨⟨.slice a1 n1 c1,.slice a2 n2 c2,.slice a3 n3 c3⟩,.slice a4 n4 c4,.slice a5 n5 c5⟩ a) (ok:AcOk a):Calls Tryz.prog 132 #[.agg (acA a1 n1 c1 a2 n2 c2 a3 n3 c3 a4 n4 c4 a5 n5 c5 a)] w (InP ([itoa a.fc.pa,itoa a.fc.un]) w):=by
 obtain ⟨V,hV⟩:∃ V,V=acA a1 n1 c1 a2 n2 c2 a3 n3 c3 a4 n4 c4 a5 n5 c5 a:=⟨_,rfl⟩;rw [<- hV];have v21:V[21]?=some (.int .i64 a.fc.pa):=by rw [hV];rfl
 have v23:V[23]?=some (.int .i64 a.fc.un):=by rw [hV];rfl
 have hx0:=Mod.alloc (Mod.refl (fun _=>False) w) (.cells V 32);have hT:=heap_alloc_new w (.cells V 32);have hwT:w.heap.size<=(w.alloc (.cells V 32)).heap.size:=hx0.size;replace hV:=Y hV;replace hG:=Y hG;replace h:=Y h;replace ok:=Y ok;replace hx0:=Y hx0;replace hT:=Y hT;replace v21:=Y v21;replace v23:=Y v23;go_enter Tryz.func132,Tryz.ntmps132;go_upto_region 1 with fail
 generalize (w.alloc _)=W at hx0 hT hwT ⊢;generalize w.heap.size=T at hT ⊢;have hT0:=Y ((Mod.drew0 (fun _=>False) W).at hT.o id);have hy0:=Y (hx0.o.drew);clear hT hx0;refine rS (fun w'=>w'.heap[T]?=some (.cells V 32 (0,0))) [(0,true),(1,true),(2,true),(4,true),(5,true),(6,true),(3,false),(7,false),(8,false),(9,true)] hT0.o ?_;generalize W.drew=W0 at hT0 hy0 ⊢;simp only [zah,List.map_cons,List.map_nil,List.getD_cons_zero,List.getD_cons_succ];repeat (refine zav (by rfl) ?_ (fun w' hC=>?_) ?_;rotate_left;(have q21:w'.cell? ⟨T,21,none⟩=some (.int .i64 a.fc.pa):=(zaa hC 21).trans v21.o;have q23:w'.cell? ⟨T,23,none⟩=some (.int .i64 a.fc.un):=(zaa hC 23).trans v23.o;go_simp;try with_reducible rfl);try simp only [Act.put,sA,sZ,sS])
 refine zak (by rfl) (fun K hK=>?_);go_simp;refine (zaw a.fc.pa ok.o.fc.pa W0 (hG.o.ext hy0.o)).mono ?_;rintro e W1 ⟨rfl,hxn⟩;refine hK.o _ _ (hxn.at hT0.o id) ?_;have hT1:=Y (hxn.at hT0.o id);have hy1:=Y (hy0.o.trans hxn);clear hK K hT0 hy0 hxn;try simp only [Act.put,sA,sZ,sS]
 refine zak (by rfl) (fun K hK=>?_);go_simp;refine (zaw a.fc.un ok.o.fc.un W1 (hG.o.ext hy1.o)).mono ?_;rintro e W2 ⟨rfl,hxn⟩;refine hK.o _ _ (hxn.at hT1.o id) ?_;have hT2:=Y (hxn.at hT1.o id);have hy2:=Y (hy1.o.trans hxn);clear hK K hT1 hy1 hxn;try simp only [Act.put,sA,sZ,sS]
 repeat (refine qT ?_)
 refine zak (by rfl) (fun K hK=>?_);go_simp;have hfin:=Y (zaz hy2.o [itoa a.fc.pa,itoa a.fc.un] rfl rfl);refine hK.o _ _ ((Mod.alloc (Mod.refl (fun _=>False) W2) _).at hT2.o id) ?_;clear hK K hT2 hy2;try simp only [Act.put,sA,sZ,sS]
 repeat (refine qT ?_)
 refine zar ?_;go_wp2_with fail
 go_ret;exact hfin.o
theorem zjf (a1:Option Addr) (n1 c1:Nat) (a2:Option Addr) (n2 c2:Nat) (a3:Option Addr) (n3 c3:Nat) (a4:Option Addr) (n4 c4:Nat) (a5:Option Addr) (n5 c5:Nat) (a:Ac) (w:World) (hG:Gl w) (h:AcAt (fun k=>k < w.heap.size) w ⟨⟨.slice a1 n1 c1,.slice a2 n2 c2,.slice a3 n3 c3⟩,.slice a4 n4 c4,.slice a5 n5 c5⟩ a) (ok:AcOk a):Calls Tryz.prog 134 #[.agg (acA a1 n1 c1 a2 n2 c2 a3 n3 c3 a4 n4 c4 a5 n5 c5 a)] w (InP ([itoa a.n]) w):=by
 obtain ⟨V,hV⟩:∃ V,V=acA a1 n1 c1 a2 n2 c2 a3 n3 c3 a4 n4 c4 a5 n5 c5 a:=⟨_,rfl⟩;rw [<- hV];have v24:V[24]?=some (.int .i64 a.n):=by rw [hV];rfl
 have hx0:=Mod.alloc (Mod.refl (fun _=>False) w) (.cells V 32);have hT:=heap_alloc_new w (.cells V 32);have hwT:w.heap.size<=(w.alloc (.cells V 32)).heap.size:=hx0.size;replace hV:=Y hV;replace hG:=Y hG;replace h:=Y h;replace ok:=Y ok;replace hx0:=Y hx0;replace hT:=Y hT;replace v24:=Y v24;go_enter Tryz.func134,Tryz.ntmps134;go_upto_region 1 with fail
 generalize (w.alloc _)=W at hx0 hT hwT ⊢;generalize w.heap.size=T at hT ⊢;have q24:W.cell? ⟨T,24,none⟩=some (.int .i64 a.n):=(zaa hT.o 24).trans v24.o;go_wp2_with fail
 refine (zaw a.n ok.o.n W (hG.o.ext hx0.o)).mono ?_;rintro e W1 ⟨rfl,hxn⟩;have hx1:=Y (hx0.o.trans hxn);clear hxn;go_wp2_with fail
 go_ret;exact zaz hx1.o [itoa a.n] rfl rfl
theorem zpd (a1:Option Addr) (n1 c1:Nat) (a2:Option Addr) (n2 c2:Nat) (a3:Option Addr) (n3 c3:Nat) (a4:Option Addr) (n4 c4:Nat) (a5:Option Addr) (n5 c5:Nat) (a:Ac) (w:World) (hG:Gl w) (h:AcAt (fun k=>k < w.heap.size) w ⟨⟨.slice a1 n1 c1,.slice a2 n2 c2,.slice a3 n3 c3⟩,.slice a4 n4 c4,.slice a5 n5 c5⟩ a) (ok:AcOk a):Calls Tryz.prog 136 #[.agg (acA a1 n1 c1 a2 n2 c2 a3 n3 c3 a4 n4 c4 a5 n5 c5 a)] w (InP ([listW (a.fa.map itoa)]) w):=by
 obtain ⟨V,hV⟩:∃ V,V=acA a1 n1 c1 a2 n2 c2 a3 n3 c3 a4 n4 c4 a5 n5 c5 a:=⟨_,rfl⟩;rw [<- hV];have v27:V[27]?=some (.slice a4 n4 c4):=by rw [hV];rfl
 have hx0:=Mod.alloc (Mod.refl (fun _=>False) w) (.cells V 32);have hT:=heap_alloc_new w (.cells V 32);have hwT:w.heap.size<=(w.alloc (.cells V 32)).heap.size:=hx0.size;replace hV:=Y hV;replace hG:=Y hG;replace h:=Y h;replace ok:=Y ok;replace hx0:=Y hx0;replace hT:=Y hT;replace v27:=Y v27;go_enter Tryz.func136,Tryz.ntmps136;go_upto_region 1 with fail
 generalize (w.alloc _)=W at hx0 hT hwT ⊢;generalize w.heap.size=T at hT ⊢;have q27:W.cell? ⟨T,27,none⟩=some (.slice a4 n4 c4):=(zaa hT.o 27).trans v27.o;go_wp2_with fail
 refine (zbF (.slice a4 n4 c4) a.fa ok.o.fa W (hG.o.ext hx0.o) ((h.o.fa.ext hx0.o).mono (fun k hk=>Nat.lt_of_lt_of_le hk hx0.o.size)) ok.o.fal (by have:=zfB a.fa;have:=ok.o.fal;omega)).mono ?_;rintro e W1 ⟨rfl,hxn⟩;have hx1:=Y (hx0.o.trans hxn);clear hxn;go_wp2_with fail
 go_ret;exact zaz hx1.o [listW (a.fa.map itoa)] rfl rfl
theorem zoI (a1:Option Addr) (n1 c1:Nat) (a2:Option Addr) (n2 c2:Nat) (a3:Option Addr) (n3 c3:Nat) (a4:Option Addr) (n4 c4:Nat) (a5:Option Addr) (n5 c5:Nat) (a:Ac) (w:World) (hG:Gl w) (h:AcAt (fun k=>k < w.heap.size) w ⟨⟨.slice a1 n1 c1,.slice a2 n2 c2,.slice a3 n3 c3⟩,.slice a4 n4 c4,.slice a5 n5 c5⟩ a) (ok:AcOk a):Calls Tryz.prog 140 #[.agg (acA a1 n1 c1 a2 n2 c2 a3 n3 c3 a4 n4 c4 a5 n5 c5 a)] w (InP ([itoa a.n,listW (a.ke.map itoa)]) w):=by
 obtain ⟨V,hV⟩:∃ V,V=acA a1 n1 c1 a2 n2 c2 a3 n3 c3 a4 n4 c4 a5 n5 c5 a:=⟨_,rfl⟩;rw [<- hV];have v24:V[24]?=some (.int .i64 a.n):=by rw [hV];rfl
 have v28:V[28]?=some (.slice a5 n5 c5):=by rw [hV];rfl
 have hx0:=Mod.alloc (Mod.refl (fun _=>False) w) (.cells V 32);have hT:=heap_alloc_new w (.cells V 32);have hwT:w.heap.size<=(w.alloc (.cells V 32)).heap.size:=hx0.size;replace hV:=Y hV;replace hG:=Y hG;replace h:=Y h;replace ok:=Y ok;replace hx0:=Y hx0;replace hT:=Y hT;replace v24:=Y v24;replace v28:=Y v28;go_enter Tryz.func140,Tryz.ntmps140;go_upto_region 1 with fail
 generalize (w.alloc _)=W at hx0 hT hwT ⊢;generalize w.heap.size=T at hT ⊢;have hT0:=Y ((Mod.drew0 (fun _=>False) W).at hT.o id);have hy0:=Y (hx0.o.drew);clear hT hx0;refine rS (fun w'=>w'.heap[T]?=some (.cells V 32 (0,0))) [(0,true),(1,true),(3,true),(4,true),(2,false),(5,false),(6,false),(7,true)] hT0.o ?_;generalize W.drew=W0 at hT0 hy0 ⊢;simp only [zah,List.map_cons,List.map_nil,List.getD_cons_zero,List.getD_cons_succ];repeat (refine zav (by rfl) ?_ (fun w' hC=>?_) ?_;rotate_left;(have q24:w'.cell? ⟨T,24,none⟩=some (.int .i64 a.n):=(zaa hC 24).trans v24.o;have q28:w'.cell? ⟨T,28,none⟩=some (.slice a5 n5 c5):=(zaa hC 28).trans v28.o;go_simp;try with_reducible rfl);try simp only [Act.put,sA,sZ,sS])
 refine zak (by rfl) (fun K hK=>?_);go_simp;refine (zaw a.n ok.o.n W0 (hG.o.ext hy0.o)).mono ?_;rintro e W1 ⟨rfl,hxn⟩;refine hK.o _ _ (hxn.at hT0.o id) ?_;have hT1:=Y (hxn.at hT0.o id);have hy1:=Y (hy0.o.trans hxn);clear hK K hT0 hy0 hxn;try simp only [Act.put,sA,sZ,sS]
 refine zak (by rfl) (fun K hK=>?_);go_simp;refine (zbF (.slice a5 n5 c5) a.ke ok.o.ke W1 (hG.o.ext hy1.o) ((h.o.ke.ext hy1.o).mono (fun k hk=>Nat.lt_of_lt_of_le hk hy1.o.size)) ok.o.kel (by have:=zfB a.ke;have:=ok.o.kel;omega)).mono ?_;rintro e W2 ⟨rfl,hxn⟩;refine hK.o _ _ (hxn.at hT1.o id) ?_;have hT2:=Y (hxn.at hT1.o id);have hy2:=Y (hy1.o.trans hxn);clear hK K hT1 hy1 hxn;try simp only [Act.put,sA,sZ,sS]
 repeat (refine qT ?_)
 refine zak (by rfl) (fun K hK=>?_);go_simp;have hfin:=Y (zaz hy2.o [itoa a.n,listW (a.ke.map itoa)] rfl rfl);refine hK.o _ _ ((Mod.alloc (Mod.refl (fun _=>False) W2) _).at hT2.o id) ?_;clear hK K hT2 hy2;try simp only [Act.put,sA,sZ,sS]
 repeat (refine qT ?_)
 refine zar ?_;go_wp2_with fail
 go_ret;exact hfin.o
theorem zo5 (a1:Option Addr) (n1 c1:Nat) (a2:Option Addr) (n2 c2:Nat) (a3:Option Addr) (n3 c3:Nat) (a4:Option Addr) (n4 c4:Nat) (a5:Option Addr) (n5 c5:Nat) (a:Ac) (w:World) (hG:Gl w) (h:AcAt (fun k=>k < w.heap.size) w ⟨⟨.slice a1 n1 c1,.slice a2 n2 c2,.slice a3 n3 c3⟩,.slice a4 n4 c4,.slice a5 n5 c5⟩ a) (ok:AcOk a):Calls Tryz.prog 142 #[.agg (acA a1 n1 c1 a2 n2 c2 a3 n3 c3 a4 n4 c4 a5 n5 c5 a)] w (InP ([]) w):=by
 obtain ⟨V,hV⟩:∃ V,V=acA a1 n1 c1 a2 n2 c2 a3 n3 c3 a4 n4 c4 a5 n5 c5 a:=⟨_,rfl⟩;rw [<- hV];have hx0:=Mod.alloc (Mod.refl (fun _=>False) w) (.cells V 32);have hT:=heap_alloc_new w (.cells V 32);have hwT:w.heap.size<=(w.alloc (.cells V 32)).heap.size:=hx0.size;replace hV:=Y hV;replace hG:=Y hG;replace h:=Y h;replace ok:=Y ok;replace hx0:=Y hx0;replace hT:=Y hT;go_enter Tryz.func142,Tryz.ntmps142;go_upto_region 1 with fail
 generalize (w.alloc _)=W at hx0 hT hwT ⊢;generalize w.heap.size=T at hT ⊢;go_wp2_with fail
 go_ret;exact ⟨none,0,rfl,zac.nil _ _ _,hx0.o⟩
theorem zpX (a1:Option Addr) (n1 c1:Nat) (a2:Option Addr) (n2 c2:Nat) (a3:Option Addr) (n3 c3:Nat) (a4:Option Addr) (n4 c4:Nat) (a5:Option Addr) (n5 c5:Nat) (a:Ac) (w:World) (hG:Gl w) (h:AcAt (fun k=>k < w.heap.size) w ⟨⟨.slice a1 n1 c1,.slice a2 n2 c2,.slice a3 n3 c3⟩,.slice a4 n4 c4,.slice a5 n5 c5⟩ a) (ok:AcOk a):Calls Tryz.prog 144 #[.agg (acA a1 n1 c1 a2 n2 c2 a3 n3 c3 a4 n4 c4 a5 n5 c5 a)] w (InP ([itoa a.cl,a.tx]) w):=by
 obtain ⟨V,hV⟩:∃ V,V=acA a1 n1 c1 a2 n2 c2 a3 n3 c3 a4 n4 c4 a5 n5 c5 a:=⟨_,rfl⟩;rw [<- hV];have v25:V[25]?=some (.int .i64 a.cl):=by rw [hV];rfl
 have v26:V[26]?=some (.string ⟨a.tx.toArray⟩):=by rw [hV];rfl
 have hx0:=Mod.alloc (Mod.refl (fun _=>False) w) (.cells V 32);have hT:=heap_alloc_new w (.cells V 32);have hwT:w.heap.size<=(w.alloc (.cells V 32)).heap.size:=hx0.size;replace hV:=Y hV;replace hG:=Y hG;replace h:=Y h;replace ok:=Y ok;replace hx0:=Y hx0;replace hT:=Y hT;replace v25:=Y v25;replace v26:=Y v26;go_enter Tryz.func144,Tryz.ntmps144;go_upto_region 1 with fail
 generalize (w.alloc _)=W at hx0 hT hwT ⊢;generalize w.heap.size=T at hT ⊢;have hT0:=Y ((Mod.drew0 (fun _=>False) W).at hT.o id);have hy0:=Y (hx0.o.drew);clear hT hx0;refine rS (fun w'=>w'.heap[T]?=some (.cells V 32 (0,0))) [(0,true),(1,true),(3,true),(4,true),(2,false),(5,false),(6,true)] hT0.o ?_;generalize W.drew=W0 at hT0 hy0 ⊢;simp only [zah,List.map_cons,List.map_nil,List.getD_cons_zero,List.getD_cons_succ];repeat (refine zav (by rfl) ?_ (fun w' hC=>?_) ?_;rotate_left;(have q25:w'.cell? ⟨T,25,none⟩=some (.int .i64 a.cl):=(zaa hC 25).trans v25.o;have q26:w'.cell? ⟨T,26,none⟩=some (.string ⟨a.tx.toArray⟩):=(zaa hC 26).trans v26.o;go_simp;try with_reducible rfl);try simp only [Act.put,sA,sZ,sS])
 refine zak (by rfl) (fun K hK=>?_);go_simp;refine (zaw a.cl ok.o.cl W0 (hG.o.ext hy0.o)).mono ?_;rintro e W1 ⟨rfl,hxn⟩;refine hK.o _ _ (hxn.at hT0.o id) ?_;have hT1:=Y (hxn.at hT0.o id);have hy1:=Y (hy0.o.trans hxn);clear hK K hT0 hy0 hxn;try simp only [Act.put,sA,sZ,sS]
 repeat (refine qT ?_)
 refine zak (by rfl) (fun K hK=>?_);go_simp;have hfin:=Y (zaz hy1.o [itoa a.cl,a.tx] rfl rfl);refine hK.o _ _ ((Mod.alloc (Mod.refl (fun _=>False) W1) _).at hT1.o id) ?_;clear hK K hT1 hy1;try simp only [Act.put,sA,sZ,sS]
 repeat (refine qT ?_)
 refine zar ?_;go_wp2_with fail
 go_ret;exact hfin.o
theorem znT (a1:Option Addr) (n1 c1:Nat) (a2:Option Addr) (n2 c2:Nat) (a3:Option Addr) (n3 c3:Nat) (a4:Option Addr) (n4 c4:Nat) (a5:Option Addr) (n5 c5:Nat) (a:Ac) (w:World) (hG:Gl w) (h:AcAt (fun k=>k < w.heap.size) w ⟨⟨.slice a1 n1 c1,.slice a2 n2 c2,.slice a3 n3 c3⟩,.slice a4 n4 c4,.slice a5 n5 c5⟩ a) (ok:AcOk a):Calls Tryz.prog 146 #[.agg (acA a1 n1 c1 a2 n2 c2 a3 n3 c3 a4 n4 c4 a5 n5 c5 a)] w (InP ([itoa a.cl,itoa a.n,a.tx]) w):=by
 obtain ⟨V,hV⟩:∃ V,V=acA a1 n1 c1 a2 n2 c2 a3 n3 c3 a4 n4 c4 a5 n5 c5 a:=⟨_,rfl⟩;rw [<- hV];have v25:V[25]?=some (.int .i64 a.cl):=by rw [hV];rfl
 have v24:V[24]?=some (.int .i64 a.n):=by rw [hV];rfl
 have v26:V[26]?=some (.string ⟨a.tx.toArray⟩):=by rw [hV];rfl
 have hx0:=Mod.alloc (Mod.refl (fun _=>False) w) (.cells V 32);have hT:=heap_alloc_new w (.cells V 32);have hwT:w.heap.size<=(w.alloc (.cells V 32)).heap.size:=hx0.size;replace hV:=Y hV;replace hG:=Y hG;replace h:=Y h;replace ok:=Y ok;replace hx0:=Y hx0;replace hT:=Y hT;replace v25:=Y v25;replace v24:=Y v24;replace v26:=Y v26;go_enter Tryz.func146,Tryz.ntmps146;go_upto_region 1 with fail
 generalize (w.alloc _)=W at hx0 hT hwT ⊢;generalize w.heap.size=T at hT ⊢;have hT0:=Y ((Mod.drew0 (fun _=>False) W).at hT.o id);have hy0:=Y (hx0.o.drew);clear hT hx0;refine rS (fun w'=>w'.heap[T]?=some (.cells V 32 (0,0))) [(0,true),(1,true),(3,true),(4,true),(6,true),(7,true),(2,false),(5,false),(8,false),(9,true)] hT0.o ?_;generalize W.drew=W0 at hT0 hy0 ⊢;simp only [zah,List.map_cons,List.map_nil,List.getD_cons_zero,List.getD_cons_succ];repeat (refine zav (by rfl) ?_ (fun w' hC=>?_) ?_;rotate_left;(have q25:w'.cell? ⟨T,25,none⟩=some (.int .i64 a.cl):=(zaa hC 25).trans v25.o;have q24:w'.cell? ⟨T,24,none⟩=some (.int .i64 a.n):=(zaa hC 24).trans v24.o;have q26:w'.cell? ⟨T,26,none⟩=some (.string ⟨a.tx.toArray⟩):=(zaa hC 26).trans v26.o;go_simp;try with_reducible rfl);try simp only [Act.put,sA,sZ,sS])
 refine zak (by rfl) (fun K hK=>?_);go_simp;refine (zaw a.cl ok.o.cl W0 (hG.o.ext hy0.o)).mono ?_;rintro e W1 ⟨rfl,hxn⟩;refine hK.o _ _ (hxn.at hT0.o id) ?_;have hT1:=Y (hxn.at hT0.o id);have hy1:=Y (hy0.o.trans hxn);clear hK K hT0 hy0 hxn;try simp only [Act.put,sA,sZ,sS]
 refine zak (by rfl) (fun K hK=>?_);go_simp;refine (zaw a.n ok.o.n W1 (hG.o.ext hy1.o)).mono ?_;rintro e W2 ⟨rfl,hxn⟩;refine hK.o _ _ (hxn.at hT1.o id) ?_;have hT2:=Y (hxn.at hT1.o id);have hy2:=Y (hy1.o.trans hxn);clear hK K hT1 hy1 hxn;try simp only [Act.put,sA,sZ,sS]
 repeat (refine qT ?_)
 refine zak (by rfl) (fun K hK=>?_);go_simp;have hfin:=Y (zaz hy2.o [itoa a.cl,itoa a.n,a.tx] rfl rfl);refine hK.o _ _ ((Mod.alloc (Mod.refl (fun _=>False) W2) _).at hT2.o id) ?_;clear hK K hT2 hy2;try simp only [Act.put,sA,sZ,sS]
 repeat (refine qT ?_)
 refine zar ?_;go_wp2_with fail
 go_ret;exact hfin.o
end Go.Proofs.YtjjfphalcibjfaaGreatDoor
namespace Cdk
open Go Go.RowKit
inductive Tr
 | done
 | q (i:Nat) (t:Tr)
 | c1 (i:Nat) (t:Tr)
 | c2 (i:Nat) (t:Tr) (j:Nat) (u:Tr)
 | c3 (i:Nat) (t:Tr) (j:Nat) (u:Tr) (k:Nat) (v:Tr)
 | s (t:Tr)
def zi6 (md:Region.Mode) (ops:Array Oper):Tr -> Array Bool -> Bool
 | .done,L=>(Region.ready md ops L).isEmpty
 | .q i t,L=>(Region.ready md ops L).contains i && Region.free md ops L i && zi6 md ops t (L.setIfInBounds i true)
 | .c1 i t,L=>Region.ready md ops L==[i] && zi6 md ops t (L.setIfInBounds i true)
 | .c2 i t j u,L=>Region.ready md ops L==[i,j] && zi6 md ops t (L.setIfInBounds i true) && zi6 md ops u (L.setIfInBounds j true)
 | .c3 i t j u k v,L=>Region.ready md ops L==[i,j,k] && zi6 md ops t (L.setIfInBounds i true) && zi6 md ops u (L.setIfInBounds j true) && zi6 md ops v (L.setIfInBounds k true)
 | .s t,L=>zi6 md ops t L
def zcV:Tr -> Nat
 | .done=>0
 | .q _ t=>zcV t+1
 | .c1 _ t=>zcV t+1
 | .c2 _ t _ u=>max (zcV t) (zcV u)+1
 | .c3 _ t _ u _ v=>max (zcV t) (max (zcV u) (zcV v))+1
 | .s t=>zcV t
section
variable {P:Program} {Q:Exit -> Act -> World -> Prop}
def wpN (P:Program) (ops:Array Oper) (C:World -> Prop) (Q:Exit -> Act -> World -> Prop) (o:Oper) (R:Act -> World -> Prop) (a:Act) (w:World):Prop:=
 if Region.wanted o (yielded ops a.tmps)=true then o.wp P a w (fun a' w'=>C w'/\R a' w') Q else R (a.put o.dst undef) w
def zeW (P:Program) (l:List Oper) (Q:Exit -> Act -> World -> Prop):Tr -> (World -> Prop) -> Act -> World -> Prop
 | .done,_,a,w=>Q .normal a w
 | .q i t,C,a,w=>∃ v,YieldsIf P l.toArray C (l.getD i default) v a/\zeW P l Q t C (a.put (l.getD i default).dst v) w
 | .c1 i t,C,a,w=>wpN P l.toArray C Q (l.getD i default) (zeW P l Q t C) a w
 | .c2 i t j u,C,a,w=>wpN P l.toArray C Q (l.getD i default) (zeW P l Q t C) a w/\wpN P l.toArray C Q (l.getD j default) (zeW P l Q u C) a w
 | .c3 i t j u k v,C,a,w=>wpN P l.toArray C Q (l.getD i default) (zeW P l Q t C) a w/\wpN P l.toArray C Q (l.getD j default) (zeW P l Q u C) a w/\wpN P l.toArray C Q (l.getD k default) (zeW P l Q v C) a w
 | .s t,C,a,w=>∃ C':World -> Prop,(∀ w',C' w' -> C w')/\C' w/\zeW P l Q t C' a w
theorem zft {md:Region.Mode} {ops:Array Oper} {C C':World -> Prop} (hC:∀ w,C' w -> C w):∀ (fuel:Nat) (L:Array Bool) (a:Act) (w:World),wpAnyH P md ops Q C' fuel L a w -> wpAnyH P md ops Q C fuel L a w
 | 0,_,_,_,h=>h
 | fuel+1,_,_,_,h=>⟨h.1,fun i hi=>wpOp_mono (fun _ _ h'=>⟨hC _ h'.1,zft hC fuel _ _ _ h'.2⟩) (h.2 i hi)⟩
theorem zfZ {md:Region.Mode} {l:List Oper} {L:Array Bool} {C:World -> Prop} {i:Nat} {R R':Act -> World -> Prop} {a:Act} {w:World} (hm:i ∈ Region.ready md l.toArray L) (hC:C w) (h:wpN P l.toArray C Q (l.getD i default) R a w)
  (hR:∀ a' w',C w' -> R a' w' -> R' a' w'):wpOp P l.toArray Q i (fun a' w'=>C w'/\R' a' w') a w:=by
 have hi:l.toArray[i]?=some (l.getD i default):=by
  have:i < l.length:=by
   simp only [Region.ready,List.mem_filter,List.mem_range] at hm;simpa using hm.1
  simp [List.getD,this]
 unfold wpOp;simp only [hi];unfold wpN at h
 by_cases hw:Region.wanted (l.getD i default) (yielded l.toArray a.tmps)=true
 ·rw [if_pos hw] at h ⊢
  exact .inl (Oper.wp_mono (fun a' w' ⟨hC',h'⟩=>⟨hC',hR a' w' hC' h'⟩) h)
 ·rw [if_neg hw] at h ⊢
  exact ⟨hC,hR _ _ hC h⟩
theorem zbx {md:Region.Mode} {l:List Oper} (hno:Region.noSelect l.toArray=true) (hQ:∀ c a d v w,Q (.panic c) (Act.put a d v) w -> Q (.panic c) a w):
  ∀ (t:Tr) (C:World -> Prop) (fuel:Nat) (L:Array Bool) (a:Act) (w:World),zcV t<=fuel -> zi6 md l.toArray t L=true -> C w -> zeW P l Q t C a w -> wpAnyH P md l.toArray Q C fuel L a w
 | .done,C,fuel,L,a,w,_,hok,_,h=>by
  simp only [zi6,List.isEmpty_iff] at hok;exact wpAnyH_done hok h fuel
 | .s t,C,fuel,L,a,w,hf,hok,_,h=>by
  obtain ⟨C',h1,h2,h3⟩:=h;exact zft h1 fuel L a w (zbx hno hQ t C' fuel L a w hf hok h2 h3)
 | .q i t,C,0,L,a,w,hf,_,_,_=>by simp [zcV] at hf
 | .c1 i t,C,0,L,a,w,hf,_,_,_=>by simp [zcV] at hf
 | .c2 i t j u,C,0,L,a,w,hf,_,_,_=>by simp [zcV] at hf
 | .c3 i t j u k v,C,0,L,a,w,hf,_,_,_=>by simp [zcV] at hf
 | .q i t,C,fuel+1,L,a,w,hf,hok,hC,h=>by
  simp only [zi6,Bool.and_eq_true] at hok;obtain ⟨⟨hr,hfree⟩,hok⟩:=hok;obtain ⟨v,hy,h⟩:=h;have hi:l.toArray[i]?=some (l.getD i default):=by
   have hm:i ∈ Region.ready md l.toArray L:=by simpa using hr
   have:i < l.length:=by
    simp only [Region.ready,List.mem_filter,List.mem_range] at hm;simpa using hm.1
   simp [List.getD,this]
  simp only [zcV] at hf;exact wpAnyH_take hi hno hfree hr (fun c a w h=>hQ c a _ v w h) hy hC (zbx hno hQ t C fuel _ _ _ (by omega) hok hC h)
 | .c1 i t,C,fuel+1,L,a,w,hf,hok,hC,h=>by
  simp only [zi6,Bool.and_eq_true,beq_iff_eq] at hok;simp only [zcV] at hf;refine wpAnyH_all hok.1 (by simp) ?_;intro j hj;simp only [List.mem_singleton] at hj;subst hj;exact zfZ (by rw [hok.1];simp) hC h (fun a' w' hC' h'=>zbx hno hQ t C fuel _ _ _ (by omega) hok.2 hC' h')
 | .c2 i t j u,C,fuel+1,L,a,w,hf,hok,hC,h=>by
  simp only [zi6,Bool.and_eq_true,beq_iff_eq] at hok;obtain ⟨⟨hr,h1⟩,h2⟩:=hok;simp only [zcV] at hf;refine wpAnyH_all hr (by simp) ?_;intro x hx;simp only [List.mem_cons,List.not_mem_nil,or_false] at hx;rcases hx with rfl | rfl
  ·exact zfZ (by rw [hr];simp) hC h.1 (fun a' w' hC' h'=>zbx hno hQ t C fuel _ _ _ (by omega) h1 hC' h')
  ·exact zfZ (by rw [hr];simp) hC h.2 (fun a' w' hC' h'=>zbx hno hQ u C fuel _ _ _ (by omega) h2 hC' h')
 | .c3 i t j u k v,C,fuel+1,L,a,w,hf,hok,hC,h=>by
  simp only [zi6,Bool.and_eq_true,beq_iff_eq] at hok;obtain ⟨⟨⟨hr,h1⟩,h2⟩,h3⟩:=hok;simp only [zcV] at hf;refine wpAnyH_all hr (by simp) ?_;intro x hx;simp only [List.mem_cons,List.not_mem_nil,or_false] at hx;rcases hx with rfl | rfl | rfl
  ·exact zfZ (by rw [hr];simp) hC h.1 (fun a' w' hC' h'=>zbx hno hQ t C fuel _ _ _ (by omega) h1 hC' h')
  ·exact zfZ (by rw [hr];simp) hC h.2.1 (fun a' w' hC' h'=>zbx hno hQ u C fuel _ _ _ (by omega) h2 hC' h')
  ·exact zfZ (by rw [hr];simp) hC h.2.2 (fun a' w' hC' h'=>zbx hno hQ v C fuel _ _ _ (by omega) h3 hC' h')
theorem zds {id:Nat} {l:List Oper} {a:Act} {w:World} (t:Tr) (hm:P.follows .mixedOrders=true)
  (hno:Region.noSelect l.toArray=true) (hok:zi6 .any l.toArray t (Array.replicate l.length false)=true) (hlen:zcV t<=l.length)
  (h:zeW P l (NoPanic Q) t (fun _=>True) a w.drew):(Code.region id l.toArray true).wp P Q a w:=by
 refine wp_region_noPanic (wp_region_held (S:=fun _=>True) hm ?_);have:=zbx (md:=.any) hno (fun _ _ _ _ _ h=>h) t (fun _=>True) l.length (Array.replicate l.length false) a w.drew hlen hok trivial h;exact this
theorem zdQ {l:List Oper} {C:World -> Prop} {a:Act} {w:World} (h:Q .normal a w):zeW P l (NoPanic Q) .done C a w:=h
theorem zcB {l:List Oper} {C:World -> Prop} {i:Nat} {t:Tr} {a:Act} {w:World} (o:Oper) (ho:l.getD i default=o) (hg:Region.wanted o (yielded l.toArray a.tmps)=true) (v:Value) (h1:∀ w',C w' -> (execOp a.eval o).run P w'=.ok (.value v) w')
  (h2:zeW P l Q t C (a.put o.dst v) w):zeW P l Q (.q i t) C a w:=by
 subst ho;exact ⟨v,.inl ⟨hg,h1⟩,h2⟩
theorem znb {l:List Oper} {C:World -> Prop} {t:Tr} {a:Act} {w:World} (C':World -> Prop) (h1:∀ w',C' w' -> C w') (h2:C' w) (h3:zeW P l Q t C' a w):zeW P l Q (.s t) C a w:=⟨C',h1,h2,h3⟩
theorem zdG {ops:Array Oper} {C:World -> Prop} {o:Oper} {R:Act -> World -> Prop} {a:Act} {w:World} (hg:Region.wanted o (yielded ops a.tmps)=true)
  (h:∀ K:Act -> World -> Prop,Hid (∀ a' w',C w' -> R a' w' -> K a' w') -> o.wp P a w K Q):wpN P ops C Q o R a w:=by
 unfold wpN;rw [if_pos hg];exact h _ (fun a' w' h1 h2=>⟨h1,h2⟩)
theorem zb7 {l:List Oper} {C:World -> Prop} {i:Nat} {t:Tr} {a:Act} {w:World} (o:Oper) (ho:l.getD i default=o) (h:wpN P l.toArray C Q o (zeW P l Q t C) a w):zeW P l Q (.c1 i t) C a w:=by subst ho;exact h
theorem zkZ {l:List Oper} {C:World -> Prop} {i j:Nat} {t u:Tr} {a:Act} {w:World} (o1 o2:Oper) (ho1:l.getD i default=o1) (ho2:l.getD j default=o2) (h1:wpN P l.toArray C Q o1 (zeW P l Q t C) a w) (h2:wpN P l.toArray C Q o2 (zeW P l Q u C) a w):zeW P l Q (.c2 i t j u) C a w:=by
 subst ho1;subst ho2;exact ⟨h1,h2⟩
end
end Cdk
namespace Go.Proofs.YtjjfphalcibjfaaGreatDoor
open Go.Shelf Go.RowKit Cdk Scr
theorem znv {b:Bk} (h:GoodBk b):(zgR b).length<=2000:=by
 have l1:=zaH [b.id,b.kd];have l2:=zb3 b.tx;have l3:=zaH [b.st,b.rf,b.lb.til,(b.lb.aft.length:Int)];have l4:=zaH b.lb.aft;have l5:=zaH [b.lb.app,b.lb.den];have l6:=h.tx;have l7:=h.lb.len;simp only [List.length_cons,List.length_nil] at l1 l3 l5;simp only [zgR,List.length_append];omega
theorem zhI:∀ {l:List Bk},(∀ b ∈ l,GoodBk b) -> (l.flatMap zgR).length<=2000*l.length
 | [],_=>by simp
 | b::r,h=>by
  have h1:=znv (h b (by simp));have h2:=zhI (l:=r) (fun x hx=>h x (by simp [hx]));simp only [List.flatMap_cons,List.length_append,List.length_cons];omega
theorem zjO {l:List Bk} (h:zec l=true):(zcl l).length<=1000000:=by
 obtain ⟨h1,h2⟩:=zcp h;have h3:=zhI h2;have h4:=zay (l.length:Int);rw [zcl,if_pos h,List.length_append];omega
theorem zlR {m:Ms} (h:vMs m=true):(zf1 m).length<=1000000:=by
 have h1:=zay (crc (zbW m));have h2:=zaH [m.kd,m.pa,m.sq,m.st,m.ba,m.ve];have h3:=zb3 m.da;have h4:=(zdh h).da;simp only [List.length_cons,List.length_nil] at h2;have h5:(zbW m).length<=17000:=by
  simp only [zbW,List.length_append];omega
 rw [zf1,if_pos h,List.length_append];omega
theorem znM (a1:Option Addr) (n1 c1:Nat) (a2:Option Addr) (n2 c2:Nat) (a3:Option Addr) (n3 c3:Nat) (f:Fc) (w:World) (hG:Gl w) (h:FcAt (fun k=>k < w.heap.size) w ⟨.slice a1 n1 c1,.slice a2 n2 c2,.slice a3 n3 c3⟩ f) (ok:FcOk f):Calls Tryz.prog 111 #[.agg (fcA a1 n1 c1 a2 n2 c2 a3 n3 c3 f)] w (InP ([f.lg,itoa f.rv,itoa f.bs,f.au,listW f.tp,labelW f.lb,hexW (zcl f.bl),f.ti]) w):=by
 obtain ⟨V,hV⟩:∃ V,V=fcA a1 n1 c1 a2 n2 c2 a3 n3 c3 f:=⟨_,rfl⟩;rw [<- hV];have v4:V[4]?=some (.string ⟨f.lg.toArray⟩):=by rw [hV];rfl
 have v5:V[5]?=some (.int .i64 f.rv):=by rw [hV];rfl
 have v6:V[6]?=some (.int .i64 f.bs):=by rw [hV];rfl
 have v7:V[7]?=some (.string ⟨f.ti.toArray⟩):=by rw [hV];rfl
 have v8:V[8]?=some (.string ⟨f.au.toArray⟩):=by rw [hV];rfl
 have v9:V[9]?=some (.slice a1 n1 c1):=by rw [hV];rfl
 have v10:V[10]?=some (.slice a2 n2 c2):=by rw [hV];rfl
 have v11:V[11]?=some (.int .i64 f.lb.til):=by rw [hV];rfl
 have v12:V[12]?=some (.slice a3 n3 c3):=by rw [hV];rfl
 have v13:V[13]?=some (.int .i64 f.lb.app):=by rw [hV];rfl
 have v14:V[14]?=some (.int .i64 f.lb.den):=by rw [hV];rfl
 have hx0:=Mod.alloc (Mod.refl (fun _=>False) w) (.cells V 28);have hT:=heap_alloc_new w (.cells V 28);have hwT:w.heap.size<=(w.alloc (.cells V 28)).heap.size:=hx0.size;replace hV:=Y hV;replace hG:=Y hG;replace h:=Y h;replace ok:=Y ok;replace hx0:=Y hx0;replace hT:=Y hT;replace v4:=Y v4;replace v5:=Y v5;replace v6:=Y v6;replace v7:=Y v7;replace v8:=Y v8;replace v9:=Y v9;replace v10:=Y v10;replace v11:=Y v11;replace v12:=Y v12;replace v13:=Y v13;replace v14:=Y v14;go_enter Tryz.func111,Tryz.ntmps111;go_upto_region 1 with fail
 generalize (w.alloc _)=W at hx0 hT hwT ⊢;generalize w.heap.size=T at hT ⊢;have q4:W.cell? ⟨T,4,none⟩=some (.string ⟨f.lg.toArray⟩):=(zaa hT.o 4).trans v4.o;have q5:W.cell? ⟨T,5,none⟩=some (.int .i64 f.rv):=(zaa hT.o 5).trans v5.o;have q6:W.cell? ⟨T,6,none⟩=some (.int .i64 f.bs):=(zaa hT.o 6).trans v6.o;have q7:W.cell? ⟨T,7,none⟩=some (.string ⟨f.ti.toArray⟩):=(zaa hT.o 7).trans v7.o;have q8:W.cell? ⟨T,8,none⟩=some (.string ⟨f.au.toArray⟩):=(zaa hT.o 8).trans v8.o;have q9:W.cell? ⟨T,9,none⟩=some (.slice a1 n1 c1):=(zaa hT.o 9).trans v9.o;have q10:W.cell? ⟨T,10,none⟩=some (.slice a2 n2 c2):=(zaa hT.o 10).trans v10.o;have q11:W.cell? ⟨T,11,none⟩=some (.int .i64 f.lb.til):=(zaa hT.o 11).trans v11.o;have q12:W.cell? ⟨T,12,none⟩=some (.slice a3 n3 c3):=(zaa hT.o 12).trans v12.o;have q13:W.cell? ⟨T,13,none⟩=some (.int .i64 f.lb.app):=(zaa hT.o 13).trans v13.o;have q14:W.cell? ⟨T,14,none⟩=some (.int .i64 f.lb.den):=(zaa hT.o 14).trans v14.o;go_wp2_with fail
 refine (zka (.slice a2 n2 c2) f.bl W ((h.o.bl.ext hx0.o).mono (fun k hk=>Nat.lt_of_lt_of_le hk hx0.o.size)) ok.o.bl).mono ?_;rintro e Wa ⟨rfl,hxn⟩;have hTa:=Y (hxn.at hT.o id);have hxa:=Y (hx0.o.trans hxn);clear q4 q5 q6 q7 q8 q9 q10 q11 q12 q13 q14;clear hT hx0 hxn;have q4:Wa.cell? ⟨T,4,none⟩=some (.string ⟨f.lg.toArray⟩):=(zaa hTa.o 4).trans v4.o;have q5:Wa.cell? ⟨T,5,none⟩=some (.int .i64 f.rv):=(zaa hTa.o 5).trans v5.o;have q6:Wa.cell? ⟨T,6,none⟩=some (.int .i64 f.bs):=(zaa hTa.o 6).trans v6.o;have q7:Wa.cell? ⟨T,7,none⟩=some (.string ⟨f.ti.toArray⟩):=(zaa hTa.o 7).trans v7.o;have q8:Wa.cell? ⟨T,8,none⟩=some (.string ⟨f.au.toArray⟩):=(zaa hTa.o 8).trans v8.o;have q9:Wa.cell? ⟨T,9,none⟩=some (.slice a1 n1 c1):=(zaa hTa.o 9).trans v9.o;have q10:Wa.cell? ⟨T,10,none⟩=some (.slice a2 n2 c2):=(zaa hTa.o 10).trans v10.o;have q11:Wa.cell? ⟨T,11,none⟩=some (.int .i64 f.lb.til):=(zaa hTa.o 11).trans v11.o;have q12:Wa.cell? ⟨T,12,none⟩=some (.slice a3 n3 c3):=(zaa hTa.o 12).trans v12.o;have q13:Wa.cell? ⟨T,13,none⟩=some (.int .i64 f.lb.app):=(zaa hTa.o 13).trans v13.o;have q14:Wa.cell? ⟨T,14,none⟩=some (.int .i64 f.lb.den):=(zaa hTa.o 14).trans v14.o;go_wp2_with fail
 refine (zhV (.slice a1 n1 c1) f.tp Wa ((h.o.tp.ext hxa.o).mono (fun k hk=>Nat.lt_of_lt_of_le hk hxa.o.size)) ok.o.tp ok.o.tpj).mono ?_;rintro e Wb ⟨rfl,hxn⟩;have hT:=Y (hxn.at hTa.o id);have hx0:=Y (hxa.o.trans hxn);clear q4 q5 q6 q7 q8 q9 q10 q11 q12 q13 q14;clear hTa hxa hxn;go_upto_region 3 with fail
 have hT0:=Y ((Mod.drew0 (fun _=>False) Wb).at hT.o id);have hy0:=Y (hx0.o.drew);clear hT hx0;refine rS (fun w'=>w'.heap[T]?=some (.cells V 28 (0,0))) [(0,true),(1,true),(2,true),(3,true),(5,true),(6,true),(8,true),(9,true),(10,true),(11,true),(12,true),(14,true),(16,true),(17,true),(4,false),(7,false),(13,false),(15,false),(18,false),(19,true)] hT0.o ?_;generalize Wb.drew=W0 at hT0 hy0 ⊢;simp only [zah,List.map_cons,List.map_nil,List.getD_cons_zero,List.getD_cons_succ];repeat (refine zav (by rfl) ?_ (fun w' hC=>?_) ?_;rotate_left;(have q4:w'.cell? ⟨T,4,none⟩=some (.string ⟨f.lg.toArray⟩):=(zaa hC 4).trans v4.o;have q5:w'.cell? ⟨T,5,none⟩=some (.int .i64 f.rv):=(zaa hC 5).trans v5.o;have q6:w'.cell? ⟨T,6,none⟩=some (.int .i64 f.bs):=(zaa hC 6).trans v6.o;have q7:w'.cell? ⟨T,7,none⟩=some (.string ⟨f.ti.toArray⟩):=(zaa hC 7).trans v7.o;have q8:w'.cell? ⟨T,8,none⟩=some (.string ⟨f.au.toArray⟩):=(zaa hC 8).trans v8.o;have q9:w'.cell? ⟨T,9,none⟩=some (.slice a1 n1 c1):=(zaa hC 9).trans v9.o;have q10:w'.cell? ⟨T,10,none⟩=some (.slice a2 n2 c2):=(zaa hC 10).trans v10.o;have q11:w'.cell? ⟨T,11,none⟩=some (.int .i64 f.lb.til):=(zaa hC 11).trans v11.o;have q12:w'.cell? ⟨T,12,none⟩=some (.slice a3 n3 c3):=(zaa hC 12).trans v12.o;have q13:w'.cell? ⟨T,13,none⟩=some (.int .i64 f.lb.app):=(zaa hC 13).trans v13.o;have q14:w'.cell? ⟨T,14,none⟩=some (.int .i64 f.lb.den):=(zaa hC 14).trans v14.o;go_simp;try with_reducible rfl);try simp only [Act.put,sA,sZ,sS])
 refine zak (by rfl) (fun K hK=>?_);go_simp;refine (zaw f.rv ok.o.rv W0 (hG.o.ext hy0.o)).mono ?_;rintro e W1 ⟨rfl,hxn⟩;refine hK.o _ _ (hxn.at hT0.o id) ?_;have hT1:=Y (hxn.at hT0.o id);have hy1:=Y (hy0.o.trans hxn);clear hK K hT0 hy0 hxn;try simp only [Act.put,sA,sZ,sS]
 refine zak (by rfl) (fun K hK=>?_);go_simp;refine (zaw f.bs ok.o.bs W1 (hG.o.ext hy1.o)).mono ?_;rintro e W2 ⟨rfl,hxn⟩;refine hK.o _ _ (hxn.at hT1.o id) ?_;have hT2:=Y (hxn.at hT1.o id);have hy2:=Y (hy1.o.trans hxn);clear hK K hT1 hy1 hxn;try simp only [Act.put,sA,sZ,sS]
 refine zak (by rfl) (fun K hK=>?_);go_simp;refine (zd6 (.slice a3 n3 c3) f.lb W2 (hG.o.ext hy2.o) ((h.o.af.ext hy2.o).mono (fun k hk=>Nat.lt_of_lt_of_le hk hy2.o.size)) ok.o.lb.til ok.o.lb.app ok.o.lb.den ok.o.lb.aft ok.o.lb.len).mono ?_;rintro e W3 ⟨rfl,hxn⟩;refine hK.o _ _ (hxn.at hT2.o id) ?_;have hT3:=Y (hxn.at hT2.o id);have hy3:=Y (hy2.o.trans hxn);clear hK K hT2 hy2 hxn;try simp only [Act.put,sA,sZ,sS]
 refine zak (by rfl) (fun K hK=>?_);go_simp;refine (zdv (zcl f.bl) W3 (zjO ok.o.bl)).mono ?_;rintro e W4 ⟨rfl,hxn⟩;refine hK.o _ _ (hxn.at hT3.o id) ?_;have hT4:=Y (hxn.at hT3.o id);have hy4:=Y (hy3.o.trans hxn);clear hK K hT3 hy3 hxn;try simp only [Act.put,sA,sZ,sS]
 repeat (refine qT ?_)
 refine zak (by rfl) (fun K hK=>?_);go_simp;have hfin:=Y (zaz hy4.o [f.lg,itoa f.rv,itoa f.bs,f.au,listW f.tp,labelW f.lb,hexW (zcl f.bl),f.ti] rfl rfl);refine hK.o _ _ ((Mod.alloc (Mod.refl (fun _=>False) W4) _).at hT4.o id) ?_;clear hK K hT4 hy4;try simp only [Act.put,sA,sZ,sS]
 repeat (refine qT ?_)
 refine zar ?_;go_wp2_with fail
 go_ret;exact hfin.o
theorem zoD (a1:Option Addr) (n1 c1:Nat) (a2:Option Addr) (n2 c2:Nat) (a3:Option Addr) (n3 c3:Nat) (a4:Option Addr) (n4 c4:Nat) (a5:Option Addr) (n5 c5:Nat) (a:Ac) (w:World) (hG:Gl w) (hms:vMs a.ms=true):Calls Tryz.prog 148 #[.agg (acA a1 n1 c1 a2 n2 c2 a3 n3 c3 a4 n4 c4 a5 n5 c5 a)] w (InP ([hexW (zf1 a.ms)]) w):=by
 obtain ⟨V,hV⟩:∃ V,V=acA a1 n1 c1 a2 n2 c2 a3 n3 c3 a4 n4 c4 a5 n5 c5 a:=⟨_,rfl⟩;rw [<- hV];have v29:V[29]?=some (.int .i64 a.ms.kd):=by rw [hV];rfl
 have v30:V[30]?=some (.int .i64 a.ms.pa):=by rw [hV];rfl
 have v31:V[31]?=some (.int .i64 a.ms.sq):=by rw [hV];rfl
 have v32:V[32]?=some (.int .i64 a.ms.st):=by rw [hV];rfl
 have v33:V[33]?=some (.int .i64 a.ms.ba):=by rw [hV];rfl
 have v34:V[34]?=some (.int .i64 a.ms.ve):=by rw [hV];rfl
 have v35:V[35]?=some (.string ⟨a.ms.da.toArray⟩):=by rw [hV];rfl
 have hx0:=Mod.alloc (Mod.refl (fun _=>False) w) (.cells V 32);have hT:=heap_alloc_new w (.cells V 32);have he:=Y (fun W (hX:Ext w W)=>zg3 a.ms W (hG.ext hX) hms);have hle:=Y (zlR hms);unfold msC zb0 at he;replace hV:=Y hV;replace hx0:=Y hx0;replace hT:=Y hT;go_enter Tryz.func148,Tryz.ntmps148;go_upto_region 1 with fail
 generalize (w.alloc _)=W at hx0 hT ⊢;generalize w.heap.size=T at hT ⊢;have q29:W.cell? ⟨T,29,none⟩=some (.int .i64 a.ms.kd):=(zaa hT.o 29).trans v29;have q30:W.cell? ⟨T,30,none⟩=some (.int .i64 a.ms.pa):=(zaa hT.o 30).trans v30;have q31:W.cell? ⟨T,31,none⟩=some (.int .i64 a.ms.sq):=(zaa hT.o 31).trans v31;have q32:W.cell? ⟨T,32,none⟩=some (.int .i64 a.ms.st):=(zaa hT.o 32).trans v32;have q33:W.cell? ⟨T,33,none⟩=some (.int .i64 a.ms.ba):=(zaa hT.o 33).trans v33;have q34:W.cell? ⟨T,34,none⟩=some (.int .i64 a.ms.ve):=(zaa hT.o 34).trans v34;have q35:W.cell? ⟨T,35,none⟩=some (.string ⟨a.ms.da.toArray⟩):=(zaa hT.o 35).trans v35;clear v29 v30 v31 v32 v33 v34 v35;go_wp2_with fail
 refine (he.o W hx0.o).mono ?_;rintro e W1 ⟨rfl,hxn⟩;have hx1:=Y (hx0.o.trans hxn);clear hxn;go_wp2_with fail
 refine (zdv (zf1 a.ms) W1 hle.o).mono ?_;rintro e W2 ⟨rfl,hxn⟩;have hx2:=Y (hx1.o.trans hxn);clear hxn;go_wp2_with fail
 go_ret;exact zaz hx2.o [hexW (zf1 a.ms)] rfl rfl
theorem zhm (a1:Option Addr) (n1 c1:Nat) (a2:Option Addr) (n2 c2:Nat) (a3:Option Addr) (n3 c3:Nat) (a4:Option Addr) (n4 c4:Nat) (a5:Option Addr) (n5 c5:Nat) (a:Ac):∃ RL:List Value,acA a1 n1 c1 a2 n2 c2 a3 n3 c3 a4 n4 c4 a5 n5 c5 a=([Value.int .i64 a.kd]++(fcC ⟨.slice a1 n1 c1,.slice a2 n2 c2,.slice a3 n3 c3⟩ a.fc++RL)).toArray:=⟨[.int .i64 a.n,.int .i64 a.cl,zb0 a.tx,.slice a4 n4 c4,.slice a5 n5 c5]++msC a.ms,rfl⟩
theorem zn8 (s:FV) (f:Fc) (h1:s.tp.oneCell'=true) (h2:s.bl.oneCell'=true) (h3:s.af.oneCell'=true):(fcC s f).all (·.oneCell')=true:=by
 simp only [fcC,List.all_cons,List.all_nil,h1,h2,h3]
 rfl
theorem zmN (a1:Option Addr) (n1 c1:Nat) (a2:Option Addr) (n2 c2:Nat) (a3:Option Addr) (n3 c3:Nat) (a4:Option Addr) (n4 c4:Nat) (a5:Option Addr) (n5 c5:Nat) (a:Ac) (w:World) (hG:Gl w) (ok:AcOk a):Calls Tryz.prog 130 #[.agg (acA a1 n1 c1 a2 n2 c2 a3 n3 c3 a4 n4 c4 a5 n5 c5 a)] w (InP ([itoa a.fc.pa,itoa a.fc.cl,itoa a.fc.un]) w):=by
 obtain ⟨RL,hRL⟩:=zhm a1 n1 c1 a2 n2 c2 a3 n3 c3 a4 n4 c4 a5 n5 c5 a;obtain ⟨FL,hFL⟩:∃ FL,FL=fcC ⟨.slice a1 n1 c1,.slice a2 n2 c2,.slice a3 n3 c3⟩ a.fc:=⟨_,rfl⟩;rw [<- hFL] at hRL;have hFn:FL.length=23:=by rw [hFL];rfl
 have hF1:FL.all (·.oneCell')=true:=by rw [hFL];exact zn8 _ _ rfl rfl rfl
 have u20:FL.toArray[20]?=some (.int .i64 a.fc.pa):=by rw [hFL];rfl
 have u21:FL.toArray[21]?=some (.int .i64 a.fc.cl):=by rw [hFL];rfl
 have u22:FL.toArray[22]?=some (.int .i64 a.fc.un):=by rw [hFL];rfl
 obtain ⟨V,hV⟩:∃ V,V=acA a1 n1 c1 a2 n2 c2 a3 n3 c3 a4 n4 c4 a5 n5 c5 a:=⟨_,rfl⟩;rw [<- hV] at hRL ⊢;have hx0:=Mod.alloc (Mod.refl (fun _=>False) w) (.cells V 32);have hT:=heap_alloc_new w (.cells V 32);have hwT:w.heap.size<=(w.alloc (.cells V 32)).heap.size:=hx0.size;have hi23:(Tryz.prog.info? 28).map (·.size)=some FL.length:=by rw [hFn];kernel_rfl
 replace hV:=Y hV;replace hG:=Y hG;replace ok:=Y ok;replace hx0:=Y hx0;replace hT:=Y hT;replace hFn:=Y hFn;replace hFL:=Y hFL;replace u20:=Y u20;replace u21:=Y u21;replace u22:=Y u22;replace hF1:=Y hF1;replace hi23:=Y hi23;replace hRL:=Y hRL;go_enter Tryz.func130,Tryz.ntmps130;go_upto_region 1 with fail
 generalize (w.alloc _)=W at hx0 hT hwT ⊢;generalize w.heap.size=T at hT ⊢;have hTl:=hT.o;rw [hRL.o] at hTl;replace hTl:=Y hTl;go_upto_region 2 with (first | (refine zhD rfl 28 _ rfl T 1 [.int .i64 a.kd] FL RL _ _ _ rfl rfl hTl.o Tryz.underlying28 rfl hi23.o ?_) | (refine zab rfl 28 _ _ rfl W.heap.size _ FL.toArray 28 rfl rfl (heap_alloc_new W _) (by have:=hFn.o;simpa using this) (by simpa using hi23.o) (by simpa using hF1.o) (fun WS HS=>?_)))
 have hm2:=(((Mod.alloc (Mod.refl (fun _=>False) W) (.cells zF9 28)).mono (T:=fun k=>W.heap.size<=k) (fun _ h=>h.elim)).then HS.o.2 (fun k _ e=>by omega));have hX2:Ext W WS:=hm2.mono' (fun k h1 h2=>by omega);have hQ:=HS.o.1;have hxS:=hx0.o.trans hX2;generalize W.heap.size=Q at hQ ⊢;clear hm2 HS hTl;have hT0:=Y ((Mod.drew0 (fun _=>False) WS).at hQ id);have hy0:=Y (hxS.drew);clear hT hx0 hQ hxS hX2;refine rS (fun w'=>w'.heap[Q]?=some (.cells FL.toArray 28 (0,0))) [(0,true),(1,true),(3,true),(4,true),(6,true),(7,true),(2,false),(5,false),(8,false),(9,false),(10,true)] hT0.o ?_;generalize WS.drew=W0 at hT0 hy0 ⊢;simp only [zah,List.map_cons,List.map_nil,List.getD_cons_zero,List.getD_cons_succ];repeat (refine zav (by rfl) ?_ (fun w' hC=>?_) ?_;rotate_left;(have q20:w'.cell? ⟨Q,20,none⟩=some (.int .i64 a.fc.pa):=(zaa hC 20).trans u20.o;have q21:w'.cell? ⟨Q,21,none⟩=some (.int .i64 a.fc.cl):=(zaa hC 21).trans u21.o;have q22:w'.cell? ⟨Q,22,none⟩=some (.int .i64 a.fc.un):=(zaa hC 22).trans u22.o;go_simp;try with_reducible rfl);try simp only [Act.put,sA,sZ,sS])
 refine zak (by rfl) (fun K hK=>?_);go_simp;refine (zaw a.fc.pa ok.o.fc.pa W0 (hG.o.ext hy0.o)).mono ?_;rintro e W1 ⟨rfl,hxn⟩;refine hK.o _ _ (hxn.at hT0.o id) ?_;have hT1:=Y (hxn.at hT0.o id);have hy1:=Y (hy0.o.trans hxn);clear hK K hT0 hy0 hxn;try simp only [Act.put,sA,sZ,sS]
 refine zak (by rfl) (fun K hK=>?_);go_simp;refine (zaw a.fc.cl ok.o.fc.cl W1 (hG.o.ext hy1.o)).mono ?_;rintro e W2 ⟨rfl,hxn⟩;refine hK.o _ _ (hxn.at hT1.o id) ?_;have hT2:=Y (hxn.at hT1.o id);have hy2:=Y (hy1.o.trans hxn);clear hK K hT1 hy1 hxn;try simp only [Act.put,sA,sZ,sS]
 refine zak (by rfl) (fun K hK=>?_);go_simp;refine (zaw a.fc.un ok.o.fc.un W2 (hG.o.ext hy2.o)).mono ?_;rintro e W3 ⟨rfl,hxn⟩;refine hK.o _ _ (hxn.at hT2.o id) ?_;have hT3:=Y (hxn.at hT2.o id);have hy3:=Y (hy2.o.trans hxn);clear hK K hT2 hy2 hxn;try simp only [Act.put,sA,sZ,sS]
 refine zak (by rfl) (fun K hK=>?_);go_simp;have hfin:=Y (zaz hy3.o [itoa a.fc.pa,itoa a.fc.cl,itoa a.fc.un] rfl rfl);refine hK.o _ _ ((Mod.alloc (Mod.refl (fun _=>False) W3) _).at hT3.o id) ?_;clear hK K hT3 hy3;try simp only [Act.put,sA,sZ,sS]
 repeat (refine qT ?_)
 refine zar ?_;go_wp2_with fail
 go_ret;exact hfin.o
end Go.Proofs.YtjjfphalcibjfaaGreatDoor
namespace Cdk
open Go Go.RowKit
theorem zgt {P:Program} {l:List Oper} {C:World -> Prop} {i:Nat} {t:Tr} {a:Act} {w:World} {Q:Exit -> Act -> World -> Prop} (o:Oper) (hl:l.getD i default=o) (hw:Region.wanted o (yielded l.toArray a.tmps)=true) (ty:TypeId) (x:Operand) (ho:o.op=.load ty x) (b n:Nat) (pre cs post:List Value) (tt:TypeId) (fr:Nat × Nat) (d:TypeDesc) (hn:n=pre.length) (hx:a.eval x=.pointer (some ⟨b,n,none⟩))
  (hS:∀ w,C w -> w.heap[b]?=some (.cells (pre++(cs++post)).toArray tt fr)) (hu:P.underlying ty=some d) (hd:d.isRow=true) (hi:(P.info? ty).map (·.size)=some cs.length)
  (h:zeW P l Q t C (a.put o.dst (.agg cs.toArray)) w):zeW P l Q (.q i t) C a w:=by
 subst hn hl;exact ⟨_,yieldsIf_load_mid hw ty x ho b pre.length hx cs d (fun w' h'=>zbQ (hS w' h')) hu hd hi,h⟩
end Cdk
namespace Go.Proofs.YtjjfphalcibjfaaGreatDoor
open Go.Shelf Go.RowKit Cdk Scr
theorem zbm {W:World} {k:Nat} {l:List Bs} {cs:Array Value} {n m B:Nat} (hk:W.heap[k]?=some (.cells cs 9 (0,0))) (hcs:(l.flatMap zdz).toArray=cs) (hn:l.length=n) (hm:l.length=m) (hB:B<=k) (hl:n<=1000):Cdk.Own W B 9 1 zdz (.slice (some ⟨k,0,none⟩) n m) l:=by
 subst hcs hn;rw [<- hm];have hf:(l.flatMap zdz).length=l.length:=by rw [flat_length zdz 1 zaC,Nat.mul_one]
 refine ⟨by rw [hf,Nat.mul_one],.inr ⟨k,l.length,_,rfl,hB,hk,Nat.le_refl _,by unfold maxLen;omega,by simp [hf],?_⟩⟩;rw [List.toList_toArray,Nat.mul_one,List.take_of_length_le (Nat.le_of_eq hf)]
theorem zcj {F:Nat -> Prop} {w:World} {ao:Option Addr} {n cap:Nat} {l:List Bs} (h:zbC F w (.slice ao n cap) l):zaJ w ao (l.flatMap zdz)/\(ao=none -> cap=0):=by
 obtain ⟨ao',cap',e,h1,-,-,-,h2⟩:=h;injection e with e1 e2 e3
 subst e1 e3;exact ⟨h1,h2⟩
theorem zgx (g b:Nat) (L:List Bs) (hL:L.length<=100) (a1:Option Addr) (n1 c1:Nat) (a2:Option Addr) (n2 c2:Nat) (a3:Option Addr) (n3 c3:Nat) (a4:Option Addr) (n4 c4:Nat) (a5:Option Addr) (n5 c5:Nat) (a:Ac) (w:World) (hG:Gl w) (ok:I64 a.fc.st) (hb:w.heap[b]?=some (.cells #[clV g] 98 (0,0))) (hg:∀ args w,(callFunc g args).run Tryz.prog w=.ok (.enter g args) w)
  (hin:∀ W,Ext w W -> Calls Tryz.prog g #[.agg (fcA a1 n1 c1 a2 n2 c2 a3 n3 c3 a.fc)] W (InP L W)):Calls Tryz.prog 106 #[.agg (acA a1 n1 c1 a2 n2 c2 a3 n3 c3 a4 n4 c4 a5 n5 c5 a),.pointer (some ⟨b,0,none⟩)] w (InP (itoa a.fc.st::L) w):=by
 obtain ⟨RL,hRL⟩:=zhm a1 n1 c1 a2 n2 c2 a3 n3 c3 a4 n4 c4 a5 n5 c5 a;obtain ⟨FL,hFL⟩:∃ FL,FL=fcC ⟨.slice a1 n1 c1,.slice a2 n2 c2,.slice a3 n3 c3⟩ a.fc:=⟨_,rfl⟩;rw [<- hFL] at hRL;have hFn:FL.length=23:=by rw [hFL];rfl
 have hFA:fcA a1 n1 c1 a2 n2 c2 a3 n3 c3 a.fc=FL.toArray:=by rw [hFL];rfl
 have v4:([Value.int .i64 a.kd]++(FL++RL)).toArray[4]?=some (.int .i64 a.fc.st):=by rw [hFL];rfl
 rw [hFA] at hin;rw [hRL];obtain ⟨V,hV⟩:∃ V,V=([Value.int .i64 a.kd]++(FL++RL)).toArray:=⟨_,rfl⟩;rw [<- hV] at v4 ⊢;have hx0:=Mod.alloc (Mod.refl (fun _=>False) w) (.cells V 32);have hT:=heap_alloc_new w (.cells V 32);have hbT:=hx0.at hb id;have hi23:(Tryz.prog.info? 28).map (·.size)=some FL.length:=by rw [hFn];kernel_rfl
 replace hV:=Y hV;replace hG:=Y hG;replace hx0:=Y hx0;replace hT:=Y hT;replace hbT:=Y hbT;replace hFn:=Y hFn;replace hFL:=Y hFL;replace v4:=Y v4;replace hi23:=Y hi23;replace hin:=Y hin;clear hRL hFA hb;go_enter Tryz.func106,Tryz.ntmps106;go_upto_region 1 with fail
 generalize (w.alloc _)=W at hx0 hT hbT ⊢;generalize w.heap.size=T at hT ⊢;have hC0:=Y (show (W.drew.heap[T]?=some (.cells V 32 (0,0))/\W.drew.heap[b]?=some (.cells #[.func (.func g) #[] #[]] 98 (0,0))) from ⟨hT.o,hbT.o⟩);have hy0:=Y (hx0.o.drew);clear hT hx0 hbT;refine zds (.s (.q 0 (.q 1 (.q 2 (.q 5 (.q 6 (.q 7 (.c1 3 (.c2 4 (.c1 8 (.c1 9 (.q 10 .done))) 8 (.c1 4 (.c1 9 (.q 10 .done))))))))))))
  (by as_aux_lemma=>kernel_rfl) (by as_aux_lemma=>kernel_rfl) (by as_aux_lemma=>kernel_rfl) (by decide) ?_
 refine znb (fun W=>W.heap[T]?=some (.cells V 32 (0,0))/\W.heap[b]?=some (.cells #[.func (.func g) #[] #[]] 98 (0,0))) (fun _ _=>trivial) hC0.o ?_;generalize W.drew=W0 at hC0 hy0 ⊢;refine zcB _ (by simp only [List.getD_cons_zero];rfl) (by rfl) ?_ (fun w' hC=>?_) ?_;rotate_left;(obtain ⟨hC1,hC2⟩:=hC;have q4:w'.cell? ⟨T,4,none⟩=some (.int .i64 a.fc.st):=(zaa hC1 4).trans v4.o;have qb:=cS hC2 0;go_simp;try with_reducible rfl);try simp only [Act.put,sA,sZ,sS]
 refine zcB _ (by simp only [List.getD_cons_succ,List.getD_cons_zero];rfl) (by rfl) ?_ (fun w' hC=>?_) ?_;rotate_left;(obtain ⟨hC1,hC2⟩:=hC;have q4:w'.cell? ⟨T,4,none⟩=some (.int .i64 a.fc.st):=(zaa hC1 4).trans v4.o;have qb:=cS hC2 0;go_simp;try with_reducible rfl);try simp only [Act.put,sA,sZ,sS]
 refine zcB _ (by simp only [List.getD_cons_succ,List.getD_cons_zero];rfl) (by rfl) ?_ (fun w' hC=>?_) ?_;rotate_left;(obtain ⟨hC1,hC2⟩:=hC;have q4:w'.cell? ⟨T,4,none⟩=some (.int .i64 a.fc.st):=(zaa hC1 4).trans v4.o;have qb:=cS hC2 0;go_simp;try with_reducible rfl);try simp only [Act.put,sA,sZ,sS]
 refine zcB _ (by simp only [List.getD_cons_succ,List.getD_cons_zero];rfl) (by rfl) ?_ (fun w' hC=>?_) ?_;rotate_left;(obtain ⟨hC1,hC2⟩:=hC;have q4:w'.cell? ⟨T,4,none⟩=some (.int .i64 a.fc.st):=(zaa hC1 4).trans v4.o;have qb:=cS hC2 0;go_simp;try with_reducible rfl);try simp only [Act.put,sA,sZ,sS]
 refine zcB _ (by simp only [List.getD_cons_succ,List.getD_cons_zero];rfl) (by rfl) ?_ (fun w' hC=>?_) ?_;rotate_left;(obtain ⟨hC1,hC2⟩:=hC;have q4:w'.cell? ⟨T,4,none⟩=some (.int .i64 a.fc.st):=(zaa hC1 4).trans v4.o;have qb:=cS hC2 0;go_simp;try with_reducible rfl);try simp only [Act.put,sA,sZ,sS]
 refine zgt _ (by simp only [List.getD_cons_succ,List.getD_cons_zero];rfl) (by rfl) 28 _ rfl T 1 [.int .i64 a.kd] FL RL _ _ _ rfl rfl (fun W h=>by rw [hV.o] at h;exact h.1) Tryz.underlying28 rfl hi23.o ?_;try simp only [Act.put,sA,sZ,sS]
 refine zb7 _ (by simp only [List.getD_cons_succ,List.getD_cons_zero];rfl) ?_;refine zdG (by rfl) (fun K hK=>?_);go_simp;refine (zaw a.fc.st ok W0 (hG.o.ext hy0.o)).mono ?_;rintro e W1 ⟨rfl,hxn⟩;have hC1:=Y (show (W1.heap[T]?=some (.cells V 32 (0,0))/\W1.heap[b]?=some (.cells #[.func (.func g) #[] #[]] 98 (0,0))) from ⟨hxn.at hC0.o.1 id,hxn.at hC0.o.2 id⟩);refine hK.o _ _ hC1.o ?_;have hy1:=Y (hy0.o.trans hxn);clear hK K hC0 hy0 hxn;try simp only [Act.put,sA,sZ,sS]
 refine zkZ _ _ (by simp only [List.getD_cons_succ,List.getD_cons_zero];rfl) (by simp only [List.getD_cons_succ,List.getD_cons_zero];rfl) ?_ ?_
 ·refine zdG (by rfl) (fun K hK=>?_)
  go_simp;have hxm:=Mod.alloc (Mod.refl (fun _=>False) W1) (.cells #[.string ⟨(itoa a.fc.st).toArray⟩] 9);have hO:=Y (zbm (heap_alloc_new W1 (.cells #[.string ⟨(itoa a.fc.st).toArray⟩] 9)) (l:=[itoa a.fc.st]) rfl rfl rfl hy1.o.size (by simp));have hC2:=Y (show ((W1.alloc (.cells #[.string ⟨(itoa a.fc.st).toArray⟩] 9)).heap[T]?=some (.cells V 32 (0,0))/\(W1.alloc (.cells #[.string ⟨(itoa a.fc.st).toArray⟩] 9)).heap[b]?=some (.cells #[.func (.func g) #[] #[]] 98 (0,0))) from ⟨hxm.at hC1.o.1 id,hxm.at hC1.o.2 id⟩);refine hK.o _ _ hC2.o ?_;have hy2:=Y (hy1.o.trans hxm);clear hK K hxm hC1;generalize (W1.alloc _)=W2 at hO hy2 hC2 ⊢;generalize W1.heap.size=k at hO ⊢;try simp only [Act.put,sA,sZ,sS]
  refine zb7 _ (by simp only [List.getD_cons_succ,List.getD_cons_zero];rfl) ?_;refine zdG (by rfl) (fun K hK=>?_);go_simp;refine (hin.o W2 hy2.o).mono ?_;rintro e W3 ⟨ao,cap,rfl,hr,hxn⟩;have hC3:=Y (show (W3.heap[T]?=some (.cells V 32 (0,0))/\W3.heap[b]?=some (.cells #[.func (.func g) #[] #[]] 98 (0,0))) from ⟨hxn.at hC2.o.1 id,hxn.at hC2.o.2 id⟩);refine hK.o _ _ hC3.o ?_;have hy3:=Y (hy2.o.trans hxn);have hOw:=Y (hO.o.ext hxn);replace hr:=Y hr;clear hK K hxn hC2 hO hy2;try simp only [Act.put,sA,sZ,sS]
  refine zb7 _ (by simp only [List.getD_cons_succ,List.getD_cons_zero];rfl) ?_;refine zdG (by rfl) (fun K hK=>?_);refine zdU _ _ 22 rfl Tryz.underlying22 el9 rfl hOw.o ao L.length cap rfl L rfl (zcj hr.o).1 zaC (fun y hy u hu=>by simp [zdz] at hu;subst hu;rfl) (by simp only [List.length_singleton];omega) hy3.o.size (zcj hr.o).2 (fun v6 w6 H6=>?_);obtain ⟨hO6,hm6⟩:=H6.o;have hx6:=zbi hy3.o hOw.o (Nat.le_refl _) hm6;have hfin:InP (itoa a.fc.st::L) w (.returned v6) w6:=by
   have hl:(itoa a.fc.st::L).length<=1000:=by simp only [List.length_cons];omega
   have hrow:=zbk (l:=itoa a.fc.st::L) hO6 (by omega);obtain ⟨ao6,cap6,rfl,-⟩:=hO6.row;exact ⟨ao6,cap6,rfl,hrow,hx6⟩
  replace hfin:=Y hfin;refine hK.o _ _ ⟨(hm6.at hC3.o.1 (fun e=>?_)),(hm6.at hC3.o.2 (fun e=>?_))⟩ ?_
  ·obtain ⟨c,hc⟩:=hOw.o.cells e
   rw [hC3.o.1] at hc;injection hc with hc;injection hc with _ hc _;revert hc;decide
  ·obtain ⟨c,hc⟩:=hOw.o.cells e
   rw [hC3.o.2] at hc;injection hc with hc;injection hc with _ hc _;revert hc;decide
  clear hK K H6 hO6 hm6 hx6;try simp only [Act.put,sA,sZ,sS]
  refine zcB _ (by simp only [List.getD_cons_succ,List.getD_cons_zero];rfl) (by rfl) ?_ (fun w' hC=>?_) ?_;rotate_left;(go_simp;try with_reducible rfl);try simp only [Act.put,sA,sZ,sS]
  refine zdQ ?_;go_wp2_with fail
  go_ret;exact hfin.o
 ·refine zdG (by rfl) (fun K hK=>?_)
  go_simp;refine (hin.o W1 hy1.o).mono ?_;rintro e W2 ⟨ao,cap,rfl,hr,hxn⟩;have hC2:=Y (show (W2.heap[T]?=some (.cells V 32 (0,0))/\W2.heap[b]?=some (.cells #[.func (.func g) #[] #[]] 98 (0,0))) from ⟨hxn.at hC1.o.1 id,hxn.at hC1.o.2 id⟩);refine hK.o _ _ hC2.o ?_;have hy2:=Y (hy1.o.trans hxn);clear hK K hxn hC1;try simp only [Act.put,sA,sZ,sS]
  refine zb7 _ (by simp only [List.getD_cons_succ,List.getD_cons_zero];rfl) ?_;refine zdG (by rfl) (fun K hK=>?_);go_simp;have hxm:=Mod.alloc (Mod.refl (fun _=>False) W2) (.cells #[.string ⟨(itoa a.fc.st).toArray⟩] 9);have hOw:=Y (zbm (heap_alloc_new W2 (.cells #[.string ⟨(itoa a.fc.st).toArray⟩] 9)) (l:=[itoa a.fc.st]) rfl rfl rfl hy2.o.size (by simp));have hC3:=Y (show ((W2.alloc (.cells #[.string ⟨(itoa a.fc.st).toArray⟩] 9)).heap[T]?=some (.cells V 32 (0,0))/\(W2.alloc (.cells #[.string ⟨(itoa a.fc.st).toArray⟩] 9)).heap[b]?=some (.cells #[.func (.func g) #[] #[]] 98 (0,0))) from ⟨hxm.at hC2.o.1 id,hxm.at hC2.o.2 id⟩);refine hK.o _ _ hC3.o ?_;have hy3:=Y (hy2.o.trans hxm);replace hr:=Y (zac.ext hr hxm);clear hK K hxm hC2 hy2;generalize (W2.alloc _)=W3 at hOw hy3 hC3 hr ⊢;generalize W2.heap.size=k at hOw hr ⊢;try simp only [Act.put,sA,sZ,sS]
  refine zb7 _ (by simp only [List.getD_cons_succ,List.getD_cons_zero];rfl) ?_;refine zdG (by rfl) (fun K hK=>?_);refine zdU _ _ 22 rfl Tryz.underlying22 el9 rfl hOw.o ao L.length cap rfl L rfl (zcj hr.o).1 zaC (fun y hy u hu=>by simp [zdz] at hu;subst hu;rfl) (by simp only [List.length_singleton];omega) hy3.o.size (zcj hr.o).2 (fun v6 w6 H6=>?_);obtain ⟨hO6,hm6⟩:=H6.o;have hx6:=zbi hy3.o hOw.o (Nat.le_refl _) hm6;have hfin:InP (itoa a.fc.st::L) w (.returned v6) w6:=by
   have hl:(itoa a.fc.st::L).length<=1000:=by simp only [List.length_cons];omega
   have hrow:=zbk (l:=itoa a.fc.st::L) hO6 (by omega);obtain ⟨ao6,cap6,rfl,-⟩:=hO6.row;exact ⟨ao6,cap6,rfl,hrow,hx6⟩
  replace hfin:=Y hfin;refine hK.o _ _ ⟨(hm6.at hC3.o.1 (fun e=>?_)),(hm6.at hC3.o.2 (fun e=>?_))⟩ ?_
  ·obtain ⟨c,hc⟩:=hOw.o.cells e
   rw [hC3.o.1] at hc;injection hc with hc;injection hc with _ hc _;revert hc;decide
  ·obtain ⟨c,hc⟩:=hOw.o.cells e
   rw [hC3.o.2] at hc;injection hc with hc;injection hc with _ hc _;revert hc;decide
  clear hK K H6 hO6 hm6 hx6;try simp only [Act.put,sA,sZ,sS]
  refine zcB _ (by simp only [List.getD_cons_succ,List.getD_cons_zero];rfl) (by rfl) ?_ (fun w' hC=>?_) ?_;rotate_left;(go_simp;try with_reducible rfl);try simp only [Act.put,sA,sZ,sS]
  refine zdQ ?_;go_wp2_with fail
  go_ret;exact hfin.o
end Go.Proofs.YtjjfphalcibjfaaGreatDoor
