import Derived.Test.YtjjfphalcibjfaaGreatDoorH4
set_option maxRecDepth 100000
set_option maxHeartbeats 16000000
namespace Go.Proofs.YtjjfphalcibjfaaGreatDoor
open Go.Shelf Go.RowKit Cdk Scr
theorem zpB {s:Bs} (h:zj6 s=true):s.length<=1000:=by unfold zj6 at h;simp only [Bool.and_eq_true,decide_eq_true_eq] at h;exact h.1
theorem zmK {b:Bk} (h:GoodBk b):(zgR b).length<=2000:=by
 have h1:=zaH [b.id,b.kd];have h2:=zb3 b.tx;have h3:=zaH [b.st,b.rf,b.lb.til,(b.lb.aft.length:Int)];have h4:=zaH b.lb.aft;have h5:=zaH [b.lb.app,b.lb.den];have h6:=h.tx;have h7:=h.lb.len;unfold zgR;simp only [List.length_append,List.length_cons,List.length_nil] at*;omega
theorem zoo {l:List Bk} (h:zec l=true):(zcl l).length<=1000000:=by
 obtain ⟨h1,h2⟩:=zcp h;unfold zcl;rw [if_pos h];have h3:=zay (l.length:Int);have h4:∀ m:List Bk,(∀ b ∈ m,GoodBk b) -> (m.flatMap zgR).length<=m.length*2000:=by
  intro m
  induction m with
  | nil=>intro _;simp
  | cons b m ih=>
   intro hb;have e1:=zmK (hb b (by simp));have e2:=ih (fun x hx=>hb x (List.mem_cons_of_mem _ hx));simp only [List.flatMap_cons,List.length_append,List.length_cons];omega
 have h5:=h4 l h2;simp only [List.length_append];omega
def zm8 (f:Fc):List Bs:=match zcW 1 f.kd 0 forms with
 | some (j,fm)=>fm.wd::zal j { Ac.zero with fc:=f }
 | none=>[]
theorem zmU {n tm kd st:Int} {lg:Bs} {rv bs:Int} {ti au:Bs} {tp:List Bs} {bl:List Bk} {lb:Lb} {ed bk se:Int} {tx nm:Bs} {pa cl un:Int} (h:vFc ⟨n,tm,kd,st,lg,rv,bs,ti,au,tp,bl,lb,ed,bk,se,tx,nm,pa,cl,un⟩=true):0<=st/\st<=1000000:=by
 unfold vFc zaO at h;simp only [Bool.and_eq_true,zam,decide_eq_true_eq] at h;obtain ⟨-,-,hv,hz⟩:=h;repeat' split at hv
 all_goals (simp (config:={ decide:=true }) only [Fc.mk.injEq,Fc.zero, *,if_true,if_false,Bool.and_eq_true,zam] at hv hz)
 all_goals omega
theorem zkj (a1:Option Addr) (n1 c1:Nat) (a2:Option Addr) (n2 c2:Nat) (a3:Option Addr) (n3 c3:Nat) (f:Fc) (w:World) (h:FcAt (fun k=>k < w.heap.size) w ⟨.slice a1 n1 c1,.slice a2 n2 c2,.slice a3 n3 c3⟩ f) (hv:vFc f=true) (hk:f.kd ≠ 10):
  Calls Tryz.prog 73 #[.agg (fcA a1 n1 c1 a2 n2 c2 a3 n3 c3 f)] w (InP (zm8 f) w):=by
 obtain ⟨L,hL⟩:∃ L,L=zm8 f:=⟨_,rfl⟩;rw [<- hL];obtain ⟨n,tm,kd,st,lg,rv,bs,ti,au,tp,bl,lb,ed,bk,se,tx,nm,pa,cl,un⟩:=f;simp only at hk;have hTp:=Y h.tp;have hBl:=Y h.bl;have hAf:=Y h.af;clear h;simp only at hTp hBl hAf;obtain ⟨V,hV⟩:∃ V,V=fcA a1 n1 c1 a2 n2 c2 a3 n3 c3 ⟨n,tm,kd,st,lg,rv,bs,ti,au,tp,bl,lb,ed,bk,se,tx,nm,pa,cl,un⟩:=⟨_,rfl⟩;rw [<- hV];have hst:=zmU hv;have h5:=hv;unfold vFc zaO at h5;simp only [Bool.and_eq_true] at h5;have h6:=Y h5.2.2.1;clear h5;have hx0:=Y (Mod.alloc (Mod.refl (fun _=>False) w) (.cells V 28));have hT:=Y (heap_alloc_new w (.cells V 28));have d_st:=Y (fun W=>zaP st (by omega) (by omega) W);obtain ⟨t_st,h_st⟩:∃ t,t=itoa st:=⟨_,rfl⟩;rw [<- h_st] at d_st;replace h_st:=Y h_st;replace hL:=Y hL;replace hv:=Y hv;replace hst:=Y hst;have pc:=fun (i:Nat) (x:Value) (hx:V[i]?=some x)=>Y ((zaa hT.o i).trans hx)
 have v_kd:=pc 2 (.int .i64 kd) (by rw [hV];rfl);have v_st:=pc 3 (.int .i64 st) (by rw [hV];rfl);have v_lg:=pc 4 (.string ⟨lg.toArray⟩) (by rw [hV];rfl);have v_rv:=pc 5 (.int .i64 rv) (by rw [hV];rfl);have v_bs:=pc 6 (.int .i64 bs) (by rw [hV];rfl);have v_ti:=pc 7 (.string ⟨ti.toArray⟩) (by rw [hV];rfl);have v_au:=pc 8 (.string ⟨au.toArray⟩) (by rw [hV];rfl);have v_tp:=pc 9 (.slice a1 n1 c1) (by rw [hV];rfl);have v_bl:=pc 10 (.slice a2 n2 c2) (by rw [hV];rfl);have v_ed:=pc 15 (.int .i64 ed) (by rw [hV];rfl);have v_bk:=pc 16 (.int .i64 bk) (by rw [hV];rfl);have v_se:=pc 17 (.int .i64 se) (by rw [hV];rfl);have v_tx:=pc 18 (.string ⟨tx.toArray⟩) (by rw [hV];rfl);have v_nm:=pc 19 (.string ⟨nm.toArray⟩) (by rw [hV];rfl);have v_pa:=pc 20 (.int .i64 pa) (by rw [hV];rfl);have v_cl:=pc 21 (.int .i64 cl) (by rw [hV];rfl);have v_un:=pc 22 (.int .i64 un) (by rw [hV];rfl);replace hV:=Y hV;clear pc;go_enter Tryz.func73,Tryz.ntmps73;go_upto_region 1 with fail
 generalize (w.alloc _)=W at hx0 hT v_kd v_st v_lg v_rv v_bs v_ti v_au v_tp v_bl v_ed v_bk v_se v_tx v_nm v_pa v_cl v_un ⊢;generalize w.heap.size=T at hT v_kd v_st v_lg v_rv v_bs v_ti v_au v_tp v_bl v_ed v_bk v_se v_tx v_nm v_pa v_cl v_un ⊢;have p_st:=v_st.o;have p_kd:=v_kd.o;clear v_st v_kd;go_wp2_with fail
 refine (d_st.o _).mono ?_;rintro e W1 ⟨rfl,hxn⟩;have p_kd:=hxn.cell p_kd id;replace v_lg:=Y (hxn.cell v_lg.o id);replace v_rv:=Y (hxn.cell v_rv.o id);replace v_bs:=Y (hxn.cell v_bs.o id);replace v_ti:=Y (hxn.cell v_ti.o id);replace v_au:=Y (hxn.cell v_au.o id);replace v_tp:=Y (hxn.cell v_tp.o id);replace v_bl:=Y (hxn.cell v_bl.o id);replace v_ed:=Y (hxn.cell v_ed.o id);replace v_bk:=Y (hxn.cell v_bk.o id);replace v_se:=Y (hxn.cell v_se.o id);replace v_tx:=Y (hxn.cell v_tx.o id);replace v_nm:=Y (hxn.cell v_nm.o id);replace v_pa:=Y (hxn.cell v_pa.o id);replace v_cl:=Y (hxn.cell v_cl.o id);replace v_un:=Y (hxn.cell v_un.o id);have hT1:=Y (hxn.at hT.o id);have hx1:=Y (hx0.o.trans hxn);clear hxn hT hx0 p_st d_st;replace h6:=h6.o;replace hst:=hst.o;repeat' split at h6
 all_goals rename_i hq
 rotate_left 9
 ·cases h6
 ·obtain rfl:=hq
  replace hL:L=[Scr.fRevise,itoa st,lg,itoa rv,itoa bs,au,listW tp,labelW lb,hexW (zcl bl),ti]:=hL.o;rw [<- h_st.o] at hL;replace hv:=hv.o;unfold vFc zaO at hv;simp (config:={ decide:=true }) only [Bool.and_eq_true,zam,decide_eq_true_eq,if_true,if_false] at hv;replace hv:=hv.2.2.1;obtain ⟨_,_,_,_,_,_,htp,hbl,hlb⟩:=hv;have d_rv:=Y (fun W=>zaP rv (by omega) (by omega) W);have d_bs:=Y (fun W=>zaP bs (by omega) (by omega) W);have c_tp:=Y (fun W (hX:Ext w W)=>zgd (.slice a1 n1 c1) tp W (hTp.o.ext hX) (by have:=(zcm htp).1;omega) (fun x hx=>by have:=(zfG ((zcm htp).2 x hx)).2.1;omega));have c_lb:=Y (fun W (hX:Ext w W)=>zfH a3 n3 c3 lb W ((hAf.o.ext hX).mono (fun k hk=>by have:=hX.size;omega)) hlb);have c_hx:=Y (fun W=>zhb (zcl bl) W (zoo hbl));have c_en:=Y (fun W (hX:Ext w W)=>zi0 (.slice a2 n2 c2) bl W ((hBl.o.ext hX).mono (fun k hk=>by have:=hX.size;omega)) hbl);generalize zcl bl=eb at c_en c_hx hL;generalize itoa rv=t_rv at d_rv hL;generalize itoa bs=t_bs at d_bs hL;generalize listW tp=t_tp at c_tp hL;generalize labelW lb=t_lb at c_lb hL;generalize hexW eb=t_bl at c_hx hL;subst hL;clear hst hk h6;try clear hv
  go_upto_region 4 with fail
  have p_bl:=v_bl.o;go_wp2_with fail
  refine (c_en.o _ hx1.o).mono ?_;rintro e W2 ⟨rfl,hxn⟩;replace v_lg:=Y (hxn.cell v_lg.o id);replace v_rv:=Y (hxn.cell v_rv.o id);replace v_bs:=Y (hxn.cell v_bs.o id);replace v_au:=Y (hxn.cell v_au.o id);replace v_tp:=Y (hxn.cell v_tp.o id);replace v_ti:=Y (hxn.cell v_ti.o id);have hT2:=Y (hxn.at hT1.o id);have hx2:=Y (hx1.o.trans hxn);clear hxn hT1 hx1 p_bl p_kd c_en;have hTl:=Y (zaD (n:=11) (k:=4) (cs:=(#[.int .i64 lb.til,.slice a3 n3 c3,.int .i64 lb.app,.int .i64 lb.den]:Array Value).toList) hT2.o (by rw [hV.o];rfl));go_upto_region 5 with fail
  have hq:=Y (fun W' (hC:Ext W2 W')=>And.intro (hC.cell v_lg.o id) (And.intro (hC.cell v_rv.o id) (And.intro (hC.cell v_bs.o id) (And.intro (hC.cell v_au.o id) (And.intro (hC.cell v_tp.o id) (hC.cell v_ti.o id))))));go_upto_region 5 with fail
  try simp only [List.append_eq,List.cons_append,List.nil_append]
  refine rS (fun Wx=>Ext W2 Wx) [(0,true),(1,true),(2,true),(3,true),(4,true),(6,true),(7,true),(9,true),(10,true),(11,true),(12,true),(14,true),(15,true),(17,true),(19,true),(20,true),(5,false),(8,false),(13,false),(16,false),(18,false),(21,false),(22,true)] (Mod.drew0 (fun _=>False) W2) ?_;simp only [zah,List.map_cons,List.map_nil,List.getD_cons_zero,List.getD_cons_succ];have hy0:=Y (Mod.drew0 (fun _=>False) W2)
  iterate 12 (refine zav (by rfl) ?_ (fun w' hC=>?_) ?_;rotate_left;(obtain ⟨q0,q1,q2,q3,q4,q5⟩:=hq.o _ hC;go_simp;try with_reducible rfl);try simp only [Act.put,sA,sZ,sS])
  refine zfl (by rfl) 26 _ rfl T 11 #[.int .i64 lb.til,.slice a3 n3 c3,.int .i64 lb.app,.int .i64 lb.den] _ rfl (fun W hW=>zhW hTl.o hW) Tryz.underlying26 rfl (by kernel_rfl) ?_;try simp only [Act.put,sA,sZ,sS]
  iterate 3 (refine zav (by rfl) ?_ (fun w' hC=>?_) ?_;rotate_left;(obtain ⟨q0,q1,q2,q3,q4,q5⟩:=hq.o _ hC;go_simp;try with_reducible rfl);try simp only [Act.put,sA,sZ,sS])
  refine zak (by rfl) (fun K hK=>?_);go_simp;refine (d_rv.o _).mono ?_;rintro e u5 ⟨rfl,hxn⟩;refine hK.o _ _ (hy0.o.trans hxn) ?_;have hy1:=Y (hy0.o.trans hxn);clear hK K hxn;try simp only [Act.put,sA,sZ,sS]
  refine zak (by rfl) (fun K hK=>?_);go_simp;refine (d_bs.o _).mono ?_;rintro e u8 ⟨rfl,hxn⟩;refine hK.o _ _ (hy1.o.trans hxn) ?_;have hy2:=Y (hy1.o.trans hxn);clear hK K hxn;try simp only [Act.put,sA,sZ,sS]
  refine zak (by rfl) (fun K hK=>?_);go_simp;refine (c_tp.o _ (hx2.o.trans hy2.o)).mono ?_;rintro e u13 ⟨rfl,rfl⟩;refine hK.o _ _ hy2.o ?_;clear hK K;try simp only [Act.put,sA,sZ,sS]
  refine zak (by rfl) (fun K hK=>?_);go_simp;refine (c_lb.o _ (hx2.o.trans hy2.o)).mono ?_;rintro e u16 ⟨rfl,hxn⟩;refine hK.o _ _ (hy2.o.trans hxn) ?_;have hy3:=Y (hy2.o.trans hxn);clear hK K hxn;try simp only [Act.put,sA,sZ,sS]
  refine zak (by rfl) (fun K hK=>?_);go_simp;refine (c_hx.o _).mono ?_;rintro e u18 ⟨rfl,hxn⟩;refine hK.o _ _ (hy3.o.trans hxn) ?_;have hy4:=Y (hy3.o.trans hxn);clear hK K hxn;try simp only [Act.put,sA,sZ,sS]
  refine zak (by rfl) (fun K hK=>?_);go_simp;have hfin:=Y (zaz (hx2.o.trans hy4.o) [Scr.fRevise,t_st,lg,t_rv,t_bs,au,t_tp,t_lb,t_bl,ti] rfl rfl);refine hK.o _ _ (hy4.o.trans (Mod.alloc (Mod.refl (fun _=>False) _) _)) ?_;clear hK K;try simp only [Act.put,sA,sZ,sS]
  refine zav (by rfl) ?_ (fun w' hC=>?_) ?_;rotate_left;(obtain ⟨q0,q1,q2,q3,q4,q5⟩:=hq.o _ hC;go_simp;try with_reducible rfl);try simp only [Act.put,sA,sZ,sS]
  refine zar ?_;go_wp2_with fail
  go_ret;exact hfin.o
 ·obtain rfl:=hq
  replace hL:L=[Scr.fApprove,itoa st,itoa ed]:=hL.o;rw [<- h_st.o] at hL;replace hv:=hv.o;unfold vFc zaO at hv;simp (config:={ decide:=true }) only [Bool.and_eq_true,zam,decide_eq_true_eq,if_true,if_false] at hv;replace hv:=hv.2.2.1;have d_ed:=Y (fun W=>zaP ed (by omega) (by omega) W);generalize itoa ed=t_ed at d_ed hL;subst hL;clear hst hk h6;try clear hv
  have p_ed:=v_ed.o;go_wp2_with fail
  refine (d_ed.o _).mono ?_;rintro e W2 ⟨rfl,hxn⟩;have hfin:=Y (zaz (hx1.o.trans hxn) [Scr.fApprove,t_st,t_ed] rfl rfl);clear hxn hx1 hT1;go_wp2_with fail
  go_ret;exact hfin.o
 ·obtain rfl:=hq
  replace hL:L=[Scr.fPublish,itoa st,labelW lb]:=hL.o;rw [<- h_st.o] at hL;replace hv:=hv.o;unfold vFc zaO at hv;simp (config:={ decide:=true }) only [Bool.and_eq_true,zam,decide_eq_true_eq,if_true,if_false] at hv;replace hv:=hv.2.2.1;have hlb:=hv.2;have c_lb:=Y (fun W (hX:Ext w W)=>zfH a3 n3 c3 lb W ((hAf.o.ext hX).mono (fun k hk=>by have:=hX.size;omega)) hlb);generalize labelW lb=t_lb at c_lb hL;subst hL;clear hst hk h6;try clear hv
  have hTl:=Y (zaD (n:=11) (k:=4) (cs:=(#[.int .i64 lb.til,.slice a3 n3 c3,.int .i64 lb.app,.int .i64 lb.den]:Array Value).toList) hT1.o (by rw [hV.o];rfl));go_wp2_with (refine zaM (by rfl) 26 _ rfl T 11 #[.int .i64 lb.til,.slice a3 n3 c3,.int .i64 lb.app,.int .i64 lb.den] _ rfl hTl.o Tryz.underlying26 rfl (by kernel_rfl) ?_)
  refine (c_lb.o _ hx1.o).mono ?_;rintro e W2 ⟨rfl,hxn⟩;have hfin:=Y (zaz (hx1.o.trans hxn) [Scr.fPublish,t_st,t_lb] rfl rfl);clear hxn hx1 hT1;go_wp2_with fail
  go_ret;exact hfin.o
 ·obtain rfl:=hq
  replace hL:L=[Scr.fCorrect,itoa st,lg,itoa bk,itoa se,tx]:=hL.o;rw [<- h_st.o] at hL;replace hv:=hv.o;unfold vFc zaO at hv;simp (config:={ decide:=true }) only [Bool.and_eq_true,zam,decide_eq_true_eq,if_true,if_false] at hv;replace hv:=hv.2.2.1;have d_bk:=Y (fun W=>zaP bk (by omega) (by omega) W);have d_se:=Y (fun W=>zaP se (by omega) (by omega) W);generalize itoa bk=t_bk at d_bk hL;generalize itoa se=t_se at d_se hL;subst hL;clear hst hk h6;try clear hv
  go_upto_region 11 with fail
  clear p_kd;have hq:=Y (fun W' (hC:Ext W1 W')=>And.intro (hC.cell v_lg.o id) (And.intro (hC.cell v_bk.o id) (And.intro (hC.cell v_se.o id) (hC.cell v_tx.o id))));go_upto_region 11 with fail
  try simp only [List.append_eq,List.cons_append,List.nil_append]
  refine rS (fun Wx=>Ext W1 Wx) [(0,true),(1,true),(2,true),(3,true),(4,true),(6,true),(7,true),(9,true),(10,true),(5,false),(8,false),(11,false),(12,true)] (Mod.drew0 (fun _=>False) W1) ?_;simp only [zah,List.map_cons,List.map_nil,List.getD_cons_zero,List.getD_cons_succ];have hy0:=Y (Mod.drew0 (fun _=>False) W1)
  iterate 9 (refine zav (by rfl) ?_ (fun w' hC=>?_) ?_;rotate_left;(obtain ⟨q0,q1,q2,q3⟩:=hq.o _ hC;go_simp;try with_reducible rfl);try simp only [Act.put,sA,sZ,sS])
  refine zak (by rfl) (fun K hK=>?_);go_simp;refine (d_bk.o _).mono ?_;rintro e u5 ⟨rfl,hxn⟩;refine hK.o _ _ (hy0.o.trans hxn) ?_;have hy1:=Y (hy0.o.trans hxn);clear hK K hxn;try simp only [Act.put,sA,sZ,sS]
  refine zak (by rfl) (fun K hK=>?_);go_simp;refine (d_se.o _).mono ?_;rintro e u8 ⟨rfl,hxn⟩;refine hK.o _ _ (hy1.o.trans hxn) ?_;have hy2:=Y (hy1.o.trans hxn);clear hK K hxn;try simp only [Act.put,sA,sZ,sS]
  refine zak (by rfl) (fun K hK=>?_);go_simp;have hfin:=Y (zaz (hx1.o.trans hy2.o) [Scr.fCorrect,t_st,lg,t_bk,t_se,tx] rfl rfl);refine hK.o _ _ (hy2.o.trans (Mod.alloc (Mod.refl (fun _=>False) _) _)) ?_;clear hK K;try simp only [Act.put,sA,sZ,sS]
  refine zav (by rfl) ?_ (fun w' hC=>?_) ?_;rotate_left;(obtain ⟨q0,q1,q2,q3⟩:=hq.o _ hC;go_simp;try with_reducible rfl);try simp only [Act.put,sA,sZ,sS]
  refine zar ?_;go_wp2_with fail
  go_ret;exact hfin.o
 ·obtain rfl:=hq
  replace hL:L=[Scr.fRetract,itoa st,tx]:=hL.o;rw [<- h_st.o] at hL;replace hv:=hv.o;unfold vFc zaO at hv;simp (config:={ decide:=true }) only [Bool.and_eq_true,zam,decide_eq_true_eq,if_true,if_false] at hv;replace hv:=hv.2.2.1;subst hL;clear hst hk h6;try clear hv
  have p_tx:=v_tx.o;have hfin:=Y (zaz hx1.o [Scr.fRetract,t_st,tx] rfl rfl);clear hx1 hT1;go_wp2_with fail
  go_ret;exact hfin.o
 ·obtain rfl:=hq.resolve_right hk
  replace hL:L=[Scr.fTakedown,itoa st]:=hL.o;rw [<- h_st.o] at hL;replace hv:=hv.o;unfold vFc zaO at hv;simp (config:={ decide:=true }) only [Bool.and_eq_true,zam,decide_eq_true_eq,if_true,if_false] at hv;replace hv:=hv.2.2.1;subst hL;clear hst hk h6;try clear hv
  have hfin:=Y (zaz hx1.o [Scr.fTakedown,t_st] rfl rfl);clear hx1 hT1;go_wp2_with fail
  go_ret;exact hfin.o
 ·obtain rfl:=hq
  replace hL:L=[Scr.fTemplate,nm,hexW tx]:=hL.o;replace hv:=hv.o;unfold vFc zaO at hv;simp (config:={ decide:=true }) only [Bool.and_eq_true,zam,decide_eq_true_eq,if_true,if_false] at hv;replace hv:=hv.2.2.1;have hso:=hv.2;have c_hx:=Y (fun W=>zhb (tx) W (by have:=zpB hso;omega));generalize hexW tx=t_tx at c_hx hL;subst hL;clear hst hk h6;try clear hv
  go_upto_region 17 with fail
  clear p_kd;have hq:=Y (fun W' (hC:Ext W1 W')=>And.intro (hC.cell v_nm.o id) (hC.cell v_tx.o id));go_upto_region 17 with fail
  try simp only [List.append_eq,List.cons_append,List.nil_append]
  refine rS (fun Wx=>Ext W1 Wx) [(0,true),(1,true),(2,true),(3,true),(4,false),(5,false),(6,true)] (Mod.drew0 (fun _=>False) W1) ?_;simp only [zah,List.map_cons,List.map_nil,List.getD_cons_zero,List.getD_cons_succ];have hy0:=Y (Mod.drew0 (fun _=>False) W1)
  iterate 4 (refine zav (by rfl) ?_ (fun w' hC=>?_) ?_;rotate_left;(obtain ⟨q0,q1⟩:=hq.o _ hC;go_simp;try with_reducible rfl);try simp only [Act.put,sA,sZ,sS])
  refine zak (by rfl) (fun K hK=>?_);go_simp;refine (c_hx.o _).mono ?_;rintro e u4 ⟨rfl,hxn⟩;refine hK.o _ _ (hy0.o.trans hxn) ?_;have hy1:=Y (hy0.o.trans hxn);clear hK K hxn;try simp only [Act.put,sA,sZ,sS]
  refine zak (by rfl) (fun K hK=>?_);go_simp;have hfin:=Y (zaz (hx1.o.trans hy1.o) [Scr.fTemplate,nm,t_tx] rfl rfl);refine hK.o _ _ (hy1.o.trans (Mod.alloc (Mod.refl (fun _=>False) _) _)) ?_;clear hK K;try simp only [Act.put,sA,sZ,sS]
  refine zav (by rfl) ?_ (fun w' hC=>?_) ?_;rotate_left;(obtain ⟨q0,q1⟩:=hq.o _ hC;go_simp;try with_reducible rfl);try simp only [Act.put,sA,sZ,sS]
  refine zar ?_;go_wp2_with fail
  go_ret;exact hfin.o
 ·obtain rfl:=hq
  replace hL:L=[Scr.fPartner,itoa pa,itoa cl,itoa un]:=hL.o;replace hv:=hv.o;unfold vFc zaO at hv;simp (config:={ decide:=true }) only [Bool.and_eq_true,zam,decide_eq_true_eq,if_true,if_false] at hv;replace hv:=hv.2.2.1;have d_pa:=Y (fun W=>zaP pa (by omega) (by omega) W);have d_cl:=Y (fun W=>zaP cl (by omega) (by omega) W);have d_un:=Y (fun W=>zaP un (by omega) (by omega) W);generalize itoa pa=t_pa at d_pa hL;generalize itoa cl=t_cl at d_cl hL;generalize itoa un=t_un at d_un hL;subst hL;clear hst hk h6;try clear hv
  go_upto_region 19 with fail
  clear p_kd;have hq:=Y (fun W' (hC:Ext W1 W')=>And.intro (hC.cell v_pa.o id) (And.intro (hC.cell v_cl.o id) (hC.cell v_un.o id)));go_upto_region 19 with fail
  try simp only [List.append_eq,List.cons_append,List.nil_append]
  refine rS (fun Wx=>Ext W1 Wx) [(0,true),(1,true),(3,true),(4,true),(6,true),(7,true),(2,false),(5,false),(8,false),(9,false),(10,true)] (Mod.drew0 (fun _=>False) W1) ?_;simp only [zah,List.map_cons,List.map_nil,List.getD_cons_zero,List.getD_cons_succ];have hy0:=Y (Mod.drew0 (fun _=>False) W1)
  iterate 6 (refine zav (by rfl) ?_ (fun w' hC=>?_) ?_;rotate_left;(obtain ⟨q0,q1,q2⟩:=hq.o _ hC;go_simp;try with_reducible rfl);try simp only [Act.put,sA,sZ,sS])
  refine zak (by rfl) (fun K hK=>?_);go_simp;refine (d_pa.o _).mono ?_;rintro e u2 ⟨rfl,hxn⟩;refine hK.o _ _ (hy0.o.trans hxn) ?_;have hy1:=Y (hy0.o.trans hxn);clear hK K hxn;try simp only [Act.put,sA,sZ,sS]
  refine zak (by rfl) (fun K hK=>?_);go_simp;refine (d_cl.o _).mono ?_;rintro e u5 ⟨rfl,hxn⟩;refine hK.o _ _ (hy1.o.trans hxn) ?_;have hy2:=Y (hy1.o.trans hxn);clear hK K hxn;try simp only [Act.put,sA,sZ,sS]
  refine zak (by rfl) (fun K hK=>?_);go_simp;refine (d_un.o _).mono ?_;rintro e u8 ⟨rfl,hxn⟩;refine hK.o _ _ (hy2.o.trans hxn) ?_;have hy3:=Y (hy2.o.trans hxn);clear hK K hxn;try simp only [Act.put,sA,sZ,sS]
  refine zak (by rfl) (fun K hK=>?_);go_simp;have hfin:=Y (zaz (hx1.o.trans hy3.o) [Scr.fPartner,t_pa,t_cl,t_un] rfl rfl);refine hK.o _ _ (hy3.o.trans (Mod.alloc (Mod.refl (fun _=>False) _) _)) ?_;clear hK K;try simp only [Act.put,sA,sZ,sS]
  refine zav (by rfl) ?_ (fun w' hC=>?_) ?_;rotate_left;(obtain ⟨q0,q1,q2⟩:=hq.o _ hC;go_simp;try with_reducible rfl);try simp only [Act.put,sA,sZ,sS]
  refine zar ?_;go_wp2_with fail
  go_ret;exact hfin.o
 ·obtain rfl:=hq
  replace hL:L=[Scr.fLease,itoa pa,itoa un]:=hL.o;replace hv:=hv.o;unfold vFc zaO at hv;simp (config:={ decide:=true }) only [Bool.and_eq_true,zam,decide_eq_true_eq,if_true,if_false] at hv;replace hv:=hv.2.2.1;have d_pa:=Y (fun W=>zaP pa (by omega) (by omega) W);have d_un:=Y (fun W=>zaP un (by omega) (by omega) W);generalize itoa pa=t_pa at d_pa hL;generalize itoa un=t_un at d_un hL;subst hL;clear hst hk h6;try clear hv
  go_upto_region 20 with fail
  clear p_kd;have hq:=Y (fun W' (hC:Ext W1 W')=>And.intro (hC.cell v_pa.o id) (hC.cell v_un.o id));go_upto_region 20 with fail
  try simp only [List.append_eq,List.cons_append,List.nil_append]
  refine rS (fun Wx=>Ext W1 Wx) [(0,true),(1,true),(3,true),(4,true),(2,false),(5,false),(6,false),(7,true)] (Mod.drew0 (fun _=>False) W1) ?_;simp only [zah,List.map_cons,List.map_nil,List.getD_cons_zero,List.getD_cons_succ];have hy0:=Y (Mod.drew0 (fun _=>False) W1)
  iterate 4 (refine zav (by rfl) ?_ (fun w' hC=>?_) ?_;rotate_left;(obtain ⟨q0,q1⟩:=hq.o _ hC;go_simp;try with_reducible rfl);try simp only [Act.put,sA,sZ,sS])
  refine zak (by rfl) (fun K hK=>?_);go_simp;refine (d_pa.o _).mono ?_;rintro e u2 ⟨rfl,hxn⟩;refine hK.o _ _ (hy0.o.trans hxn) ?_;have hy1:=Y (hy0.o.trans hxn);clear hK K hxn;try simp only [Act.put,sA,sZ,sS]
  refine zak (by rfl) (fun K hK=>?_);go_simp;refine (d_un.o _).mono ?_;rintro e u5 ⟨rfl,hxn⟩;refine hK.o _ _ (hy1.o.trans hxn) ?_;have hy2:=Y (hy1.o.trans hxn);clear hK K hxn;try simp only [Act.put,sA,sZ,sS]
  refine zak (by rfl) (fun K hK=>?_);go_simp;have hfin:=Y (zaz (hx1.o.trans hy2.o) [Scr.fLease,t_pa,t_un] rfl rfl);refine hK.o _ _ (hy2.o.trans (Mod.alloc (Mod.refl (fun _=>False) _) _)) ?_;clear hK K;try simp only [Act.put,sA,sZ,sS]
  refine zav (by rfl) ?_ (fun w' hC=>?_) ?_;rotate_left;(obtain ⟨q0,q1⟩:=hq.o _ hC;go_simp;try with_reducible rfl);try simp only [Act.put,sA,sZ,sS]
  refine zar ?_;go_wp2_with fail
  go_ret;exact hfin.o
theorem zhO {j:Nat} (hj:j < 9) {kd n cl:Int} {fc:Fc} {tx:Bs} {fa ke:List Int} {ms:Ms}:zal j ⟨kd,fc,n,cl,tx,fa,ke,ms⟩=zal j { Ac.zero with fc:=fc }:=by
 have:j=0 \/ j=1 \/ j=2 \/ j=3 \/ j=4 \/ j=5 \/ j=6 \/ j=7 \/ j=8:=by omega
 rcases this with rfl | rfl | rfl | rfl | rfl | rfl | rfl | rfl | rfl <;> rfl
theorem zno:∀ (l:List Fm) (k:Nat) {kd fk:Int} {j:Nat} {fm:Fm},zcW kd fk k l=some (j,fm) -> fm ∈ l
 | [],_,_,_,_,_,h=>by cases h
 | f::r,k,kd,fk,j,fm,h=>by
  rw [zcW] at h;split at h
  ·injection h with h;injection h with _ h;subst h;simp
  ·exact List.mem_cons_of_mem _ (zno r (k+1) h)
theorem zpK {kd fk:Int} {j:Nat} {fm:Fm} (h:zcW kd fk 0 forms=some (j,fm)):fm.wd.length<=3000000:=by
 have:∀ f ∈ forms,f.wd.length<=3000000:=by decide
 exact this fm (zno _ _ h)
theorem zmV {m:Ms} (hv:vMs m=true):(zf1 m).length<=1000000:=by
 have h0:=(zdh hv).da;have h1:=zaH [m.kd,m.pa,m.sq,m.st,m.ba,m.ve];have h2:=zb3 m.da;have h3:=zay (crc (zbW m));unfold zf1;rw [if_pos hv];unfold zbW at h3 ⊢;simp only [List.length_append,List.length_cons,List.length_nil] at h1 ⊢;omega
theorem zm4 {f:Fc} (hv:vFc f=true) (hk:f.kd ≠ 10):∃ (j:Nat) (fm:Fm),zcW 1 f.kd 0 forms=some (j,fm)/\j < 9/\zm8 f=fm.wd::zal j { Ac.zero with fc:=f }:=by
 have h5:=hv;unfold vFc zaO at h5;simp only [Bool.and_eq_true] at h5;have h6:=h5.2.2.1;unfold zm8;repeat' split at h6
 all_goals rename_i hq
 rotate_left 9
 ·cases h6
 all_goals (first | replace hq:=hq.resolve_right hk | skip)
 all_goals (rw [hq];exact ⟨_,_,rfl,by decide,rfl⟩)
theorem zlX {a:Ac} (hv:vAc a=true):a.kd=1 \/ a.kd=2 \/ a.kd=3 \/ a.kd=4 \/ a.kd=5 \/ a.kd=6 \/ a.kd=7 \/ a.kd=8 \/ a.kd=9 \/ a.kd=10:=by
 by_cases h:a.kd=1 \/ a.kd=2 \/ a.kd=3 \/ a.kd=4 \/ a.kd=5 \/ a.kd=6 \/ a.kd=7 \/ a.kd=8 \/ a.kd=9 \/ a.kd=10
 ·exact h
 ·simp only [not_or] at h
  unfold vAc zaS at hv;simp [h] at hv
theorem za9 {kd n cl:Int} {fc:Fc} {tx:Bs} {fa ke:List Int} {ms:Ms} (hv:vAc ⟨kd,fc,n,cl,tx,fa,ke,ms⟩=true) (hk:kd ≠ 1) (j:Nat) (nm:Bs) (hf:zcW kd 0 0 forms=some (j,⟨kd,0,nm⟩)) (_hj:9<=j) (hj7:j=17 -> kd=8) (hn:nm.length<=3000000):
  line ⟨kd,fc,n,cl,tx,fa,ke,ms⟩=Scr.join 32 (nm::zal j ⟨kd,fc,n,cl,tx,fa,ke,ms⟩)/\∀ x ∈ nm::zal j ⟨kd,fc,n,cl,tx,fa,ke,ms⟩,x.length<=3000000:=by
 obtain ⟨ok,hm8⟩:=zjk hv;have hle:=(zeS ok (j:=j) (fun h=>hm8 (hj7 h))).2;unfold vAc at hv;rw [Bool.and_eq_true] at hv;have ho:=congrArg Ac.fc (of_decide_eq_true hv.2);have hfc:fc.kd=0:=by
  unfold zfE at ho;simp only [hk,if_false] at ho;repeat' split at ho
  all_goals (simp only [Ac.zero] at ho;rw [ho];rfl)
 refine ⟨by unfold line;simp only [hfc,hf],fun x hx=>?_⟩;rcases List.mem_cons.1 hx with rfl | hx
 ·exact hn
 ·exact hle x hx
theorem zlq (a1:Option Addr) (n1 c1:Nat) (a2:Option Addr) (n2 c2:Nat) (a3:Option Addr) (n3 c3:Nat) (a4:Option Addr) (n4 c4:Nat) (a5:Option Addr) (n5 c5:Nat) (a:Ac) (w:World) (h:AcAt (fun k=>k < w.heap.size) w ⟨⟨.slice a1 n1 c1,.slice a2 n2 c2,.slice a3 n3 c3⟩,.slice a4 n4 c4,.slice a5 n5 c5⟩ a) (hv:vAc a=true):
  Calls Tryz.prog 48 #[.agg (acA a1 n1 c1 a2 n2 c2 a3 n3 c3 a4 n4 c4 a5 n5 c5 a)] w fun e w'=>e=.returned (.string ⟨(line a).toArray⟩)/\Ext w w':=by
 have h10:=zlX hv;obtain ⟨kd,fc,n,cl,tx,fa,ke,ms⟩:=a;simp only at h10;have hF:=Y h.fc;have hFa:=Y h.fa;have hKe:=Y h.ke;clear h;simp only at hF hFa hKe;obtain ⟨tz,htz⟩:∃ tz,tz=line ⟨kd,fc,n,cl,tx,fa,ke,ms⟩:=⟨_,rfl⟩;rw [<- htz];obtain ⟨V,hV⟩:∃ V,V=acA a1 n1 c1 a2 n2 c2 a3 n3 c3 a4 n4 c4 a5 n5 c5 ⟨kd,fc,n,cl,tx,fa,ke,ms⟩:=⟨_,rfl⟩;rw [<- hV];have hx0:=Y (Mod.alloc (Mod.refl (fun _=>False) w) (.cells V 32));have hT:=Y (heap_alloc_new w (.cells V 32));have pc:=fun (i:Nat) (x:Value) (hx:V[i]?=some x)=>Y ((zaa hT.o i).trans hx)
 have v_kd:=pc 0 (.int .i64 kd) (by rw [hV];rfl);have v_n:=pc 24 (.int .i64 n) (by rw [hV];rfl);have v_cl:=pc 25 (.int .i64 cl) (by rw [hV];rfl);have v_tx:=pc 26 (.string ⟨tx.toArray⟩) (by rw [hV];rfl);have v_fa:=pc 27 (.slice a4 n4 c4) (by rw [hV];rfl);have v_ke:=pc 28 (.slice a5 n5 c5) (by rw [hV];rfl);replace hV:=Y hV;replace htz:=Y htz;replace hv:=Y hv;replace h10:=Y h10;clear pc;go_enter Tryz.func48,Tryz.ntmps48;go_upto_region 2 with fail
 generalize (w.alloc _)=W at hx0 hT v_kd v_n v_cl v_tx v_fa v_ke ⊢;generalize w.heap.size=T at hT v_kd v_n v_cl v_tx v_fa v_ke ⊢;replace hv:=hv.o;rcases h10.o with rfl | rfl | rfl | rfl | rfl | rfl | rfl | rfl | rfl | rfl
 ·have hv0:=hv
  have p_kd:=v_kd.o;unfold vAc zaS at hv;simp (config:={ decide:=true }) only [if_true,Bool.and_eq_true,decide_eq_true_eq,Bool.not_eq_true',decide_eq_false_iff_not] at hv;obtain ⟨⟨-,-,hnk,hvf⟩,-⟩:=hv;obtain ⟨j,fm,hff,hj,hL⟩:=zm4 hvf hnk;obtain ⟨ok,-⟩:=zjk hv0;have hwl:=zeS ok (j:=j) (by omega);rw [zhO hj] at hwl;have hwd:=zpK hff;replace htz:tz=Scr.join 32 (zm8 fc):=by rw [htz.o];unfold line;simp only [hff];rw [zhO hj,hL]
  have hcl:=Y (fun W (hX:Ext w W)=>zkj a1 n1 c1 a2 n2 c2 a3 n3 c3 fc W ((hF.o.ext hX).mono (fun k hk=>by have:=hX.size;omega)) hvf hnk);have hle:∀ x ∈ zm8 fc,x.length<=3000000:=fun x hx=>by
   rw [hL] at hx;rcases List.mem_cons.1 hx with rfl | hx
   ·exact hwd
   ·exact hwl.2 x hx
  have hln:(zm8 fc).length<=10:=by rw [hL];exact Nat.succ_le_succ hwl.1
  generalize zm8 fc=L at htz hcl hle hln;clear hL hff hwl hwd ok;replace htz:=Y htz;replace hle:=Y hle;have hTl:=Y (zaD (n:=1) (k:=23) (cs:=(fcA a1 n1 c1 a2 n2 c2 a3 n3 c3 fc).toList) hT.o (by rw [hV.o];rfl));obtain ⟨FV,hFV⟩:∃ FV,FV=fcA a1 n1 c1 a2 n2 c2 a3 n3 c3 fc:=⟨_,rfl⟩;have iF:=Y (show (Tryz.prog.info? 28).map (·.size)=some FV.size by rw [hFV];kernel_rfl);rw [<- hFV] at hTl hcl;replace hFV:=Y hFV;go_upto_region 23 with (refine zaM (by rfl) 28 _ rfl T 1 FV _ rfl hTl.o Tryz.underlying28 rfl iF.o ?_)
  refine (hcl.o _ hx0.o).mono ?_;rintro e W1 ⟨ao,cap,rfl,hO,hxn⟩;have hx1:=Y (hx0.o.trans hxn);have hjn:=Y (zbg _ L 32 _ hO (by omega) hle.o);clear hxn hx0 hT hTl p_kd hcl hO;go_wp2_with fail
  refine hjn.o.mono ?_;rintro e W3 ⟨rfl,rfl⟩;go_wp2_with fail
  go_ret;exact ⟨by rw [htz.o];try rfl,hx1.o⟩
 ·have p_kd:=v_kd.o
  obtain ⟨htz',hle⟩:=za9 hv (by decide) 9 Scr.fTick rfl (by decide) (by decide) (by decide);rw [<- htz.o] at htz';simp only [zal] at htz' hle;replace htz:=htz';clear htz';unfold vAc zaS at hv;simp (config:={ decide:=true }) only [if_true,if_false,Bool.and_eq_true,zam] at hv;replace hv:=hv.1;have hr:=hv;have d_n:=Y (fun W=>zaP n (by omega) (by omega) W);generalize itoa n=t_n at d_n htz hle;replace htz:=Y htz;replace hle:=Y hle;have p_n:=v_n.o;go_wp2_with fail
  refine (d_n.o _).mono ?_;rintro e W1 ⟨rfl,hxn⟩;have hx1:=Y ((hx0.o.trans hxn).alloc (.cells #[.string ⟨#[116,105,99,107]⟩,.string ⟨t_n.toArray⟩] 9));have hO:=zbk (zbm (B:=0) (heap_alloc_new W1 (.cells #[.string ⟨#[116,105,99,107]⟩,.string ⟨t_n.toArray⟩] 9)) (l:=[Scr.fTick,t_n]) rfl rfl rfl (Nat.zero_le _) (by simp)) (by simp);have hjn:=Y (zbg _ [Scr.fTick,t_n] 32 _ hO (by simp) hle.o);clear hxn hO hx0 hT p_kd p_n;go_wp2_with fail
  refine hjn.o.mono ?_;rintro e W3 ⟨rfl,rfl⟩;go_wp2_with fail
  go_ret;exact ⟨by rw [htz.o];try rfl,hx1.o⟩
 ·have p_kd:=v_kd.o
  obtain ⟨htz',hle⟩:=za9 hv (by decide) 10 Scr.fClock rfl (by decide) (by decide) (by decide);rw [<- htz.o] at htz';simp only [zal] at htz' hle;replace htz:=htz';clear htz';unfold vAc zaS at hv;simp (config:={ decide:=true }) only [if_true,if_false,Bool.and_eq_true,zam] at hv;replace hv:=hv.1;have hr:=hv;have d_n:=Y (fun W=>zaP n (by omega) (by omega) W);generalize itoa n=t_n at d_n htz hle;replace htz:=Y htz;replace hle:=Y hle;have p_n:=v_n.o;go_wp2_with fail
  refine (d_n.o _).mono ?_;rintro e W1 ⟨rfl,hxn⟩;have hx1:=Y ((hx0.o.trans hxn).alloc (.cells #[.string ⟨#[99,108,111,99,107]⟩,.string ⟨t_n.toArray⟩] 9));have hO:=zbk (zbm (B:=0) (heap_alloc_new W1 (.cells #[.string ⟨#[99,108,111,99,107]⟩,.string ⟨t_n.toArray⟩] 9)) (l:=[Scr.fClock,t_n]) rfl rfl rfl (Nat.zero_le _) (by simp)) (by simp);have hjn:=Y (zbg _ [Scr.fClock,t_n] 32 _ hO (by simp) hle.o);clear hxn hO hx0 hT p_kd p_n;go_wp2_with fail
  refine hjn.o.mono ?_;rintro e W3 ⟨rfl,rfl⟩;go_wp2_with fail
  go_ret;exact ⟨by rw [htz.o];try rfl,hx1.o⟩
 ·have p_kd:=v_kd.o
  obtain ⟨htz',hle⟩:=za9 hv (by decide) 12 Scr.fFates rfl (by decide) (by decide) (by decide);rw [<- htz.o] at htz';simp only [zal] at htz' hle;replace htz:=htz';clear htz';unfold vAc zaS at hv;simp (config:={ decide:=true }) only [if_true,if_false,Bool.and_eq_true] at hv;replace hv:=hv.1;have hls:=hv;have c_fa:=Y (fun W (hX:Ext w W)=>zem (.slice a4 n4 c4) fa (fun x hx=>by have:=(zeF hls).2 x hx;omega) W (fun k hk=>by have:=hX.size;omega) (hFa.o.ext hX) (by have:=(zeF hls).1;omega));generalize listW (fa.map itoa)=t_fa at c_fa htz hle;replace htz:=Y htz;replace hle:=Y hle;have p_fa:=v_fa.o;go_wp2_with fail
  refine (c_fa.o _ hx0.o).mono ?_;rintro e W1 ⟨rfl,hxn⟩;have hx1:=Y ((hx0.o.trans hxn).alloc (.cells #[.string ⟨#[102,97,116,101,115]⟩,.string ⟨t_fa.toArray⟩] 9));have hO:=zbk (zbm (B:=0) (heap_alloc_new W1 (.cells #[.string ⟨#[102,97,116,101,115]⟩,.string ⟨t_fa.toArray⟩] 9)) (l:=[Scr.fFates,t_fa]) rfl rfl rfl (Nat.zero_le _) (by simp)) (by simp);have hjn:=Y (zbg _ [Scr.fFates,t_fa] 32 _ hO (by simp) hle.o);clear hxn hO hx0 hT p_kd p_fa;go_wp2_with fail
  refine hjn.o.mono ?_;rintro e W3 ⟨rfl,rfl⟩;go_wp2_with fail
  go_ret;exact ⟨by rw [htz.o];try rfl,hx1.o⟩
 ·have p_kd:=v_kd.o
  obtain ⟨htz',hle⟩:=za9 hv (by decide) 13 Scr.fCrash rfl (by decide) (by decide) (by decide);rw [<- htz.o] at htz';simp only [zal] at htz' hle;replace htz:=htz';clear htz';unfold vAc zaS at hv;simp (config:={ decide:=true }) only [if_true,if_false,Bool.and_eq_true,zam] at hv;replace hv:=hv.1;obtain ⟨hr,hls⟩:=hv;have d_n:=Y (fun W=>zaP n (by omega) (by omega) W);have c_ke:=Y (fun W (hX:Ext w W)=>zem (.slice a5 n5 c5) ke (fun x hx=>by have:=(zeF hls).2 x hx;omega) W (fun k hk=>by have:=hX.size;omega) (hKe.o.ext hX) (by have:=(zeF hls).1;omega));generalize itoa n=t_n at d_n htz hle;generalize listW (ke.map itoa)=t_ke at c_ke htz hle;replace htz:=Y htz;replace hle:=Y hle;go_upto_region 13 with fail
  clear p_kd;have hq:=Y (fun W' (hC:Ext W W')=>And.intro (hC.cell v_n.o id) (hC.cell v_ke.o id));go_upto_region 13 with fail
  try simp only [List.append_eq,List.cons_append,List.nil_append]
  refine rS (fun Wx=>Ext W Wx) [(0,true),(1,true),(3,true),(4,true),(2,false),(5,false),(6,false),(7,true)] (Mod.drew0 (fun _=>False) W) ?_;simp only [zah,List.map_cons,List.map_nil,List.getD_cons_zero,List.getD_cons_succ];have hy0:=Y (Mod.drew0 (fun _=>False) W)
  iterate 4 (refine zav (by rfl) ?_ (fun w' hC=>?_) ?_;rotate_left;(obtain ⟨q0,q1⟩:=hq.o _ hC;go_simp;try with_reducible rfl);try simp only [Act.put,sA,sZ,sS])
  refine zak (by rfl) (fun K hK=>?_);go_simp;refine (d_n.o _).mono ?_;rintro e u2 ⟨rfl,hxn⟩;refine hK.o _ _ (hy0.o.trans hxn) ?_;have hy1:=Y (hy0.o.trans hxn);clear hK K hxn;try simp only [Act.put,sA,sZ,sS]
  refine zak (by rfl) (fun K hK=>?_);go_simp;refine (c_ke.o _ (hx0.o.trans hy1.o)).mono ?_;rintro e u5 ⟨rfl,hxn⟩;refine hK.o _ _ (hy1.o.trans hxn) ?_;have hy2:=Y (hy1.o.trans hxn);clear hK K hxn;try simp only [Act.put,sA,sZ,sS]
  refine zak (by rfl) (fun K hK=>?_);go_simp;have hO:=zbk (zbm (B:=0) (heap_alloc_new u5 (.cells #[.string ⟨#[99,114,97,115,104]⟩,.string ⟨t_n.toArray⟩,.string ⟨t_ke.toArray⟩] 9)) (l:=[Scr.fCrash,t_n,t_ke]) rfl rfl rfl (Nat.zero_le _) (by simp)) (by simp);have hjn:=Y (zbg _ [Scr.fCrash,t_n,t_ke] 32 _ hO (by simp) hle.o);have hx1:=Y ((hx0.o.trans hy2.o).alloc (.cells #[.string ⟨#[99,114,97,115,104]⟩,.string ⟨t_n.toArray⟩,.string ⟨t_ke.toArray⟩] 9));refine hK.o _ _ (hy2.o.trans (Mod.alloc (Mod.refl (fun _=>False) _) _)) ?_;clear hK K hO;try simp only [Act.put,sA,sZ,sS]
  refine zav (by rfl) ?_ (fun w' hC=>?_) ?_;rotate_left;(obtain ⟨q0,q1⟩:=hq.o _ hC;go_simp;try with_reducible rfl);try simp only [Act.put,sA,sZ,sS]
  refine zar ?_;go_wp2_with fail
  refine hjn.o.mono ?_;rintro e W3 ⟨rfl,rfl⟩;go_wp2_with fail
  go_ret;exact ⟨by rw [htz.o];try rfl,hx1.o⟩
 ·have p_kd:=v_kd.o
  obtain ⟨htz',hle⟩:=za9 hv (by decide) 15 Scr.fGet rfl (by decide) (by decide) (by decide);rw [<- htz.o] at htz';simp only [zal] at htz' hle;replace htz:=htz';clear htz';unfold vAc zaS at hv;simp (config:={ decide:=true }) only [if_true,if_false,Bool.and_eq_true,zam] at hv;replace hv:=hv.1;obtain ⟨hcl,hts⟩:=hv;have d_cl:=Y (fun W=>zaP cl (by omega) (by omega) W);generalize itoa cl=t_cl at d_cl htz hle;replace htz:=Y htz;replace hle:=Y hle;go_upto_region 15 with fail
  clear p_kd;have hq:=Y (fun W' (hC:Ext W W')=>And.intro (hC.cell v_cl.o id) (hC.cell v_tx.o id));go_upto_region 15 with fail
  try simp only [List.append_eq,List.cons_append,List.nil_append]
  refine rS (fun Wx=>Ext W Wx) [(0,true),(1,true),(3,true),(4,true),(2,false),(5,false),(6,true)] (Mod.drew0 (fun _=>False) W) ?_;simp only [zah,List.map_cons,List.map_nil,List.getD_cons_zero,List.getD_cons_succ];have hy0:=Y (Mod.drew0 (fun _=>False) W)
  iterate 4 (refine zav (by rfl) ?_ (fun w' hC=>?_) ?_;rotate_left;(obtain ⟨q0,q1⟩:=hq.o _ hC;go_simp;try with_reducible rfl);try simp only [Act.put,sA,sZ,sS])
  refine zak (by rfl) (fun K hK=>?_);go_simp;refine (d_cl.o _).mono ?_;rintro e u2 ⟨rfl,hxn⟩;refine hK.o _ _ (hy0.o.trans hxn) ?_;have hy1:=Y (hy0.o.trans hxn);clear hK K hxn;try simp only [Act.put,sA,sZ,sS]
  refine zak (by rfl) (fun K hK=>?_);go_simp;have hO:=zbk (zbm (B:=0) (heap_alloc_new u2 (.cells #[.string ⟨#[103,101,116]⟩,.string ⟨t_cl.toArray⟩,.string ⟨tx.toArray⟩] 9)) (l:=[Scr.fGet,t_cl,tx]) rfl rfl rfl (Nat.zero_le _) (by simp)) (by simp);have hjn:=Y (zbg _ [Scr.fGet,t_cl,tx] 32 _ hO (by simp) hle.o);have hx1:=Y ((hx0.o.trans hy1.o).alloc (.cells #[.string ⟨#[103,101,116]⟩,.string ⟨t_cl.toArray⟩,.string ⟨tx.toArray⟩] 9));refine hK.o _ _ (hy1.o.trans (Mod.alloc (Mod.refl (fun _=>False) _) _)) ?_;clear hK K hO;try simp only [Act.put,sA,sZ,sS]
  refine zav (by rfl) ?_ (fun w' hC=>?_) ?_;rotate_left;(obtain ⟨q0,q1⟩:=hq.o _ hC;go_simp;try with_reducible rfl);try simp only [Act.put,sA,sZ,sS]
  refine zar ?_;go_wp2_with fail
  refine hjn.o.mono ?_;rintro e W3 ⟨rfl,rfl⟩;go_wp2_with fail
  go_ret;exact ⟨by rw [htz.o];try rfl,hx1.o⟩
 ·have p_kd:=v_kd.o
  obtain ⟨htz',hle⟩:=za9 hv (by decide) 16 Scr.fSearch rfl (by decide) (by decide) (by decide);rw [<- htz.o] at htz';simp only [zal] at htz' hle;replace htz:=htz';clear htz';unfold vAc zaS at hv;simp (config:={ decide:=true }) only [if_true,if_false,Bool.and_eq_true,zam] at hv;replace hv:=hv.1;obtain ⟨hcl,hr,hts⟩:=hv;have d_cl:=Y (fun W=>zaP cl (by omega) (by omega) W);have d_n:=Y (fun W=>zaP n (by omega) (by omega) W);generalize itoa cl=t_cl at d_cl htz hle;generalize itoa n=t_n at d_n htz hle;replace htz:=Y htz;replace hle:=Y hle;go_upto_region 17 with fail
  clear p_kd;have hq:=Y (fun W' (hC:Ext W W')=>And.intro (hC.cell v_cl.o id) (And.intro (hC.cell v_n.o id) (hC.cell v_tx.o id)));go_upto_region 17 with fail
  try simp only [List.append_eq,List.cons_append,List.nil_append]
  refine rS (fun Wx=>Ext W Wx) [(0,true),(1,true),(3,true),(4,true),(6,true),(7,true),(2,false),(5,false),(8,false),(9,true)] (Mod.drew0 (fun _=>False) W) ?_;simp only [zah,List.map_cons,List.map_nil,List.getD_cons_zero,List.getD_cons_succ];have hy0:=Y (Mod.drew0 (fun _=>False) W)
  iterate 6 (refine zav (by rfl) ?_ (fun w' hC=>?_) ?_;rotate_left;(obtain ⟨q0,q1,q2⟩:=hq.o _ hC;go_simp;try with_reducible rfl);try simp only [Act.put,sA,sZ,sS])
  refine zak (by rfl) (fun K hK=>?_);go_simp;refine (d_cl.o _).mono ?_;rintro e u2 ⟨rfl,hxn⟩;refine hK.o _ _ (hy0.o.trans hxn) ?_;have hy1:=Y (hy0.o.trans hxn);clear hK K hxn;try simp only [Act.put,sA,sZ,sS]
  refine zak (by rfl) (fun K hK=>?_);go_simp;refine (d_n.o _).mono ?_;rintro e u5 ⟨rfl,hxn⟩;refine hK.o _ _ (hy1.o.trans hxn) ?_;have hy2:=Y (hy1.o.trans hxn);clear hK K hxn;try simp only [Act.put,sA,sZ,sS]
  refine zak (by rfl) (fun K hK=>?_);go_simp;have hO:=zbk (zbm (B:=0) (heap_alloc_new u5 (.cells #[.string ⟨#[115,101,97,114,99,104]⟩,.string ⟨t_cl.toArray⟩,.string ⟨t_n.toArray⟩,.string ⟨tx.toArray⟩] 9)) (l:=[Scr.fSearch,t_cl,t_n,tx]) rfl rfl rfl (Nat.zero_le _) (by simp)) (by simp);have hjn:=Y (zbg _ [Scr.fSearch,t_cl,t_n,tx] 32 _ hO (by simp) hle.o);have hx1:=Y ((hx0.o.trans hy2.o).alloc (.cells #[.string ⟨#[115,101,97,114,99,104]⟩,.string ⟨t_cl.toArray⟩,.string ⟨t_n.toArray⟩,.string ⟨tx.toArray⟩] 9));refine hK.o _ _ (hy2.o.trans (Mod.alloc (Mod.refl (fun _=>False) _) _)) ?_;clear hK K hO;try simp only [Act.put,sA,sZ,sS]
  refine zav (by rfl) ?_ (fun w' hC=>?_) ?_;rotate_left;(obtain ⟨q0,q1,q2⟩:=hq.o _ hC;go_simp;try with_reducible rfl);try simp only [Act.put,sA,sZ,sS]
  refine zar ?_;go_wp2_with fail
  refine hjn.o.mono ?_;rintro e W3 ⟨rfl,rfl⟩;go_wp2_with fail
  go_ret;exact ⟨by rw [htz.o];try rfl,hx1.o⟩
 ·have p_kd:=v_kd.o
  obtain ⟨htz',hle⟩:=za9 hv (by decide) 17 Scr.fForge rfl (by decide) (by decide) (by decide);rw [<- htz.o] at htz';simp only [zal] at htz' hle;replace htz:=htz';clear htz';unfold vAc zaS at hv;simp (config:={ decide:=true }) only [if_true,if_false,Bool.and_eq_true] at hv;replace hv:=hv.1;have hms:=hv;have c_en:=Y (fun W=>zfY ms W hms);have c_hx:=Y (fun W=>zhb (zf1 ms) W (zmV hms));generalize zf1 ms=em at c_en c_hx htz hle;generalize hexW em=t_hx at c_hx htz hle;replace htz:=Y htz;replace hle:=Y hle;have hTl:=Y (zaD (n:=29) (k:=7) (cs:=(msC ms).toArray.toList) hT.o (by rw [hV.o];rfl));go_upto_region 20 with (refine zaM (by rfl) 30 _ rfl T 29 (msC ms).toArray _ rfl hTl.o Tryz.underlying30 rfl (by kernel_rfl) ?_)
  refine (c_en.o _).mono ?_;rintro e W1 ⟨rfl,hxn⟩;have hx1:=Y (hx0.o.trans hxn);clear hxn hx0 hT hTl p_kd c_en;go_upto_region 20 with fail
  go_upto_region 23 with fail
  refine (c_hx.o _).mono ?_;rintro e W2 ⟨rfl,hxn⟩;replace hx1:=Y ((hx1.o.trans hxn).alloc (.cells #[.string ⟨#[102,111,114,103,101]⟩,.string ⟨t_hx.toArray⟩] 9));have hO:=zbk (zbm (B:=0) (heap_alloc_new W2 (.cells #[.string ⟨#[102,111,114,103,101]⟩,.string ⟨t_hx.toArray⟩] 9)) (l:=[Scr.fForge,t_hx]) rfl rfl rfl (Nat.zero_le _) (by simp)) (by simp);have hjn:=Y (zbg _ [Scr.fForge,t_hx] 32 _ hO (by simp) hle.o);clear hxn hO;go_wp2_with fail
  refine hjn.o.mono ?_;rintro e W3 ⟨rfl,rfl⟩;go_wp2_with fail
  go_ret;exact ⟨by rw [htz.o];try rfl,hx1.o⟩
 ·have p_kd:=v_kd.o
  obtain ⟨htz',hle⟩:=za9 hv (by decide) 14 Scr.fCheck rfl (by decide) (by decide) (by decide);rw [<- htz.o] at htz';simp only [zal] at htz' hle;replace htz:=htz';clear htz';replace htz:=Y htz;replace hle:=Y hle;have hx1:=Y (hx0.o.alloc (.cells #[.string ⟨#[99,104,101,99,107]⟩] 9));have hO:=zbk (zbm (B:=0) (heap_alloc_new W (.cells #[.string ⟨#[99,104,101,99,107]⟩] 9)) (l:=[Scr.fCheck]) rfl rfl rfl (Nat.zero_le _) (by simp)) (by simp);have hjn:=Y (zbg _ [Scr.fCheck] 32 _ hO (by simp) hle.o);clear hO hx0 hT;go_wp2_with fail
  refine hjn.o.mono ?_;rintro e W3 ⟨rfl,rfl⟩;go_wp2_with fail
  go_ret;exact ⟨by rw [htz.o];try rfl,hx1.o⟩
 ·have p_kd:=v_kd.o
  obtain ⟨htz',hle⟩:=za9 hv (by decide) 11 Scr.fCut rfl (by decide) (by decide) (by decide);rw [<- htz.o] at htz';simp only [zal] at htz' hle;replace htz:=htz';clear htz';unfold vAc zaS at hv;simp (config:={ decide:=true }) only [if_true,if_false,Bool.and_eq_true,zam] at hv;replace hv:=hv.1;have hr:=hv;have d_n:=Y (fun W=>zaP n (by omega) (by omega) W);generalize itoa n=t_n at d_n htz hle;replace htz:=Y htz;replace hle:=Y hle;have p_n:=v_n.o;go_wp2_with fail
  refine (d_n.o _).mono ?_;rintro e W1 ⟨rfl,hxn⟩;have hx1:=Y ((hx0.o.trans hxn).alloc (.cells #[.string ⟨#[99,117,116]⟩,.string ⟨t_n.toArray⟩] 9));have hO:=zbk (zbm (B:=0) (heap_alloc_new W1 (.cells #[.string ⟨#[99,117,116]⟩,.string ⟨t_n.toArray⟩] 9)) (l:=[Scr.fCut,t_n]) rfl rfl rfl (Nat.zero_le _) (by simp)) (by simp);have hjn:=Y (zbg _ [Scr.fCut,t_n] 32 _ hO (by simp) hle.o);clear hxn hO hx0 hT p_kd p_n;go_wp2_with fail
  refine hjn.o.mono ?_;rintro e W3 ⟨rfl,rfl⟩;go_wp2_with fail
  go_ret;exact ⟨by rw [htz.o];try rfl,hx1.o⟩
end Go.Proofs.YtjjfphalcibjfaaGreatDoor
