import Derived.Test.YtjjfphalcibjfaaGreatDoorH4
set_option maxRecDepth 100000
set_option maxHeartbeats 16000000
namespace Go.Proofs.YtjjfphalcibjfaaGreatDoor
open Go.Shelf Go.RowKit Cdk Scr
theorem znX {s:Bs} (h:zgO s=true):s.length<=1000:=by unfold zgO at h;simp only [Bool.and_eq_true,decide_eq_true_eq] at h;exact h.1
theorem zlQ {b:Bk} (h:GoodBk b):(zgP b).length<=2000:=by
 have h1:=zaI [b.id,b.kd];have h2:=zbS b.tx;have h3:=zaI [b.st,b.rf,b.lb.til,(b.lb.aft.length:Int)];have h4:=zaI b.lb.aft;have h5:=zaI [b.lb.app,b.lb.den];have h6:=h.tx;have h7:=h.lb.len;unfold zgP;simp only [List.length_append,List.length_cons,List.length_nil] at*;omega
theorem znf {l:List Bk} (h:zdt l=true):(zcL l).length<=1000000:=by
 obtain ⟨h1,h2⟩:=zdn h;unfold zcL;rw [if_pos h];have h3:=zau (l.length:Int);have h4:∀ m:List Bk,(∀ b ∈ m,GoodBk b) -> (m.flatMap zgP).length<=m.length*2000:=by
  intro m
  induction m with
  | nil=>intro _;simp
  | cons b m ih=>
   intro hb;have e1:=zlQ (hb b (by simp));have e2:=ih (fun x hx=>hb x (List.mem_cons_of_mem _ hx));simp only [List.flatMap_cons,List.length_append,List.length_cons];omega
 have h5:=h4 l h2;simp only [List.length_append];omega
def zmb (f:Fc):List Bs:=match zcW 1 f.kd 0 forms with
 | some (j,fm)=>fm.wd::zan j { Ac.zero with fc:=f }
 | none=>[]
theorem zk6 {n tm kd st:Int} {lg:Bs} {rv bs:Int} {ti au:Bs} {tp:List Bs} {bl:List Bk} {lb:Lb} {ed bk se:Int} {tx nm:Bs} {pa cl un:Int} (h:vFc ⟨n,tm,kd,st,lg,rv,bs,ti,au,tp,bl,lb,ed,bk,se,tx,nm,pa,cl,un⟩=true):0<=st/\st<=1000000:=by
 unfold vFc zbt at h;simp only [Bool.and_eq_true,zaq,decide_eq_true_eq] at h;obtain ⟨-,-,hv,hz⟩:=h;repeat' split at hv
 all_goals (simp (config:={ decide:=true }) only [Fc.mk.injEq,Fc.zero, *,if_true,if_false,Bool.and_eq_true,zaq] at hv hz)
 all_goals omega
theorem zia (a1:Option Addr) (n1 c1:Nat) (a2:Option Addr) (n2 c2:Nat) (a3:Option Addr) (n3 c3:Nat) (f:Fc) (w:World) (h:FcAt (fun k=>k < w.heap.size) w ⟨.slice a1 n1 c1,.slice a2 n2 c2,.slice a3 n3 c3⟩ f) (hv:vFc f=true) (hk:f.kd ≠ 10):
  Calls Tryz.prog 73 #[.agg (fcA a1 n1 c1 a2 n2 c2 a3 n3 c3 f)] w (InP (zmb f) w):=by
 obtain ⟨L,hL⟩:∃ L,L=zmb f:=⟨_,rfl⟩;rw [<- hL];obtain ⟨n,tm,kd,st,lg,rv,bs,ti,au,tp,bl,lb,ed,bk,se,tx,nm,pa,cl,un⟩:=f;simp only at hk;have hTp:=hid h.tp;have hBl:=hid h.bl;have hAf:=hid h.af;clear h;simp only at hTp hBl hAf;obtain ⟨V,hV⟩:∃ V,V=fcA a1 n1 c1 a2 n2 c2 a3 n3 c3 ⟨n,tm,kd,st,lg,rv,bs,ti,au,tp,bl,lb,ed,bk,se,tx,nm,pa,cl,un⟩:=⟨_,rfl⟩;rw [<- hV];have hst:=zk6 hv;have h5:=hv;unfold vFc zbt at h5;simp only [Bool.and_eq_true] at h5;have h6:=hid h5.2.2.1;clear h5;have hx0:=hid (Mod.alloc (Mod.refl (fun _=>False) w) (.cells V 28));have hT:=hid (heap_alloc_new w (.cells V 28));have d_st:=hid (fun W=>zaN st (by omega) (by omega) W);obtain ⟨t_st,h_st⟩:∃ t,t=itoa st:=⟨_,rfl⟩;rw [<- h_st] at d_st;replace h_st:=hid h_st;replace hL:=hid hL;replace hv:=hid hv;replace hst:=hid hst;have pc:=fun (i:Nat) (x:Value) (hx:V[i]?=some x)=>hid ((zaa hT.out i).trans hx)
 have v_kd:=pc 2 (.int .i64 kd) (by rw [hV];rfl);have v_st:=pc 3 (.int .i64 st) (by rw [hV];rfl);have v_lg:=pc 4 (.string ⟨lg.toArray⟩) (by rw [hV];rfl);have v_rv:=pc 5 (.int .i64 rv) (by rw [hV];rfl);have v_bs:=pc 6 (.int .i64 bs) (by rw [hV];rfl);have v_ti:=pc 7 (.string ⟨ti.toArray⟩) (by rw [hV];rfl);have v_au:=pc 8 (.string ⟨au.toArray⟩) (by rw [hV];rfl);have v_tp:=pc 9 (.slice a1 n1 c1) (by rw [hV];rfl);have v_bl:=pc 10 (.slice a2 n2 c2) (by rw [hV];rfl);have v_ed:=pc 15 (.int .i64 ed) (by rw [hV];rfl);have v_bk:=pc 16 (.int .i64 bk) (by rw [hV];rfl);have v_se:=pc 17 (.int .i64 se) (by rw [hV];rfl);have v_tx:=pc 18 (.string ⟨tx.toArray⟩) (by rw [hV];rfl);have v_nm:=pc 19 (.string ⟨nm.toArray⟩) (by rw [hV];rfl);have v_pa:=pc 20 (.int .i64 pa) (by rw [hV];rfl);have v_cl:=pc 21 (.int .i64 cl) (by rw [hV];rfl);have v_un:=pc 22 (.int .i64 un) (by rw [hV];rfl);replace hV:=hid hV;clear pc;go_enter Tryz.func73,Tryz.ntmps73;go_upto_region 1 with fail
 generalize (w.alloc _)=W at hx0 hT v_kd v_st v_lg v_rv v_bs v_ti v_au v_tp v_bl v_ed v_bk v_se v_tx v_nm v_pa v_cl v_un ⊢;generalize w.heap.size=T at hT v_kd v_st v_lg v_rv v_bs v_ti v_au v_tp v_bl v_ed v_bk v_se v_tx v_nm v_pa v_cl v_un ⊢;have p_st:=v_st.out;have p_kd:=v_kd.out;clear v_st v_kd;go_wp2_with fail
 refine (d_st.out _).mono ?_;rintro e W1 ⟨rfl,hxn⟩;have p_kd:=hxn.cell p_kd (fun h=>h);replace v_lg:=hid (hxn.cell v_lg.out (fun h=>h));replace v_rv:=hid (hxn.cell v_rv.out (fun h=>h));replace v_bs:=hid (hxn.cell v_bs.out (fun h=>h));replace v_ti:=hid (hxn.cell v_ti.out (fun h=>h));replace v_au:=hid (hxn.cell v_au.out (fun h=>h));replace v_tp:=hid (hxn.cell v_tp.out (fun h=>h));replace v_bl:=hid (hxn.cell v_bl.out (fun h=>h));replace v_ed:=hid (hxn.cell v_ed.out (fun h=>h));replace v_bk:=hid (hxn.cell v_bk.out (fun h=>h));replace v_se:=hid (hxn.cell v_se.out (fun h=>h));replace v_tx:=hid (hxn.cell v_tx.out (fun h=>h));replace v_nm:=hid (hxn.cell v_nm.out (fun h=>h));replace v_pa:=hid (hxn.cell v_pa.out (fun h=>h));replace v_cl:=hid (hxn.cell v_cl.out (fun h=>h));replace v_un:=hid (hxn.cell v_un.out (fun h=>h));have hT1:=hid (hxn.at hT.out (fun h=>h));have hx1:=hid (hx0.out.trans hxn);clear hxn hT hx0 p_st d_st;replace h6:=h6.out;replace hst:=hst.out;repeat' split at h6
 all_goals rename_i hq
 rotate_left 9
 ·cases h6
 ·obtain rfl:=hq
  replace hL:L=[Scr.fRevise,itoa st,lg,itoa rv,itoa bs,au,listW tp,labelW lb,hexW (zcL bl),ti]:=hL.out;rw [<- h_st.out] at hL;replace hv:=hv.out;unfold vFc zbt at hv;simp (config:={ decide:=true }) only [Bool.and_eq_true,zaq,decide_eq_true_eq,if_true,if_false] at hv;replace hv:=hv.2.2.1;obtain ⟨_,_,_,_,_,_,htp,hbl,hlb⟩:=hv;have d_rv:=hid (fun W=>zaN rv (by omega) (by omega) W);have d_bs:=hid (fun W=>zaN bs (by omega) (by omega) W);have c_tp:=hid (fun W (hX:Ext w W)=>zfb (.slice a1 n1 c1) tp W (hTp.out.ext hX) (by have:=(zhs htp).1;omega) (fun x hx=>by have:=(zhQ ((zhs htp).2 x hx)).2.1;omega));have c_lb:=hid (fun W (hX:Ext w W)=>zeg a3 n3 c3 lb W ((hAf.out.ext hX).mono (fun k hk=>by have:=hX.size;omega)) hlb);have c_hx:=hid (fun W=>zfH (zcL bl) W (znf hbl));have c_en:=hid (fun W (hX:Ext w W)=>zgR (.slice a2 n2 c2) bl W ((hBl.out.ext hX).mono (fun k hk=>by have:=hX.size;omega)) hbl);generalize zcL bl=eb at c_en c_hx hL;generalize itoa rv=t_rv at d_rv hL;generalize itoa bs=t_bs at d_bs hL;generalize listW tp=t_tp at c_tp hL;generalize labelW lb=t_lb at c_lb hL;generalize hexW eb=t_bl at c_hx hL;subst hL;clear hst hk h6;try clear hv
  go_upto_region 4 with fail
  have p_bl:=v_bl.out;go_wp2_with fail
  refine (c_en.out _ hx1.out).mono ?_;rintro e W2 ⟨rfl,hxn⟩;replace v_lg:=hid (hxn.cell v_lg.out (fun h=>h));replace v_rv:=hid (hxn.cell v_rv.out (fun h=>h));replace v_bs:=hid (hxn.cell v_bs.out (fun h=>h));replace v_au:=hid (hxn.cell v_au.out (fun h=>h));replace v_tp:=hid (hxn.cell v_tp.out (fun h=>h));replace v_ti:=hid (hxn.cell v_ti.out (fun h=>h));have hT2:=hid (hxn.at hT1.out (fun h=>h));have hx2:=hid (hx1.out.trans hxn);clear hxn hT1 hx1 p_bl p_kd c_en;have hTl:=hid (zaU (n:=11) (k:=4) (cs:=(#[.int .i64 lb.til,.slice a3 n3 c3,.int .i64 lb.app,.int .i64 lb.den]:Array Value).toList) hT2.out (by rw [hV.out];rfl));go_upto_region 5 with fail
  have hq:=hid (fun W' (hC:Ext W2 W')=>And.intro (hC.cell v_lg.out (fun h=>h)) (And.intro (hC.cell v_rv.out (fun h=>h)) (And.intro (hC.cell v_bs.out (fun h=>h)) (And.intro (hC.cell v_au.out (fun h=>h)) (And.intro (hC.cell v_tp.out (fun h=>h)) (hC.cell v_ti.out (fun h=>h)))))));go_upto_region 5 with fail
  try simp only [List.append_eq,List.cons_append,List.nil_append]
  refine zad (fun Wx=>Ext W2 Wx) [(0,true),(1,true),(2,true),(3,true),(4,true),(6,true),(7,true),(9,true),(10,true),(11,true),(12,true),(14,true),(15,true),(17,true),(19,true),(20,true),(5,false),(8,false),(13,false),(16,false),(18,false),(21,false),(22,true)]
   (by as_aux_lemma=>kernel_rfl) (by as_aux_lemma=>kernel_rfl) (by as_aux_lemma=>kernel_rfl) (by decide) (Mod.drew0 (fun _=>False) W2) ?_
  simp only [zak,List.map_cons,List.map_nil,List.getD_cons_zero,List.getD_cons_succ];have hy0:=hid (Mod.drew0 (fun _=>False) W2)
  iterate 12 (refine zaB (by rfl) ?_ (fun w' hC=>?_) ?_;rotate_left;(obtain ⟨q0,q1,q2,q3,q4,q5⟩:=hq.out _ hC;go_simp;try with_reducible rfl);try simp only [Act.put,sA,sZ,sS])
  refine zjz (by rfl) 26 _ rfl T 11 #[.int .i64 lb.til,.slice a3 n3 c3,.int .i64 lb.app,.int .i64 lb.den] _ rfl (fun W hW=>zgn hTl.out hW) Tryz.underlying26 rfl (by kernel_rfl) ?_;try simp only [Act.put,sA,sZ,sS]
  iterate 3 (refine zaB (by rfl) ?_ (fun w' hC=>?_) ?_;rotate_left;(obtain ⟨q0,q1,q2,q3,q4,q5⟩:=hq.out _ hC;go_simp;try with_reducible rfl);try simp only [Act.put,sA,sZ,sS])
  refine zaj (by rfl) (fun K hK=>?_);go_simp;refine (d_rv.out _).mono ?_;rintro e u5 ⟨rfl,hxn⟩;refine hK.out _ _ (hy0.out.trans hxn) ?_;have hy1:=hid (hy0.out.trans hxn);clear hK K hxn;try simp only [Act.put,sA,sZ,sS]
  refine zaj (by rfl) (fun K hK=>?_);go_simp;refine (d_bs.out _).mono ?_;rintro e u8 ⟨rfl,hxn⟩;refine hK.out _ _ (hy1.out.trans hxn) ?_;have hy2:=hid (hy1.out.trans hxn);clear hK K hxn;try simp only [Act.put,sA,sZ,sS]
  refine zaj (by rfl) (fun K hK=>?_);go_simp;refine (c_tp.out _ (hx2.out.trans hy2.out)).mono ?_;rintro e u13 ⟨rfl,rfl⟩;refine hK.out _ _ hy2.out ?_;clear hK K;try simp only [Act.put,sA,sZ,sS]
  refine zaj (by rfl) (fun K hK=>?_);go_simp;refine (c_lb.out _ (hx2.out.trans hy2.out)).mono ?_;rintro e u16 ⟨rfl,hxn⟩;refine hK.out _ _ (hy2.out.trans hxn) ?_;have hy3:=hid (hy2.out.trans hxn);clear hK K hxn;try simp only [Act.put,sA,sZ,sS]
  refine zaj (by rfl) (fun K hK=>?_);go_simp;refine (c_hx.out _).mono ?_;rintro e u18 ⟨rfl,hxn⟩;refine hK.out _ _ (hy3.out.trans hxn) ?_;have hy4:=hid (hy3.out.trans hxn);clear hK K hxn;try simp only [Act.put,sA,sZ,sS]
  refine zaj (by rfl) (fun K hK=>?_);go_simp;have hfin:=hid (zaz (hx2.out.trans hy4.out) [Scr.fRevise,t_st,lg,t_rv,t_bs,au,t_tp,t_lb,t_bl,ti] rfl rfl);refine hK.out _ _ (hy4.out.trans (Mod.alloc (Mod.refl (fun _=>False) _) _)) ?_;clear hK K;try simp only [Act.put,sA,sZ,sS]
  refine zaB (by rfl) ?_ (fun w' hC=>?_) ?_;rotate_left;(obtain ⟨q0,q1,q2,q3,q4,q5⟩:=hq.out _ hC;go_simp;try with_reducible rfl);try simp only [Act.put,sA,sZ,sS]
  refine zas ?_;go_wp2_with fail
  go_ret;exact hfin.out
 ·obtain rfl:=hq
  replace hL:L=[Scr.fApprove,itoa st,itoa ed]:=hL.out;rw [<- h_st.out] at hL;replace hv:=hv.out;unfold vFc zbt at hv;simp (config:={ decide:=true }) only [Bool.and_eq_true,zaq,decide_eq_true_eq,if_true,if_false] at hv;replace hv:=hv.2.2.1;have d_ed:=hid (fun W=>zaN ed (by omega) (by omega) W);generalize itoa ed=t_ed at d_ed hL;subst hL;clear hst hk h6;try clear hv
  have p_ed:=v_ed.out;go_wp2_with fail
  refine (d_ed.out _).mono ?_;rintro e W2 ⟨rfl,hxn⟩;have hfin:=hid (zaz (hx1.out.trans hxn) [Scr.fApprove,t_st,t_ed] rfl rfl);clear hxn hx1 hT1;go_wp2_with fail
  go_ret;exact hfin.out
 ·obtain rfl:=hq
  replace hL:L=[Scr.fPublish,itoa st,labelW lb]:=hL.out;rw [<- h_st.out] at hL;replace hv:=hv.out;unfold vFc zbt at hv;simp (config:={ decide:=true }) only [Bool.and_eq_true,zaq,decide_eq_true_eq,if_true,if_false] at hv;replace hv:=hv.2.2.1;have hlb:=hv.2;have c_lb:=hid (fun W (hX:Ext w W)=>zeg a3 n3 c3 lb W ((hAf.out.ext hX).mono (fun k hk=>by have:=hX.size;omega)) hlb);generalize labelW lb=t_lb at c_lb hL;subst hL;clear hst hk h6;try clear hv
  have hTl:=hid (zaU (n:=11) (k:=4) (cs:=(#[.int .i64 lb.til,.slice a3 n3 c3,.int .i64 lb.app,.int .i64 lb.den]:Array Value).toList) hT1.out (by rw [hV.out];rfl));go_wp2_with (refine zaC (by rfl) 26 _ rfl T 11 #[.int .i64 lb.til,.slice a3 n3 c3,.int .i64 lb.app,.int .i64 lb.den] _ rfl hTl.out Tryz.underlying26 rfl (by kernel_rfl) ?_)
  refine (c_lb.out _ hx1.out).mono ?_;rintro e W2 ⟨rfl,hxn⟩;have hfin:=hid (zaz (hx1.out.trans hxn) [Scr.fPublish,t_st,t_lb] rfl rfl);clear hxn hx1 hT1;go_wp2_with fail
  go_ret;exact hfin.out
 ·obtain rfl:=hq
  replace hL:L=[Scr.fCorrect,itoa st,lg,itoa bk,itoa se,tx]:=hL.out;rw [<- h_st.out] at hL;replace hv:=hv.out;unfold vFc zbt at hv;simp (config:={ decide:=true }) only [Bool.and_eq_true,zaq,decide_eq_true_eq,if_true,if_false] at hv;replace hv:=hv.2.2.1;have d_bk:=hid (fun W=>zaN bk (by omega) (by omega) W);have d_se:=hid (fun W=>zaN se (by omega) (by omega) W);generalize itoa bk=t_bk at d_bk hL;generalize itoa se=t_se at d_se hL;subst hL;clear hst hk h6;try clear hv
  go_upto_region 11 with fail
  clear p_kd;have hq:=hid (fun W' (hC:Ext W1 W')=>And.intro (hC.cell v_lg.out (fun h=>h)) (And.intro (hC.cell v_bk.out (fun h=>h)) (And.intro (hC.cell v_se.out (fun h=>h)) (hC.cell v_tx.out (fun h=>h)))));go_upto_region 11 with fail
  try simp only [List.append_eq,List.cons_append,List.nil_append]
  refine zad (fun Wx=>Ext W1 Wx) [(0,true),(1,true),(2,true),(3,true),(4,true),(6,true),(7,true),(9,true),(10,true),(5,false),(8,false),(11,false),(12,true)]
   (by as_aux_lemma=>kernel_rfl) (by as_aux_lemma=>kernel_rfl) (by as_aux_lemma=>kernel_rfl) (by decide) (Mod.drew0 (fun _=>False) W1) ?_
  simp only [zak,List.map_cons,List.map_nil,List.getD_cons_zero,List.getD_cons_succ];have hy0:=hid (Mod.drew0 (fun _=>False) W1)
  iterate 9 (refine zaB (by rfl) ?_ (fun w' hC=>?_) ?_;rotate_left;(obtain ⟨q0,q1,q2,q3⟩:=hq.out _ hC;go_simp;try with_reducible rfl);try simp only [Act.put,sA,sZ,sS])
  refine zaj (by rfl) (fun K hK=>?_);go_simp;refine (d_bk.out _).mono ?_;rintro e u5 ⟨rfl,hxn⟩;refine hK.out _ _ (hy0.out.trans hxn) ?_;have hy1:=hid (hy0.out.trans hxn);clear hK K hxn;try simp only [Act.put,sA,sZ,sS]
  refine zaj (by rfl) (fun K hK=>?_);go_simp;refine (d_se.out _).mono ?_;rintro e u8 ⟨rfl,hxn⟩;refine hK.out _ _ (hy1.out.trans hxn) ?_;have hy2:=hid (hy1.out.trans hxn);clear hK K hxn;try simp only [Act.put,sA,sZ,sS]
  refine zaj (by rfl) (fun K hK=>?_);go_simp;have hfin:=hid (zaz (hx1.out.trans hy2.out) [Scr.fCorrect,t_st,lg,t_bk,t_se,tx] rfl rfl);refine hK.out _ _ (hy2.out.trans (Mod.alloc (Mod.refl (fun _=>False) _) _)) ?_;clear hK K;try simp only [Act.put,sA,sZ,sS]
  refine zaB (by rfl) ?_ (fun w' hC=>?_) ?_;rotate_left;(obtain ⟨q0,q1,q2,q3⟩:=hq.out _ hC;go_simp;try with_reducible rfl);try simp only [Act.put,sA,sZ,sS]
  refine zas ?_;go_wp2_with fail
  go_ret;exact hfin.out
 ·obtain rfl:=hq
  replace hL:L=[Scr.fRetract,itoa st,tx]:=hL.out;rw [<- h_st.out] at hL;replace hv:=hv.out;unfold vFc zbt at hv;simp (config:={ decide:=true }) only [Bool.and_eq_true,zaq,decide_eq_true_eq,if_true,if_false] at hv;replace hv:=hv.2.2.1;subst hL;clear hst hk h6;try clear hv
  have p_tx:=v_tx.out;have hfin:=hid (zaz hx1.out [Scr.fRetract,t_st,tx] rfl rfl);clear hx1 hT1;go_wp2_with fail
  go_ret;exact hfin.out
 ·obtain rfl:=hq.resolve_right hk
  replace hL:L=[Scr.fTakedown,itoa st]:=hL.out;rw [<- h_st.out] at hL;replace hv:=hv.out;unfold vFc zbt at hv;simp (config:={ decide:=true }) only [Bool.and_eq_true,zaq,decide_eq_true_eq,if_true,if_false] at hv;replace hv:=hv.2.2.1;subst hL;clear hst hk h6;try clear hv
  have hfin:=hid (zaz hx1.out [Scr.fTakedown,t_st] rfl rfl);clear hx1 hT1;go_wp2_with fail
  go_ret;exact hfin.out
 ·obtain rfl:=hq
  replace hL:L=[Scr.fTemplate,nm,hexW tx]:=hL.out;replace hv:=hv.out;unfold vFc zbt at hv;simp (config:={ decide:=true }) only [Bool.and_eq_true,zaq,decide_eq_true_eq,if_true,if_false] at hv;replace hv:=hv.2.2.1;have hso:=hv.2;have c_hx:=hid (fun W=>zfH (tx) W (by have:=znX hso;omega));generalize hexW tx=t_tx at c_hx hL;subst hL;clear hst hk h6;try clear hv
  go_upto_region 17 with fail
  clear p_kd;have hq:=hid (fun W' (hC:Ext W1 W')=>And.intro (hC.cell v_nm.out (fun h=>h)) (hC.cell v_tx.out (fun h=>h)));go_upto_region 17 with fail
  try simp only [List.append_eq,List.cons_append,List.nil_append]
  refine zad (fun Wx=>Ext W1 Wx) [(0,true),(1,true),(2,true),(3,true),(4,false),(5,false),(6,true)]
   (by as_aux_lemma=>kernel_rfl) (by as_aux_lemma=>kernel_rfl) (by as_aux_lemma=>kernel_rfl) (by decide) (Mod.drew0 (fun _=>False) W1) ?_
  simp only [zak,List.map_cons,List.map_nil,List.getD_cons_zero,List.getD_cons_succ];have hy0:=hid (Mod.drew0 (fun _=>False) W1)
  iterate 4 (refine zaB (by rfl) ?_ (fun w' hC=>?_) ?_;rotate_left;(obtain ⟨q0,q1⟩:=hq.out _ hC;go_simp;try with_reducible rfl);try simp only [Act.put,sA,sZ,sS])
  refine zaj (by rfl) (fun K hK=>?_);go_simp;refine (c_hx.out _).mono ?_;rintro e u4 ⟨rfl,hxn⟩;refine hK.out _ _ (hy0.out.trans hxn) ?_;have hy1:=hid (hy0.out.trans hxn);clear hK K hxn;try simp only [Act.put,sA,sZ,sS]
  refine zaj (by rfl) (fun K hK=>?_);go_simp;have hfin:=hid (zaz (hx1.out.trans hy1.out) [Scr.fTemplate,nm,t_tx] rfl rfl);refine hK.out _ _ (hy1.out.trans (Mod.alloc (Mod.refl (fun _=>False) _) _)) ?_;clear hK K;try simp only [Act.put,sA,sZ,sS]
  refine zaB (by rfl) ?_ (fun w' hC=>?_) ?_;rotate_left;(obtain ⟨q0,q1⟩:=hq.out _ hC;go_simp;try with_reducible rfl);try simp only [Act.put,sA,sZ,sS]
  refine zas ?_;go_wp2_with fail
  go_ret;exact hfin.out
 ·obtain rfl:=hq
  replace hL:L=[Scr.fPartner,itoa pa,itoa cl,itoa un]:=hL.out;replace hv:=hv.out;unfold vFc zbt at hv;simp (config:={ decide:=true }) only [Bool.and_eq_true,zaq,decide_eq_true_eq,if_true,if_false] at hv;replace hv:=hv.2.2.1;have d_pa:=hid (fun W=>zaN pa (by omega) (by omega) W);have d_cl:=hid (fun W=>zaN cl (by omega) (by omega) W);have d_un:=hid (fun W=>zaN un (by omega) (by omega) W);generalize itoa pa=t_pa at d_pa hL;generalize itoa cl=t_cl at d_cl hL;generalize itoa un=t_un at d_un hL;subst hL;clear hst hk h6;try clear hv
  go_upto_region 19 with fail
  clear p_kd;have hq:=hid (fun W' (hC:Ext W1 W')=>And.intro (hC.cell v_pa.out (fun h=>h)) (And.intro (hC.cell v_cl.out (fun h=>h)) (hC.cell v_un.out (fun h=>h))));go_upto_region 19 with fail
  try simp only [List.append_eq,List.cons_append,List.nil_append]
  refine zad (fun Wx=>Ext W1 Wx) [(0,true),(1,true),(3,true),(4,true),(6,true),(7,true),(2,false),(5,false),(8,false),(9,false),(10,true)]
   (by as_aux_lemma=>kernel_rfl) (by as_aux_lemma=>kernel_rfl) (by as_aux_lemma=>kernel_rfl) (by decide) (Mod.drew0 (fun _=>False) W1) ?_
  simp only [zak,List.map_cons,List.map_nil,List.getD_cons_zero,List.getD_cons_succ];have hy0:=hid (Mod.drew0 (fun _=>False) W1)
  iterate 6 (refine zaB (by rfl) ?_ (fun w' hC=>?_) ?_;rotate_left;(obtain ⟨q0,q1,q2⟩:=hq.out _ hC;go_simp;try with_reducible rfl);try simp only [Act.put,sA,sZ,sS])
  refine zaj (by rfl) (fun K hK=>?_);go_simp;refine (d_pa.out _).mono ?_;rintro e u2 ⟨rfl,hxn⟩;refine hK.out _ _ (hy0.out.trans hxn) ?_;have hy1:=hid (hy0.out.trans hxn);clear hK K hxn;try simp only [Act.put,sA,sZ,sS]
  refine zaj (by rfl) (fun K hK=>?_);go_simp;refine (d_cl.out _).mono ?_;rintro e u5 ⟨rfl,hxn⟩;refine hK.out _ _ (hy1.out.trans hxn) ?_;have hy2:=hid (hy1.out.trans hxn);clear hK K hxn;try simp only [Act.put,sA,sZ,sS]
  refine zaj (by rfl) (fun K hK=>?_);go_simp;refine (d_un.out _).mono ?_;rintro e u8 ⟨rfl,hxn⟩;refine hK.out _ _ (hy2.out.trans hxn) ?_;have hy3:=hid (hy2.out.trans hxn);clear hK K hxn;try simp only [Act.put,sA,sZ,sS]
  refine zaj (by rfl) (fun K hK=>?_);go_simp;have hfin:=hid (zaz (hx1.out.trans hy3.out) [Scr.fPartner,t_pa,t_cl,t_un] rfl rfl);refine hK.out _ _ (hy3.out.trans (Mod.alloc (Mod.refl (fun _=>False) _) _)) ?_;clear hK K;try simp only [Act.put,sA,sZ,sS]
  refine zaB (by rfl) ?_ (fun w' hC=>?_) ?_;rotate_left;(obtain ⟨q0,q1,q2⟩:=hq.out _ hC;go_simp;try with_reducible rfl);try simp only [Act.put,sA,sZ,sS]
  refine zas ?_;go_wp2_with fail
  go_ret;exact hfin.out
 ·obtain rfl:=hq
  replace hL:L=[Scr.fLease,itoa pa,itoa un]:=hL.out;replace hv:=hv.out;unfold vFc zbt at hv;simp (config:={ decide:=true }) only [Bool.and_eq_true,zaq,decide_eq_true_eq,if_true,if_false] at hv;replace hv:=hv.2.2.1;have d_pa:=hid (fun W=>zaN pa (by omega) (by omega) W);have d_un:=hid (fun W=>zaN un (by omega) (by omega) W);generalize itoa pa=t_pa at d_pa hL;generalize itoa un=t_un at d_un hL;subst hL;clear hst hk h6;try clear hv
  go_upto_region 20 with fail
  clear p_kd;have hq:=hid (fun W' (hC:Ext W1 W')=>And.intro (hC.cell v_pa.out (fun h=>h)) (hC.cell v_un.out (fun h=>h)));go_upto_region 20 with fail
  try simp only [List.append_eq,List.cons_append,List.nil_append]
  refine zad (fun Wx=>Ext W1 Wx) [(0,true),(1,true),(3,true),(4,true),(2,false),(5,false),(6,false),(7,true)]
   (by as_aux_lemma=>kernel_rfl) (by as_aux_lemma=>kernel_rfl) (by as_aux_lemma=>kernel_rfl) (by decide) (Mod.drew0 (fun _=>False) W1) ?_
  simp only [zak,List.map_cons,List.map_nil,List.getD_cons_zero,List.getD_cons_succ];have hy0:=hid (Mod.drew0 (fun _=>False) W1)
  iterate 4 (refine zaB (by rfl) ?_ (fun w' hC=>?_) ?_;rotate_left;(obtain ⟨q0,q1⟩:=hq.out _ hC;go_simp;try with_reducible rfl);try simp only [Act.put,sA,sZ,sS])
  refine zaj (by rfl) (fun K hK=>?_);go_simp;refine (d_pa.out _).mono ?_;rintro e u2 ⟨rfl,hxn⟩;refine hK.out _ _ (hy0.out.trans hxn) ?_;have hy1:=hid (hy0.out.trans hxn);clear hK K hxn;try simp only [Act.put,sA,sZ,sS]
  refine zaj (by rfl) (fun K hK=>?_);go_simp;refine (d_un.out _).mono ?_;rintro e u5 ⟨rfl,hxn⟩;refine hK.out _ _ (hy1.out.trans hxn) ?_;have hy2:=hid (hy1.out.trans hxn);clear hK K hxn;try simp only [Act.put,sA,sZ,sS]
  refine zaj (by rfl) (fun K hK=>?_);go_simp;have hfin:=hid (zaz (hx1.out.trans hy2.out) [Scr.fLease,t_pa,t_un] rfl rfl);refine hK.out _ _ (hy2.out.trans (Mod.alloc (Mod.refl (fun _=>False) _) _)) ?_;clear hK K;try simp only [Act.put,sA,sZ,sS]
  refine zaB (by rfl) ?_ (fun w' hC=>?_) ?_;rotate_left;(obtain ⟨q0,q1⟩:=hq.out _ hC;go_simp;try with_reducible rfl);try simp only [Act.put,sA,sZ,sS]
  refine zas ?_;go_wp2_with fail
  go_ret;exact hfin.out
end Go.Proofs.YtjjfphalcibjfaaGreatDoor
