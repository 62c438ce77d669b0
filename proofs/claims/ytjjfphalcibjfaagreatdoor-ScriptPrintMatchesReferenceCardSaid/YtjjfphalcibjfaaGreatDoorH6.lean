import Derived.Test.YtjjfphalcibjfaaGreatDoorH5
set_option maxRecDepth 100000
set_option maxHeartbeats 16000000
namespace Go.Proofs.YtjjfphalcibjfaaGreatDoor
open Go.Shelf Go.RowKit Cdk Scr
theorem zf1 {j:Nat} (hj:j < 9) {kd n cl:Int} {fc:Fc} {tx:Bs} {fa ke:List Int} {ms:Ms}:zan j ⟨kd,fc,n,cl,tx,fa,ke,ms⟩=zan j { Ac.zero with fc:=fc }:=by
 have:j=0 \/ j=1 \/ j=2 \/ j=3 \/ j=4 \/ j=5 \/ j=6 \/ j=7 \/ j=8:=by omega
 rcases this with rfl | rfl | rfl | rfl | rfl | rfl | rfl | rfl | rfl <;> rfl
theorem zl3:∀ (l:List Fm) (k:Nat) {kd fk:Int} {j:Nat} {fm:Fm},zcW kd fk k l=some (j,fm) -> fm ∈ l
 | [],_,_,_,_,_,h=>by cases h
 | f::r,k,kd,fk,j,fm,h=>by
  rw [zcW] at h;split at h
  ·injection h with h;injection h with _ h;subst h;simp
  ·exact List.mem_cons_of_mem _ (zl3 r (k+1) h)
theorem znY {kd fk:Int} {j:Nat} {fm:Fm} (h:zcW kd fk 0 forms=some (j,fm)):fm.wd.length<=3000000:=by
 have:∀ f ∈ forms,f.wd.length<=3000000:=by decide
 exact this fm (zl3 _ _ h)
theorem zkN {m:Ms} (hv:vMs m=true):(zgM m).length<=1000000:=by
 have h0:=(zd0 hv).da;have h1:=zaI [m.kd,m.pa,m.sq,m.st,m.ba,m.ve];have h2:=zbS m.da;have h3:=zau (crc (zbV m));unfold zgM;rw [if_pos hv];unfold zbV at h3 ⊢;simp only [List.length_append,List.length_cons,List.length_nil] at h1 ⊢;omega
theorem zkS {f:Fc} (hv:vFc f=true) (hk:f.kd ≠ 10):∃ (j:Nat) (fm:Fm),zcW 1 f.kd 0 forms=some (j,fm)/\j < 9/\zmb f=fm.wd::zan j { Ac.zero with fc:=f }:=by
 have h5:=hv;unfold vFc zbt at h5;simp only [Bool.and_eq_true] at h5;have h6:=h5.2.2.1;unfold zmb;repeat' split at h6
 all_goals rename_i hq
 rotate_left 9
 ·cases h6
 all_goals (first | replace hq:=hq.resolve_right hk | skip)
 all_goals (rw [hq];exact ⟨_,_,rfl,by decide,rfl⟩)
theorem zjB {a:Ac} (hv:vAc a=true):a.kd=1 \/ a.kd=2 \/ a.kd=3 \/ a.kd=4 \/ a.kd=5 \/ a.kd=6 \/ a.kd=7 \/ a.kd=8 \/ a.kd=9 \/ a.kd=10:=by
 by_cases h:a.kd=1 \/ a.kd=2 \/ a.kd=3 \/ a.kd=4 \/ a.kd=5 \/ a.kd=6 \/ a.kd=7 \/ a.kd=8 \/ a.kd=9 \/ a.kd=10
 ·exact h
 ·simp only [not_or] at h
  unfold vAc zaV at hv;simp [h] at hv
theorem zbd {kd n cl:Int} {fc:Fc} {tx:Bs} {fa ke:List Int} {ms:Ms} (hv:vAc ⟨kd,fc,n,cl,tx,fa,ke,ms⟩=true) (hk:kd ≠ 1) (j:Nat) (nm:Bs) (hf:zcW kd 0 0 forms=some (j,⟨kd,0,nm⟩)) (_hj:9<=j) (hj7:j=17 -> kd=8) (hn:nm.length<=3000000):
  line ⟨kd,fc,n,cl,tx,fa,ke,ms⟩=Scr.join 32 (nm::zan j ⟨kd,fc,n,cl,tx,fa,ke,ms⟩)/\∀ x ∈ nm::zan j ⟨kd,fc,n,cl,tx,fa,ke,ms⟩,x.length<=3000000:=by
 obtain ⟨ok,hm8⟩:=zhD hv;have hle:=(zdY ok (j:=j) (fun h=>hm8 (hj7 h))).2;unfold vAc at hv;rw [Bool.and_eq_true] at hv;have ho:=congrArg Ac.fc (of_decide_eq_true hv.2);have hfc:fc.kd=0:=by
  unfold zfr at ho;simp only [hk,if_false] at ho;repeat' split at ho
  all_goals (simp only [Ac.zero] at ho;rw [ho];rfl)
 refine ⟨by unfold line;simp only [hfc,hf],fun x hx=>?_⟩;rcases List.mem_cons.1 hx with rfl | hx
 ·exact hn
 ·exact hle x hx
theorem zjM (a1:Option Addr) (n1 c1:Nat) (a2:Option Addr) (n2 c2:Nat) (a3:Option Addr) (n3 c3:Nat) (a4:Option Addr) (n4 c4:Nat) (a5:Option Addr) (n5 c5:Nat) (a:Ac) (w:World) (h:AcAt (fun k=>k < w.heap.size) w ⟨⟨.slice a1 n1 c1,.slice a2 n2 c2,.slice a3 n3 c3⟩,.slice a4 n4 c4,.slice a5 n5 c5⟩ a) (hv:vAc a=true):
  Calls Tryz.prog 48 #[.agg (acA a1 n1 c1 a2 n2 c2 a3 n3 c3 a4 n4 c4 a5 n5 c5 a)] w fun e w'=>e=.returned (.string ⟨(line a).toArray⟩)/\Ext w w':=by
 have h10:=zjB hv;obtain ⟨kd,fc,n,cl,tx,fa,ke,ms⟩:=a;simp only at h10;have hF:=hid h.fc;have hFa:=hid h.fa;have hKe:=hid h.ke;clear h;simp only at hF hFa hKe;obtain ⟨tz,htz⟩:∃ tz,tz=line ⟨kd,fc,n,cl,tx,fa,ke,ms⟩:=⟨_,rfl⟩;rw [<- htz];obtain ⟨V,hV⟩:∃ V,V=acA a1 n1 c1 a2 n2 c2 a3 n3 c3 a4 n4 c4 a5 n5 c5 ⟨kd,fc,n,cl,tx,fa,ke,ms⟩:=⟨_,rfl⟩;rw [<- hV];have hx0:=hid (Mod.alloc (Mod.refl (fun _=>False) w) (.cells V 32));have hT:=hid (heap_alloc_new w (.cells V 32));have pc:=fun (i:Nat) (x:Value) (hx:V[i]?=some x)=>hid ((zaa hT.out i).trans hx)
 have v_kd:=pc 0 (.int .i64 kd) (by rw [hV];rfl);have v_n:=pc 24 (.int .i64 n) (by rw [hV];rfl);have v_cl:=pc 25 (.int .i64 cl) (by rw [hV];rfl);have v_tx:=pc 26 (.string ⟨tx.toArray⟩) (by rw [hV];rfl);have v_fa:=pc 27 (.slice a4 n4 c4) (by rw [hV];rfl);have v_ke:=pc 28 (.slice a5 n5 c5) (by rw [hV];rfl);replace hV:=hid hV;replace htz:=hid htz;replace hv:=hid hv;replace h10:=hid h10;clear pc;go_enter Tryz.func48,Tryz.ntmps48;go_upto_region 2 with fail
 generalize (w.alloc _)=W at hx0 hT v_kd v_n v_cl v_tx v_fa v_ke ⊢;generalize w.heap.size=T at hT v_kd v_n v_cl v_tx v_fa v_ke ⊢;replace hv:=hv.out;rcases h10.out with rfl | rfl | rfl | rfl | rfl | rfl | rfl | rfl | rfl | rfl
 ·have hv0:=hv
  have p_kd:=v_kd.out;unfold vAc zaV at hv;simp (config:={ decide:=true }) only [if_true,Bool.and_eq_true,decide_eq_true_eq,Bool.not_eq_true',decide_eq_false_iff_not] at hv;obtain ⟨⟨-,-,hnk,hvf⟩,-⟩:=hv;obtain ⟨j,fm,hff,hj,hL⟩:=zkS hvf hnk;obtain ⟨ok,-⟩:=zhD hv0;have hwl:=zdY ok (j:=j) (by omega);rw [zf1 hj] at hwl;have hwd:=znY hff;replace htz:tz=Scr.join 32 (zmb fc):=by rw [htz.out];unfold line;simp only [hff];rw [zf1 hj,hL]
  have hcl:=hid (fun W (hX:Ext w W)=>zia a1 n1 c1 a2 n2 c2 a3 n3 c3 fc W ((hF.out.ext hX).mono (fun k hk=>by have:=hX.size;omega)) hvf hnk);have hle:∀ x ∈ zmb fc,x.length<=3000000:=fun x hx=>by
   rw [hL] at hx;rcases List.mem_cons.1 hx with rfl | hx
   ·exact hwd
   ·exact hwl.2 x hx
  have hln:(zmb fc).length<=10:=by rw [hL];exact Nat.succ_le_succ hwl.1
  generalize zmb fc=L at htz hcl hle hln;clear hL hff hwl hwd ok;replace htz:=hid htz;replace hle:=hid hle;have hTl:=hid (zaU (n:=1) (k:=23) (cs:=(fcA a1 n1 c1 a2 n2 c2 a3 n3 c3 fc).toList) hT.out (by rw [hV.out];rfl));obtain ⟨FV,hFV⟩:∃ FV,FV=fcA a1 n1 c1 a2 n2 c2 a3 n3 c3 fc:=⟨_,rfl⟩;have iF:=hid (show (Tryz.prog.info? 28).map (·.size)=some FV.size by rw [hFV];kernel_rfl);rw [<- hFV] at hTl hcl;replace hFV:=hid hFV;go_upto_region 23 with (refine zaC (by rfl) 28 _ rfl T 1 FV _ rfl hTl.out Tryz.underlying28 rfl iF.out ?_)
  refine (hcl.out _ hx0.out).mono ?_;rintro e W1 ⟨ao,cap,rfl,hO,hxn⟩;have hx1:=hid (hx0.out.trans hxn);have hjn:=hid (zbf _ L 32 _ hO (by omega) hle.out);clear hxn hx0 hT hTl p_kd hcl hO;go_wp2_with fail
  refine hjn.out.mono ?_;rintro e W3 ⟨rfl,rfl⟩;go_wp2_with fail
  go_ret;exact ⟨by rw [htz.out];try rfl,hx1.out⟩
 ·have p_kd:=v_kd.out
  obtain ⟨htz',hle⟩:=zbd hv (by decide) 9 Scr.fTick rfl (by decide) (by decide) (by decide);rw [<- htz.out] at htz';simp only [zan] at htz' hle;replace htz:=htz';clear htz';unfold vAc zaV at hv;simp (config:={ decide:=true }) only [if_true,if_false,Bool.and_eq_true,zaq] at hv;replace hv:=hv.1;have hr:=hv;have d_n:=hid (fun W=>zaN n (by omega) (by omega) W);generalize itoa n=t_n at d_n htz hle;replace htz:=hid htz;replace hle:=hid hle;have p_n:=v_n.out;go_wp2_with fail
  refine (d_n.out _).mono ?_;rintro e W1 ⟨rfl,hxn⟩;have hx1:=hid ((hx0.out.trans hxn).alloc (.cells #[.string ⟨#[116,105,99,107]⟩,.string ⟨t_n.toArray⟩] 9));have hO:=zbk (zbh (B:=0) (heap_alloc_new W1 (.cells #[.string ⟨#[116,105,99,107]⟩,.string ⟨t_n.toArray⟩] 9)) (l:=[Scr.fTick,t_n]) rfl rfl rfl (Nat.zero_le _) (by simp)) (by simp);have hjn:=hid (zbf _ [Scr.fTick,t_n] 32 _ hO (by simp) hle.out);clear hxn hO hx0 hT p_kd p_n;go_wp2_with fail
  refine hjn.out.mono ?_;rintro e W3 ⟨rfl,rfl⟩;go_wp2_with fail
  go_ret;exact ⟨by rw [htz.out];try rfl,hx1.out⟩
 ·have p_kd:=v_kd.out
  obtain ⟨htz',hle⟩:=zbd hv (by decide) 10 Scr.fClock rfl (by decide) (by decide) (by decide);rw [<- htz.out] at htz';simp only [zan] at htz' hle;replace htz:=htz';clear htz';unfold vAc zaV at hv;simp (config:={ decide:=true }) only [if_true,if_false,Bool.and_eq_true,zaq] at hv;replace hv:=hv.1;have hr:=hv;have d_n:=hid (fun W=>zaN n (by omega) (by omega) W);generalize itoa n=t_n at d_n htz hle;replace htz:=hid htz;replace hle:=hid hle;have p_n:=v_n.out;go_wp2_with fail
  refine (d_n.out _).mono ?_;rintro e W1 ⟨rfl,hxn⟩;have hx1:=hid ((hx0.out.trans hxn).alloc (.cells #[.string ⟨#[99,108,111,99,107]⟩,.string ⟨t_n.toArray⟩] 9));have hO:=zbk (zbh (B:=0) (heap_alloc_new W1 (.cells #[.string ⟨#[99,108,111,99,107]⟩,.string ⟨t_n.toArray⟩] 9)) (l:=[Scr.fClock,t_n]) rfl rfl rfl (Nat.zero_le _) (by simp)) (by simp);have hjn:=hid (zbf _ [Scr.fClock,t_n] 32 _ hO (by simp) hle.out);clear hxn hO hx0 hT p_kd p_n;go_wp2_with fail
  refine hjn.out.mono ?_;rintro e W3 ⟨rfl,rfl⟩;go_wp2_with fail
  go_ret;exact ⟨by rw [htz.out];try rfl,hx1.out⟩
 ·have p_kd:=v_kd.out
  obtain ⟨htz',hle⟩:=zbd hv (by decide) 12 Scr.fFates rfl (by decide) (by decide) (by decide);rw [<- htz.out] at htz';simp only [zan] at htz' hle;replace htz:=htz';clear htz';unfold vAc zaV at hv;simp (config:={ decide:=true }) only [if_true,if_false,Bool.and_eq_true] at hv;replace hv:=hv.1;have hls:=hv;have c_fa:=hid (fun W (hX:Ext w W)=>zdE (.slice a4 n4 c4) fa (fun x hx=>by have:=(zgt hls).2 x hx;omega) W (fun k hk=>by have:=hX.size;omega) (hFa.out.ext hX) (by have:=(zgt hls).1;omega));generalize listW (fa.map itoa)=t_fa at c_fa htz hle;replace htz:=hid htz;replace hle:=hid hle;have p_fa:=v_fa.out;go_wp2_with fail
  refine (c_fa.out _ hx0.out).mono ?_;rintro e W1 ⟨rfl,hxn⟩;have hx1:=hid ((hx0.out.trans hxn).alloc (.cells #[.string ⟨#[102,97,116,101,115]⟩,.string ⟨t_fa.toArray⟩] 9));have hO:=zbk (zbh (B:=0) (heap_alloc_new W1 (.cells #[.string ⟨#[102,97,116,101,115]⟩,.string ⟨t_fa.toArray⟩] 9)) (l:=[Scr.fFates,t_fa]) rfl rfl rfl (Nat.zero_le _) (by simp)) (by simp);have hjn:=hid (zbf _ [Scr.fFates,t_fa] 32 _ hO (by simp) hle.out);clear hxn hO hx0 hT p_kd p_fa;go_wp2_with fail
  refine hjn.out.mono ?_;rintro e W3 ⟨rfl,rfl⟩;go_wp2_with fail
  go_ret;exact ⟨by rw [htz.out];try rfl,hx1.out⟩
 ·have p_kd:=v_kd.out
  obtain ⟨htz',hle⟩:=zbd hv (by decide) 13 Scr.fCrash rfl (by decide) (by decide) (by decide);rw [<- htz.out] at htz';simp only [zan] at htz' hle;replace htz:=htz';clear htz';unfold vAc zaV at hv;simp (config:={ decide:=true }) only [if_true,if_false,Bool.and_eq_true,zaq] at hv;replace hv:=hv.1;obtain ⟨hr,hls⟩:=hv;have d_n:=hid (fun W=>zaN n (by omega) (by omega) W);have c_ke:=hid (fun W (hX:Ext w W)=>zdE (.slice a5 n5 c5) ke (fun x hx=>by have:=(zgt hls).2 x hx;omega) W (fun k hk=>by have:=hX.size;omega) (hKe.out.ext hX) (by have:=(zgt hls).1;omega));generalize itoa n=t_n at d_n htz hle;generalize listW (ke.map itoa)=t_ke at c_ke htz hle;replace htz:=hid htz;replace hle:=hid hle;go_upto_region 13 with fail
  clear p_kd;have hq:=hid (fun W' (hC:Ext W W')=>And.intro (hC.cell v_n.out (fun h=>h)) (hC.cell v_ke.out (fun h=>h)));go_upto_region 13 with fail
  try simp only [List.append_eq,List.cons_append,List.nil_append]
  refine zad (fun Wx=>Ext W Wx) [(0,true),(1,true),(3,true),(4,true),(2,false),(5,false),(6,false),(7,true)]
   (by as_aux_lemma=>kernel_rfl) (by as_aux_lemma=>kernel_rfl) (by as_aux_lemma=>kernel_rfl) (by decide) (Mod.drew0 (fun _=>False) W) ?_
  simp only [zak,List.map_cons,List.map_nil,List.getD_cons_zero,List.getD_cons_succ];have hy0:=hid (Mod.drew0 (fun _=>False) W)
  iterate 4 (refine zaB (by rfl) ?_ (fun w' hC=>?_) ?_;rotate_left;(obtain ⟨q0,q1⟩:=hq.out _ hC;go_simp;try with_reducible rfl);try simp only [Act.put,sA,sZ,sS])
  refine zaj (by rfl) (fun K hK=>?_);go_simp;refine (d_n.out _).mono ?_;rintro e u2 ⟨rfl,hxn⟩;refine hK.out _ _ (hy0.out.trans hxn) ?_;have hy1:=hid (hy0.out.trans hxn);clear hK K hxn;try simp only [Act.put,sA,sZ,sS]
  refine zaj (by rfl) (fun K hK=>?_);go_simp;refine (c_ke.out _ (hx0.out.trans hy1.out)).mono ?_;rintro e u5 ⟨rfl,hxn⟩;refine hK.out _ _ (hy1.out.trans hxn) ?_;have hy2:=hid (hy1.out.trans hxn);clear hK K hxn;try simp only [Act.put,sA,sZ,sS]
  refine zaj (by rfl) (fun K hK=>?_);go_simp;have hO:=zbk (zbh (B:=0) (heap_alloc_new u5 (.cells #[.string ⟨#[99,114,97,115,104]⟩,.string ⟨t_n.toArray⟩,.string ⟨t_ke.toArray⟩] 9)) (l:=[Scr.fCrash,t_n,t_ke]) rfl rfl rfl (Nat.zero_le _) (by simp)) (by simp);have hjn:=hid (zbf _ [Scr.fCrash,t_n,t_ke] 32 _ hO (by simp) hle.out);have hx1:=hid ((hx0.out.trans hy2.out).alloc (.cells #[.string ⟨#[99,114,97,115,104]⟩,.string ⟨t_n.toArray⟩,.string ⟨t_ke.toArray⟩] 9));refine hK.out _ _ (hy2.out.trans (Mod.alloc (Mod.refl (fun _=>False) _) _)) ?_;clear hK K hO;try simp only [Act.put,sA,sZ,sS]
  refine zaB (by rfl) ?_ (fun w' hC=>?_) ?_;rotate_left;(obtain ⟨q0,q1⟩:=hq.out _ hC;go_simp;try with_reducible rfl);try simp only [Act.put,sA,sZ,sS]
  refine zas ?_;go_wp2_with fail
  refine hjn.out.mono ?_;rintro e W3 ⟨rfl,rfl⟩;go_wp2_with fail
  go_ret;exact ⟨by rw [htz.out];try rfl,hx1.out⟩
 ·have p_kd:=v_kd.out
  obtain ⟨htz',hle⟩:=zbd hv (by decide) 15 Scr.fGet rfl (by decide) (by decide) (by decide);rw [<- htz.out] at htz';simp only [zan] at htz' hle;replace htz:=htz';clear htz';unfold vAc zaV at hv;simp (config:={ decide:=true }) only [if_true,if_false,Bool.and_eq_true,zaq] at hv;replace hv:=hv.1;obtain ⟨hcl,hts⟩:=hv;have d_cl:=hid (fun W=>zaN cl (by omega) (by omega) W);generalize itoa cl=t_cl at d_cl htz hle;replace htz:=hid htz;replace hle:=hid hle;go_upto_region 15 with fail
  clear p_kd;have hq:=hid (fun W' (hC:Ext W W')=>And.intro (hC.cell v_cl.out (fun h=>h)) (hC.cell v_tx.out (fun h=>h)));go_upto_region 15 with fail
  try simp only [List.append_eq,List.cons_append,List.nil_append]
  refine zad (fun Wx=>Ext W Wx) [(0,true),(1,true),(3,true),(4,true),(2,false),(5,false),(6,true)]
   (by as_aux_lemma=>kernel_rfl) (by as_aux_lemma=>kernel_rfl) (by as_aux_lemma=>kernel_rfl) (by decide) (Mod.drew0 (fun _=>False) W) ?_
  simp only [zak,List.map_cons,List.map_nil,List.getD_cons_zero,List.getD_cons_succ];have hy0:=hid (Mod.drew0 (fun _=>False) W)
  iterate 4 (refine zaB (by rfl) ?_ (fun w' hC=>?_) ?_;rotate_left;(obtain ⟨q0,q1⟩:=hq.out _ hC;go_simp;try with_reducible rfl);try simp only [Act.put,sA,sZ,sS])
  refine zaj (by rfl) (fun K hK=>?_);go_simp;refine (d_cl.out _).mono ?_;rintro e u2 ⟨rfl,hxn⟩;refine hK.out _ _ (hy0.out.trans hxn) ?_;have hy1:=hid (hy0.out.trans hxn);clear hK K hxn;try simp only [Act.put,sA,sZ,sS]
  refine zaj (by rfl) (fun K hK=>?_);go_simp;have hO:=zbk (zbh (B:=0) (heap_alloc_new u2 (.cells #[.string ⟨#[103,101,116]⟩,.string ⟨t_cl.toArray⟩,.string ⟨tx.toArray⟩] 9)) (l:=[Scr.fGet,t_cl,tx]) rfl rfl rfl (Nat.zero_le _) (by simp)) (by simp);have hjn:=hid (zbf _ [Scr.fGet,t_cl,tx] 32 _ hO (by simp) hle.out);have hx1:=hid ((hx0.out.trans hy1.out).alloc (.cells #[.string ⟨#[103,101,116]⟩,.string ⟨t_cl.toArray⟩,.string ⟨tx.toArray⟩] 9));refine hK.out _ _ (hy1.out.trans (Mod.alloc (Mod.refl (fun _=>False) _) _)) ?_;clear hK K hO;try simp only [Act.put,sA,sZ,sS]
  refine zaB (by rfl) ?_ (fun w' hC=>?_) ?_;rotate_left;(obtain ⟨q0,q1⟩:=hq.out _ hC;go_simp;try with_reducible rfl);try simp only [Act.put,sA,sZ,sS]
  refine zas ?_;go_wp2_with fail
  refine hjn.out.mono ?_;rintro e W3 ⟨rfl,rfl⟩;go_wp2_with fail
  go_ret;exact ⟨by rw [htz.out];try rfl,hx1.out⟩
 ·have p_kd:=v_kd.out
  obtain ⟨htz',hle⟩:=zbd hv (by decide) 16 Scr.fSearch rfl (by decide) (by decide) (by decide);rw [<- htz.out] at htz';simp only [zan] at htz' hle;replace htz:=htz';clear htz';unfold vAc zaV at hv;simp (config:={ decide:=true }) only [if_true,if_false,Bool.and_eq_true,zaq] at hv;replace hv:=hv.1;obtain ⟨hcl,hr,hts⟩:=hv;have d_cl:=hid (fun W=>zaN cl (by omega) (by omega) W);have d_n:=hid (fun W=>zaN n (by omega) (by omega) W);generalize itoa cl=t_cl at d_cl htz hle;generalize itoa n=t_n at d_n htz hle;replace htz:=hid htz;replace hle:=hid hle;go_upto_region 17 with fail
  clear p_kd;have hq:=hid (fun W' (hC:Ext W W')=>And.intro (hC.cell v_cl.out (fun h=>h)) (And.intro (hC.cell v_n.out (fun h=>h)) (hC.cell v_tx.out (fun h=>h))));go_upto_region 17 with fail
  try simp only [List.append_eq,List.cons_append,List.nil_append]
  refine zad (fun Wx=>Ext W Wx) [(0,true),(1,true),(3,true),(4,true),(6,true),(7,true),(2,false),(5,false),(8,false),(9,true)]
   (by as_aux_lemma=>kernel_rfl) (by as_aux_lemma=>kernel_rfl) (by as_aux_lemma=>kernel_rfl) (by decide) (Mod.drew0 (fun _=>False) W) ?_
  simp only [zak,List.map_cons,List.map_nil,List.getD_cons_zero,List.getD_cons_succ];have hy0:=hid (Mod.drew0 (fun _=>False) W)
  iterate 6 (refine zaB (by rfl) ?_ (fun w' hC=>?_) ?_;rotate_left;(obtain ⟨q0,q1,q2⟩:=hq.out _ hC;go_simp;try with_reducible rfl);try simp only [Act.put,sA,sZ,sS])
  refine zaj (by rfl) (fun K hK=>?_);go_simp;refine (d_cl.out _).mono ?_;rintro e u2 ⟨rfl,hxn⟩;refine hK.out _ _ (hy0.out.trans hxn) ?_;have hy1:=hid (hy0.out.trans hxn);clear hK K hxn;try simp only [Act.put,sA,sZ,sS]
  refine zaj (by rfl) (fun K hK=>?_);go_simp;refine (d_n.out _).mono ?_;rintro e u5 ⟨rfl,hxn⟩;refine hK.out _ _ (hy1.out.trans hxn) ?_;have hy2:=hid (hy1.out.trans hxn);clear hK K hxn;try simp only [Act.put,sA,sZ,sS]
  refine zaj (by rfl) (fun K hK=>?_);go_simp;have hO:=zbk (zbh (B:=0) (heap_alloc_new u5 (.cells #[.string ⟨#[115,101,97,114,99,104]⟩,.string ⟨t_cl.toArray⟩,.string ⟨t_n.toArray⟩,.string ⟨tx.toArray⟩] 9)) (l:=[Scr.fSearch,t_cl,t_n,tx]) rfl rfl rfl (Nat.zero_le _) (by simp)) (by simp);have hjn:=hid (zbf _ [Scr.fSearch,t_cl,t_n,tx] 32 _ hO (by simp) hle.out);have hx1:=hid ((hx0.out.trans hy2.out).alloc (.cells #[.string ⟨#[115,101,97,114,99,104]⟩,.string ⟨t_cl.toArray⟩,.string ⟨t_n.toArray⟩,.string ⟨tx.toArray⟩] 9));refine hK.out _ _ (hy2.out.trans (Mod.alloc (Mod.refl (fun _=>False) _) _)) ?_;clear hK K hO;try simp only [Act.put,sA,sZ,sS]
  refine zaB (by rfl) ?_ (fun w' hC=>?_) ?_;rotate_left;(obtain ⟨q0,q1,q2⟩:=hq.out _ hC;go_simp;try with_reducible rfl);try simp only [Act.put,sA,sZ,sS]
  refine zas ?_;go_wp2_with fail
  refine hjn.out.mono ?_;rintro e W3 ⟨rfl,rfl⟩;go_wp2_with fail
  go_ret;exact ⟨by rw [htz.out];try rfl,hx1.out⟩
 ·have p_kd:=v_kd.out
  obtain ⟨htz',hle⟩:=zbd hv (by decide) 17 Scr.fForge rfl (by decide) (by decide) (by decide);rw [<- htz.out] at htz';simp only [zan] at htz' hle;replace htz:=htz';clear htz';unfold vAc zaV at hv;simp (config:={ decide:=true }) only [if_true,if_false,Bool.and_eq_true] at hv;replace hv:=hv.1;have hms:=hv;have c_en:=hid (fun W=>zeP ms W hms);have c_hx:=hid (fun W=>zfH (zgM ms) W (zkN hms));generalize zgM ms=em at c_en c_hx htz hle;generalize hexW em=t_hx at c_hx htz hle;replace htz:=hid htz;replace hle:=hid hle;have hTl:=hid (zaU (n:=29) (k:=7) (cs:=(msC ms).toArray.toList) hT.out (by rw [hV.out];rfl));go_upto_region 20 with (refine zaC (by rfl) 30 _ rfl T 29 (msC ms).toArray _ rfl hTl.out Tryz.underlying30 rfl (by kernel_rfl) ?_)
  refine (c_en.out _).mono ?_;rintro e W1 ⟨rfl,hxn⟩;have hx1:=hid (hx0.out.trans hxn);clear hxn hx0 hT hTl p_kd c_en;go_upto_region 20 with fail
  go_upto_region 23 with fail
  refine (c_hx.out _).mono ?_;rintro e W2 ⟨rfl,hxn⟩;replace hx1:=hid ((hx1.out.trans hxn).alloc (.cells #[.string ⟨#[102,111,114,103,101]⟩,.string ⟨t_hx.toArray⟩] 9));have hO:=zbk (zbh (B:=0) (heap_alloc_new W2 (.cells #[.string ⟨#[102,111,114,103,101]⟩,.string ⟨t_hx.toArray⟩] 9)) (l:=[Scr.fForge,t_hx]) rfl rfl rfl (Nat.zero_le _) (by simp)) (by simp);have hjn:=hid (zbf _ [Scr.fForge,t_hx] 32 _ hO (by simp) hle.out);clear hxn hO;go_wp2_with fail
  refine hjn.out.mono ?_;rintro e W3 ⟨rfl,rfl⟩;go_wp2_with fail
  go_ret;exact ⟨by rw [htz.out];try rfl,hx1.out⟩
 ·have p_kd:=v_kd.out
  obtain ⟨htz',hle⟩:=zbd hv (by decide) 14 Scr.fCheck rfl (by decide) (by decide) (by decide);rw [<- htz.out] at htz';simp only [zan] at htz' hle;replace htz:=htz';clear htz';replace htz:=hid htz;replace hle:=hid hle;have hx1:=hid (hx0.out.alloc (.cells #[.string ⟨#[99,104,101,99,107]⟩] 9));have hO:=zbk (zbh (B:=0) (heap_alloc_new W (.cells #[.string ⟨#[99,104,101,99,107]⟩] 9)) (l:=[Scr.fCheck]) rfl rfl rfl (Nat.zero_le _) (by simp)) (by simp);have hjn:=hid (zbf _ [Scr.fCheck] 32 _ hO (by simp) hle.out);clear hO hx0 hT;go_wp2_with fail
  refine hjn.out.mono ?_;rintro e W3 ⟨rfl,rfl⟩;go_wp2_with fail
  go_ret;exact ⟨by rw [htz.out];try rfl,hx1.out⟩
 ·have p_kd:=v_kd.out
  obtain ⟨htz',hle⟩:=zbd hv (by decide) 11 Scr.fCut rfl (by decide) (by decide) (by decide);rw [<- htz.out] at htz';simp only [zan] at htz' hle;replace htz:=htz';clear htz';unfold vAc zaV at hv;simp (config:={ decide:=true }) only [if_true,if_false,Bool.and_eq_true,zaq] at hv;replace hv:=hv.1;have hr:=hv;have d_n:=hid (fun W=>zaN n (by omega) (by omega) W);generalize itoa n=t_n at d_n htz hle;replace htz:=hid htz;replace hle:=hid hle;have p_n:=v_n.out;go_wp2_with fail
  refine (d_n.out _).mono ?_;rintro e W1 ⟨rfl,hxn⟩;have hx1:=hid ((hx0.out.trans hxn).alloc (.cells #[.string ⟨#[99,117,116]⟩,.string ⟨t_n.toArray⟩] 9));have hO:=zbk (zbh (B:=0) (heap_alloc_new W1 (.cells #[.string ⟨#[99,117,116]⟩,.string ⟨t_n.toArray⟩] 9)) (l:=[Scr.fCut,t_n]) rfl rfl rfl (Nat.zero_le _) (by simp)) (by simp);have hjn:=hid (zbf _ [Scr.fCut,t_n] 32 _ hO (by simp) hle.out);clear hxn hO hx0 hT p_kd p_n;go_wp2_with fail
  refine hjn.out.mono ?_;rintro e W3 ⟨rfl,rfl⟩;go_wp2_with fail
  go_ret;exact ⟨by rw [htz.out];try rfl,hx1.out⟩
end Go.Proofs.YtjjfphalcibjfaaGreatDoor
