import Derived.Test.YtjjfphalcibjfaaGreatDoorB6
set_option maxRecDepth 100000
set_option maxHeartbeats 16000000
namespace Go.Proofs.YtjjfphalcibjfaaGreatDoor
open Go.RowKit Cdk Scr
def zaL (kd:Int):Bs:=
 if kd=1 then [115,108,114,97,116,117,111,98,76]
 else if kd=2 then [115,101]
 else if kd=3 then [115,76]
 else if kd=4 then [115,108,107,110,120]
 else if kd=5 then [115,120]
 else if kd=6 then [115]
 else if kd=10 then [115]
 else if kd=7 then [109,120]
 else if kd=8 then [112,99,105]
 else if kd=9 then [112,105]
 else []
theorem zhr (kd:Int) (w:World):Calls Tryz.prog 58 #[.int .i64 kd] w fun e w'=>e=.returned (.string ⟨(zaL kd).toArray⟩)/\w=w':=by
 by_cases g1:kd=1
 ·subst g1
  go_enter Tryz.func58,Tryz.ntmps58;go_wp2_with fail
  go_ret;exact ⟨rfl,rfl⟩
 by_cases g2:kd=2
 ·subst g2
  go_enter Tryz.func58,Tryz.ntmps58;go_wp2_with fail
  go_ret;exact ⟨rfl,rfl⟩
 by_cases g3:kd=3
 ·subst g3
  go_enter Tryz.func58,Tryz.ntmps58;go_wp2_with fail
  go_ret;exact ⟨rfl,rfl⟩
 by_cases g4:kd=4
 ·subst g4
  go_enter Tryz.func58,Tryz.ntmps58;go_wp2_with fail
  go_ret;exact ⟨rfl,rfl⟩
 by_cases g5:kd=5
 ·subst g5
  go_enter Tryz.func58,Tryz.ntmps58;go_wp2_with fail
  go_ret;exact ⟨rfl,rfl⟩
 by_cases g6:kd=6
 ·subst g6
  go_enter Tryz.func58,Tryz.ntmps58;go_wp2_with fail
  go_ret;exact ⟨rfl,rfl⟩
 by_cases g10:kd=10
 ·subst g10
  go_enter Tryz.func58,Tryz.ntmps58;go_wp2_with fail
  go_ret;exact ⟨rfl,rfl⟩
 by_cases g7:kd=7
 ·subst g7
  go_enter Tryz.func58,Tryz.ntmps58;go_wp2_with fail
  go_ret;exact ⟨rfl,rfl⟩
 by_cases g8:kd=8
 ·subst g8
  go_enter Tryz.func58,Tryz.ntmps58;go_wp2_with fail
  go_ret;exact ⟨rfl,rfl⟩
 by_cases g9:kd=9
 ·subst g9
  go_enter Tryz.func58,Tryz.ntmps58;go_wp2_with fail
  go_ret;exact ⟨rfl,rfl⟩
 have h0:Hid (zaL kd=[]):=hid (by unfold zaL;rw [if_neg g1,if_neg g2,if_neg g3,if_neg g4,if_neg g5,if_neg g6,if_neg g10,if_neg g7,if_neg g8,if_neg g9]);have e1:(kd==1)=false:=by rw [beq_eq_false_iff_ne];exact g1
 replace g1:=hid g1;have e2:(kd==2)=false:=by rw [beq_eq_false_iff_ne];exact g2
 replace g2:=hid g2;have e3:(kd==3)=false:=by rw [beq_eq_false_iff_ne];exact g3
 replace g3:=hid g3;have e4:(kd==4)=false:=by rw [beq_eq_false_iff_ne];exact g4
 replace g4:=hid g4;have e5:(kd==5)=false:=by rw [beq_eq_false_iff_ne];exact g5
 replace g5:=hid g5;have e6:(kd==6)=false:=by rw [beq_eq_false_iff_ne];exact g6
 replace g6:=hid g6;have e10:(kd==10)=false:=by rw [beq_eq_false_iff_ne];exact g10
 replace g10:=hid g10;have e7:(kd==7)=false:=by rw [beq_eq_false_iff_ne];exact g7
 replace g7:=hid g7;have e8:(kd==8)=false:=by rw [beq_eq_false_iff_ne];exact g8
 replace g8:=hid g8;have e9:(kd==9)=false:=by rw [beq_eq_false_iff_ne];exact g9
 replace g9:=hid g9;go_enter Tryz.func58,Tryz.ntmps58;go_wp2_with fail
 go_ret;exact ⟨by rw [h0.out];rfl,rfl⟩
def za2 (f:Fc) (c:Nat):Fc:=
 if c=115 then { f with st:=0 }
 else if c=108 then { f with lg:=[] }
 else if c=114 then { f with rv:=0 }
 else if c=97 then { f with bs:=0 }
 else if c=116 then { f with ti:=[] }
 else if c=117 then { f with au:=[] }
 else if c=111 then { f with tp:=[] }
 else if c=98 then { f with bl:=[] }
 else if c=76 then { f with lb:=Lb.zero }
 else if c=101 then { f with ed:=0 }
 else if c=107 then { f with bk:=0 }
 else if c=110 then { f with se:=0 }
 else if c=120 then { f with tx:=[] }
 else if c=109 then { f with nm:=[] }
 else if c=112 then { f with pa:=0 }
 else if c=99 then { f with cl:=0 }
 else { f with un:=0 }
def zmR (a1:Option Addr) (n1 c1:Nat) (a2:Option Addr) (n2 c2:Nat) (_a3:Option Addr) (_n3 _c3:Nat) (f:Fc):List (Int × Nat × Value × Value):=
 [(115,3,.int .i64 f.st,.int .i64 0),(108,4,.string ⟨f.lg.toArray⟩,.string ⟨#[]⟩),(114,5,.int .i64 f.rv,.int .i64 0),(97,6,.int .i64 f.bs,.int .i64 0),(116,7,.string ⟨f.ti.toArray⟩,.string ⟨#[]⟩),(117,8,.string ⟨f.au.toArray⟩,.string ⟨#[]⟩),(111,9,.slice a1 n1 c1,.slice none 0 0),(98,10,.slice a2 n2 c2,.slice none 0 0),(101,15,.int .i64 f.ed,.int .i64 0),(107,16,.int .i64 f.bk,.int .i64 0),(110,17,.int .i64 f.se,.int .i64 0),(120,18,.string ⟨f.tx.toArray⟩,.string ⟨#[]⟩),(109,19,.string ⟨f.nm.toArray⟩,.string ⟨#[]⟩),(112,20,.int .i64 f.pa,.int .i64 0),(99,21,.int .i64 f.cl,.int .i64 0),(105,22,.int .i64 f.un,.int .i64 0)]
theorem zjJ {a1:Option Addr} {n1 c1:Nat} {a2:Option Addr} {n2 c2:Nat} {a3:Option Addr} {n3 c3:Nat} {f:Fc} {k:Nat} {c:Int} {i:Nat} {u v:Value} (h:(zmR a1 n1 c1 a2 n2 c2 a3 n3 c3 f)[k]?=some (c,i,u,v)):k=0 \/ k=1 \/ k=2 \/ k=3 \/ k=4 \/ k=5 \/ k=6 \/ k=7 \/ k=8 \/ k=9 \/ k=10 \/ k=11 \/ k=12 \/ k=13 \/ k=14 \/ k=15:=by
 have:=(List.getElem?_eq_some_iff.1 h).1;simp only [zmR,List.length_cons,List.length_nil] at this;omega
theorem zjh {a1:Option Addr} {n1 c1:Nat} {a2:Option Addr} {n2 c2:Nat} {a3:Option Addr} {n3 c3:Nat} {f:Fc} {k:Nat} {c:Int} {i:Nat} {u v:Value} (h:(zmR a1 n1 c1 a2 n2 c2 a3 n3 c3 f)[k]?=some (c,i,u,v)):(fcA a1 n1 c1 a2 n2 c2 a3 n3 c3 f)[i]?=some u:=by
 rcases zjJ h with rfl | rfl | rfl | rfl | rfl | rfl | rfl | rfl | rfl | rfl | rfl | rfl | rfl | rfl | rfl | rfl
 all_goals
  simp only [zmR,List.getElem?_cons_succ,List.getElem?_cons_zero,Option.some.injEq,Prod.mk.injEq] at h;obtain ⟨rfl,rfl,rfl,rfl⟩:=h
  rfl
theorem zaK (a1:Option Addr) (n1 c1:Nat) (a2:Option Addr) (n2 c2:Nat) (a3:Option Addr) (n3 c3:Nat) (f:Fc) (w:World) {k:Nat} {c:Int} {i:Nat} {u v:Value} (h:(zmR a1 n1 c1 a2 n2 c2 a3 n3 c3 f)[k]?=some (c,i,u,v)):
  Calls Tryz.prog 60 #[.agg (fcA a1 n1 c1 a2 n2 c2 a3 n3 c3 f),.int .u8 c] w fun e w'=>e=.returned (.agg ((fcA a1 n1 c1 a2 n2 c2 a3 n3 c3 f).setIfInBounds i v))/\Ext w w':=by
 have hiu:=hid (zjh h);have hk:=zjJ h;obtain ⟨V,hV⟩:∃ V,V=(fcA a1 n1 c1 a2 n2 c2 a3 n3 c3 f).setIfInBounds i v:=⟨_,rfl⟩;rw [<- hV];obtain ⟨fn,ftm,fkd,fst,flg,frv,fbs,fti,fau,ftp,fbl,flb,fed,fbk,fse,ftx,fnm,fpa,fcl,fun_⟩:=f;obtain ⟨til,aft,app,den⟩:=flb;unfold fcA at hV hiu ⊢;simp only at hV hiu ⊢;obtain ⟨R,hR⟩:∃ R,R=w.heap.size:=⟨_,rfl⟩;obtain ⟨Q,hQ⟩:∃ Q,Q=R+1:=⟨_,rfl⟩;obtain ⟨hx,hA,hB,-⟩:=zaY w #[.int .i64 fn,.int .i64 ftm,.int .i64 fkd,.int .i64 fst,.string ⟨flg.toArray⟩,.int .i64 frv,.int .i64 fbs,.string ⟨fti.toArray⟩,.string ⟨fau.toArray⟩,.slice a1 n1 c1,.slice a2 n2 c2,.int .i64 til,.slice a3 n3 c3,.int .i64 app,.int .i64 den,.int .i64 fed,.int .i64 fbk,.int .i64 fse,.string ⟨ftx.toArray⟩,.string ⟨fnm.toArray⟩,.int .i64 fpa,.int .i64 fcl,.int .i64 fun_] zF9 28 28;rw [<- hR] at hA hB;rw [<- hQ] at hB;have hpt:=hid (fun (W:World) (hh:W.heap[R]?=some (.cells #[.int .i64 fn,.int .i64 ftm,.int .i64 fkd,.int .i64 fst,.string ⟨flg.toArray⟩,.int .i64 frv,.int .i64 fbs,.string ⟨fti.toArray⟩,.string ⟨fau.toArray⟩,.slice a1 n1 c1,.slice a2 n2 c2,.int .i64 til,.slice a3 n3 c3,.int .i64 app,.int .i64 den,.int .i64 fed,.int .i64 fbk,.int .i64 fse,.string ⟨ftx.toArray⟩,.string ⟨fnm.toArray⟩,.int .i64 fpa,.int .i64 fcl,.int .i64 fun_] 28 (0,0)))=>zae hh i v);have hcl:=hid (fun (W:World) (hh:W.heap[R]?=some (.cells #[.int .i64 fn,.int .i64 ftm,.int .i64 fkd,.int .i64 fst,.string ⟨flg.toArray⟩,.int .i64 frv,.int .i64 fbs,.string ⟨fti.toArray⟩,.string ⟨fau.toArray⟩,.slice a1 n1 c1,.slice a2 n2 c2,.int .i64 til,.slice a3 n3 c3,.int .i64 app,.int .i64 den,.int .i64 fed,.int .i64 fbk,.int .i64 fse,.string ⟨ftx.toArray⟩,.string ⟨fnm.toArray⟩,.int .i64 fpa,.int .i64 fcl,.int .i64 fun_] 28 (0,0)))=>(zaa hh i).trans hiu.out);have hst:=hid (fun W:World=>(Mod.refl (Eq R) W).setCell (a:=⟨R,i,none⟩) (fun _=>rfl) v);have hne:R ≠ Q:=by omega
 replace hV:=hid hV;clear hiu;rcases hk with rfl | rfl | rfl | rfl | rfl | rfl | rfl | rfl | rfl | rfl | rfl | rfl | rfl | rfl | rfl | rfl
 all_goals
  simp only [zmR,List.getElem?_cons_succ,List.getElem?_cons_zero,Option.some.injEq,Prod.mk.injEq] at h;obtain ⟨rfl,rfl,rfl,rfl⟩:=h;go_enter Tryz.func60,Tryz.ntmps60;go_upto_region 1 with (fail)
  try rw [<- hR]
  rw [<- hQ];generalize ((w.alloc _).alloc _)=w1 at hx hA hB ⊢;replace hQ:=hid hQ;replace hR:=hid hR;replace hx:=hid hx;have p:=hcl.out w1 hA;have zR:=zac hA;have hA2:=hid (hpt.out w1 hA);have hm:=hid (hst.out w1);have hB2:=hid (hm.out.at hB (fun e=>hne e));replace hA:=hid hA;replace hB:=hid hB;replace hne:=hid hne;go_upto_region 35 with (fail)
  generalize (w1.setCell _ _)=w2 at hA2 hB2 hm ⊢;clear p zR hA hB hpt hcl hst;go_wp2_with (first | (refine zal (by rfl) 28 _ rfl R _ _ _ _ rfl hA2.out Tryz.underlying28 rfl (by kernel_rfl) ?_) | (refine zab rfl 28 _ _ rfl Q _ _ 28 rfl rfl hB2.out rfl (by kernel_rfl) rfl (fun WS HS=>?_)))
  have hRR:=hR.out;have hQQ:=hQ.out;refine bodyPost_ret (results_cell_row rfl _ _ Q _ _ _ _ rfl HS.out.1 Tryz.underlying28 rfl (by kernel_rfl)) rfl ⟨by rw [hV.out],?_⟩;exact (((hx.out.mono (T:=fun k=>w.heap.size<=k) (fun _ h=>h.elim)).trans (hm.out.mono (fun k e=>by have:R=k:=e;omega))).trans (HS.out.2.mono (fun k e=>by have:Q=k:=e;omega))).mono' (fun k h1 h2=>by omega)
theorem zio (a1:Option Addr) (n1 c1:Nat) (a2:Option Addr) (n2 c2:Nat) (a3:Option Addr) (n3 c3:Nat) (f:Fc) (w:World):
  Calls Tryz.prog 60 #[.agg (fcA a1 n1 c1 a2 n2 c2 a3 n3 c3 f),.int .u8 76] w fun e w'=>e=.returned (.agg (fcA a1 n1 c1 a2 n2 c2 none 0 0 (za2 f 76)))/\Ext w w':=by
 obtain ⟨fn,ftm,fkd,fst,flg,frv,fbs,fti,fau,ftp,fbl,flb,fed,fbk,fse,ftx,fnm,fpa,fcl,fun_⟩:=f;obtain ⟨til,aft,app,den⟩:=flb;have hv:Hid (fcA a1 n1 c1 a2 n2 c2 none 0 0 (za2 (⟨fn,ftm,fkd,fst,flg,frv,fbs,fti,fau,ftp,fbl,⟨til,aft,app,den⟩,fed,fbk,fse,ftx,fnm,fpa,fcl,fun_⟩:Fc) 76)=#[.int .i64 fn,.int .i64 ftm,.int .i64 fkd,.int .i64 fst,.string ⟨flg.toArray⟩,.int .i64 frv,.int .i64 fbs,.string ⟨fti.toArray⟩,.string ⟨fau.toArray⟩,.slice a1 n1 c1,.slice a2 n2 c2,.int .i64 0,.slice none 0 0,.int .i64 0,.int .i64 0,.int .i64 fed,.int .i64 fbk,.int .i64 fse,.string ⟨ftx.toArray⟩,.string ⟨fnm.toArray⟩,.int .i64 fpa,.int .i64 fcl,.int .i64 fun_]):=hid rfl;generalize fcA a1 n1 c1 a2 n2 c2 none 0 0 (za2 _ 76)=V at hv ⊢;unfold fcA;simp only;obtain ⟨hx,hA,hB,-⟩:=zaY w #[.int .i64 fn,.int .i64 ftm,.int .i64 fkd,.int .i64 fst,.string ⟨flg.toArray⟩,.int .i64 frv,.int .i64 fbs,.string ⟨fti.toArray⟩,.string ⟨fau.toArray⟩,.slice a1 n1 c1,.slice a2 n2 c2,.int .i64 til,.slice a3 n3 c3,.int .i64 app,.int .i64 den,.int .i64 fed,.int .i64 fbk,.int .i64 fse,.string ⟨ftx.toArray⟩,.string ⟨fnm.toArray⟩,.int .i64 fpa,.int .i64 fcl,.int .i64 fun_] zF9 28 28;go_enter Tryz.func60,Tryz.ntmps60;go_upto_region 1 with (fail)
 generalize ((w.alloc _).alloc _)=w1 at hx hA hB ⊢;have hlo:=Nat.le_refl w.heap.size;obtain ⟨Q,hQ⟩:∃ Q,Q=w.heap.size+1:=⟨_,rfl⟩;rw [<- hQ] at hB ⊢;obtain ⟨R,hR⟩:∃ R,R=w.heap.size:=⟨_,rfl⟩;rw [<- hR] at hA ⊢;have hne:R ≠ Q:=by omega
 replace hQ:=hid hQ;replace hR:=hid hR;replace hx:=hid hx;have p11:w1.cell? ⟨R,11,none⟩=some (.int .i64 til):=zaa hA 11;have p12:w1.cell? ⟨R,12,none⟩=some (.slice a3 n3 c3):=zaa hA 12;have p13:w1.cell? ⟨R,13,none⟩=some (.int .i64 app):=zaa hA 13;have p14:w1.cell? ⟨R,14,none⟩=some (.int .i64 den):=zaa hA 14;have zR:=zac hA;have hA2:=hA;have hm:=Mod.refl (Eq R) w1;replace hA2:=zae hA2 11 (.int .i64 0);replace hm:=hm.setCell (a:=⟨R,11,none⟩) (fun _=>rfl) (.int .i64 0);replace hA2:=zae hA2 12 (.slice none 0 0);replace hm:=hm.setCell (a:=⟨R,12,none⟩) (fun _=>rfl) (.slice none 0 0);replace hA2:=zae hA2 13 (.int .i64 0);replace hm:=hm.setCell (a:=⟨R,13,none⟩) (fun _=>rfl) (.int .i64 0);replace hA2:=zae hA2 14 (.int .i64 0);replace hm:=hm.setCell (a:=⟨R,14,none⟩) (fun _=>rfl) (.int .i64 0);have hB2:=hm.at hB (fun e=>hne e);replace hA2:=hid hA2;replace hB2:=hid hB2;replace hm:=hid hm;replace hA:=hid hA;replace hB:=hid hB;replace hne:=hid hne;go_upto_region 35 with (fail)
 generalize ((((w1.setCell ⟨R,11,none⟩ (.int .i64 0)).setCell ⟨R,12,none⟩ (.slice none 0 0)).setCell ⟨R,13,none⟩ (.int .i64 0)).setCell ⟨R,14,none⟩ (.int .i64 0))=w2 at hA2 hB2 hm ⊢;clear p11 p12 p13 p14 zR hA hB;go_wp2_with (first | (refine zal (by rfl) 28 _ rfl R _ _ _ _ rfl hA2.out Tryz.underlying28 rfl (by kernel_rfl) ?_) | (refine zab rfl 28 _ _ rfl Q _ _ 28 rfl rfl hB2.out rfl (by kernel_rfl) rfl (fun WS HS=>?_)))
 have hRR:=hR.out;have hQQ:=hQ.out;refine bodyPost_ret (results_cell_row rfl _ _ Q _ _ _ _ rfl HS.out.1 Tryz.underlying28 rfl (by kernel_rfl)) rfl ⟨by rw [hv.out];rfl,?_⟩;exact (((hx.out.mono (T:=fun k=>w.heap.size<=k) (fun _ h=>h.elim)).trans (hm.out.mono (fun k e=>by have:R=k:=e;omega))).trans (HS.out.2.mono (fun k e=>by have:Q=k:=e;omega))).mono' (fun k h1 h2=>by omega)
def zbg (f:Fc) (l:Bs):Bool:=l.all fun c=>zax f c.toNat
def zay (g:Fc) (l:Bs):Fc:=l.foldl (fun g c=>za2 g c.toNat) g
def zcw (f:Fc):Fc:={ Fc.zero with n:=f.n,tm:=f.tm,kd:=f.kd }
def znL (f:Fc):Bool:=!(zaL f.kd).isEmpty && (rng f.n 0 500 && (rng f.tm 0 1000000000 && (zbg f (zaL f.kd) && decide (zay f (zaL f.kd)=zcw f))))
theorem zmk (f:Fc):znL f=vFc f:=by
 obtain ⟨n,tm,kd,st,lg,rv,bs,ti,au,tp,bl,lb,ed,bk,se,tx,nm,pa,cl,un⟩:=f;unfold znL vFc
 by_cases g1:kd=1
 ·subst g1;simp [zaL,zbg,zay,zax,za2,zcw,zbt,Fc.zero,Fc.mk.injEq,Bool.and_assoc,eq_comm]
 by_cases g2:kd=2
 ·subst g2;simp [zaL,zbg,zay,zax,za2,zcw,zbt,Fc.zero,Fc.mk.injEq,Bool.and_assoc,eq_comm]
 by_cases g3:kd=3
 ·subst g3;simp [zaL,zbg,zay,zax,za2,zcw,zbt,Fc.zero,Fc.mk.injEq,Bool.and_assoc,eq_comm]
 by_cases g4:kd=4
 ·subst g4;simp [zaL,zbg,zay,zax,za2,zcw,zbt,Fc.zero,Fc.mk.injEq,Bool.and_assoc,eq_comm]
 by_cases g5:kd=5
 ·subst g5;simp [zaL,zbg,zay,zax,za2,zcw,zbt,Fc.zero,Fc.mk.injEq,Bool.and_assoc,eq_comm]
 by_cases g6:kd=6
 ·subst g6;simp [zaL,zbg,zay,zax,za2,zcw,zbt,Fc.zero,Fc.mk.injEq,eq_comm]
 by_cases g7:kd=7
 ·subst g7;simp [zaL,zbg,zay,zax,za2,zcw,zbt,Fc.zero,Fc.mk.injEq,Bool.and_assoc,eq_comm]
 by_cases g8:kd=8
 ·subst g8;simp [zaL,zbg,zay,zax,za2,zcw,zbt,Fc.zero,Fc.mk.injEq,Bool.and_assoc,eq_comm];cases rng cl 0 3 <;> simp
 by_cases g9:kd=9
 ·subst g9;simp [zaL,zbg,zay,zax,za2,zcw,zbt,Fc.zero,Fc.mk.injEq,Bool.and_assoc,eq_comm]
 by_cases g10:kd=10
 ·subst g10;simp [zaL,zbg,zay,zax,za2,zcw,zbt,Fc.zero,Fc.mk.injEq,eq_comm]
 simp [zaL,zbt,g1,g2,g3,g4,g5,g6,g7,g8,g9,g10]
def zeu (c:Nat):Prop:=c ∈ ([115,108,114,97,116,117,111,98,76,101,107,110,120,109,112,99,105]:List Nat)
theorem zim {F:Nat -> Prop} (a1:Option Addr) (n1 c1:Nat) (a2:Option Addr) (n2 c2:Nat) (a3:Option Addr) (n3 c3:Nat) (f:Fc) (c:Nat) (hc:zeu c) (w:World) (h:FcAt F w ⟨.slice a1 n1 c1,.slice a2 n2 c2,.slice a3 n3 c3⟩ f) (hs:FcSz f):
  Calls Tryz.prog 59 #[.agg (fcA a1 n1 c1 a2 n2 c2 a3 n3 c3 f),.int .u8 c] w fun e w'=>e=.returned (.bool (zax f c))/\Ext w w':=by
 simp only [zeu,List.mem_cons,List.not_mem_nil,or_false] at hc;rcases hc with rfl | rfl | rfl | rfl | rfl | rfl | rfl | rfl | rfl | rfl | rfl | rfl | rfl | rfl | rfl | rfl | rfl
 ·exact zln a1 n1 c1 a2 n2 c2 a3 n3 c3 f w h hs
 ·exact zkZ a1 n1 c1 a2 n2 c2 a3 n3 c3 f w h hs
 ·exact zla a1 n1 c1 a2 n2 c2 a3 n3 c3 f w h hs
 ·exact zlF a1 n1 c1 a2 n2 c2 a3 n3 c3 f w h hs
 ·exact zk1 a1 n1 c1 a2 n2 c2 a3 n3 c3 f w h hs
 ·exact zlo a1 n1 c1 a2 n2 c2 a3 n3 c3 f w h hs
 ·exact zkX a1 n1 c1 a2 n2 c2 a3 n3 c3 f w h hs
 ·exact zlG a1 n1 c1 a2 n2 c2 a3 n3 c3 f w h hs
 ·exact zlP a1 n1 c1 a2 n2 c2 a3 n3 c3 f w h hs
 ·exact zlH a1 n1 c1 a2 n2 c2 a3 n3 c3 f w h hs
 ·exact zkL a1 n1 c1 a2 n2 c2 a3 n3 c3 f w h hs
 ·exact zkH a1 n1 c1 a2 n2 c2 a3 n3 c3 f w h hs
 ·exact zlz a1 n1 c1 a2 n2 c2 a3 n3 c3 f w h hs
 ·exact zly a1 n1 c1 a2 n2 c2 a3 n3 c3 f w h hs
 ·exact zk5 a1 n1 c1 a2 n2 c2 a3 n3 c3 f w h hs
 ·exact zkF a1 n1 c1 a2 n2 c2 a3 n3 c3 f w h hs
 ·exact zkM a1 n1 c1 a2 n2 c2 a3 n3 c3 f w h hs
def WoP (F:Nat -> Prop) (f:Fc) (c:Nat) (w:World) (e:Ending) (w':World):Prop:=∃ (a1:Option Addr) (n1 c1:Nat) (a2:Option Addr) (n2 c2:Nat) (a3:Option Addr) (n3 c3:Nat),e=.returned (.agg (fcA a1 n1 c1 a2 n2 c2 a3 n3 c3 (za2 f c)))/\FcAt F w' ⟨.slice a1 n1 c1,.slice a2 n2 c2,.slice a3 n3 c3⟩ (za2 f c)/\Ext w w'
theorem zgA {F:Nat -> Prop} (a1:Option Addr) (n1 c1:Nat) (a2:Option Addr) (n2 c2:Nat) (a3:Option Addr) (n3 c3:Nat) (f:Fc) (c:Nat) (hc:zeu c) (w:World) (h:FcAt F w ⟨.slice a1 n1 c1,.slice a2 n2 c2,.slice a3 n3 c3⟩ f):
  Calls Tryz.prog 60 #[.agg (fcA a1 n1 c1 a2 n2 c2 a3 n3 c3 f),.int .u8 c] w (WoP F f c w):=by
 simp only [zeu,List.mem_cons,List.not_mem_nil,or_false] at hc;rcases hc with rfl | rfl | rfl | rfl | rfl | rfl | rfl | rfl | rfl | rfl | rfl | rfl | rfl | rfl | rfl | rfl | rfl
 ·exact (zaK a1 n1 c1 a2 n2 c2 a3 n3 c3 f w (k:=0) rfl).mono fun e w' ⟨h1,hx⟩=>⟨a1,n1,c1,a2,n2,c2,a3,n3,c3,h1,⟨(h.ext hx).tp,(h.ext hx).bl,(h.ext hx).af⟩,hx⟩
 ·exact (zaK a1 n1 c1 a2 n2 c2 a3 n3 c3 f w (k:=1) rfl).mono fun e w' ⟨h1,hx⟩=>⟨a1,n1,c1,a2,n2,c2,a3,n3,c3,h1,⟨(h.ext hx).tp,(h.ext hx).bl,(h.ext hx).af⟩,hx⟩
 ·exact (zaK a1 n1 c1 a2 n2 c2 a3 n3 c3 f w (k:=2) rfl).mono fun e w' ⟨h1,hx⟩=>⟨a1,n1,c1,a2,n2,c2,a3,n3,c3,h1,⟨(h.ext hx).tp,(h.ext hx).bl,(h.ext hx).af⟩,hx⟩
 ·exact (zaK a1 n1 c1 a2 n2 c2 a3 n3 c3 f w (k:=3) rfl).mono fun e w' ⟨h1,hx⟩=>⟨a1,n1,c1,a2,n2,c2,a3,n3,c3,h1,⟨(h.ext hx).tp,(h.ext hx).bl,(h.ext hx).af⟩,hx⟩
 ·exact (zaK a1 n1 c1 a2 n2 c2 a3 n3 c3 f w (k:=4) rfl).mono fun e w' ⟨h1,hx⟩=>⟨a1,n1,c1,a2,n2,c2,a3,n3,c3,h1,⟨(h.ext hx).tp,(h.ext hx).bl,(h.ext hx).af⟩,hx⟩
 ·exact (zaK a1 n1 c1 a2 n2 c2 a3 n3 c3 f w (k:=5) rfl).mono fun e w' ⟨h1,hx⟩=>⟨a1,n1,c1,a2,n2,c2,a3,n3,c3,h1,⟨(h.ext hx).tp,(h.ext hx).bl,(h.ext hx).af⟩,hx⟩
 ·exact (zaK a1 n1 c1 a2 n2 c2 a3 n3 c3 f w (k:=6) rfl).mono fun e w' ⟨h1,hx⟩=>⟨none,0,0,a2,n2,c2,a3,n3,c3,h1,⟨zai.nil _ _ _,(h.ext hx).bl,(h.ext hx).af⟩,hx⟩
 ·exact (zaK a1 n1 c1 a2 n2 c2 a3 n3 c3 f w (k:=7) rfl).mono fun e w' ⟨h1,hx⟩=>⟨a1,n1,c1,none,0,0,a3,n3,c3,h1,⟨(h.ext hx).tp,zaD.nil _ _,(h.ext hx).af⟩,hx⟩
 ·exact (zio a1 n1 c1 a2 n2 c2 a3 n3 c3 f w).mono fun e w' ⟨h1,hx⟩=>⟨_,_,_,_,_,_,_,_,_,h1,⟨(h.ext hx).tp,(h.ext hx).bl,zai.nil _ _ _⟩,hx⟩
 ·exact (zaK a1 n1 c1 a2 n2 c2 a3 n3 c3 f w (k:=8) rfl).mono fun e w' ⟨h1,hx⟩=>⟨a1,n1,c1,a2,n2,c2,a3,n3,c3,h1,⟨(h.ext hx).tp,(h.ext hx).bl,(h.ext hx).af⟩,hx⟩
 ·exact (zaK a1 n1 c1 a2 n2 c2 a3 n3 c3 f w (k:=9) rfl).mono fun e w' ⟨h1,hx⟩=>⟨a1,n1,c1,a2,n2,c2,a3,n3,c3,h1,⟨(h.ext hx).tp,(h.ext hx).bl,(h.ext hx).af⟩,hx⟩
 ·exact (zaK a1 n1 c1 a2 n2 c2 a3 n3 c3 f w (k:=10) rfl).mono fun e w' ⟨h1,hx⟩=>⟨a1,n1,c1,a2,n2,c2,a3,n3,c3,h1,⟨(h.ext hx).tp,(h.ext hx).bl,(h.ext hx).af⟩,hx⟩
 ·exact (zaK a1 n1 c1 a2 n2 c2 a3 n3 c3 f w (k:=11) rfl).mono fun e w' ⟨h1,hx⟩=>⟨a1,n1,c1,a2,n2,c2,a3,n3,c3,h1,⟨(h.ext hx).tp,(h.ext hx).bl,(h.ext hx).af⟩,hx⟩
 ·exact (zaK a1 n1 c1 a2 n2 c2 a3 n3 c3 f w (k:=12) rfl).mono fun e w' ⟨h1,hx⟩=>⟨a1,n1,c1,a2,n2,c2,a3,n3,c3,h1,⟨(h.ext hx).tp,(h.ext hx).bl,(h.ext hx).af⟩,hx⟩
 ·exact (zaK a1 n1 c1 a2 n2 c2 a3 n3 c3 f w (k:=13) rfl).mono fun e w' ⟨h1,hx⟩=>⟨a1,n1,c1,a2,n2,c2,a3,n3,c3,h1,⟨(h.ext hx).tp,(h.ext hx).bl,(h.ext hx).af⟩,hx⟩
 ·exact (zaK a1 n1 c1 a2 n2 c2 a3 n3 c3 f w (k:=14) rfl).mono fun e w' ⟨h1,hx⟩=>⟨a1,n1,c1,a2,n2,c2,a3,n3,c3,h1,⟨(h.ext hx).tp,(h.ext hx).bl,(h.ext hx).af⟩,hx⟩
 ·exact (zaK a1 n1 c1 a2 n2 c2 a3 n3 c3 f w (k:=15) rfl).mono fun e w' ⟨h1,hx⟩=>⟨a1,n1,c1,a2,n2,c2,a3,n3,c3,h1,⟨(h.ext hx).tp,(h.ext hx).bl,(h.ext hx).af⟩,hx⟩
end Go.Proofs.YtjjfphalcibjfaaGreatDoor
namespace Cdk
open Go Go.RowKit
theorem zkf {P:Program} {ops:Array Oper} {o:Oper} {a:Act} {w:World} {Q:Exit -> Act -> World -> Prop} {C:World -> Prop} {r:List (Oper × Bool)} (hp:zdR o=false) (hw:Region.wanted o (yielded ops a.tmps)=true) (ty:TypeId) (x:Operand) (ho:o.op=.load ty x) (b:Nat) (cs:Array Value) (t:TypeId) (fr:Nat × Nat) (d:TypeDesc) (hx:a.eval x=.pointer (some ⟨b,0,none⟩))
  (hS:∀ w,C w -> w.heap[b]?=some (.cells cs t fr)) (hu:P.underlying ty=some d) (hd:d.isRow=true) (hi:(P.info? ty).map (·.size)=some cs.size)
  (h:wpT P ops C Q r (a.put o.dst (.agg cs)) w):wpT P ops C Q ((o,true)::r) a w:=by
 obtain ⟨cs⟩:=cs;exact ⟨_,.inr ⟨hp,yieldsIf_load_mid hw ty x ho b 0 hx cs d (fun w' h'=>zbp (pre:=[]) (post:=[]) (by simpa using hS w' h')) hu hd (by simpa using hi)⟩,h⟩
end Cdk
namespace Go.Proofs.YtjjfphalcibjfaaGreatDoor
open Go.RowKit Cdk Scr
def zi9 (F:Nat -> Prop) (w:World) (Q:Nat) (g:Fc):Prop:=∃ (a1:Option Addr) (n1 c1:Nat) (a2:Option Addr) (n2 c2:Nat) (a3:Option Addr) (n3 c3:Nat),w.heap[Q]?=some (.cells (fcA a1 n1 c1 a2 n2 c2 a3 n3 c3 g) 28 (0,0))/\FcAt F w ⟨.slice a1 n1 c1,.slice a2 n2 c2,.slice a3 n3 c3⟩ g
theorem zg7 (kd:Int):(zaL kd).length<=9:=by
 unfold zaL;repeat' split
 all_goals decide
theorem zfM (kd:Int):∀ c ∈ zaL kd,zeu c.toNat:=by
 unfold zaL zeu;repeat' split
 all_goals decide
theorem zeU (a1:Option Addr) (n1 c1:Nat) (a2:Option Addr) (n2 c2:Nat) (a3:Option Addr) (n3 c3:Nat) (f:Fc) (w:World) (h:FcAt (fun k=>k < w.heap.size) w ⟨.slice a1 n1 c1,.slice a2 n2 c2,.slice a3 n3 c3⟩ f) (hs:FcSz f):
  Calls Tryz.prog 34 #[.agg (fcA a1 n1 c1 a2 n2 c2 a3 n3 c3 f)] w fun e w'=>e=.returned (.bool (vFc f))/\Ext w w':=by
 obtain ⟨r,hr⟩:∃ r,r=znL f:=⟨_,rfl⟩;rw [<- zmk,<- hr];unfold znL at hr;have hk:=hid (zfM f.kd);have hL:=hid (fun W=>zhr f.kd W);have e0:f.n=f.n:=rfl;have hk9:=hid (zg7 f.kd);obtain ⟨L,hLL⟩:∃ L,L=zaL f.kd:=⟨_,rfl⟩;rw [<- hLL] at hr hk hL hk9;obtain ⟨V,hV⟩:∃ V,V=fcA a1 n1 c1 a2 n2 c2 a3 n3 c3 f:=⟨_,rfl⟩;rw [<- hV];have hVs:V.size=23:=by rw [hV];rfl
 have hV1:V.toList.all (·.oneCell')=true:=by rw [hV];rfl
 have hVi:(Tryz.prog.info? 28).map (·.size)=some V.size:=by rw [hVs];kernel_rfl
 have v0:V[0]?=some (.int .i64 f.n):=by rw [hV];rfl
 have v1:V[1]?=some (.int .i64 f.tm):=by rw [hV];rfl
 have v2:V[2]?=some (.int .i64 f.kd):=by rw [hV];rfl
 have hz:=heap_alloc_new w (.cells V 28);have hx:=Mod.alloc (Mod.refl (fun _=>False) w) (.cells V 28);replace hr:=hid hr;replace h:=hid h;replace hV:=hid hV;replace hLL:=hid hLL;clear e0;go_enter Tryz.func34,Tryz.ntmps34;go_upto_region 1 with (fail)
 generalize (w.alloc _)=W at hz hx ⊢;generalize w.heap.size=R at hz ⊢;have s0:W.cell? ⟨R,0,none⟩=some (.int .i64 f.n):=by rw [zaa hz 0];exact v0
 have s1:W.cell? ⟨R,1,none⟩=some (.int .i64 f.tm):=by rw [zaa hz 1];exact v1
 have s2:W.cell? ⟨R,2,none⟩=some (.int .i64 f.kd):=by rw [zaa hz 2];exact v2
 replace hz:=hid hz;replace hx:=hid hx;go_wp2_with fail
 refine (hL.out _).mono ?_;rintro e w' ⟨rfl,rfl⟩;cases hLe:L.isEmpty with
 | true=>
  have hrf:Hid (r=false):=hid (by rw [hr.out,hLe];rfl);replace hr:=hid hr;go_wp2_with fail
  go_ret;exact ⟨by rw [hrf.out];try rfl,hx.out⟩
 | false=>
 by_cases g1:f.n < 0
 ·have hrf:Hid (r=false):=hid (by rw [hr.out];unfold rng;simp;omega)
  go_wp2_with fail
  go_ret;exact ⟨by rw [hrf.out];try rfl,hx.out⟩
 by_cases g2:(500:Int) < f.n
 ·have hrf:Hid (r=false):=hid (by rw [hr.out];unfold rng;simp;omega)
  go_wp2_with fail
  go_ret;exact ⟨by rw [hrf.out];try rfl,hx.out⟩
 by_cases g3:f.tm < 0
 ·have hrf:Hid (r=false):=hid (by rw [hr.out];unfold rng;simp;omega)
  go_wp2_with fail
  go_ret;exact ⟨by rw [hrf.out];try rfl,hx.out⟩
 by_cases g4:(1000000000:Int) < f.tm
 ·have hrf:Hid (r=false):=hid (by rw [hr.out];unfold rng;simp;omega)
  go_wp2_with fail
  go_ret;exact ⟨by rw [hrf.out];try rfl,hx.out⟩
 go_upto_region 4 with (fail)
 clear s0 s1 s2;go_upto_region 5 with (first | (refine zal (by rfl) 28 _ rfl R V _ _ _ rfl hz.out Tryz.underlying28 rfl hVi ?_) | (refine zab rfl 28 _ _ rfl W.heap.size _ V 28 rfl rfl (heap_alloc_new W _) (by rw [hVs];rfl) hVi hV1 (fun WS HS=>?_)))
 have hm2:=(((Mod.alloc (Mod.refl (fun _=>False) W) (.cells zF9 28)).mono (T:=fun k=>W.heap.size<=k) (fun _ h=>h.elim)).then HS.out.2 (fun k _ e=>by omega));have hX2:Ext W WS:=hm2.mono' (fun k h1 h2=>by omega);have hQ0:=HS.out.1;have hRQ:R < W.heap.size:=zat hz.out;have hwQ:w.heap.size<=W.heap.size:=hx.out.size;have hz2:=hX2.at hz.out (fun h=>h);have hx2:=hx.out.trans hX2;have hF2:=h.out.ext hx2;generalize W.heap.size=Q at hQ0 hRQ hwQ ⊢;rw [hV.out] at hQ0;have hRest:zi9 (fun k=>k < w.heap.size) WS Q (zay f (L.take 0)):=⟨a1,n1,c1,a2,n2,c2,a3,n3,c3,hQ0,hF2⟩;replace hr:r=(zbg f (L.drop 0) && decide (zay f L=zcw f)):=by
  rw [hr.out,hLe,List.drop_zero];rw [show rng f.n 0 500=true by unfold rng;simp;omega,show rng f.tm 0 1000000000=true by unfold rng;simp;omega]
  rfl
 obtain ⟨S,hS⟩:∃ S,S=(⟨L.toArray⟩:ByteArray):=⟨_,rfl⟩;have hSL:S.data.toList=L:=by rw [hS]
 have hn:S.size=L.length:=by rw [zaO,hSL]
 have hLen:L.length<=9:=hk9.out;rw [<- hS];replace hS:=hid hS;replace hSL:=hid hSL;replace hn:=hid hn;replace hr:=hid hr;replace hz2:=hid hz2;replace hx2:=hid hx2;replace hRest:=hid hRest;replace hLen:=hid hLen;replace hRQ:=hid hRQ;replace hwQ:=hid hwQ;clear hm2 hX2 hQ0 hF2 HS hz hx g1 g2 g3 g4 v0 v1 v2 hL;go_wp2_with fail
 go_loopg [5] S.size (fun g i wr=>∃ j:Nat,j+g=S.size/\i=.int .i64 j/\Ext w wr/\wr.heap[R]?=some (.cells V 28 (0,0))/\zi9 (fun k=>k < w.heap.size) wr Q (zay f (L.take j))/\r=(zbg f (L.drop j) && decide (zay f L=zcw f)))
 case atStart=>exact ⟨0,by omega,rfl,hx2.out,hz2.out,hRest.out,hr.out⟩
 case round=>
  clear hr hx2 hz2 hRest;obtain ⟨j,hj,rfl,hx,hz,hRest,hrj⟩:=hrel;replace hj:=hid hj
  by_cases hlt:j < S.size
  ·have hd:decide ((j:Int) < (S.size:Int))=true:=decide_eq_true (by omega)
   have hdi:(j:Int) < (S.size:Int):=by omega
   have hkn:zeu S[j].toNat:=hk.out _ (by
    rw [<- hSL.out];exact List.mem_of_mem_drop (i:=j) (by rw [drop_at S hlt];exact List.mem_cons_self ..))
   have hjL:j < L.length:=by have:=hn.out;omega
   have hSj:L[j]=S[j]:=by
    have e1:=drop_at S hlt;rw [hSL.out,List.drop_eq_getElem_cons hjL] at e1;exact (List.cons.inj e1).1
   have hW:zay f (L.take (j+1))=za2 (zay f (L.take j)) S[j].toNat:=by
    unfold zay;rw [List.take_succ_eq_append_getElem hjL,List.foldl_append,hSj]
    rfl
   have hR:zbg f (L.drop j)=(zax f S[j].toNat && zbg f (L.drop (j+1))):=by
    unfold zbg;rw [List.drop_eq_getElem_cons hjL,List.all_cons,hSj]
   rw [hR] at hrj;obtain ⟨c,hc⟩:∃ c,c=S[j].toNat:=⟨_,rfl⟩;have hA:=fun W (hX:Ext wr W)=>zim a1 n1 c1 a2 n2 c2 a3 n3 c3 f S[j].toNat hkn W ((h.out.ext hx).ext hX) hs
   rw [<- hV.out] at hA;obtain ⟨b1,m1,d1,b2,m2,d2,b3,m3,d3,hQc,hQf⟩:=hRest;obtain ⟨G,hG⟩:∃ G,G=zay f (L.take j):=⟨_,rfl⟩;rw [<- hG] at hQc hQf hW;obtain ⟨VQ,hVQ⟩:∃ V,V=fcA b1 m1 d1 b2 m2 d2 b3 m3 d3 G:=⟨_,rfl⟩;rw [<- hVQ] at hQc;have hVQs:VQ.size=23:=by rw [hVQ];rfl
   have hVQi:(Tryz.prog.info? 28).map (·.size)=some VQ.size:=by rw [hVQs];kernel_rfl
   have hB:=fun W (hX:Ext wr W)=>zgA b1 m1 d1 b2 m2 d2 b3 m3 d3 G S[j].toNat hkn W (hQf.ext hX)
   rw [<- hVQ] at hB;clear hR hSj hc;generalize zax f S[j].toNat=bA at hrj hA;generalize hrest:(zbg f (L.drop (j+1)) && decide (zay f L=zcw f))=rest;replace hrj:r=(bA && rest):=by rw [hrj,Bool.and_assoc,hrest]
   have hjw:IntKind.i64.wrap ((j:Int)+1)=(j:Int)+1:=IntWalk.i64_in _ (by have:=hn.out;have:=hLen.out;omega);replace hrest:=hid hrest;replace hrj:=hid hrj;replace hA:=hid hA;replace hB:=hid hB;replace hx:=hid hx;replace hW:=hid hW;replace hG:=hid hG;replace hVQ:=hid hVQ;replace hQc:=hid hQc;replace hz:=hid hz;replace hkn:=hid hkn;clear hQf;go_upto_region 8 with (fail)
   try simp only [List.append_eq,List.cons_append,List.nil_append]
   refine zad (fun W=>Ext wr W) [(0,true),(1,true),(2,true),(3,true),(4,false),(5,true)] (by as_aux_lemma=>kernel_rfl) (by as_aux_lemma=>kernel_rfl) (by as_aux_lemma=>kernel_rfl) (by decide) (Mod.drew0 (fun _=>False) wr) ?_;simp only [zak,List.map_cons,List.map_nil,List.getD_cons_zero,List.getD_cons_succ];have hy0:=hid (Mod.drew0 (fun _=>False) wr);refine zbu (by rfl) 28 _ rfl R V _ _ _ rfl (fun W hC=>hC.at hz.out (fun h=>h)) Tryz.underlying28 rfl hVi ?_;try simp only [Act.put,sA,sZ,sS]
   iterate 3 (refine qT ?_)
   refine zaj (by rfl) (fun K hK=>?_);go_simp;refine (hA.out _ hy0.out).mono ?_;rintro e w5 ⟨rfl,hx5⟩;refine hK.out _ _ (hy0.out.trans hx5) ?_;have hy5:=hid (hy0.out.trans hx5);clear hK K hx5;try simp only [Act.put,sA,sZ,sS]
   iterate 1 (refine qT ?_)
   refine zas ?_;cases bA with
   | false=>
    have hrf:Hid (r=false):=hid (by rw [hrj.out];rfl);go_wp2_with fail
    go_ret;exact ⟨by rw [hrf.out];rfl,hx.out.trans hy5.out⟩
   | true=>
    go_upto_region 11 with fail
    try simp only [List.append_eq,List.cons_append,List.nil_append]
    refine zct (fun W=>Ext wr W) [(0,true),(1,true),(2,true),(3,true),(4,false),(5,false)] (by as_aux_lemma=>kernel_rfl) (by as_aux_lemma=>kernel_rfl) (by as_aux_lemma=>kernel_rfl) (by decide) (hy5.out.trans (Mod.drew0 (fun _=>False) w5)) ?_;simp only [zak,List.map_cons,List.map_nil,List.getD_cons_zero,List.getD_cons_succ];have hy6:=hid (hy5.out.trans (Mod.drew0 (fun _=>False) w5));refine zkf (by rfl) (by rfl) 28 _ rfl Q VQ _ _ _ rfl (fun W hC=>hC.at hQc.out (fun h=>h)) Tryz.underlying28 rfl hVQi ?_;try simp only [Act.put,sA,sZ,sS]
    iterate 3 (first | (refine zlB (by rfl) (by rfl) ?_ (fun w' hC=>?_) ?_;rotate_left;(go_simp;try with_reducible rfl);try simp only [Act.put,sA,sZ,sS]) | (refine zkk (by rfl) (by rfl) ?_ (fun w' hC=>?_) ?_;rotate_left;(go_simp;try with_reducible rfl);try simp only [Act.put,sA,sZ,sS]))
    refine zea (by rfl) (fun K hK=>?_);go_simp;refine (hB.out _ hy6.out).mono ?_;rintro e w7 ⟨b1',m1',d1',b2',m2',d2',b3',m3',d3',rfl,hf7,hx7⟩;obtain ⟨VN,hVN⟩:∃ V,V=fcA b1' m1' d1' b2' m2' d2' b3' m3' d3' (za2 G S[j].toNat):=⟨_,rfl⟩;rw [<- hVN];have hVNs:VN.size=23:=by rw [hVN];rfl
    have hVN1:VN.toList.all (·.oneCell')=true:=by rw [hVN];rfl
    have hy7:=hid (hy6.out.trans hx7);replace hVN:=hid hVN;replace hf7:=hid hf7;refine hK.out _ _ hy7.out ?_;clear hK K hx7;try simp only [Act.put,sA,sZ,sS]
    refine zkT (by rfl) (fun K hK=>?_);refine za1 28 _ _ rfl Q VQ VN 28 rfl rfl (hy7.out.at hQc.out (fun h=>h)) (by rw [hVNs,hVQs]) (by rw [hVNs];kernel_rfl) hVN1 (fun WF HF=>?_);refine hK.out _ _ ?_;clear hK K;have hWF:Hid (Ext w WF):=hid ((hx.out.trans hy7.out).then HF.out.2 (fun k hk e=>by have:=hwQ.out;omega));have hRF:Hid (WF.heap[R]?=some (.cells V 28 (0,0))):=hid (HF.out.2.at (hy7.out.at hz.out (fun h=>h)) (by have:=hRQ.out;omega));have hQF:Hid (zi9 (fun k=>k < w.heap.size) WF Q (zay f (L.take (j+1)))):=hid ⟨b1',m1',d1',b2',m2',d2',b3',m3',d3',by rw [hW.out,<- hVN.out];exact HF.out.1,by rw [hW.out];exact hf7.out.mod HF.out.2 (fun k hk e=>by have:=hwQ.out;omega)⟩;have hrn:Hid (r=(zbg f (L.drop (j+1)) && decide (zay f L=zcw f))):=hid (by rw [hrj.out,hrest.out];rfl);clear HF;go_wp2_with fail
    go_roundg (gk - 1)
    case measure=>have:=hj.out;omega
    case rel=>exact ⟨j+1,by have:=hj.out;omega,by go_num,hWF.out,hRF.out,hQF.out,hrn.out⟩
  ·obtain rfl:j=S.size:=by have:=hj.out;omega
   have hd:decide ((S.size:Int) < (S.size:Int))=false:=decide_eq_false (by omega);have hdi:¬ (S.size:Int) < (S.size:Int):=by omega
   have htk:L.take S.size=L:=by rw [hn.out,List.take_length]
   have hdr:L.drop S.size=[]:=by rw [hn.out,List.drop_length]
   rw [htk] at hRest;rw [hdr] at hrj;obtain ⟨b1,m1,d1,b2,m2,d2,b3,m3,d3,hQc,hQf⟩:=hRest;obtain ⟨G,hG⟩:∃ G,G=zay f L:=⟨_,rfl⟩;rw [<- hG] at hQc hQf hrj;have hE:=zdo (F:=fun k=>k < w.heap.size) b1 m1 d1 b2 m2 d2 b3 m3 d3 G none 0 0 none 0 0 none 0 0 (zcw f) wr hQf (zav _ _ _ rfl rfl rfl);have hrD:r=decide (G=zcw f):=by rw [hrj];rfl
   obtain ⟨VQ,hVQ⟩:∃ V,V=fcA b1 m1 d1 b2 m2 d2 b3 m3 d3 G:=⟨_,rfl⟩;rw [<- hVQ] at hQc hE;have hVQs:VQ.size=23:=by rw [hVQ];rfl
   have hVQi:(Tryz.prog.info? 28).map (·.size)=some VQ.size:=by rw [hVQs];kernel_rfl
   have s0:wr.cell? ⟨R,0,none⟩=some (.int .i64 f.n):=by rw [zaa hz 0,hV.out];rfl
   have s1:wr.cell? ⟨R,1,none⟩=some (.int .i64 f.tm):=by rw [zaa hz 1,hV.out];rfl
   have s2:wr.cell? ⟨R,2,none⟩=some (.int .i64 f.kd):=by rw [zaa hz 2,hV.out];rfl
   rw [<- hrD] at hE;unfold fcA zcw at hE;dsimp only at hE;replace hE:=hid hE;replace hrD:=hid hrD;replace hrj:=hid hrj;replace hG:=hid hG;replace hVQ:=hid hVQ;replace hQc:=hid hQc;replace hx:=hid hx;replace hz:=hid hz;clear hQf htk hdr;go_wp2_with (refine zal (by rfl) 28 _ rfl Q VQ _ _ _ rfl hQc.out Tryz.underlying28 rfl hVQi ?_)
   refine hE.out.mono ?_;rintro e w8 ⟨rfl,hx8⟩;go_wp2_with fail
   go_ret;exact ⟨rfl,hx.out.trans hx8⟩
end Go.Proofs.YtjjfphalcibjfaaGreatDoor
