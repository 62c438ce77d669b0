import Derived.Test.YtjjfphalcibjfaaGreatDoorA15
import Derived.Test.YtjjfphalcibjfaaGreatDoorC15
set_option maxRecDepth 100000
set_option maxHeartbeats 16000000
namespace Go.Proofs.YtjjfphalcibjfaaGreatDoor
open Go.RowKit Cdk Scr
theorem zcN (a1:Option Addr) (n1 c1:Nat) (a2:Option Addr) (n2 c2:Nat) (a3:Option Addr) (n3 c3:Nat) (a4:Option Addr) (n4 c4:Nat) (a5:Option Addr) (n5 c5:Nat) (a:Ac) (w:World) (h:AcAt (fun k=>k < w.heap.size) w ⟨⟨.slice a1 n1 c1,.slice a2 n2 c2,.slice a3 n3 c3⟩,.slice a4 n4 c4,.slice a5 n5 c5⟩ a):
  Calls Tryz.prog 14 #[.agg (acA a1 n1 c1 a2 n2 c2 a3 n3 c3 a4 n4 c4 a5 n5 c5 a)] w fun e w'=>e=.returned (.bool (vAc a))/\Ext w w':=by
 have hO:=hid (fun W (hX:Ext w W)=>zkw a1 n1 c1 a2 n2 c2 a3 n3 c3 a4 n4 c4 a5 n5 c5 a W ((h.ext hX).mono (fun k hk=>Nat.lt_of_lt_of_le hk hX.size)));obtain ⟨kd,fc,n,cl,tx,fa,ke,ms⟩:=a;obtain ⟨r,hr⟩:∃ r,r=vAc ⟨kd,fc,n,cl,tx,fa,ke,ms⟩:=⟨_,rfl⟩;rw [<- hr];obtain ⟨od,hod⟩:∃ od,decide ((⟨kd,fc,n,cl,tx,fa,ke,ms⟩:Ac)=zfr ⟨kd,fc,n,cl,tx,fa,ke,ms⟩)=od:=⟨_,rfl⟩;rw [hod] at hO;obtain ⟨VA,hVA⟩:∃ V,V=acA a1 n1 c1 a2 n2 c2 a3 n3 c3 a4 n4 c4 a5 n5 c5 ⟨kd,fc,n,cl,tx,fa,ke,ms⟩:=⟨_,rfl⟩;rw [<- hVA] at hO ⊢;have hA:=hid (heap_alloc_new w (.cells VA 32));have hx:=hid (Mod.alloc (Mod.refl (fun _=>False) w) (.cells VA 32));have q_kd:=(zaa (heap_alloc_new w (.cells VA 32)) 0).trans (show _=some (.int .i64 kd) by rw [hVA];rfl);have iA:=hid (show (Tryz.prog.info? 32).map (·.size)=some VA.size by rw [hVA];kernel_rfl);replace hr:=hid hr;replace hod:=hid hod;replace hVA:=hid hVA;replace h:=hid h;go_enter Tryz.func14,Tryz.ntmps14;go_upto_region 2 with fail
 generalize (w.alloc _)=W at hA hx q_kd ⊢;generalize w.heap.size=R at hA q_kd ⊢;clear q_kd;rcases (show kd=1 \/ kd=2 \/ kd=3 \/ kd=10 \/ kd=4 \/ kd=5 \/ kd=6 \/ kd=7 \/ kd=8 \/ kd=9 \/ (¬ kd=1/\¬ kd=2/\¬ kd=3/\¬ kd=10/\¬ kd=4/\¬ kd=5/\¬ kd=6/\¬ kd=7/\¬ kd=8/\¬ kd=9) by omega) with rfl | rfl | rfl | rfl | rfl | rfl | rfl | rfl | rfl | rfl | ⟨g1,g2,g3,g10,g4,g5,g6,g7,g8,g9⟩
 case' inl=>
  replace hr:r=(decide (fc.n=0) && (decide (fc.tm=0) && (!decide (fc.kd=10) && (vFc fc && od)))):=by rw [hr.out];unfold vAc;rw [hod.out];simp only [zaV];first | rfl | (simp [Bool.and_assoc])
  have c_v:=hid (fun W (hX:Ext w W)=>zit a1 n1 c1 a2 n2 c2 a3 n3 c3 fc W ((h.out.fc.ext hX).mono (fun k hk=>Nat.lt_of_lt_of_le hk hX.size)));have e_n:=zam fc.n 0;have e_t:=zam fc.tm 0;have e_k:=zcV fc.kd 10;generalize decide (fc.n=0)=b_n at hr e_n;generalize decide (fc.tm=0)=b_t at hr e_t;generalize decide (fc.kd=10)=b_k at hr e_k;generalize vFc fc=b_v at hr c_v;replace hr:=hid hr;obtain ⟨FV,hFV⟩:∃ FV,FV=fcA a1 n1 c1 a2 n2 c2 a3 n3 c3 fc:=⟨_,rfl⟩;have iF:=hid (show (Tryz.prog.info? 28).map (·.size)=some FV.size by rw [hFV];kernel_rfl);have sF:=hid (show FV.size=(zF9:Array Value).size by rw [hFV];rfl);have oF:=hid (show FV.toList.all (·.oneCell')=true by rw [hFV];rfl);rw [<- hFV] at c_v;replace hFV:=hid hFV;have hTl:=hid (zaU (n:=1) (k:=23) (cs:=FV.toList) hA.out (by rw [hVA.out,hFV.out];rfl));go_upto_region 4 with (first | (refine zaC (by rfl) 28 _ rfl R 1 FV _ rfl hTl.out Tryz.underlying28 rfl iF.out ?_) | (refine zab rfl 28 _ _ rfl W.heap.size _ FV 28 rfl rfl (heap_alloc_new W _) (by rw [sF.out]) iF.out oF.out (fun WS HS=>?_)))
  have hm2:=((Mod.alloc (Mod.refl (fun _=>False) W) (.cells zF9 28)).mono (T:=fun k=>W.heap.size<=k) (fun _ h=>h.elim)).then HS.out.2 (fun k _ e=>by omega);have hX2:Ext W WS:=hm2.mono' (fun k h1 h2=>by omega);have hU:=hid HS.out.1;generalize W.heap.size=R2 at hU ⊢;clear hm2 HS hTl;replace hA:=hid (hX2.at hA.out (fun h=>h));replace hx:=hid (hx.out.trans hX2);clear hX2;have u_n:WS.cell? ⟨R2,0,none⟩=some (.int .i64 fc.n):=(zaa hU.out 0).trans (by rw [hFV.out];rfl);have u_tm:WS.cell? ⟨R2,1,none⟩=some (.int .i64 fc.tm):=(zaa hU.out 1).trans (by rw [hFV.out];rfl);have u_kd:WS.cell? ⟨R2,2,none⟩=some (.int .i64 fc.kd):=(zaa hU.out 2).trans (by rw [hFV.out];rfl);cases b_n
  case false=>
   go_wp2_with fail
   go_ret;exact ⟨by rw [hr.out];first | rfl | simp,hx.out⟩
  cases b_t
  case false=>
   go_wp2_with fail
   go_ret;exact ⟨by rw [hr.out];first | rfl | simp,hx.out⟩
  cases b_k
  case true=>
   go_wp2_with fail
   go_ret;exact ⟨by rw [hr.out];first | rfl | simp,hx.out⟩
  go_wp2_with (refine zal (by rfl) 28 _ rfl R2 _ _ _ _ rfl hU.out Tryz.underlying28 rfl iF.out ?_)
  refine (c_v.out _ hx.out).mono ?_;rintro e W5 ⟨rfl,hxn⟩;replace hA:=hid (hxn.at hA.out (fun h=>h));replace hx:=hid (hx.out.trans hxn);clear hxn hU u_n u_tm u_kd;cases b_v
  case false=>
   go_wp2_with fail
   go_ret;exact ⟨by rw [hr.out];first | rfl | simp,hx.out⟩
 case' inr.inl=>
  replace hr:r=(rng n 1 500 && od):=by rw [hr.out];unfold vAc;rw [hod.out];simp only [zaV];first | rfl | (simp [Bool.and_assoc])
  have c_n:=hid (fun W (hX:Ext w W)=>zbl n 1 500 W);generalize rng n 1 500=b_n at hr c_n;replace hr:=hid hr;have s_n:W.cell? ⟨R,24,none⟩=some (.int .i64 n):=(zaa hA.out 24).trans (by rw [hVA.out];rfl);go_wp2_with fail
  refine (c_n.out _ hx.out).mono ?_;rintro e w' ⟨rfl,rfl⟩;cases b_n
  case false=>
   go_wp2_with fail
   go_ret;exact ⟨by rw [hr.out];first | rfl | simp,hx.out⟩
  clear s_n
 case' inr.inr.inl=>
  replace hr:r=(rng n 0 1000000000 && od):=by rw [hr.out];unfold vAc;rw [hod.out];simp only [zaV];first | rfl | (simp [Bool.and_assoc])
  have c_n:=hid (fun W (hX:Ext w W)=>zbl n 0 1000000000 W);generalize rng n 0 1000000000=b_n at hr c_n;replace hr:=hid hr;have s_n:W.cell? ⟨R,24,none⟩=some (.int .i64 n):=(zaa hA.out 24).trans (by rw [hVA.out];rfl);go_wp2_with fail
  refine (c_n.out _ hx.out).mono ?_;rintro e w' ⟨rfl,rfl⟩;cases b_n
  case false=>
   go_wp2_with fail
   go_ret;exact ⟨by rw [hr.out];first | rfl | simp,hx.out⟩
  clear s_n
 case' inr.inr.inr.inl=>
  replace hr:r=(rng n 0 10000 && od):=by rw [hr.out];unfold vAc;rw [hod.out];simp only [zaV];first | rfl | (simp [Bool.and_assoc])
  have c_n:=hid (fun W (hX:Ext w W)=>zbl n 0 10000 W);generalize rng n 0 10000=b_n at hr c_n;replace hr:=hid hr;have s_n:W.cell? ⟨R,24,none⟩=some (.int .i64 n):=(zaa hA.out 24).trans (by rw [hVA.out];rfl);go_wp2_with fail
  refine (c_n.out _ hx.out).mono ?_;rintro e w' ⟨rfl,rfl⟩;cases b_n
  case false=>
   go_wp2_with fail
   go_ret;exact ⟨by rw [hr.out];first | rfl | simp,hx.out⟩
  clear s_n
 case' inr.inr.inr.inr.inl=>
  replace hr:r=(zfU fa 64 24 && od):=by rw [hr.out];unfold vAc;rw [hod.out];simp only [zaV];first | rfl | (simp [Bool.and_assoc])
  have c_f:=hid (fun W (hX:Ext w W)=>zgu (.slice a4 n4 c4) fa 64 24 W (h.out.fa.ext hX));generalize zfU fa 64 24=b_f at hr c_f;replace hr:=hid hr;have s_fa:W.cell? ⟨R,27,none⟩=some (.slice a4 n4 c4):=(zaa hA.out 27).trans (by rw [hVA.out];rfl);go_wp2_with fail
  refine (c_f.out _ hx.out).mono ?_;rintro e W0 ⟨rfl,hxn⟩;replace hA:=hid (hxn.at hA.out (fun h=>h));replace hx:=hid (hx.out.trans hxn);clear hxn s_fa;have s_fa:W0.cell? ⟨R,27,none⟩=some (.slice a4 n4 c4):=(zaa hA.out 27).trans (by rw [hVA.out];rfl);cases b_f
  case false=>
   go_wp2_with fail
   go_ret;exact ⟨by rw [hr.out];first | rfl | simp,hx.out⟩
  clear s_fa
 case' inr.inr.inr.inr.inr.inl=>
  replace hr:r=(rng n (-1) 4194304 && (zfU ke 64 1000 && od)):=by rw [hr.out];unfold vAc;rw [hod.out];simp only [zaV];first | rfl | (simp [Bool.and_assoc])
  have c_n:=hid (fun W (hX:Ext w W)=>zbl n (-1) 4194304 W);generalize rng n (-1) 4194304=b_n at hr c_n;have c_k:=hid (fun W (hX:Ext w W)=>zgu (.slice a5 n5 c5) ke 64 1000 W (h.out.ke.ext hX));generalize zfU ke 64 1000=b_k at hr c_k;replace hr:=hid hr;have s_n:W.cell? ⟨R,24,none⟩=some (.int .i64 n):=(zaa hA.out 24).trans (by rw [hVA.out];rfl);have s_ke:W.cell? ⟨R,28,none⟩=some (.slice a5 n5 c5):=(zaa hA.out 28).trans (by rw [hVA.out];rfl);go_wp2_with fail
  refine (c_n.out _ hx.out).mono ?_;rintro e w' ⟨rfl,rfl⟩;cases b_n
  case false=>
   go_wp2_with fail
   go_ret;exact ⟨by rw [hr.out];first | rfl | simp,hx.out⟩
  go_wp2_with fail
  refine (c_k.out _ hx.out).mono ?_;rintro e W1 ⟨rfl,hxn⟩;replace hA:=hid (hxn.at hA.out (fun h=>h));replace hx:=hid (hx.out.trans hxn);clear hxn s_n s_ke;have s_n:W1.cell? ⟨R,24,none⟩=some (.int .i64 n):=(zaa hA.out 24).trans (by rw [hVA.out];rfl);have s_ke:W1.cell? ⟨R,28,none⟩=some (.slice a5 n5 c5):=(zaa hA.out 28).trans (by rw [hVA.out];rfl);cases b_k
  case false=>
   go_wp2_with fail
   go_ret;exact ⟨by rw [hr.out];first | rfl | simp,hx.out⟩
  clear s_n s_ke
 case' inr.inr.inr.inr.inr.inr.inl=>
  replace hr:r=(rng cl 0 3 && (zfR tx 1 100 33 && od)):=by rw [hr.out];unfold vAc;rw [hod.out];simp only [zaV];first | rfl | (simp [Bool.and_assoc])
  have c_c:=hid (fun W (hX:Ext w W)=>zfg cl W);generalize rng cl 0 3=b_c at hr c_c;have c_x:=hid (fun W (hX:Ext w W)=>zf8 ⟨tx.toArray⟩ 1 100 33 (by decide) W);try simp only at c_x;generalize zfR tx 1 100 33=b_x at hr c_x;replace hr:=hid hr;have s_cl:W.cell? ⟨R,25,none⟩=some (.int .i64 cl):=(zaa hA.out 25).trans (by rw [hVA.out];rfl);have s_tx:W.cell? ⟨R,26,none⟩=some (.string ⟨tx.toArray⟩):=(zaa hA.out 26).trans (by rw [hVA.out];rfl);go_wp2_with fail
  refine (c_c.out _ hx.out).mono ?_;rintro e w' ⟨rfl,rfl⟩;cases b_c
  case false=>
   go_wp2_with fail
   go_ret;exact ⟨by rw [hr.out];first | rfl | simp,hx.out⟩
  go_wp2_with fail
  refine (c_x.out _ hx.out).mono ?_;rintro e w' ⟨rfl,rfl⟩;cases b_x
  case false=>
   go_wp2_with fail
   go_ret;exact ⟨by rw [hr.out];first | rfl | simp,hx.out⟩
  clear s_cl s_tx
 case' inr.inr.inr.inr.inr.inr.inr.inl=>
  replace hr:r=(rng cl 0 3 && (rng n 0 64 && (zfR tx 0 300 32 && od))):=by rw [hr.out];unfold vAc;rw [hod.out];simp only [zaV];first | rfl | (simp [Bool.and_assoc])
  have c_c:=hid (fun W (hX:Ext w W)=>zfg cl W);generalize rng cl 0 3=b_c at hr c_c;have c_n:=hid (fun W (hX:Ext w W)=>zbl n 0 64 W);generalize rng n 0 64=b_n at hr c_n;have c_x:=hid (fun W (hX:Ext w W)=>zf8 ⟨tx.toArray⟩ 0 300 32 (by decide) W);try simp only at c_x;generalize zfR tx 0 300 32=b_x at hr c_x;replace hr:=hid hr;have s_cl:W.cell? ⟨R,25,none⟩=some (.int .i64 cl):=(zaa hA.out 25).trans (by rw [hVA.out];rfl);have s_n:W.cell? ⟨R,24,none⟩=some (.int .i64 n):=(zaa hA.out 24).trans (by rw [hVA.out];rfl);have s_tx:W.cell? ⟨R,26,none⟩=some (.string ⟨tx.toArray⟩):=(zaa hA.out 26).trans (by rw [hVA.out];rfl);go_wp2_with fail
  refine (c_c.out _ hx.out).mono ?_;rintro e w' ⟨rfl,rfl⟩;cases b_c
  case false=>
   go_wp2_with fail
   go_ret;exact ⟨by rw [hr.out];first | rfl | simp,hx.out⟩
  go_wp2_with fail
  refine (c_n.out _ hx.out).mono ?_;rintro e w' ⟨rfl,rfl⟩;cases b_n
  case false=>
   go_wp2_with fail
   go_ret;exact ⟨by rw [hr.out];first | rfl | simp,hx.out⟩
  go_wp2_with fail
  refine (c_x.out _ hx.out).mono ?_;rintro e w' ⟨rfl,rfl⟩;cases b_x
  case false=>
   go_wp2_with fail
   go_ret;exact ⟨by rw [hr.out];first | rfl | simp,hx.out⟩
  clear s_cl s_n s_tx
 case' inr.inr.inr.inr.inr.inr.inr.inr.inl=>
  replace hr:r=(vMs ms && od):=by rw [hr.out];unfold vAc;rw [hod.out];simp only [zaV];first | rfl | (simp [Bool.and_assoc])
  have c_m:=hid (fun W (hX:Ext w W)=>zcH ms W);unfold msC zbR at c_m;generalize vMs ms=b_m at hr c_m;replace hr:=hid hr;have hTl:=hid (zaU (n:=29) (k:=7) (cs:=((msC ms).toArray).toList) hA.out (by rw [hVA.out];rfl));go_wp2_with (refine zaC (by rfl) 30 _ rfl R 29 _ _ rfl hTl.out Tryz.underlying30 rfl (by kernel_rfl) ?_)
  refine (c_m.out _ hx.out).mono ?_;rintro e W0 ⟨rfl,hxn⟩;replace hA:=hid (hxn.at hA.out (fun h=>h));replace hx:=hid (hx.out.trans hxn);clear hxn  hTl;cases b_m
  case false=>
   go_wp2_with fail
   go_ret;exact ⟨by rw [hr.out];first | rfl | simp,hx.out⟩
 case' inr.inr.inr.inr.inr.inr.inr.inr.inr.inl=>
  replace hr:r=(od):=by rw [hr.out];unfold vAc;rw [hod.out];simp only [zaV];first | rfl | (simp [Bool.and_assoc])
  replace hr:=hid hr
 case inr.inr.inr.inr.inr.inr.inr.inr.inr.inr=>
  have e1:(kd==1)=false:=by rw [beq_eq_false_iff_ne];exact g1
  have e2:(kd==2)=false:=by rw [beq_eq_false_iff_ne];exact g2
  have e3:(kd==3)=false:=by rw [beq_eq_false_iff_ne];exact g3
  have e4:(kd==4)=false:=by rw [beq_eq_false_iff_ne];exact g4
  have e5:(kd==5)=false:=by rw [beq_eq_false_iff_ne];exact g5
  have e6:(kd==6)=false:=by rw [beq_eq_false_iff_ne];exact g6
  have e7:(kd==7)=false:=by rw [beq_eq_false_iff_ne];exact g7
  have e8:(kd==8)=false:=by rw [beq_eq_false_iff_ne];exact g8
  have e9:(kd==9)=false:=by rw [beq_eq_false_iff_ne];exact g9
  have e10:(kd==10)=false:=by rw [beq_eq_false_iff_ne];exact g10
  replace hr:r=false:=by
   rw [hr.out];unfold vAc zaV;simp only [g1,g2,g3,g4,g5,g6,g7,g8,g9,g10,if_false]
   rfl
  replace hr:=hid hr;replace g1:=hid g1;replace g2:=hid g2;replace g3:=hid g3;replace g4:=hid g4;replace g5:=hid g5;replace g6:=hid g6;replace g7:=hid g7;replace g8:=hid g8;replace g9:=hid g9;replace g10:=hid g10;go_wp2_with fail
  go_ret;exact ⟨by rw [hr.out];first | rfl | simp,hx.out⟩
 all_goals
  go_wp2_with (refine zal (by rfl) 32 _ rfl R _ _ _ _ rfl hA.out Tryz.underlying32 rfl iA.out ?_)
  refine (hO.out _ hx.out).mono ?_;rintro e W9 ⟨rfl,hxn⟩;go_wp2_with fail
  go_ret;exact ⟨by rw [hr.out];simp,hx.out.trans hxn⟩
open Go.Shelf Go.RowKit Cdk Scr
theorem zcP.mod {F S:Nat -> Prop} {w w':World} {v:Value} (h:zcP F w v) (hm:Mod S w w') (hS:∀ k,F k -> ¬ S k):zcP F w' v:=by
 obtain ⟨rows,h1,h2,h3⟩:=h;exact ⟨rows,h1,h2.mod hm hS,fun j hj=>(h3 j hj).mod hm hS⟩
theorem zcP.ext {F:Nat -> Prop} {w w':World} {v:Value} (h:zcP F w v) (hm:Ext w w'):zcP F w' v:=h.mod hm (fun _ _ h=>h)
theorem zbF {F:Nat -> Prop} {w:World} {s:AV} {a:Ac} (h:AcAt F w s a):∃ (a1:Option Addr) (n1 c1:Nat) (a2:Option Addr) (n2 c2:Nat) (a3:Option Addr) (n3 c3:Nat) (a4:Option Addr) (n4 c4:Nat) (a5:Option Addr) (n5 c5:Nat),s=⟨⟨.slice a1 n1 c1,.slice a2 n2 c2,.slice a3 n3 c3⟩,.slice a4 n4 c4,.slice a5 n5 c5⟩:=by
 obtain ⟨⟨h1,h2,h3⟩,h4,h5⟩:=h;obtain ⟨⟨x1,x2,x3⟩,x4,x5⟩:=s;obtain ⟨_,_,rfl⟩:=h1.slice;obtain ⟨_,_,rfl⟩:=h2.slice;obtain ⟨_,_,rfl⟩:=h3.slice;obtain ⟨_,_,rfl⟩:=h4.slice;obtain ⟨_,_,rfl⟩:=h5.slice;exact ⟨_,_,_,_,_,_,_,_,_,_,_,_,_,_,_,rfl⟩
theorem zkp {a:Ac} (hv:vAc a=true):(line a).length<=100000000:=by
 obtain ⟨ok,hm⟩:=zhD hv;unfold line;have key:∀ (l:List Fm) (k:Nat),l=forms.drop k -> k<=18 -> (match zcW a.kd a.fc.kd k l with | none=>([]:Bs) | some (j,f)=>join 32 (f.wd::zan j a)).length<=100000000:=by
  intro l
  induction l with
  | nil=>intro k _ _;simp [zcW]
  | cons f r ih=>
   intro k hk h18;have hk':k < 18:=by
    rcases Nat.lt_or_ge k 18 with h | h
    ·exact h
    ·have:forms.drop k=[]:=List.drop_eq_nil_of_le h
     rw [this] at hk;cases hk
   obtain ⟨ff,e,k1,k2,k3⟩:=zfL hk';rw [e] at hk;injection hk with e1 e2
   subst e1;simp only [zcW]
   by_cases hh:f.kd=a.kd/\f.fk=a.fc.kd
   ·rw [if_pos hh]
    have hm17:k=17 -> vMs a.ms=true:=fun e=>hm (by rw [<- hh.1,k1];exact zhJ hk' e)
    obtain ⟨hw9,hwl⟩:=zdY ok hm17;have hwd:f.wd.length<=3000000:=by
     rw [k3];have:∀ k:Fin 18,(zmQ k.val).length<=3000000:=by decide
     exact this ⟨k,hk'⟩
    have h1:=zcB 32 3000000 (f.wd::zan k a) (fun x hx=>by
     rcases List.mem_cons.1 hx with rfl | hx
     ·exact hwd
     ·exact hwl x hx)
    rw [List.length_cons] at h1;have h3:((zan k a).length+1)*(3000000+1)<=10*3000001:=Nat.mul_le_mul (by omega) (Nat.le_refl _);simp only;omega
   ·rw [if_neg hh]
    exact ih (k+1) e2 (by omega)
 exact key forms 0 rfl (by omega)
def zcd (l:List Ac) (e:Ending):Prop:=e=match print l with | some s=>.returned (.tuple #[.string ⟨s.toArray⟩,.int .i64 0]) | none=>.returned (.tuple #[.string ⟨#[]⟩,.int .i64 280])
theorem zeq {l:List Ac} (h:100 < l.length):print l=none:=by unfold print;rw [if_neg];simp;omega
theorem zeK {l:List Ac} {a:Ac} (h:a ∈ l) (hv:vAc a=false):print l=none:=by
 unfold print;rw [if_neg];simp only [Bool.and_eq_true,List.all_eq_true,not_and,decide_eq_true_eq];intro _ hh;have:=hh a h;rw [hv] at this;cases this
theorem zhj {l:List Ac} {j:Nat} (h:65536 < ((l.take j).flatMap lnF).length):print l=none:=by
 unfold print;rw [if_neg];simp only [Bool.and_eq_true,decide_eq_true_eq,not_and];intro _ _ hh;have:(l.flatMap lnF).length=((l.take j).flatMap lnF).length+((l.drop j).flatMap lnF).length:=by
  rw [<- List.length_append,<- List.flatMap_append,List.take_append_drop]
 omega
theorem print_any (v:Value) (l:List Ac) (w:World) (hG:Gl w) (h:zbK (fun k=>k < w.heap.size) w v l):
  Calls Tryz.prog 19 #[v] w fun e w'=>zcd l e/\Ext w w':=by
 obtain ⟨ao,cap,rfl⟩:=h.slice;obtain ⟨n,hn⟩:∃ n,n=l.length:=⟨_,rfl⟩;have hn0:=h.len;rw [<- hn] at h hn0 ⊢;replace hn:=hid hn;replace h:=hid h;replace hG:=hid hG
 by_cases h100:100 < n
 ·have hi:(100:Int) < (n:Int):=by omega
  have hp:=hid (zeq (l:=l) (by rw [<- hn.out];exact h100));go_enter Tryz.func19,Tryz.ntmps19;go_wp2_with fail
  go_ret2
  exact ⟨by unfold zcd;rw [hp.out];rfl,Mod.refl _ _⟩
 have hi:¬ (100:Int) < (n:Int):=by omega
 go_enter Tryz.func19,Tryz.ntmps19;go_wp2_with fail
 refine (zfY w).mono ?_;rintro e w1 ⟨fo,fcap,rfl,hF,hx1⟩;have hb0:=Bld.fresh w1;have hxb:=Mod.alloc (Mod.refl (fun _=>False) w1) (.cells #[.pointer none,.slice none 0 0] zfT);have hF1:=hid (zcP.ext (hF) hxb);have hs1:w.heap.size<=w1.heap.size:=hx1.size;have hw2:=hid (hx1.trans hxb);clear hF hx1 hxb;go_wp2_with fail
 generalize (w1.alloc _)=w2 at hb0 hF1 hw2 ⊢;generalize w1.heap.size=B at hb0 hF1 hs1 ⊢;replace hb0:=hid hb0;go_loopg [14] n (fun g i wr=>∃ (j:Nat) (ty:Bs),j+g=n/\i=.int .i64 j/\Bld B B ty wr/\za4 B B w2 wr/\ty=(l.take j).flatMap lnF/\((l.take j).all vAc=true)/\ty.length<=65536)
 case atStart=>exact ⟨0,[],by omega,rfl,hb0.out,za4.refl _ _ _,rfl,rfl,by decide⟩
 case round=>
  clear hb0;obtain ⟨j,ty,hj,rfl,hB,hK,ht,hall,hlen⟩:=hrel;replace hj:=hid hj;have hm:Mod (fun k=>B<=k) w wr:=(hw2.out.mono (T:=fun k=>B<=k) (fun _ h=>h.elim)).trans hK.1
  by_cases hlt:j < n
  ·have hdi:(j:Int) < (n:Int):=by omega
   have hd:decide ((j:Int) < (n:Int))=true:=decide_eq_true hdi;have hjl:j < l.length:=by have:=hn.out;omega
   obtain ⟨b1,o1,cap',sv,e,hFb,hA,hc⟩:=(h.out.mod hm (fun k h1 h2=>by omega)).get hjl;have htk:(l.take (j+1)).flatMap lnF=ty++lnF l[j]:=by rw [List.take_succ_eq_append_getElem hjl,List.flatMap_append,<- ht];simp
   have hall2:(l.take (j+1)).all vAc=((l.take j).all vAc && vAc l[j]):=by rw [List.take_succ_eq_append_getElem hjl,List.all_append];simp
   have hmem:l[j] ∈ l:=List.getElem_mem _;injection e with e1 e2 e3
   subst e1;clear e2 e3;obtain ⟨a1,n1,c1,a2,n2,c2,a3,n3,c3,a4,n4,c4,a5,n5,c5,rfl⟩:=zbF hA;generalize l[j]=a at hA hc htk hall2 hmem;obtain ⟨V,hV⟩:∃ V,V=acA a1 n1 c1 a2 n2 c2 a3 n3 c3 a4 n4 c4 a5 n5 c5 a:=⟨_,rfl⟩;have hr:wr.rangeAt b1 (o1+j*36) V.toList:=fun i u hu=>by
    have hu':(acC (⟨⟨.slice a1 n1 c1,.slice a2 n2 c2,.slice a3 n3 c3⟩,.slice a4 n4 c4,.slice a5 n5 c5⟩,a))[i]?=some u:=by rw [hV] at hu;exact hu
    exact hc i u (List.getElem?_eq_some_iff.1 hu').1 hu'
   have hVs:V.toList.length=36:=by rw [hV];rfl
   have hVi:(Tryz.prog.info? 32).map (·.size)=some V.toList.length:=by rw [hVs];kernel_rfl
   have hVj:(Tryz.prog.info? 32).map (·.size)=some V.size:=by rw [<- Array.length_toList];exact hVi
   have hV1:V.toList.all (·.oneCell')=true:=by rw [hV];rfl
   have hVa:V.toList.toArray=V:=by simp
   clear hc;have hBl:=hB.lt;replace hA:=hid hA;replace hB:=hid hB;replace hK:=hid hK;replace hm:=hid hm;replace ht:=hid ht;replace htk:=hid htk;replace hlen:=hid hlen;replace hV:=hid hV;replace hr:=hid hr;replace hVi:=hid hVi;replace hVj:=hid hVj;replace hVs:=hid hVs;replace hV1:=hid hV1;replace hVa:=hid hVa;replace hall2:=hid hall2;replace hmem:=hid hmem;go_upto_region 8 with (first | (refine wpList_load_mid rfl 32 _ rfl b1 (o1+j*36) rfl V.toList _ hr.out Tryz.underlying32 rfl hVi.out ?_) | (refine zab rfl 32 _ _ rfl wr.heap.size _ V 32 rfl (by rw [<- hVa.out];rfl) (heap_alloc_new wr _) (by rw [<- Array.length_toList,hVs.out];rfl) hVj.out hV1.out (fun WS HS=>?_)))
   obtain ⟨zs,hzs⟩:∃ zs,Hid (Mod (Eq wr.heap.size) (wr.alloc (.cells zs 32)) WS):=⟨_,hid HS.out.2⟩;have hX2:Ext wr WS:=(((Mod.alloc (Mod.refl (fun _=>False) wr) (.cells zs 32)).mono (T:=fun k=>wr.heap.size<=k) (fun _ h=>h.elim)).then hzs.out (fun k _ e=>by omega)).mono' (fun k h1 h2=>by omega);have hT:=hid HS.out.1;have hTB:wr.heap.size ≠ B:=by omega
   generalize wr.heap.size=T at hT hTB ⊢;clear HS hzs;have hBS:=hid (hB.out.ext hX2);have hKS:=hid (hK.out.ext hX2);have hAS:=hid ((hA.out.ext hX2));have hmS:=hid (hm.out.trans (hX2.mono (T:=fun k=>B<=k) (fun _ h=>h.elim)));have hsz:w.heap.size<=WS.heap.size:=hmS.out.size;clear hB hK hA hm hr hX2;have hvl:=hid (zcN a1 n1 c1 a2 n2 c2 a3 n3 c3 a4 n4 c4 a5 n5 c5 a WS (hAS.out.mono (fun k hk=>by omega)));rw [<- hV.out] at hvl;clear hsz;cases hva:vAc a with
   | false=>
    rw [hva] at hvl;have hp:=hid (zeK hmem.out hva);replace hva:=hid hva;go_wp2_with (first | (refine zal (by rfl) 32 _ rfl T V _ _ _ rfl hT.out Tryz.underlying32 rfl hVj.out ?_))
    refine hvl.out.mono ?_;rintro e w3 ⟨rfl,hx3⟩;have hx3:=hid (hmS.out.trans (hx3.mono (T:=fun k=>B<=k) (fun _ h=>h.elim)));go_wp2_with fail
    go_ret2
    exact ⟨by unfold zcd;rw [hp.out];rfl,zaG hs1 hx3.out⟩
   | true=>
    rw [hva] at hvl;have hll:=hid (zkp hva);go_wp2_with (first | (refine zal (by rfl) 32 _ rfl T V _ _ _ rfl hT.out Tryz.underlying32 rfl hVj.out ?_))
    refine hvl.out.mono ?_;rintro e w3 ⟨rfl,hx3⟩;have hT3:=hid (hx3.at hT.out (fun h=>h));have hB3:=hid (hBS.out.ext hx3);have hK3:=hid (hKS.out.ext hx3);have hm3:=hid (hmS.out.trans (hx3.mono (T:=fun k=>B<=k) (fun _ h=>h.elim)));have hA3:=hid (hAS.out.ext hx3);clear hvl hT hBS hKS hmS hAS hx3;have hsz:w.heap.size<=w3.heap.size:=hm3.out.size;have hF3:=zcP.mod hF1.out hK3.out.1 (fun k h1 h2=>by have:=h1.2;omega);have hG3:=hG.out.mod hm3.out (fun k h=>by have:=hG.out.size;omega);have hln:=hid (zhA (.slice fo 18 fcap) a1 n1 c1 a2 n2 c2 a3 n3 c3 a4 n4 c4 a5 n5 c5 a w3 hG3 hF3 (hA3.out.mono (fun k hk=>by omega)) hva);rw [<- hV.out] at hln;replace hva:=hid hva;clear hF3 hG3 hsz hA3;generalize hlt2:line a=tl at hln hll;have hlnF:lnF a=tl++[10]:=by rw [lnF,hlt2]
    replace hlnF:=hid hlnF;replace hlt2:=hid hlt2;go_wp2_with (first | (refine zal (by rfl) 32 _ rfl T V _ _ _ rfl hT3.out Tryz.underlying32 rfl hVj.out ?_))
    refine hln.out.mono ?_;rintro e w4 ⟨rfl,hx4⟩;have hB4:=hB3.out.ext hx4;have hK4:=hid (hK3.out.ext hx4);have hm4:=hid (hm3.out.trans (hx4.mono (T:=fun k=>B<=k) (fun _ h=>h.elim)));clear hln hB3 hK3 hm3 hx4 hT3;go_wp2_with fail
    refine (zdy B B ty ⟨tl.toArray⟩ w4 hB4 (by have:=hlen.out;have:=hll.out;rw [zaS];omega)).mono ?_;rintro e w5 ⟨rfl,hB5,hK5⟩;have hm5:=hid (hm4.out.trans hK5.1);have hK5:=hid (hK4.out.trans hK5);clear hB4 hK4 hm4;go_wp2_with fail
    refine (zcY B B _ 10 w5 hB5 (by have:=hlen.out;have:=hll.out;simp only [List.length_append];omega)).mono ?_;rintro e w6 ⟨rfl,hB6,hK6⟩;have hm6:=hid (hm5.out.trans hK6.1);have hK6:=hid (hK5.out.trans hK6);clear hB5 hK5 hm5;have hty:(ty++tl)++[10]=(l.take (j+1)).flatMap lnF:=by rw [htk.out,hlnF.out,List.append_assoc]
    have hty':(ty++tl++[10]).length=((l.take (j+1)).flatMap lnF).length:=by rw [hty]
    have hbl:=hid (zk8 B B _ w6 hB6);obtain ⟨tq,htq⟩:∃ tq,tq=(ty++tl)++[10]:=⟨_,rfl⟩;change Hid _ at hbl;rw [<- htq] at hbl hB6 hty;replace hB6:=hid hB6;replace hty:=hid hty;replace htq:=hid htq;clear hty';go_wp2_with fail
    refine hbl.out.mono ?_;rintro e w7 ⟨rfl,rfl⟩
    by_cases hbig:65536 < tq.length
    ·have hbi:(65536:Int) < (tq.length:Int):=by omega
     have hp:=hid (zhj (l:=l) (j:=j+1) (by rw [<- hty.out];exact hbig));go_wp2_with fail
     go_ret2
     exact ⟨by unfold zcd;rw [hp.out];rfl,zaG hs1 hm6.out⟩
    ·have hbi:¬ (65536:Int) < (tq.length:Int):=by omega
     go_wp2_with fail
     go_roundg (gk - 1)
     case measure=>have:=hj.out;omega
     case rel=>exact ⟨j+1,tq,by have:=hj.out;omega,by go_num,hB6.out,hK6.out,hty.out,by rw [hall2.out,hall,hva.out];rfl,by omega⟩
  ·obtain rfl:j=n:=by have:=hj.out;omega
   have hdi:¬ (j:Int) < (j:Int):=by omega
   have hd:decide ((j:Int) < (j:Int))=false:=decide_eq_false hdi;rw [List.take_of_length_le (by have:=hn.out;omega)] at ht hall
   have hp:=hid (show print l=some ty by
    unfold print;rw [if_pos,<- ht];simp only [Bool.and_eq_true,decide_eq_true_eq]
    exact ⟨by have:=hn.out;omega,hall,by rw [<- ht];exact hlen⟩)
   have hst:=hid (zfN B B ty wr hB);replace hm:=hid hm;replace ht:=hid ht;clear hB hK;go_wp2_with fail
   refine hst.out.mono ?_;rintro e w4 ⟨rfl,hm4⟩;replace hm4:=hid hm4;go_wp2_with fail
   go_ret2
   exact ⟨by unfold zcd;rw [hp.out];rfl,zaG hs1 (hm.out.trans hm4.out)⟩
end Go.Proofs.YtjjfphalcibjfaaGreatDoor
