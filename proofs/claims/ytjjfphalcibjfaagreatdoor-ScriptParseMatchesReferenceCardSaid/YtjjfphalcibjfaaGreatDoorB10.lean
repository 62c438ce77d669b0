import Derived.Test.YtjjfphalcibjfaaGreatDoorB5
import Derived.Test.YtjjfphalcibjfaaGreatDoorJ13
set_option maxRecDepth 100000
set_option maxHeartbeats 16000000
namespace Go.Proofs.YtjjfphalcibjfaaGreatDoor
open Go.RowKit Cdk Scr
structure FcSz (f:Fc):Prop where
 lg:maxS f.lg
 ti:maxS f.ti
 au:maxS f.au
 tx:maxS f.tx
 nm:maxS f.nm
 tp:∀ s ∈ f.tp,maxS s
 bl:∀ b ∈ f.bl,maxS b.tx
def zcc (f:Fc) (c:Nat):Bool:=
 if c=115 then rng f.st 1 64 else if c=108 then zbT f.lg else if c=114 then rng f.rv 1 100
 else if c=97 then rng f.bs 0 (f.rv - 1) else if c=116 then zdL f.ti else if c=117 then zbT f.au
 else if c=111 then vTp f.tp else if c=98 then zec f.bl else if c=76 then vLb f.lb
 else if c=101 then rng f.ed 1 5 else if c=107 then rng f.bk 1 1000 else if c=110 then rng f.se 0 299
 else if c=120 then (if f.kd=7 then zj6 f.tx else zdL f.tx) else if c=109 then zbT f.nm
 else if c=112 then rng f.pa 1 8 else if c=99 then rng f.cl 0 3 else rng f.un 0 1000000000
def zfg (c:Nat):Prop:=c ∈ ([115,108,114,97,116,117,111,98,76,101,107,110,120,109,112,99,105]:List Nat)
theorem zkr {F:Nat -> Prop} (a1:Option Addr) (n1 c1:Nat) (a2:Option Addr) (n2 c2:Nat) (a3:Option Addr) (n3 c3:Nat) (f:Fc) (c:Nat) (hc:zfg c) (w:World) (h:FcAt F w ⟨.slice a1 n1 c1,.slice a2 n2 c2,.slice a3 n3 c3⟩ f) (hs:FcSz f):
  Calls Tryz.prog 59 #[.agg (fcA a1 n1 c1 a2 n2 c2 a3 n3 c3 f),.int .u8 c] w fun e w'=>e=.returned (.bool (zcc f c))/\Ext w w':=by
 obtain ⟨r,hr⟩:∃ r,r=zcc f c:=⟨_,rfl⟩;rw [<- hr];obtain ⟨V,hV⟩:∃ V,V=fcA a1 n1 c1 a2 n2 c2 a3 n3 c3 f:=⟨_,rfl⟩;rw [<- hV];have pc:=fun (i:Nat) (x:Value) (hx:V[i]?=some x)=>Y ((zaa (heap_alloc_new w (.cells V 28)) i).trans hx)
 have v2:=pc 2 (.int .i64 f.kd) (by rw [hV];rfl);have v3:=pc 3 (.int .i64 f.st) (by rw [hV];rfl);have v4:=pc 4 (.string ⟨f.lg.toArray⟩) (by rw [hV];rfl);have v5:=pc 5 (.int .i64 f.rv) (by rw [hV];rfl);have v6:=pc 6 (.int .i64 f.bs) (by rw [hV];rfl);have v7:=pc 7 (.string ⟨f.ti.toArray⟩) (by rw [hV];rfl);have v8:=pc 8 (.string ⟨f.au.toArray⟩) (by rw [hV];rfl);have v9:=pc 9 (.slice a1 n1 c1) (by rw [hV];rfl);have v10:=pc 10 (.slice a2 n2 c2) (by rw [hV];rfl);have v11:=pc 11 (.int .i64 f.lb.til) (by rw [hV];rfl);have v12:=pc 12 (.slice a3 n3 c3) (by rw [hV];rfl);have v13:=pc 13 (.int .i64 f.lb.app) (by rw [hV];rfl);have v14:=pc 14 (.int .i64 f.lb.den) (by rw [hV];rfl);have v15:=pc 15 (.int .i64 f.ed) (by rw [hV];rfl);have v16:=pc 16 (.int .i64 f.bk) (by rw [hV];rfl);have v17:=pc 17 (.int .i64 f.se) (by rw [hV];rfl);have v18:=pc 18 (.string ⟨f.tx.toArray⟩) (by rw [hV];rfl);have v19:=pc 19 (.string ⟨f.nm.toArray⟩) (by rw [hV];rfl);have v20:=pc 20 (.int .i64 f.pa) (by rw [hV];rfl);have v21:=pc 21 (.int .i64 f.cl) (by rw [hV];rfl);have v22:=pc 22 (.int .i64 f.un) (by rw [hV];rfl);have hx:=Y (Mod.alloc (Mod.refl (fun _=>False) w) (.cells V 28));replace hr:=Y hr;replace h:=Y h;replace hs:=Y hs;replace hc:=Y hc;clear pc hV;go_enter Tryz.func59,Tryz.ntmps59;go_upto_region 1 with fail
 generalize (w.alloc _)=w1 at hx v2 v3 v4 v5 v6 v7 v8 v9 v10 v11 v12 v13 v14 v15 v16 v17 v18 v19 v20 v21 v22 ⊢;generalize w.heap.size=R at v2 v3 v4 v5 v6 v7 v8 v9 v10 v11 v12 v13 v14 v15 v16 v17 v18 v19 v20 v21 v22 ⊢;replace hc:=hc.o;simp only [zfg,List.mem_cons,List.not_mem_nil,or_false] at hc;rcases hc with rfl | rfl | rfl | rfl | rfl | rfl | rfl | rfl | rfl | rfl | rfl | rfl | rfl | rfl | rfl | rfl | rfl
 ·have p3:=v3.o
  replace hr:r=(decide ((1:Int)<=f.st) && decide (f.st<=64)):=hr.o;generalize q1:decide ((1:Int)<=f.st)=b1 at hr;generalize q2:decide (f.st<=64)=b2 at hr;replace hr:=Y hr;go_wp2_with fail
  all_goals
   go_ret;exact ⟨by rw [hr.o];simp [*],hx.o⟩
 ·have p4:=v4.o
  have k1:=zdb ⟨f.lg.toArray⟩ w1 hs.o.lg;simp only at k1;replace hr:r=zbT f.lg:=hr.o;generalize zbT f.lg=b1 at hr k1;replace hr:=Y hr;replace k1:=Y k1;go_wp2_with fail
  refine k1.o.mono ?_;rintro e w2 ⟨rfl,rfl⟩;go_wp2_with fail
  go_ret;exact ⟨by rw [hr.o];try rfl,hx.o⟩
 ·have p5:=v5.o
  replace hr:r=(decide ((1:Int)<=f.rv) && decide (f.rv<=100)):=hr.o;generalize q1:decide ((1:Int)<=f.rv)=b1 at hr;generalize q2:decide (f.rv<=100)=b2 at hr;replace hr:=Y hr;go_wp2_with fail
  all_goals
   go_ret;exact ⟨by rw [hr.o];simp [*],hx.o⟩
 ·have p5:=v5.o
  have p6:=v6.o;replace hr:r=(decide ((0:Int)<=f.bs) && decide (f.bs<=f.rv - 1)):=hr.o;have q0:decide (f.bs<=f.rv - 1)=decide (f.bs < f.rv):=by rw [Bool.eq_iff_iff,decide_eq_true_eq,decide_eq_true_eq];omega
  rw [q0] at hr;clear q0;generalize q1:decide ((0:Int)<=f.bs)=b1 at hr;generalize q2:decide (f.bs < f.rv)=b2 at hr;replace hr:=Y hr;go_wp2_with fail
  all_goals
   go_ret;exact ⟨by rw [hr.o];simp [*],hx.o⟩
 ·have p7:=v7.o
  have k1:=zgr ⟨f.ti.toArray⟩ w1 hs.o.ti;simp only at k1;replace hr:r=zdL f.ti:=hr.o;generalize zdL f.ti=b1 at hr k1;replace hr:=Y hr;replace k1:=Y k1;go_wp2_with fail
  refine k1.o.mono ?_;rintro e w2 ⟨rfl,rfl⟩;go_wp2_with fail
  go_ret;exact ⟨by rw [hr.o];try rfl,hx.o⟩
 ·have p8:=v8.o
  have k1:=zdb ⟨f.au.toArray⟩ w1 hs.o.au;simp only at k1;replace hr:r=zbT f.au:=hr.o;generalize zbT f.au=b1 at hr k1;replace hr:=Y hr;replace k1:=Y k1;go_wp2_with fail
  refine k1.o.mono ?_;rintro e w2 ⟨rfl,rfl⟩;go_wp2_with fail
  go_ret;exact ⟨by rw [hr.o];try rfl,hx.o⟩
 ·have p9:=v9.o
  have k1:=ziN (F:=F) (.slice a1 n1 c1) f.tp w1 (h.o.tp.ext hx.o) hs.o.tp;replace hr:r=vTp f.tp:=hr.o;generalize vTp f.tp=b1 at hr k1;replace hr:=Y hr;replace k1:=Y k1;go_wp2_with fail
  refine k1.o.mono ?_;rintro e w2 ⟨rfl,hx2⟩;replace hx:=Y (hx.o.trans hx2);go_wp2_with fail
  go_ret;exact ⟨by rw [hr.o];try rfl,hx.o⟩
 ·have p10:=v10.o
  have k1:=zbR (F:=F) (.slice a2 n2 c2) f.bl w1 (h.o.bl.ext hx.o) hs.o.bl;replace hr:r=zec f.bl:=hr.o;generalize zec f.bl=b1 at hr k1;replace hr:=Y hr;replace k1:=Y k1;go_wp2_with fail
  refine k1.o.mono ?_;rintro e w2 ⟨rfl,hx2⟩;replace hx:=Y (hx.o.trans hx2);go_wp2_with fail
  go_ret;exact ⟨by rw [hr.o];try rfl,hx.o⟩
 ·have p11:=v11.o
  have p12:=v12.o;have p13:=v13.o;have p14:=v14.o;have k1:=zc7 (F:=F) (.slice a3 n3 c3) f.lb w1 (h.o.af.ext hx.o);unfold lbC at k1;try simp only at k1
  replace hr:r=vLb f.lb:=hr.o;generalize vLb f.lb=b1 at hr k1;replace hr:=Y hr;replace k1:=Y k1;go_wp2_with fail
  refine k1.o.mono ?_;rintro e w2 ⟨rfl,hx2⟩;replace hx:=Y (hx.o.trans hx2);go_wp2_with fail
  go_ret;exact ⟨by rw [hr.o];try rfl,hx.o⟩
 ·have p15:=v15.o
  replace hr:r=(decide ((1:Int)<=f.ed) && decide (f.ed<=5)):=hr.o;generalize q1:decide ((1:Int)<=f.ed)=b1 at hr;generalize q2:decide (f.ed<=5)=b2 at hr;replace hr:=Y hr;go_wp2_with fail
  all_goals
   go_ret;exact ⟨by rw [hr.o];simp [*],hx.o⟩
 ·have p16:=v16.o
  replace hr:r=(decide ((1:Int)<=f.bk) && decide (f.bk<=1000)):=hr.o;generalize q1:decide ((1:Int)<=f.bk)=b1 at hr;generalize q2:decide (f.bk<=1000)=b2 at hr;replace hr:=Y hr;go_wp2_with fail
  all_goals
   go_ret;exact ⟨by rw [hr.o];simp [*],hx.o⟩
 ·have p17:=v17.o
  replace hr:r=(decide ((0:Int)<=f.se) && decide (f.se<=299)):=hr.o;have q0:decide (f.se<=299)=decide (f.se < 300):=by rw [Bool.eq_iff_iff,decide_eq_true_eq,decide_eq_true_eq];omega
  rw [q0] at hr;clear q0;generalize q1:decide ((0:Int)<=f.se)=b1 at hr;generalize q2:decide (f.se < 300)=b2 at hr;replace hr:=Y hr;go_wp2_with fail
  all_goals
   go_ret;exact ⟨by rw [hr.o];simp [*],hx.o⟩
 ·have p2:=v2.o
  have p18:=v18.o;have k1:=zir ⟨f.tx.toArray⟩ w1 hs.o.tx;have k2:=zgr ⟨f.tx.toArray⟩ w1 hs.o.tx;simp only at k1 k2;replace hr:r=if f.kd=7 then zj6 f.tx else zdL f.tx:=hr.o
  generalize zj6 f.tx=b1 at hr k1;generalize zdL f.tx=b2 at hr k2;replace k1:=Y k1;replace k2:=Y k2;generalize f.kd=kd at p2 hr
  by_cases g7:kd=7
  ·subst g7
   replace hr:=Y (hr.trans (if_pos rfl));go_wp2_with fail
   refine k1.o.mono ?_;rintro e w2 ⟨rfl,rfl⟩;go_wp2_with fail
   go_ret;exact ⟨by rw [hr.o];try rfl,hx.o⟩
  ·replace hr:=Y (hr.trans (if_neg g7))
   have e7:(kd==7)=false:=by rw [beq_eq_false_iff_ne];exact g7
   replace g7:=Y g7;go_wp2_with fail
   refine k2.o.mono ?_;rintro e w2 ⟨rfl,rfl⟩;go_wp2_with fail
   go_ret;exact ⟨by rw [hr.o];try rfl,hx.o⟩
 ·have p19:=v19.o
  have k1:=zdb ⟨f.nm.toArray⟩ w1 hs.o.nm;simp only at k1;replace hr:r=zbT f.nm:=hr.o;generalize zbT f.nm=b1 at hr k1;replace hr:=Y hr;replace k1:=Y k1;go_wp2_with fail
  refine k1.o.mono ?_;rintro e w2 ⟨rfl,rfl⟩;go_wp2_with fail
  go_ret;exact ⟨by rw [hr.o];try rfl,hx.o⟩
 ·have p20:=v20.o
  replace hr:r=(decide ((1:Int)<=f.pa) && decide (f.pa<=8)):=hr.o;generalize q1:decide ((1:Int)<=f.pa)=b1 at hr;generalize q2:decide (f.pa<=8)=b2 at hr;replace hr:=Y hr;go_wp2_with fail
  all_goals
   go_ret;exact ⟨by rw [hr.o];simp [*],hx.o⟩
 ·have p21:=v21.o
  replace hr:r=(decide ((0:Int)<=f.cl) && decide (f.cl<=3)):=hr.o;have q0:decide (f.cl<=3)=decide (f.cl < 4):=by rw [Bool.eq_iff_iff,decide_eq_true_eq,decide_eq_true_eq];omega
  rw [q0] at hr;clear q0;generalize q1:decide ((0:Int)<=f.cl)=b1 at hr;generalize q2:decide (f.cl < 4)=b2 at hr;replace hr:=Y hr;go_wp2_with fail
  all_goals
   go_ret;exact ⟨by rw [hr.o];simp [*],hx.o⟩
 ·have p22:=v22.o
  replace hr:r=(decide ((0:Int)<=f.un) && decide (f.un<=1000000000)):=hr.o;generalize q1:decide ((0:Int)<=f.un)=b1 at hr;generalize q2:decide (f.un<=1000000000)=b2 at hr;replace hr:=Y hr;go_wp2_with fail
  all_goals
   go_ret;exact ⟨by rw [hr.o];simp [*],hx.o⟩
structure AcSz (a:Ac):Prop where
 fc:FcSz a.fc
 tx:a.tx.length<=4611686018427387904
 da:a.ms.da.length<=4611686018427387904
open Go.Shelf Go.RowKit Cdk Scr
theorem zjC:∀ (k:Nat) (fs:List Int) (r:Bs) (m:Ms),zeX k fs r=.ok m -> vMs m=true
 | 0,fs,r,m,h=>by
  unfold zeX at h;split at h
  ·cases h
  ·split at h
   ·cases h
   ·split at h
    ·rename_i hv;injection h with h;subst h;exact hv
    ·cases h
 | k+1,fs,r,m,h=>by
  unfold zeX at h;split at h
  ·cases h
  ·exact zjC k _ _ m h
theorem zmg (s:Bs):(zdy s).da.length<=16384:=by
 unfold zdy;cases h:zkl s with
 | error e=>simp [Ms.zero]
 | ok m=>
  rw [zlT] at h;split at h
  ·cases h
  ·split at h
   ·cases h
   ·exact (zdh (zjC _ _ _ _ h)).da
theorem zlQ (s:Bs):∀ b ∈ zeO s,b.tx.length<=300:=by
 unfold zeO;cases h:zdm s with
 | error e=>intro b hb;cases hb
 | ok l=>
  intro b hb;have hv:zec l=true:=by
   unfold zdm at h;split at h
   ·cases h
   ·split at h
    ·cases h
    ·split at h
     ·rename_i hv;injection h with h;subst h;exact hv
     ·cases h
  exact ((zcp hv).2 b hb).tx
theorem zln:FcSz Fc.zero:=⟨by decide,by decide,by decide,by decide,by decide,(fun s h=>by cases h),(fun b h=>by cases h)⟩
theorem zml (WL:List Bs) (h:∀ x ∈ WL,x.length<=1000000):AcSz (zcf WL):=by
 have hz:AcSz Ac.zero:=⟨zln,by decide,by decide⟩;have hg:∀ i,(WL.getD i []).length<=1000000:=fun i=>by
  rw [List.getD_eq_getElem?_getD];cases hi:WL[i]? with
  | none=>simp
  | some x=>exact h x (List.mem_of_getElem? hi)
 have hu:∀ i,(zbJ (WL.getD i [])).length<=1000000:=fun i=>Nat.le_trans (ze5 _) (hg i)
 have ht:∀ i,∀ s ∈ zbI (WL.getD i []),s.length<=1000000:=fun i s hs=>Nat.le_trans (zij _ s hs) (hg i)
 unfold zcf;split
 ·rename_i j f hf
  have h18:j < 18:=by have:=(zb6 _ _ _ _ _ hf).2.2.2;have e:forms.length=18:=rfl;omega
  have:j=0 \/ j=1 \/ j=2 \/ j=3 \/ j=4 \/ j=5 \/ j=6 \/ j=7 \/ j=8 \/ j=9 \/ j=10 \/ j=11 \/ j=12 \/ j=13 \/ j=14 \/ j=15 \/ j=16 \/ j=17:=by omega
  have m:∀ x:Bs,x.length<=1000000 -> maxS x:=fun x h=>Nat.le_trans h (by decide)
  have q:∀ x:Bs,x.length<=1000000 -> x.length<=4611686018427387904:=fun x h=>Nat.le_trans h (by decide)
  rcases this with rfl | rfl | rfl | rfl | rfl | rfl | rfl | rfl | rfl | rfl | rfl | rfl | rfl | rfl | rfl | rfl | rfl | rfl
  all_goals refine ⟨⟨?_,?_,?_,?_,?_,?_,?_⟩,?_,?_⟩
  all_goals first
   | exact Nat.zero_le _
   | exact m _ (hg _)
   | exact m _ (hu _)
   | exact q _ (hg _)
   | exact fun s hs=>m _ (ht _ s hs)
   | exact fun b hb=>Nat.le_trans (zlQ _ b hb) (by decide)
   | exact Nat.le_trans (zmg _) (by decide)
   | exact fun s h=>(List.not_mem_nil h).elim
 ·exact hz
def zaQ (kd:Int):Bs:=
 if kd=1 then [115,108,114,97,116,117,111,98,76]
 else if kd=2 then [115,101]
 else if kd=3 then [115,76]
 else if kd=4 then [115,108,107,110,120]
 else if kd=5 then [115,120]
 else if kd=6 then [115]
 else if kd=10 then [115]
 else if kd=7 then [109,120]
 else if kd=8 then [112,99,105]
 else if kd=9 then [112,105]
 else []
theorem ziQ (kd:Int) (w:World):Calls Tryz.prog 58 #[.int .i64 kd] w fun e w'=>e=.returned (.string ⟨(zaQ kd).toArray⟩)/\w=w':=by
 by_cases g1:kd=1
 ·subst g1
  go_enter Tryz.func58,Tryz.ntmps58;go_wp2_with fail
  go_ret;exact ⟨rfl,rfl⟩
 by_cases g2:kd=2
 ·subst g2
  go_enter Tryz.func58,Tryz.ntmps58;go_wp2_with fail
  go_ret;exact ⟨rfl,rfl⟩
 by_cases g3:kd=3
 ·subst g3
  go_enter Tryz.func58,Tryz.ntmps58;go_wp2_with fail
  go_ret;exact ⟨rfl,rfl⟩
 by_cases g4:kd=4
 ·subst g4
  go_enter Tryz.func58,Tryz.ntmps58;go_wp2_with fail
  go_ret;exact ⟨rfl,rfl⟩
 by_cases g5:kd=5
 ·subst g5
  go_enter Tryz.func58,Tryz.ntmps58;go_wp2_with fail
  go_ret;exact ⟨rfl,rfl⟩
 by_cases g6:kd=6
 ·subst g6
  go_enter Tryz.func58,Tryz.ntmps58;go_wp2_with fail
  go_ret;exact ⟨rfl,rfl⟩
 by_cases g10:kd=10
 ·subst g10
  go_enter Tryz.func58,Tryz.ntmps58;go_wp2_with fail
  go_ret;exact ⟨rfl,rfl⟩
 by_cases g7:kd=7
 ·subst g7
  go_enter Tryz.func58,Tryz.ntmps58;go_wp2_with fail
  go_ret;exact ⟨rfl,rfl⟩
 by_cases g8:kd=8
 ·subst g8
  go_enter Tryz.func58,Tryz.ntmps58;go_wp2_with fail
  go_ret;exact ⟨rfl,rfl⟩
 by_cases g9:kd=9
 ·subst g9
  go_enter Tryz.func58,Tryz.ntmps58;go_wp2_with fail
  go_ret;exact ⟨rfl,rfl⟩
 have h0:Hid (zaQ kd=[]):=Y (by unfold zaQ;rw [if_neg g1,if_neg g2,if_neg g3,if_neg g4,if_neg g5,if_neg g6,if_neg g10,if_neg g7,if_neg g8,if_neg g9]);have e1:(kd==1)=false:=by rw [beq_eq_false_iff_ne];exact g1
 replace g1:=Y g1;have e2:(kd==2)=false:=by rw [beq_eq_false_iff_ne];exact g2
 replace g2:=Y g2;have e3:(kd==3)=false:=by rw [beq_eq_false_iff_ne];exact g3
 replace g3:=Y g3;have e4:(kd==4)=false:=by rw [beq_eq_false_iff_ne];exact g4
 replace g4:=Y g4;have e5:(kd==5)=false:=by rw [beq_eq_false_iff_ne];exact g5
 replace g5:=Y g5;have e6:(kd==6)=false:=by rw [beq_eq_false_iff_ne];exact g6
 replace g6:=Y g6;have e10:(kd==10)=false:=by rw [beq_eq_false_iff_ne];exact g10
 replace g10:=Y g10;have e7:(kd==7)=false:=by rw [beq_eq_false_iff_ne];exact g7
 replace g7:=Y g7;have e8:(kd==8)=false:=by rw [beq_eq_false_iff_ne];exact g8
 replace g8:=Y g8;have e9:(kd==9)=false:=by rw [beq_eq_false_iff_ne];exact g9
 replace g9:=Y g9;go_enter Tryz.func58,Tryz.ntmps58;go_wp2_with fail
 go_ret;exact ⟨by rw [h0.o];rfl,rfl⟩
def za0 (f:Fc) (c:Nat):Fc:=
 if c=115 then { f with st:=0 }
 else if c=108 then { f with lg:=[] }
 else if c=114 then { f with rv:=0 }
 else if c=97 then { f with bs:=0 }
 else if c=116 then { f with ti:=[] }
 else if c=117 then { f with au:=[] }
 else if c=111 then { f with tp:=[] }
 else if c=98 then { f with bl:=[] }
 else if c=76 then { f with lb:=Lb.zero }
 else if c=101 then { f with ed:=0 }
 else if c=107 then { f with bk:=0 }
 else if c=110 then { f with se:=0 }
 else if c=120 then { f with tx:=[] }
 else if c=109 then { f with nm:=[] }
 else if c=112 then { f with pa:=0 }
 else if c=99 then { f with cl:=0 }
 else { f with un:=0 }
def zon (a1:Option Addr) (n1 c1:Nat) (a2:Option Addr) (n2 c2:Nat) (_a3:Option Addr) (_n3 _c3:Nat) (f:Fc):List (Int × Nat × Value × Value):=
 [(115,3,.int .i64 f.st,.int .i64 0),(108,4,.string ⟨f.lg.toArray⟩,.string ⟨#[]⟩),(114,5,.int .i64 f.rv,.int .i64 0),(97,6,.int .i64 f.bs,.int .i64 0),(116,7,.string ⟨f.ti.toArray⟩,.string ⟨#[]⟩),(117,8,.string ⟨f.au.toArray⟩,.string ⟨#[]⟩),(111,9,.slice a1 n1 c1,.slice none 0 0),(98,10,.slice a2 n2 c2,.slice none 0 0),(101,15,.int .i64 f.ed,.int .i64 0),(107,16,.int .i64 f.bk,.int .i64 0),(110,17,.int .i64 f.se,.int .i64 0),(120,18,.string ⟨f.tx.toArray⟩,.string ⟨#[]⟩),(109,19,.string ⟨f.nm.toArray⟩,.string ⟨#[]⟩),(112,20,.int .i64 f.pa,.int .i64 0),(99,21,.int .i64 f.cl,.int .i64 0),(105,22,.int .i64 f.un,.int .i64 0)]
theorem zk9 {a1:Option Addr} {n1 c1:Nat} {a2:Option Addr} {n2 c2:Nat} {a3:Option Addr} {n3 c3:Nat} {f:Fc} {k:Nat} {c:Int} {i:Nat} {u v:Value} (h:(zon a1 n1 c1 a2 n2 c2 a3 n3 c3 f)[k]?=some (c,i,u,v)):k=0 \/ k=1 \/ k=2 \/ k=3 \/ k=4 \/ k=5 \/ k=6 \/ k=7 \/ k=8 \/ k=9 \/ k=10 \/ k=11 \/ k=12 \/ k=13 \/ k=14 \/ k=15:=by
 have:=(List.getElem?_eq_some_iff.1 h).1;simp only [zon,List.length_cons,List.length_nil] at this;omega
theorem zk5 {a1:Option Addr} {n1 c1:Nat} {a2:Option Addr} {n2 c2:Nat} {a3:Option Addr} {n3 c3:Nat} {f:Fc} {k:Nat} {c:Int} {i:Nat} {u v:Value} (h:(zon a1 n1 c1 a2 n2 c2 a3 n3 c3 f)[k]?=some (c,i,u,v)):(fcA a1 n1 c1 a2 n2 c2 a3 n3 c3 f)[i]?=some u:=by
 rcases zk9 h with rfl | rfl | rfl | rfl | rfl | rfl | rfl | rfl | rfl | rfl | rfl | rfl | rfl | rfl | rfl | rfl
 all_goals
  simp only [zon,List.getElem?_cons_succ,List.getElem?_cons_zero,Option.some.injEq,Prod.mk.injEq] at h;obtain ⟨rfl,rfl,rfl,rfl⟩:=h
  rfl
theorem zaK (a1:Option Addr) (n1 c1:Nat) (a2:Option Addr) (n2 c2:Nat) (a3:Option Addr) (n3 c3:Nat) (f:Fc) (w:World) {k:Nat} {c:Int} {i:Nat} {u v:Value} (h:(zon a1 n1 c1 a2 n2 c2 a3 n3 c3 f)[k]?=some (c,i,u,v)):
  Calls Tryz.prog 60 #[.agg (fcA a1 n1 c1 a2 n2 c2 a3 n3 c3 f),.int .u8 c] w fun e w'=>e=.returned (.agg ((fcA a1 n1 c1 a2 n2 c2 a3 n3 c3 f).setIfInBounds i v))/\Ext w w':=by
 have hiu:=Y (zk5 h);have hk:=zk9 h;obtain ⟨V,hV⟩:∃ V,V=(fcA a1 n1 c1 a2 n2 c2 a3 n3 c3 f).setIfInBounds i v:=⟨_,rfl⟩;rw [<- hV];obtain ⟨fn,ftm,fkd,fst,flg,frv,fbs,fti,fau,ftp,fbl,flb,fed,fbk,fse,ftx,fnm,fpa,fcl,fun_⟩:=f;obtain ⟨til,aft,app,den⟩:=flb;unfold fcA at hV hiu ⊢;simp only at hV hiu ⊢;obtain ⟨R,hR⟩:∃ R,R=w.heap.size:=⟨_,rfl⟩;obtain ⟨Q,hQ⟩:∃ Q,Q=R+1:=⟨_,rfl⟩;obtain ⟨hx,hA,hB,-⟩:=zaV w #[.int .i64 fn,.int .i64 ftm,.int .i64 fkd,.int .i64 fst,.string ⟨flg.toArray⟩,.int .i64 frv,.int .i64 fbs,.string ⟨fti.toArray⟩,.string ⟨fau.toArray⟩,.slice a1 n1 c1,.slice a2 n2 c2,.int .i64 til,.slice a3 n3 c3,.int .i64 app,.int .i64 den,.int .i64 fed,.int .i64 fbk,.int .i64 fse,.string ⟨ftx.toArray⟩,.string ⟨fnm.toArray⟩,.int .i64 fpa,.int .i64 fcl,.int .i64 fun_] zF9 28 28;rw [<- hR] at hA hB;rw [<- hQ] at hB;have hpt:=Y (fun (W:World) (hh:W.heap[R]?=some (.cells #[.int .i64 fn,.int .i64 ftm,.int .i64 fkd,.int .i64 fst,.string ⟨flg.toArray⟩,.int .i64 frv,.int .i64 fbs,.string ⟨fti.toArray⟩,.string ⟨fau.toArray⟩,.slice a1 n1 c1,.slice a2 n2 c2,.int .i64 til,.slice a3 n3 c3,.int .i64 app,.int .i64 den,.int .i64 fed,.int .i64 fbk,.int .i64 fse,.string ⟨ftx.toArray⟩,.string ⟨fnm.toArray⟩,.int .i64 fpa,.int .i64 fcl,.int .i64 fun_] 28 (0,0)))=>zai hh i v);have hcl:=Y (fun (W:World) (hh:W.heap[R]?=some (.cells #[.int .i64 fn,.int .i64 ftm,.int .i64 fkd,.int .i64 fst,.string ⟨flg.toArray⟩,.int .i64 frv,.int .i64 fbs,.string ⟨fti.toArray⟩,.string ⟨fau.toArray⟩,.slice a1 n1 c1,.slice a2 n2 c2,.int .i64 til,.slice a3 n3 c3,.int .i64 app,.int .i64 den,.int .i64 fed,.int .i64 fbk,.int .i64 fse,.string ⟨ftx.toArray⟩,.string ⟨fnm.toArray⟩,.int .i64 fpa,.int .i64 fcl,.int .i64 fun_] 28 (0,0)))=>(zaa hh i).trans hiu.o);have hst:=Y (fun W:World=>(Mod.refl (Eq R) W).setCell (a:=⟨R,i,none⟩) (fun _=>rfl) v);have hne:R ≠ Q:=by omega
 replace hV:=Y hV;clear hiu;rcases hk with rfl | rfl | rfl | rfl | rfl | rfl | rfl | rfl | rfl | rfl | rfl | rfl | rfl | rfl | rfl | rfl
 all_goals
  simp only [zon,List.getElem?_cons_succ,List.getElem?_cons_zero,Option.some.injEq,Prod.mk.injEq] at h;obtain ⟨rfl,rfl,rfl,rfl⟩:=h;go_enter Tryz.func60,Tryz.ntmps60;go_upto_region 1 with (fail)
  try rw [<- hR]
  rw [<- hQ];generalize ((w.alloc _).alloc _)=w1 at hx hA hB ⊢;replace hQ:=Y hQ;replace hR:=Y hR;replace hx:=Y hx;have p:=hcl.o w1 hA;have zR:=zad hA;have hA2:=Y (hpt.o w1 hA);have hm:=Y (hst.o w1);have hB2:=Y (hm.o.at hB (fun e=>hne e));replace hA:=Y hA;replace hB:=Y hB;replace hne:=Y hne;go_upto_region 35 with (fail)
  generalize (w1.setCell _ _)=w2 at hA2 hB2 hm ⊢;clear p zR hA hB hpt hcl hst;go_wp2_with (first | (refine zae (by rfl) 28 _ rfl R _ _ _ _ rfl hA2.o Tryz.underlying28 rfl (by kernel_rfl) ?_) | (refine zab rfl 28 _ _ rfl Q _ _ 28 rfl rfl hB2.o rfl (by kernel_rfl) rfl (fun WS HS=>?_)))
  have hRR:=hR.o;have hQQ:=hQ.o;refine bodyPost_ret (results_cell_row rfl _ _ Q _ _ _ _ rfl HS.o.1 Tryz.underlying28 rfl (by kernel_rfl)) rfl ⟨by rw [hV.o],?_⟩;exact (((hx.o.mono (T:=fun k=>w.heap.size<=k) (fun _ h=>h.elim)).trans (hm.o.mono (fun k e=>by have:R=k:=e;omega))).trans (HS.o.2.mono (fun k e=>by have:Q=k:=e;omega))).mono' (fun k h1 h2=>by omega)
theorem zks (a1:Option Addr) (n1 c1:Nat) (a2:Option Addr) (n2 c2:Nat) (a3:Option Addr) (n3 c3:Nat) (f:Fc) (w:World):
  Calls Tryz.prog 60 #[.agg (fcA a1 n1 c1 a2 n2 c2 a3 n3 c3 f),.int .u8 76] w fun e w'=>e=.returned (.agg (fcA a1 n1 c1 a2 n2 c2 none 0 0 (za0 f 76)))/\Ext w w':=by
 obtain ⟨fn,ftm,fkd,fst,flg,frv,fbs,fti,fau,ftp,fbl,flb,fed,fbk,fse,ftx,fnm,fpa,fcl,fun_⟩:=f;obtain ⟨til,aft,app,den⟩:=flb;have hv:Hid (fcA a1 n1 c1 a2 n2 c2 none 0 0 (za0 (⟨fn,ftm,fkd,fst,flg,frv,fbs,fti,fau,ftp,fbl,⟨til,aft,app,den⟩,fed,fbk,fse,ftx,fnm,fpa,fcl,fun_⟩:Fc) 76)=#[.int .i64 fn,.int .i64 ftm,.int .i64 fkd,.int .i64 fst,.string ⟨flg.toArray⟩,.int .i64 frv,.int .i64 fbs,.string ⟨fti.toArray⟩,.string ⟨fau.toArray⟩,.slice a1 n1 c1,.slice a2 n2 c2,.int .i64 0,.slice none 0 0,.int .i64 0,.int .i64 0,.int .i64 fed,.int .i64 fbk,.int .i64 fse,.string ⟨ftx.toArray⟩,.string ⟨fnm.toArray⟩,.int .i64 fpa,.int .i64 fcl,.int .i64 fun_]):=Y rfl;generalize fcA a1 n1 c1 a2 n2 c2 none 0 0 (za0 _ 76)=V at hv ⊢;unfold fcA;simp only;obtain ⟨hx,hA,hB,-⟩:=zaV w #[.int .i64 fn,.int .i64 ftm,.int .i64 fkd,.int .i64 fst,.string ⟨flg.toArray⟩,.int .i64 frv,.int .i64 fbs,.string ⟨fti.toArray⟩,.string ⟨fau.toArray⟩,.slice a1 n1 c1,.slice a2 n2 c2,.int .i64 til,.slice a3 n3 c3,.int .i64 app,.int .i64 den,.int .i64 fed,.int .i64 fbk,.int .i64 fse,.string ⟨ftx.toArray⟩,.string ⟨fnm.toArray⟩,.int .i64 fpa,.int .i64 fcl,.int .i64 fun_] zF9 28 28;go_enter Tryz.func60,Tryz.ntmps60;go_upto_region 1 with (fail)
 generalize ((w.alloc _).alloc _)=w1 at hx hA hB ⊢;have hlo:=Nat.le_refl w.heap.size;obtain ⟨Q,hQ⟩:∃ Q,Q=w.heap.size+1:=⟨_,rfl⟩;rw [<- hQ] at hB ⊢;obtain ⟨R,hR⟩:∃ R,R=w.heap.size:=⟨_,rfl⟩;rw [<- hR] at hA ⊢;have hne:R ≠ Q:=by omega
 replace hQ:=Y hQ;replace hR:=Y hR;replace hx:=Y hx;have p11:=cS hA 11;have p12:=cS hA 12;have p13:=cS hA 13;have p14:=cS hA 14;have zR:=zad hA;have hA2:=hA;have hm:=Mod.refl (Eq R) w1;replace hA2:=zai hA2 11 (.int .i64 0);replace hm:=hm.setCell (a:=⟨R,11,none⟩) (fun _=>rfl) (.int .i64 0);replace hA2:=zai hA2 12 (.slice none 0 0);replace hm:=hm.setCell (a:=⟨R,12,none⟩) (fun _=>rfl) (.slice none 0 0);replace hA2:=zai hA2 13 (.int .i64 0);replace hm:=hm.setCell (a:=⟨R,13,none⟩) (fun _=>rfl) (.int .i64 0);replace hA2:=zai hA2 14 (.int .i64 0);replace hm:=hm.setCell (a:=⟨R,14,none⟩) (fun _=>rfl) (.int .i64 0);have hB2:=hm.at hB (fun e=>hne e);replace hA2:=Y hA2;replace hB2:=Y hB2;replace hm:=Y hm;replace hA:=Y hA;replace hB:=Y hB;replace hne:=Y hne;go_upto_region 35 with (fail)
 generalize ((((w1.setCell ⟨R,11,none⟩ (.int .i64 0)).setCell ⟨R,12,none⟩ (.slice none 0 0)).setCell ⟨R,13,none⟩ (.int .i64 0)).setCell ⟨R,14,none⟩ (.int .i64 0))=w2 at hA2 hB2 hm ⊢;clear p11 p12 p13 p14 zR hA hB;go_wp2_with (first | (refine zae (by rfl) 28 _ rfl R _ _ _ _ rfl hA2.o Tryz.underlying28 rfl (by kernel_rfl) ?_) | (refine zab rfl 28 _ _ rfl Q _ _ 28 rfl rfl hB2.o rfl (by kernel_rfl) rfl (fun WS HS=>?_)))
 have hRR:=hR.o;have hQQ:=hQ.o;refine bodyPost_ret (results_cell_row rfl _ _ Q _ _ _ _ rfl HS.o.1 Tryz.underlying28 rfl (by kernel_rfl)) rfl ⟨by rw [hv.o];rfl,?_⟩;exact (((hx.o.mono (T:=fun k=>w.heap.size<=k) (fun _ h=>h.elim)).trans (hm.o.mono (fun k e=>by have:R=k:=e;omega))).trans (HS.o.2.mono (fun k e=>by have:Q=k:=e;omega))).mono' (fun k h1 h2=>by omega)
def zbj (f:Fc) (l:Bs):Bool:=l.all fun c=>zcc f c.toNat
def zaA (g:Fc) (l:Bs):Fc:=l.foldl (fun g c=>za0 g c.toNat) g
def zcX (f:Fc):Fc:={ Fc.zero with n:=f.n,tm:=f.tm,kd:=f.kd }
def zph (f:Fc):Bool:=!(zaQ f.kd).isEmpty && (rng f.n 0 500 && (rng f.tm 0 1000000000 && (zbj f (zaQ f.kd) && decide (zaA f (zaQ f.kd)=zcX f))))
theorem znR (f:Fc):zph f=vFc f:=by
 obtain ⟨n,tm,kd,st,lg,rv,bs,ti,au,tp,bl,lb,ed,bk,se,tx,nm,pa,cl,un⟩:=f;unfold zph vFc
 by_cases g1:kd=1
 ·subst g1;simp [zaQ,zbj,zaA,zcc,za0,zcX,zaO,Fc.zero,Fc.mk.injEq,Bool.and_assoc,eq_comm]
 by_cases g2:kd=2
 ·subst g2;simp [zaQ,zbj,zaA,zcc,za0,zcX,zaO,Fc.zero,Fc.mk.injEq,Bool.and_assoc,eq_comm]
 by_cases g3:kd=3
 ·subst g3;simp [zaQ,zbj,zaA,zcc,za0,zcX,zaO,Fc.zero,Fc.mk.injEq,Bool.and_assoc,eq_comm]
 by_cases g4:kd=4
 ·subst g4;simp [zaQ,zbj,zaA,zcc,za0,zcX,zaO,Fc.zero,Fc.mk.injEq,Bool.and_assoc,eq_comm]
 by_cases g5:kd=5
 ·subst g5;simp [zaQ,zbj,zaA,zcc,za0,zcX,zaO,Fc.zero,Fc.mk.injEq,Bool.and_assoc,eq_comm]
 by_cases g6:kd=6
 ·subst g6;simp [zaQ,zbj,zaA,zcc,za0,zcX,zaO,Fc.zero,Fc.mk.injEq,eq_comm]
 by_cases g7:kd=7
 ·subst g7;simp [zaQ,zbj,zaA,zcc,za0,zcX,zaO,Fc.zero,Fc.mk.injEq,Bool.and_assoc,eq_comm]
 by_cases g8:kd=8
 ·subst g8;simp [zaQ,zbj,zaA,zcc,za0,zcX,zaO,Fc.zero,Fc.mk.injEq,Bool.and_assoc,eq_comm];cases rng cl 0 3 <;> simp
 by_cases g9:kd=9
 ·subst g9;simp [zaQ,zbj,zaA,zcc,za0,zcX,zaO,Fc.zero,Fc.mk.injEq,Bool.and_assoc,eq_comm]
 by_cases g10:kd=10
 ·subst g10;simp [zaQ,zbj,zaA,zcc,za0,zcX,zaO,Fc.zero,Fc.mk.injEq,eq_comm]
 simp [zaQ,zaO,g1,g2,g3,g4,g5,g6,g7,g8,g9,g10]
def WoP (F:Nat -> Prop) (f:Fc) (c:Nat) (w:World) (e:Ending) (w':World):Prop:=∃ (a1:Option Addr) (n1 c1:Nat) (a2:Option Addr) (n2 c2:Nat) (a3:Option Addr) (n3 c3:Nat),e=.returned (.agg (fcA a1 n1 c1 a2 n2 c2 a3 n3 c3 (za0 f c)))/\FcAt F w' ⟨.slice a1 n1 c1,.slice a2 n2 c2,.slice a3 n3 c3⟩ (za0 f c)/\Ext w w'
theorem zih {F:Nat -> Prop} (a1:Option Addr) (n1 c1:Nat) (a2:Option Addr) (n2 c2:Nat) (a3:Option Addr) (n3 c3:Nat) (f:Fc) (c:Nat) (hc:zfg c) (w:World) (h:FcAt F w ⟨.slice a1 n1 c1,.slice a2 n2 c2,.slice a3 n3 c3⟩ f):
  Calls Tryz.prog 60 #[.agg (fcA a1 n1 c1 a2 n2 c2 a3 n3 c3 f),.int .u8 c] w (WoP F f c w):=by
 simp only [zfg,List.mem_cons,List.not_mem_nil,or_false] at hc;rcases hc with rfl | rfl | rfl | rfl | rfl | rfl | rfl | rfl | rfl | rfl | rfl | rfl | rfl | rfl | rfl | rfl | rfl
 ·exact (zaK a1 n1 c1 a2 n2 c2 a3 n3 c3 f w (k:=0) rfl).mono fun e w' ⟨h1,hx⟩=>⟨a1,n1,c1,a2,n2,c2,a3,n3,c3,h1,⟨(h.ext hx).tp,(h.ext hx).bl,(h.ext hx).af⟩,hx⟩
 ·exact (zaK a1 n1 c1 a2 n2 c2 a3 n3 c3 f w (k:=1) rfl).mono fun e w' ⟨h1,hx⟩=>⟨a1,n1,c1,a2,n2,c2,a3,n3,c3,h1,⟨(h.ext hx).tp,(h.ext hx).bl,(h.ext hx).af⟩,hx⟩
 ·exact (zaK a1 n1 c1 a2 n2 c2 a3 n3 c3 f w (k:=2) rfl).mono fun e w' ⟨h1,hx⟩=>⟨a1,n1,c1,a2,n2,c2,a3,n3,c3,h1,⟨(h.ext hx).tp,(h.ext hx).bl,(h.ext hx).af⟩,hx⟩
 ·exact (zaK a1 n1 c1 a2 n2 c2 a3 n3 c3 f w (k:=3) rfl).mono fun e w' ⟨h1,hx⟩=>⟨a1,n1,c1,a2,n2,c2,a3,n3,c3,h1,⟨(h.ext hx).tp,(h.ext hx).bl,(h.ext hx).af⟩,hx⟩
 ·exact (zaK a1 n1 c1 a2 n2 c2 a3 n3 c3 f w (k:=4) rfl).mono fun e w' ⟨h1,hx⟩=>⟨a1,n1,c1,a2,n2,c2,a3,n3,c3,h1,⟨(h.ext hx).tp,(h.ext hx).bl,(h.ext hx).af⟩,hx⟩
 ·exact (zaK a1 n1 c1 a2 n2 c2 a3 n3 c3 f w (k:=5) rfl).mono fun e w' ⟨h1,hx⟩=>⟨a1,n1,c1,a2,n2,c2,a3,n3,c3,h1,⟨(h.ext hx).tp,(h.ext hx).bl,(h.ext hx).af⟩,hx⟩
 ·exact (zaK a1 n1 c1 a2 n2 c2 a3 n3 c3 f w (k:=6) rfl).mono fun e w' ⟨h1,hx⟩=>⟨none,0,0,a2,n2,c2,a3,n3,c3,h1,⟨zac.nil _ _ _,(h.ext hx).bl,(h.ext hx).af⟩,hx⟩
 ·exact (zaK a1 n1 c1 a2 n2 c2 a3 n3 c3 f w (k:=7) rfl).mono fun e w' ⟨h1,hx⟩=>⟨a1,n1,c1,none,0,0,a3,n3,c3,h1,⟨(h.ext hx).tp,zaE.nil _ _,(h.ext hx).af⟩,hx⟩
 ·exact (zks a1 n1 c1 a2 n2 c2 a3 n3 c3 f w).mono fun e w' ⟨h1,hx⟩=>⟨_,_,_,_,_,_,_,_,_,h1,⟨(h.ext hx).tp,(h.ext hx).bl,zac.nil _ _ _⟩,hx⟩
 ·exact (zaK a1 n1 c1 a2 n2 c2 a3 n3 c3 f w (k:=8) rfl).mono fun e w' ⟨h1,hx⟩=>⟨a1,n1,c1,a2,n2,c2,a3,n3,c3,h1,⟨(h.ext hx).tp,(h.ext hx).bl,(h.ext hx).af⟩,hx⟩
 ·exact (zaK a1 n1 c1 a2 n2 c2 a3 n3 c3 f w (k:=9) rfl).mono fun e w' ⟨h1,hx⟩=>⟨a1,n1,c1,a2,n2,c2,a3,n3,c3,h1,⟨(h.ext hx).tp,(h.ext hx).bl,(h.ext hx).af⟩,hx⟩
 ·exact (zaK a1 n1 c1 a2 n2 c2 a3 n3 c3 f w (k:=10) rfl).mono fun e w' ⟨h1,hx⟩=>⟨a1,n1,c1,a2,n2,c2,a3,n3,c3,h1,⟨(h.ext hx).tp,(h.ext hx).bl,(h.ext hx).af⟩,hx⟩
 ·exact (zaK a1 n1 c1 a2 n2 c2 a3 n3 c3 f w (k:=11) rfl).mono fun e w' ⟨h1,hx⟩=>⟨a1,n1,c1,a2,n2,c2,a3,n3,c3,h1,⟨(h.ext hx).tp,(h.ext hx).bl,(h.ext hx).af⟩,hx⟩
 ·exact (zaK a1 n1 c1 a2 n2 c2 a3 n3 c3 f w (k:=12) rfl).mono fun e w' ⟨h1,hx⟩=>⟨a1,n1,c1,a2,n2,c2,a3,n3,c3,h1,⟨(h.ext hx).tp,(h.ext hx).bl,(h.ext hx).af⟩,hx⟩
 ·exact (zaK a1 n1 c1 a2 n2 c2 a3 n3 c3 f w (k:=13) rfl).mono fun e w' ⟨h1,hx⟩=>⟨a1,n1,c1,a2,n2,c2,a3,n3,c3,h1,⟨(h.ext hx).tp,(h.ext hx).bl,(h.ext hx).af⟩,hx⟩
 ·exact (zaK a1 n1 c1 a2 n2 c2 a3 n3 c3 f w (k:=14) rfl).mono fun e w' ⟨h1,hx⟩=>⟨a1,n1,c1,a2,n2,c2,a3,n3,c3,h1,⟨(h.ext hx).tp,(h.ext hx).bl,(h.ext hx).af⟩,hx⟩
 ·exact (zaK a1 n1 c1 a2 n2 c2 a3 n3 c3 f w (k:=15) rfl).mono fun e w' ⟨h1,hx⟩=>⟨a1,n1,c1,a2,n2,c2,a3,n3,c3,h1,⟨(h.ext hx).tp,(h.ext hx).bl,(h.ext hx).af⟩,hx⟩
end Go.Proofs.YtjjfphalcibjfaaGreatDoor
namespace Cdk
open Go Go.RowKit
theorem zla {P:Program} {ops:Array Oper} {o:Oper} {a:Act} {w:World} {Q:Exit -> Act -> World -> Prop} {C:World -> Prop} {r:List (Oper × Bool)} (hp:zeE o=false) (hw:Region.wanted o (yielded ops a.tmps)=true) (ty:TypeId) (x:Operand) (ho:o.op=.load ty x) (b:Nat) (cs:Array Value) (t:TypeId) (fr:Nat × Nat) (d:TypeDesc) (hx:a.eval x=.pointer (some ⟨b,0,none⟩))
  (hS:∀ w,C w -> w.heap[b]?=some (.cells cs t fr)) (hu:P.underlying ty=some d) (hd:d.isRow=true) (hi:(P.info? ty).map (·.size)=some cs.size)
  (h:wpT P ops C Q r (a.put o.dst (.agg cs)) w):wpT P ops C Q ((o,true)::r) a w:=by
 obtain ⟨cs⟩:=cs;exact ⟨_,.inr ⟨hp,yieldsIf_load_mid hw ty x ho b 0 hx cs d (fun w' h'=>zbQ (pre:=[]) (post:=[]) (by simpa using hS w' h')) hu hd (by simpa using hi)⟩,h⟩
end Cdk
namespace Go.Proofs.YtjjfphalcibjfaaGreatDoor
open Go.RowKit Cdk Scr
def zlY (F:Nat -> Prop) (w:World) (Q:Nat) (g:Fc):Prop:=∃ (a1:Option Addr) (n1 c1:Nat) (a2:Option Addr) (n2 c2:Nat) (a3:Option Addr) (n3 c3:Nat),w.heap[Q]?=some (.cells (fcA a1 n1 c1 a2 n2 c2 a3 n3 c3 g) 28 (0,0))/\FcAt F w ⟨.slice a1 n1 c1,.slice a2 n2 c2,.slice a3 n3 c3⟩ g
theorem ziR (kd:Int):(zaQ kd).length<=9:=by
 unfold zaQ;repeat' split
 all_goals decide
theorem zgD (kd:Int):∀ c ∈ zaQ kd,zfg c.toNat:=by
 unfold zaQ zfg;repeat' split
 all_goals decide
theorem zfO (a1:Option Addr) (n1 c1:Nat) (a2:Option Addr) (n2 c2:Nat) (a3:Option Addr) (n3 c3:Nat) (f:Fc) (w:World) (h:FcAt (fun k=>k < w.heap.size) w ⟨.slice a1 n1 c1,.slice a2 n2 c2,.slice a3 n3 c3⟩ f) (hs:FcSz f):
  Calls Tryz.prog 34 #[.agg (fcA a1 n1 c1 a2 n2 c2 a3 n3 c3 f)] w fun e w'=>e=.returned (.bool (vFc f))/\Ext w w':=by
 obtain ⟨r,hr⟩:∃ r,r=zph f:=⟨_,rfl⟩;rw [<- znR,<- hr];unfold zph at hr;have hk:=Y (zgD f.kd);have hL:=Y (fun W=>ziQ f.kd W);have e0:f.n=f.n:=rfl;have hk9:=Y (ziR f.kd);obtain ⟨L,hLL⟩:∃ L,L=zaQ f.kd:=⟨_,rfl⟩;rw [<- hLL] at hr hk hL hk9;obtain ⟨V,hV⟩:∃ V,V=fcA a1 n1 c1 a2 n2 c2 a3 n3 c3 f:=⟨_,rfl⟩;rw [<- hV];have hVs:V.size=23:=by rw [hV];rfl
 have hV1:V.toList.all (·.oneCell')=true:=by rw [hV];rfl
 have hVi:(Tryz.prog.info? 28).map (·.size)=some V.size:=by rw [hVs];kernel_rfl
 have v0:V[0]?=some (.int .i64 f.n):=by rw [hV];rfl
 have v1:V[1]?=some (.int .i64 f.tm):=by rw [hV];rfl
 have v2:V[2]?=some (.int .i64 f.kd):=by rw [hV];rfl
 have hz:=heap_alloc_new w (.cells V 28);have hx:=Mod.alloc (Mod.refl (fun _=>False) w) (.cells V 28);replace hr:=Y hr;replace h:=Y h;replace hV:=Y hV;replace hLL:=Y hLL;clear e0;go_enter Tryz.func34,Tryz.ntmps34;go_upto_region 1 with (fail)
 generalize (w.alloc _)=W at hz hx ⊢;generalize w.heap.size=R at hz ⊢;have s0:W.cell? ⟨R,0,none⟩=some (.int .i64 f.n):=by rw [zaa hz 0];exact v0
 have s1:W.cell? ⟨R,1,none⟩=some (.int .i64 f.tm):=by rw [zaa hz 1];exact v1
 have s2:W.cell? ⟨R,2,none⟩=some (.int .i64 f.kd):=by rw [zaa hz 2];exact v2
 replace hz:=Y hz;replace hx:=Y hx;go_wp2_with fail
 refine (hL.o _).mono ?_;rintro e w' ⟨rfl,rfl⟩;cases hLe:L.isEmpty with
 | true=>
  have hrf:Hid (r=false):=Y (by rw [hr.o,hLe];rfl);replace hr:=Y hr;go_wp2_with fail
  go_ret;exact ⟨by rw [hrf.o];try rfl,hx.o⟩
 | false=>
 by_cases g1:f.n < 0
 ·have hrf:Hid (r=false):=Y (by rw [hr.o];unfold rng;simp;omega)
  go_wp2_with fail
  go_ret;exact ⟨by rw [hrf.o];try rfl,hx.o⟩
 by_cases g2:(500:Int) < f.n
 ·have hrf:Hid (r=false):=Y (by rw [hr.o];unfold rng;simp;omega)
  go_wp2_with fail
  go_ret;exact ⟨by rw [hrf.o];try rfl,hx.o⟩
 by_cases g3:f.tm < 0
 ·have hrf:Hid (r=false):=Y (by rw [hr.o];unfold rng;simp;omega)
  go_wp2_with fail
  go_ret;exact ⟨by rw [hrf.o];try rfl,hx.o⟩
 by_cases g4:(1000000000:Int) < f.tm
 ·have hrf:Hid (r=false):=Y (by rw [hr.o];unfold rng;simp;omega)
  go_wp2_with fail
  go_ret;exact ⟨by rw [hrf.o];try rfl,hx.o⟩
 go_upto_region 4 with (fail)
 clear s0 s1 s2;go_upto_region 5 with (first | (refine zae (by rfl) 28 _ rfl R V _ _ _ rfl hz.o Tryz.underlying28 rfl hVi ?_) | (refine zab rfl 28 _ _ rfl W.heap.size _ V 28 rfl rfl (heap_alloc_new W _) (by rw [hVs];rfl) hVi hV1 (fun WS HS=>?_)))
 have hm2:=(((Mod.alloc (Mod.refl (fun _=>False) W) (.cells zF9 28)).mono (T:=fun k=>W.heap.size<=k) (fun _ h=>h.elim)).then HS.o.2 (fun k _ e=>by omega));have hX2:Ext W WS:=hm2.mono' (fun k h1 h2=>by omega);have hQ0:=HS.o.1;have hRQ:R < W.heap.size:=zas hz.o;have hwQ:w.heap.size<=W.heap.size:=hx.o.size;have hz2:=hX2.at hz.o id;have hx2:=hx.o.trans hX2;have hF2:=h.o.ext hx2;generalize W.heap.size=Q at hQ0 hRQ hwQ ⊢;rw [hV.o] at hQ0;have hRest:zlY (fun k=>k < w.heap.size) WS Q (zaA f (L.take 0)):=⟨a1,n1,c1,a2,n2,c2,a3,n3,c3,hQ0,hF2⟩;replace hr:r=(zbj f (L.drop 0) && decide (zaA f L=zcX f)):=by
  rw [hr.o,hLe,List.drop_zero];rw [show rng f.n 0 500=true by unfold rng;simp;omega,show rng f.tm 0 1000000000=true by unfold rng;simp;omega]
  rfl
 obtain ⟨S,hS⟩:∃ S,S=(⟨L.toArray⟩:ByteArray):=⟨_,rfl⟩;have hSL:S.data.toList=L:=by rw [hS]
 have hn:S.size=L.length:=by rw [zaN,hSL]
 have hLen:L.length<=9:=hk9.o;rw [<- hS];replace hS:=Y hS;replace hSL:=Y hSL;replace hn:=Y hn;replace hr:=Y hr;replace hz2:=Y hz2;replace hx2:=Y hx2;replace hRest:=Y hRest;replace hLen:=Y hLen;replace hRQ:=Y hRQ;replace hwQ:=Y hwQ;clear hm2 hX2 hQ0 hF2 HS hz hx g1 g2 g3 g4 v0 v1 v2 hL;go_wp2_with fail
 go_loopg [5] S.size (fun g i wr=>∃ j:Nat,j+g=S.size/\i=.int .i64 j/\Ext w wr/\wr.heap[R]?=some (.cells V 28 (0,0))/\zlY (fun k=>k < w.heap.size) wr Q (zaA f (L.take j))/\r=(zbj f (L.drop j) && decide (zaA f L=zcX f)))
 case atStart=>exact ⟨0,by omega,rfl,hx2.o,hz2.o,hRest.o,hr.o⟩
 case round=>
  clear hr hx2 hz2 hRest;obtain ⟨j,hj,rfl,hx,hz,hRest,hrj⟩:=hrel;replace hj:=Y hj
  by_cases hlt:j < S.size
  ·have hd:decide ((j:Int) < (S.size:Int))=true:=decide_eq_true (by omega)
   have hdi:(j:Int) < (S.size:Int):=by omega
   have hkn:zfg S[j].toNat:=hk.o _ (by
    rw [<- hSL.o];exact List.mem_of_mem_drop (i:=j) (by rw [drop_at S hlt];exact List.mem_cons_self ..))
   have hjL:j < L.length:=by have:=hn.o;omega
   have hSj:L[j]=S[j]:=by
    have e1:=drop_at S hlt;rw [hSL.o,List.drop_eq_getElem_cons hjL] at e1;exact (List.cons.inj e1).1
   have hW:zaA f (L.take (j+1))=za0 (zaA f (L.take j)) S[j].toNat:=by
    unfold zaA;rw [List.take_succ_eq_append_getElem hjL,List.foldl_append,hSj]
    rfl
   have hR:zbj f (L.drop j)=(zcc f S[j].toNat && zbj f (L.drop (j+1))):=by
    unfold zbj;rw [List.drop_eq_getElem_cons hjL,List.all_cons,hSj]
   rw [hR] at hrj;obtain ⟨c,hc⟩:∃ c,c=S[j].toNat:=⟨_,rfl⟩;have hA:=fun W (hX:Ext wr W)=>zkr a1 n1 c1 a2 n2 c2 a3 n3 c3 f S[j].toNat hkn W ((h.o.ext hx).ext hX) hs
   rw [<- hV.o] at hA;obtain ⟨b1,m1,d1,b2,m2,d2,b3,m3,d3,hQc,hQf⟩:=hRest;obtain ⟨G,hG⟩:∃ G,G=zaA f (L.take j):=⟨_,rfl⟩;rw [<- hG] at hQc hQf hW;obtain ⟨VQ,hVQ⟩:∃ V,V=fcA b1 m1 d1 b2 m2 d2 b3 m3 d3 G:=⟨_,rfl⟩;rw [<- hVQ] at hQc;have hVQs:VQ.size=23:=by rw [hVQ];rfl
   have hVQi:(Tryz.prog.info? 28).map (·.size)=some VQ.size:=by rw [hVQs];kernel_rfl
   have hB:=fun W (hX:Ext wr W)=>zih b1 m1 d1 b2 m2 d2 b3 m3 d3 G S[j].toNat hkn W (hQf.ext hX)
   rw [<- hVQ] at hB;clear hR hSj hc;generalize zcc f S[j].toNat=bA at hrj hA;generalize hrest:(zbj f (L.drop (j+1)) && decide (zaA f L=zcX f))=rest;replace hrj:r=(bA && rest):=by rw [hrj,Bool.and_assoc,hrest]
   have hjw:IntKind.i64.wrap ((j:Int)+1)=(j:Int)+1:=IntWalk.i64_in _ (by have:=hn.o;have:=hLen.o;omega);replace hrest:=Y hrest;replace hrj:=Y hrj;replace hA:=Y hA;replace hB:=Y hB;replace hx:=Y hx;replace hW:=Y hW;replace hG:=Y hG;replace hVQ:=Y hVQ;replace hQc:=Y hQc;replace hz:=Y hz;replace hkn:=Y hkn;clear hQf;go_upto_region 8 with (fail)
   try simp only [List.append_eq,List.cons_append,List.nil_append]
   refine rS (fun W=>Ext wr W) [(0,true),(1,true),(2,true),(3,true),(4,false),(5,true)] (Mod.drew0 (fun _=>False) wr) ?_;simp only [zah,List.map_cons,List.map_nil,List.getD_cons_zero,List.getD_cons_succ];have hy0:=Y (Mod.drew0 (fun _=>False) wr);refine zfc (by rfl) 28 _ rfl R V _ _ _ rfl (fun W hC=>hC.at hz.o id) Tryz.underlying28 rfl hVi ?_;try simp only [Act.put,sA,sZ,sS]
   iterate 3 (refine qT ?_)
   refine zak (by rfl) (fun K hK=>?_);go_simp;refine (hA.o _ hy0.o).mono ?_;rintro e w5 ⟨rfl,hx5⟩;refine hK.o _ _ (hy0.o.trans hx5) ?_;have hy5:=Y (hy0.o.trans hx5);clear hK K hx5;try simp only [Act.put,sA,sZ,sS]
   iterate 1 (refine qT ?_)
   refine zar ?_;cases bA with
   | false=>
    have hrf:Hid (r=false):=Y (by rw [hrj.o];rfl);go_wp2_with fail
    go_ret;exact ⟨by rw [hrf.o];rfl,hx.o.trans hy5.o⟩
   | true=>
    go_upto_region 11 with fail
    try simp only [List.append_eq,List.cons_append,List.nil_append]
    refine zbz (fun W=>Ext wr W) [(0,true),(1,true),(2,true),(3,true),(4,false),(5,false)] (by as_aux_lemma=>kernel_rfl) (by as_aux_lemma=>kernel_rfl) (by as_aux_lemma=>kernel_rfl) (by decide) (hy5.o.trans (Mod.drew0 (fun _=>False) w5)) ?_;simp only [zah,List.map_cons,List.map_nil,List.getD_cons_zero,List.getD_cons_succ];have hy6:=Y (hy5.o.trans (Mod.drew0 (fun _=>False) w5));refine zla (by rfl) (by rfl) 28 _ rfl Q VQ _ _ _ rfl (fun W hC=>hC.at hQc.o id) Tryz.underlying28 rfl hVQi ?_;try simp only [Act.put,sA,sZ,sS]
    iterate 3 (first | (refine ziJ (by rfl) (by rfl) ?_ (fun w' hC=>?_) ?_;rotate_left;(go_simp;try with_reducible rfl);try simp only [Act.put,sA,sZ,sS]) | (refine zia (by rfl) (by rfl) ?_ (fun w' hC=>?_) ?_;rotate_left;(go_simp;try with_reducible rfl);try simp only [Act.put,sA,sZ,sS]))
    refine zdF (by rfl) (fun K hK=>?_);go_simp;refine (hB.o _ hy6.o).mono ?_;rintro e w7 ⟨b1',m1',d1',b2',m2',d2',b3',m3',d3',rfl,hf7,hx7⟩;obtain ⟨VN,hVN⟩:∃ V,V=fcA b1' m1' d1' b2' m2' d2' b3' m3' d3' (za0 G S[j].toNat):=⟨_,rfl⟩;rw [<- hVN];have hVNs:VN.size=23:=by rw [hVN];rfl
    have hVN1:VN.toList.all (·.oneCell')=true:=by rw [hVN];rfl
    have hy7:=Y (hy6.o.trans hx7);replace hVN:=Y hVN;replace hf7:=Y hf7;refine hK.o _ _ hy7.o ?_;clear hK K hx7;try simp only [Act.put,sA,sZ,sS]
    refine zkd (by rfl) (fun K hK=>?_);refine zbf 28 _ _ rfl Q VQ VN 28 rfl rfl (hy7.o.at hQc.o id) (by rw [hVNs,hVQs]) (by rw [hVNs];kernel_rfl) hVN1 (fun WF HF=>?_);refine hK.o _ _ ?_;clear hK K;have hWF:Hid (Ext w WF):=Y ((hx.o.trans hy7.o).then HF.o.2 (fun k hk e=>by have:=hwQ.o;omega));have hRF:Hid (WF.heap[R]?=some (.cells V 28 (0,0))):=Y (HF.o.2.at (hy7.o.at hz.o id) (by have:=hRQ.o;omega));have hQF:Hid (zlY (fun k=>k < w.heap.size) WF Q (zaA f (L.take (j+1)))):=Y ⟨b1',m1',d1',b2',m2',d2',b3',m3',d3',by rw [hW.o,<- hVN.o];exact HF.o.1,by rw [hW.o];exact hf7.o.mod HF.o.2 (fun k hk e=>by have:=hwQ.o;omega)⟩;have hrn:Hid (r=(zbj f (L.drop (j+1)) && decide (zaA f L=zcX f))):=Y (by rw [hrj.o,hrest.o];rfl);clear HF;go_wp2_with fail
    go_roundg (gk - 1)
    case measure=>have:=hj.o;omega
    case rel=>exact ⟨j+1,by have:=hj.o;omega,by go_num,hWF.o,hRF.o,hQF.o,hrn.o⟩
  ·obtain rfl:j=S.size:=by have:=hj.o;omega
   have hd:decide ((S.size:Int) < (S.size:Int))=false:=decide_eq_false (by omega);have hdi:¬ (S.size:Int) < (S.size:Int):=by omega
   have htk:L.take S.size=L:=by rw [hn.o,List.take_length]
   have hdr:L.drop S.size=[]:=by rw [hn.o,List.drop_length]
   rw [htk] at hRest;rw [hdr] at hrj;obtain ⟨b1,m1,d1,b2,m2,d2,b3,m3,d3,hQc,hQf⟩:=hRest;obtain ⟨G,hG⟩:∃ G,G=zaA f L:=⟨_,rfl⟩;rw [<- hG] at hQc hQf hrj;have hE:=zdT (F:=fun k=>k < w.heap.size) b1 m1 d1 b2 m2 d2 b3 m3 d3 G none 0 0 none 0 0 none 0 0 (zcX f) wr hQf (zax _ _ _ rfl rfl rfl);have hrD:r=decide (G=zcX f):=by rw [hrj];rfl
   obtain ⟨VQ,hVQ⟩:∃ V,V=fcA b1 m1 d1 b2 m2 d2 b3 m3 d3 G:=⟨_,rfl⟩;rw [<- hVQ] at hQc hE;have hVQs:VQ.size=23:=by rw [hVQ];rfl
   have hVQi:(Tryz.prog.info? 28).map (·.size)=some VQ.size:=by rw [hVQs];kernel_rfl
   have s0:wr.cell? ⟨R,0,none⟩=some (.int .i64 f.n):=by rw [zaa hz 0,hV.o];rfl
   have s1:wr.cell? ⟨R,1,none⟩=some (.int .i64 f.tm):=by rw [zaa hz 1,hV.o];rfl
   have s2:wr.cell? ⟨R,2,none⟩=some (.int .i64 f.kd):=by rw [zaa hz 2,hV.o];rfl
   rw [<- hrD] at hE;unfold fcA zcX at hE;dsimp only at hE;replace hE:=Y hE;replace hrD:=Y hrD;replace hrj:=Y hrj;replace hG:=Y hG;replace hVQ:=Y hVQ;replace hQc:=Y hQc;replace hx:=Y hx;replace hz:=Y hz;clear hQf htk hdr;go_wp2_with (refine zae (by rfl) 28 _ rfl Q VQ _ _ _ rfl hQc.o Tryz.underlying28 rfl hVQi ?_)
   refine hE.o.mono ?_;rintro e w8 ⟨rfl,hx8⟩;go_wp2_with fail
   go_ret;exact ⟨rfl,hx.o.trans hx8⟩
end Go.Proofs.YtjjfphalcibjfaaGreatDoor
