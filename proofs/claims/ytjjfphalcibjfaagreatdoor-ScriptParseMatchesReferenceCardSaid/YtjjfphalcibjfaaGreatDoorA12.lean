import Derived.Test.YtjjfphalcibjfaaGreatDoorA7
import Derived.Test.YtjjfphalcibjfaaGreatDoorAppend
set_option maxRecDepth 100000
set_option maxHeartbeats 16000000
namespace Go.Proofs.YtjjfphalcibjfaaGreatDoor
open Go.RowKit Cdk Scr
def fcA (a1:Option Addr) (n1 c1:Nat) (a2:Option Addr) (n2 c2:Nat) (a3:Option Addr) (n3 c3:Nat) (f:Fc):Array Value:=
 #[.int .i64 f.n,.int .i64 f.tm,.int .i64 f.kd,.int .i64 f.st,.string ⟨f.lg.toArray⟩,.int .i64 f.rv,.int .i64 f.bs,.string ⟨f.ti.toArray⟩,.string ⟨f.au.toArray⟩,.slice a1 n1 c1,.slice a2 n2 c2,.int .i64 f.lb.til,.slice a3 n3 c3,.int .i64 f.lb.app,.int .i64 f.lb.den,.int .i64 f.ed,.int .i64 f.bk,.int .i64 f.se,.string ⟨f.tx.toArray⟩,.string ⟨f.nm.toArray⟩,.int .i64 f.pa,.int .i64 f.cl,.int .i64 f.un]
theorem zgW {F:Nat -> Prop} (a1:Option Addr) (n1 c1:Nat) (a2:Option Addr) (n2 c2:Nat) (a3:Option Addr) (n3 c3:Nat) (f:Fc) (w:World) (h1:zbC F w (.slice a1 n1 c1) f.tp) (h2:zaE F w (.slice a2 n2 c2) f.bl) (h3:zaF F w (.slice a3 n3 c3) f.lb.aft):
  Calls Tryz.prog 88 #[.agg (fcA a1 n1 c1 a2 n2 c2 a3 n3 c3 f)] w fun e w'=>e=.returned (.bool (zbT f.lg && (rng f.rv 1 100 && (rng f.bs 0 (f.rv - 1) && (zdL f.ti && (zbT f.au && (vTp f.tp && (zec f.bl && vLb f.lb))))))))/\Ext w w':=by
 obtain ⟨r,hr⟩:∃ r,r=(zbT f.lg && (rng f.rv 1 100 && (rng f.bs 0 (f.rv - 1) && (zdL f.ti && (zbT f.au && (vTp f.tp && (zec f.bl && vLb f.lb))))))):=⟨_,rfl⟩;rw [<- hr];have k1:=Y (fun W=>zde ⟨f.lg.toArray⟩ W);have k2:=Y (fun W=>zaT f.rv 1 100 W);have k3:=Y (fun W=>zaT f.bs 0 (f.rv - 1) W);have k4:=Y (fun W=>zfC ⟨f.ti.toArray⟩ W);have k5:=Y (fun W=>zde ⟨f.au.toArray⟩ W);have k6:=Y (fun W (hX:Ext w W)=>zix (F:=F) (.slice a1 n1 c1) f.tp W (h1.ext hX));have k7:=Y (fun W (hX:Ext w W)=>zb4 (F:=F) (.slice a2 n2 c2) f.bl W (h2.ext hX));have k8:=Y (fun W (hX:Ext w W)=>zcn (F:=F) (.slice a3 n3 c3) f.lb W (h3.ext hX));simp only [] at k1 k4 k5;clear h1 h2 h3;obtain ⟨fn,ftm,fkd,fst,flg,frv,fbs,fti,fau,ftp,fbl,flb,fed,fbk,fse,ftx,fnm,fpa,fcl,fun_⟩:=f;obtain ⟨til,aft,app,den⟩:=flb;simp only at k1 k2 k3 k4 k5 k6 k7 k8 hr;unfold lbC at k8;simp only at k8;have hrv:rng frv 1 100=true -> 1<=frv/\frv<=100:=zam.1;generalize zbT flg=b1 at k1 hr;generalize rng frv 1 100=b2 at k2 hr hrv;generalize rng fbs 0 (frv - 1)=b3 at k3 hr;generalize zdL fti=b4 at k4 hr;generalize zbT fau=b5 at k5 hr;generalize vTp ftp=b6 at k6 hr;generalize zec fbl=b7 at k7 hr;generalize vLb ⟨til,aft,app,den⟩=b8 at k8 hr;replace hr:=Y hr;replace hrv:=Y hrv;unfold fcA;simp only;go_enter Tryz.func88,Tryz.ntmps88;go_wp2_with fail
 have hx1:=Mod.alloc (Mod.refl (fun _=>False) w) (.cells #[.int .i64 fn,.int .i64 ftm,.int .i64 fkd,.int .i64 fst,.string ⟨flg.toArray⟩,.int .i64 frv,.int .i64 fbs,.string ⟨fti.toArray⟩,.string ⟨fau.toArray⟩,.slice a1 n1 c1,.slice a2 n2 c2,.int .i64 til,.slice a3 n3 c3,.int .i64 app,.int .i64 den,.int .i64 fed,.int .i64 fbk,.int .i64 fse,.string ⟨ftx.toArray⟩,.string ⟨fnm.toArray⟩,.int .i64 fpa,.int .i64 fcl,.int .i64 fun_] 28);have hR:=heap_alloc_new w (.cells #[.int .i64 fn,.int .i64 ftm,.int .i64 fkd,.int .i64 fst,.string ⟨flg.toArray⟩,.int .i64 frv,.int .i64 fbs,.string ⟨fti.toArray⟩,.string ⟨fau.toArray⟩,.slice a1 n1 c1,.slice a2 n2 c2,.int .i64 til,.slice a3 n3 c3,.int .i64 app,.int .i64 den,.int .i64 fed,.int .i64 fbk,.int .i64 fse,.string ⟨ftx.toArray⟩,.string ⟨fnm.toArray⟩,.int .i64 fpa,.int .i64 fcl,.int .i64 fun_] 28);generalize (w.alloc (.cells #[.int .i64 fn,.int .i64 ftm,.int .i64 fkd,.int .i64 fst,.string ⟨flg.toArray⟩,.int .i64 frv,.int .i64 fbs,.string ⟨fti.toArray⟩,.string ⟨fau.toArray⟩,.slice a1 n1 c1,.slice a2 n2 c2,.int .i64 til,.slice a3 n3 c3,.int .i64 app,.int .i64 den,.int .i64 fed,.int .i64 fbk,.int .i64 fse,.string ⟨ftx.toArray⟩,.string ⟨fnm.toArray⟩,.int .i64 fpa,.int .i64 fcl,.int .i64 fun_] 28))=w1 at hx1 hR ⊢;generalize w.heap.size=R at hR ⊢;have p5:=cS hR 5;have p6:=cS hR 6;have p7:=cS hR 7;have p8:=cS hR 8;have p9:=cS hR 9;have p10:=cS hR 10;replace hR:=Y hR;replace hx1:=Y hx1;refine (k1.o _).mono ?_;rintro e w' ⟨rfl,rfl⟩;cases b1 with
 | false=>
  go_wp2_with fail
  go_ret;exact ⟨by rw [hr.o];simp,hx1.o⟩
 | true=>
  go_wp2_with fail
  refine (k2.o _).mono ?_;rintro e w' ⟨rfl,rfl⟩;cases b2 with
  | false=>
   go_wp2_with fail
   go_ret;exact ⟨by rw [hr.o];simp,hx1.o⟩
  | true=>
   obtain ⟨hv1,hv2⟩:=hrv.o rfl;clear hrv;go_wp2_with fail
   refine (k3.o _).mono ?_;rintro e w' ⟨rfl,rfl⟩;cases b3 with
   | false=>
    go_wp2_with fail
    go_ret;exact ⟨by rw [hr.o];simp,hx1.o⟩
   | true=>
    go_wp2_with fail
    refine (k4.o _).mono ?_;rintro e w' ⟨rfl,rfl⟩;cases b4 with
    | false=>
     go_wp2_with fail
     go_ret;exact ⟨by rw [hr.o];simp,hx1.o⟩
    | true=>
     go_wp2_with fail
     refine (k5.o _).mono ?_;rintro e w' ⟨rfl,rfl⟩;cases b5 with
     | false=>
      go_wp2_with fail
      go_ret;exact ⟨by rw [hr.o];simp,hx1.o⟩
     | true=>
      go_wp2_with fail
      refine (k6.o _ hx1.o).mono ?_;rintro e w' ⟨rfl,rfl⟩;cases b6 with
      | false=>
       go_wp2_with fail
       go_ret;exact ⟨by rw [hr.o];simp,hx1.o⟩
      | true=>
       go_wp2_with fail
       refine (k7.o _ hx1.o).mono ?_;rintro e w3 ⟨rfl,hx3⟩;have hR3:=hx3.at hR.o id;have p11:=cS hR3 11;have p12:=cS hR3 12;have p13:=cS hR3 13;have p14:=cS hR3 14;clear p5 p6 p7 p8 p9 p10 hR3;replace hx1:=Y (hx1.o.trans hx3);clear hx3;cases b7 with
       | false=>
        go_wp2_with fail
        go_ret;exact ⟨by rw [hr.o];simp,hx1.o⟩
       | true=>
        go_wp2_with fail
        refine (k8.o _ hx1.o).mono ?_;rintro e w3 ⟨rfl,hx3⟩;replace hx1:=Y (hx1.o.trans hx3);clear hx3;cases b8 with
        | false=>
         go_wp2_with fail
         go_ret;exact ⟨by rw [hr.o];simp,hx1.o⟩
        | true=>
         go_wp2_with fail
         go_ret;exact ⟨by rw [hr.o];simp,hx1.o⟩
theorem zfK (a1:Option Addr) (n1 c1:Nat) (a2:Option Addr) (n2 c2:Nat) (a3:Option Addr) (n3 c3:Nat) (f:Fc) (w:World):
  Calls Tryz.prog 90 #[.agg (fcA a1 n1 c1 a2 n2 c2 a3 n3 c3 f)] w fun e w'=>e=.returned (.bool (zbT f.lg && (rng f.bk 1 1000 && (rng f.se 0 299 && zdL f.tx))))/\Ext w w':=by
 obtain ⟨r,hr⟩:∃ r,r=(zbT f.lg && (rng f.bk 1 1000 && (rng f.se 0 299 && zdL f.tx))):=⟨_,rfl⟩;rw [<- hr];have k1:=Y (fun W=>zde ⟨f.lg.toArray⟩ W);have k2:=Y (fun W=>zaT f.bk 1 1000 W);have k3:=Y (fun W=>zaT f.se 0 299 W);have k4:=Y (fun W=>zfC ⟨f.tx.toArray⟩ W);simp only [] at k1 k4;obtain ⟨fn,ftm,fkd,fst,flg,frv,fbs,fti,fau,ftp,fbl,flb,fed,fbk,fse,ftx,fnm,fpa,fcl,fun_⟩:=f;obtain ⟨til,aft,app,den⟩:=flb;simp only at k1 k2 k3 k4 hr;generalize zbT flg=b1 at k1 hr;generalize rng fbk 1 1000=b2 at k2 hr;generalize rng fse 0 299=b3 at k3 hr;generalize zdL ftx=b4 at k4 hr;replace hr:=Y hr;unfold fcA;simp only;go_enter Tryz.func90,Tryz.ntmps90;go_wp2_with fail
 have hx1:=Mod.alloc (Mod.refl (fun _=>False) w) (.cells #[.int .i64 fn,.int .i64 ftm,.int .i64 fkd,.int .i64 fst,.string ⟨flg.toArray⟩,.int .i64 frv,.int .i64 fbs,.string ⟨fti.toArray⟩,.string ⟨fau.toArray⟩,.slice a1 n1 c1,.slice a2 n2 c2,.int .i64 til,.slice a3 n3 c3,.int .i64 app,.int .i64 den,.int .i64 fed,.int .i64 fbk,.int .i64 fse,.string ⟨ftx.toArray⟩,.string ⟨fnm.toArray⟩,.int .i64 fpa,.int .i64 fcl,.int .i64 fun_] 28);have hR:=heap_alloc_new w (.cells #[.int .i64 fn,.int .i64 ftm,.int .i64 fkd,.int .i64 fst,.string ⟨flg.toArray⟩,.int .i64 frv,.int .i64 fbs,.string ⟨fti.toArray⟩,.string ⟨fau.toArray⟩,.slice a1 n1 c1,.slice a2 n2 c2,.int .i64 til,.slice a3 n3 c3,.int .i64 app,.int .i64 den,.int .i64 fed,.int .i64 fbk,.int .i64 fse,.string ⟨ftx.toArray⟩,.string ⟨fnm.toArray⟩,.int .i64 fpa,.int .i64 fcl,.int .i64 fun_] 28);generalize (w.alloc (.cells #[.int .i64 fn,.int .i64 ftm,.int .i64 fkd,.int .i64 fst,.string ⟨flg.toArray⟩,.int .i64 frv,.int .i64 fbs,.string ⟨fti.toArray⟩,.string ⟨fau.toArray⟩,.slice a1 n1 c1,.slice a2 n2 c2,.int .i64 til,.slice a3 n3 c3,.int .i64 app,.int .i64 den,.int .i64 fed,.int .i64 fbk,.int .i64 fse,.string ⟨ftx.toArray⟩,.string ⟨fnm.toArray⟩,.int .i64 fpa,.int .i64 fcl,.int .i64 fun_] 28))=w1 at hx1 hR ⊢;generalize w.heap.size=R at hR ⊢;have p16:=cS hR 16;have p17:=cS hR 17;have p18:=cS hR 18;replace hR:=Y hR;replace hx1:=Y hx1;refine (k1.o _).mono ?_;rintro e w' ⟨rfl,rfl⟩;cases b1 with
 | false=>
  go_wp2_with fail
  go_ret;exact ⟨by rw [hr.o];simp,hx1.o⟩
 | true=>
  go_wp2_with fail
  refine (k2.o _).mono ?_;rintro e w' ⟨rfl,rfl⟩;cases b2 with
  | false=>
   go_wp2_with fail
   go_ret;exact ⟨by rw [hr.o];simp,hx1.o⟩
  | true=>
   go_wp2_with fail
   refine (k3.o _).mono ?_;rintro e w' ⟨rfl,rfl⟩;cases b3 with
   | false=>
    go_wp2_with fail
    go_ret;exact ⟨by rw [hr.o];simp,hx1.o⟩
   | true=>
    go_wp2_with fail
    refine (k4.o _).mono ?_;rintro e w' ⟨rfl,rfl⟩;cases b4 with
    | false=>
     go_wp2_with fail
     go_ret;exact ⟨by rw [hr.o];simp,hx1.o⟩
    | true=>
     go_wp2_with fail
     go_ret;exact ⟨by rw [hr.o];simp,hx1.o⟩
end Go.Proofs.YtjjfphalcibjfaaGreatDoor
namespace Cdk
open Go Go.RowKit
def strip (o : Oper) : Oper := ⟨o.dst, o.op, o.type, "", #[], o.guard⟩
theorem zcJ (d : Option Tmp) (op : Op) (t : TypeId) (p : String) (e : Array Edge) (g : Option (Nat × Bool)) : strip ⟨d, op, t, p, e, g⟩ = ⟨d, op, t, "", #[], g⟩ := rfl
section
variable {P:Program} {Q:Exit -> Act -> World -> Prop}
theorem zmv (o:Oper) (a:Act) (w:World) (next:Act -> World -> Prop):(strip o).wp P a w next Q=o.wp P a w next Q:=rfl
theorem zgN (l:List Oper) (t:Array Value):yielded (l.map strip).toArray t=yielded l.toArray t:=by
 funext j
 unfold yielded;have:((l.map strip).toArray[j]?).bind (·.dst)=(l.toArray[j]?).bind (·.dst):=by
  simp only [List.getElem?_toArray,List.getElem?_map];cases l[j]? <;> rfl
 rw [this]
theorem zc5 (ops:List Oper):∀ (l:List Oper) (a:Act) (w:World),wpList P (ops.map strip).toArray Q (l.map strip) a w -> wpList P ops.toArray Q l a w
 | [],a,w,h=>h
 | o::r,a,w,h=>by
  simp only [List.map_cons,wpList] at h ⊢;rw [zgN] at h;have hw:Region.wanted (strip o) (yielded ops.toArray a.tmps)=Region.wanted o (yielded ops.toArray a.tmps):=rfl;rw [hw] at h
  by_cases hc:Region.wanted o (yielded ops.toArray a.tmps)=true
  ·rw [if_pos hc] at h ⊢
   rcases h with h | h
   ·refine .inl ?_
    rw [zmv] at h;exact Oper.wp_mono (fun a' w' h'=>zc5 ops r a' w' h') h
   ·exact .inr h
  ·rw [if_neg hc] at h ⊢
   exact zc5 ops r _ _ h
theorem zaX {id:Nat} {l:List Oper} {a:Act} {w:World} (h:wpList P (l.map strip).toArray Q (l.map strip) a w):(Code.region id l.toArray false).wp P Q a w:=
 wp_region_lit (zc5 l l a w h)
end
end Cdk
namespace Go.Proofs.YtjjfphalcibjfaaGreatDoor
open Go.RowKit Cdk Scr
theorem zeH {F:Nat -> Prop} (a11:Option Addr) (n11 c11:Nat) (a12:Option Addr) (n12 c12:Nat) (a13:Option Addr) (n13 c13:Nat) (f:Fc) (a21:Option Addr) (n21 c21:Nat) (a22:Option Addr) (n22 c22:Nat) (a23:Option Addr) (n23 c23:Nat) (g:Fc) (w:World)
  (h1:FcAt F w ⟨.slice a11 n11 c11,.slice a12 n12 c12,.slice a13 n13 c13⟩ f) (h2:FcAt F w ⟨.slice a21 n21 c21,.slice a22 n22 c22,.slice a23 n23 c23⟩ g):
  Calls Tryz.prog 39 #[.agg (fcA a11 n11 c11 a12 n12 c12 a13 n13 c13 f),.agg (fcA a21 n21 c21 a22 n22 c22 a23 n23 c23 g)] w fun e w'=>e=.returned (.bool (decide (f=g)))/\Ext w w':=by
 obtain ⟨r,hr⟩:∃ r,r=decide (f=g):=⟨_,rfl⟩;rw [<- hr];have k1:=Y (fun W (hX:Ext w W)=>zjW (F:=F) (.slice a11 n11 c11) (.slice a21 n21 c21) f.tp g.tp W (h1.tp.ext hX) (h2.tp.ext hX));have k2:=Y (fun W (hX:Ext w W)=>zee (F:=F) (.slice a12 n12 c12) (.slice a22 n22 c22) f.bl g.bl W (h1.bl.ext hX) (h2.bl.ext hX));have k3:=Y (fun W (hX:Ext w W)=>zdZ (F:=F) (.slice a13 n13 c13) (.slice a23 n23 c23) f.lb g.lb W (h1.af.ext hX) (h2.af.ext hX));clear h1 h2;obtain ⟨n1,tm1,kd1,st1,lg1,rv1,bs1,ti1,au1,tp1,bl1,lb1,ed1,bk1,se1,tx1,nm1,pa1,cl1,un1⟩:=f;obtain ⟨n2,tm2,kd2,st2,lg2,rv2,bs2,ti2,au2,tp2,bl2,lb2,ed2,bk2,se2,tx2,nm2,pa2,cl2,un2⟩:=g;obtain ⟨til1,aft1,app1,den1⟩:=lb1;obtain ⟨til2,aft2,app2,den2⟩:=lb2;replace hr:r=(decide (n1=n2) && (decide (tm1=tm2) && (decide (kd1=kd2) && (decide (st1=st2) && (decide (lg1=lg2) && (decide (rv1=rv2) && (decide (bs1=bs2) && (decide (ti1=ti2) && (decide (au1=au2) && (decide (tp1=tp2) && (decide (bl1=bl2) && (decide ((⟨til1,aft1,app1,den1⟩:Lb)=⟨til2,aft2,app2,den2⟩) && (decide (ed1=ed2) && (decide (bk1=bk2) && (decide (se1=se2) && (decide (tx1=tx2) && (decide (nm1=nm2) && (decide (pa1=pa2) && (decide (cl1=cl2) && (decide (un1=un2))))))))))))))))))))):=by
  rw [hr,Bool.eq_iff_iff];simp only [Fc.mk.injEq,decide_eq_true_eq,Bool.and_eq_true]
 unfold lbC at k3;simp only at k1 k2 k3;have e_n:=zaj n1 n2;have e_tm:=zaj tm1 tm2;have e_kd:=zaj kd1 kd2;have e_st:=zaj st1 st2;have e_lg:=zbZ lg1 lg2;have e_rv:=zaj rv1 rv2;have e_bs:=zaj bs1 bs2;have e_ti:=zbZ ti1 ti2;have e_au:=zbZ au1 au2;have e_ed:=zaj ed1 ed2;have e_bk:=zaj bk1 bk2;have e_se:=zaj se1 se2;have e_tx:=zbZ tx1 tx2;have e_nm:=zbZ nm1 nm2;have e_pa:=zaj pa1 pa2;have e_cl:=zaj cl1 cl2;have e_un:=zaj un1 un2;generalize decide (n1=n2)=b_n at hr e_n;generalize decide (tm1=tm2)=b_tm at hr e_tm;generalize decide (kd1=kd2)=b_kd at hr e_kd;generalize decide (st1=st2)=b_st at hr e_st;generalize decide (lg1=lg2)=b_lg at hr e_lg;generalize decide (rv1=rv2)=b_rv at hr e_rv;generalize decide (bs1=bs2)=b_bs at hr e_bs;generalize decide (ti1=ti2)=b_ti at hr e_ti;generalize decide (au1=au2)=b_au at hr e_au;generalize decide (ed1=ed2)=b_ed at hr e_ed;generalize decide (bk1=bk2)=b_bk at hr e_bk;generalize decide (se1=se2)=b_se at hr e_se;generalize decide (tx1=tx2)=b_tx at hr e_tx;generalize decide (nm1=nm2)=b_nm at hr e_nm;generalize decide (pa1=pa2)=b_pa at hr e_pa;generalize decide (cl1=cl2)=b_cl at hr e_cl;generalize decide (un1=un2)=b_un at hr e_un;generalize decide (tp1=tp2)=b_tp at hr k1;generalize decide (bl1=bl2)=b_bl at hr k2;generalize decide ((⟨til1,aft1,app1,den1⟩:Lb)=⟨til2,aft2,app2,den2⟩)=b_lb at hr k3;replace hr:=Y hr;obtain ⟨hx,hA,hB,-⟩:=zaV w #[.int .i64 n1,.int .i64 tm1,.int .i64 kd1,.int .i64 st1,.string ⟨lg1.toArray⟩,.int .i64 rv1,.int .i64 bs1,.string ⟨ti1.toArray⟩,.string ⟨au1.toArray⟩,.slice a11 n11 c11,.slice a12 n12 c12,.int .i64 til1,.slice a13 n13 c13,.int .i64 app1,.int .i64 den1,.int .i64 ed1,.int .i64 bk1,.int .i64 se1,.string ⟨tx1.toArray⟩,.string ⟨nm1.toArray⟩,.int .i64 pa1,.int .i64 cl1,.int .i64 un1] #[.int .i64 n2,.int .i64 tm2,.int .i64 kd2,.int .i64 st2,.string ⟨lg2.toArray⟩,.int .i64 rv2,.int .i64 bs2,.string ⟨ti2.toArray⟩,.string ⟨au2.toArray⟩,.slice a21 n21 c21,.slice a22 n22 c22,.int .i64 til2,.slice a23 n23 c23,.int .i64 app2,.int .i64 den2,.int .i64 ed2,.int .i64 bk2,.int .i64 se2,.string ⟨tx2.toArray⟩,.string ⟨nm2.toArray⟩,.int .i64 pa2,.int .i64 cl2,.int .i64 un2] 28 28;replace hx:=Y hx;unfold fcA;simp only;go_enter Tryz.func39,Tryz.ntmps39;go_upto_region 1 with (fail)
 generalize ((w.alloc (.cells #[.int .i64 n1,.int .i64 tm1,.int .i64 kd1,.int .i64 st1,.string ⟨lg1.toArray⟩,.int .i64 rv1,.int .i64 bs1,.string ⟨ti1.toArray⟩,.string ⟨au1.toArray⟩,.slice a11 n11 c11,.slice a12 n12 c12,.int .i64 til1,.slice a13 n13 c13,.int .i64 app1,.int .i64 den1,.int .i64 ed1,.int .i64 bk1,.int .i64 se1,.string ⟨tx1.toArray⟩,.string ⟨nm1.toArray⟩,.int .i64 pa1,.int .i64 cl1,.int .i64 un1] 28)).alloc (.cells #[.int .i64 n2,.int .i64 tm2,.int .i64 kd2,.int .i64 st2,.string ⟨lg2.toArray⟩,.int .i64 rv2,.int .i64 bs2,.string ⟨ti2.toArray⟩,.string ⟨au2.toArray⟩,.slice a21 n21 c21,.slice a22 n22 c22,.int .i64 til2,.slice a23 n23 c23,.int .i64 app2,.int .i64 den2,.int .i64 ed2,.int .i64 bk2,.int .i64 se2,.string ⟨tx2.toArray⟩,.string ⟨nm2.toArray⟩,.int .i64 pa2,.int .i64 cl2,.int .i64 un2] 28))=w1 at hx hA hB ⊢;generalize w.heap.size=R at hA hB ⊢;have p_n0:=cS hA 0;have p_n1:=cS hB 0;have p_tm0:=cS hA 1;have p_tm1:=cS hB 1;have p_kd0:=cS hA 2;have p_kd1:=cS hB 2;have p_st0:=cS hA 3;have p_st1:=cS hB 3;have p_lg0:=cS hA 4;have p_lg1:=cS hB 4;have p_rv0:=cS hA 5;have p_rv1:=cS hB 5;have p_bs0:=cS hA 6;have p_bs1:=cS hB 6;have p_ti0:=cS hA 7;have p_ti1:=cS hB 7;have p_au0:=cS hA 8;have p_au1:=cS hB 8;have p_tp0:=cS hA 9;have p_tp1:=cS hB 9;replace hA:=Y hA;replace hB:=Y hB;refine zaX ?_;simp only [List.append_eq,List.map_cons,List.map_nil,zcJ,List.cons_append,List.nil_append];go_wp2_with fail
 rotate_left
 iterate 9
  ·go_ret
   exact ⟨by rw [hr.o];simp [*],hx.o⟩
 clear p_n0 p_n1 p_tm0 p_tm1 p_kd0 p_kd1 p_st0 p_st1 p_lg0 p_lg1 p_rv0 p_rv1 p_bs0 p_bs1 p_ti0 p_ti1 p_au0 p_au1 p_tp0 p_tp1;replace hA:=hA.o;replace hB:=hB.o;refine (k1.o _ hx.o).mono ?_;rintro e w2 ⟨rfl,hx2⟩;replace hA:=hx2.at hA id;replace hB:=hx2.at hB id;replace hx:=Y (hx.o.trans hx2);clear hx2 k1;have p_bl0:=cS hA 10;have p_bl1:=cS hB 10;replace hA:=Y hA;replace hB:=Y hB;cases b_tp with
 | false=>
  go_wp2_with fail
  go_ret;exact ⟨by rw [hr.o];simp [*],hx.o⟩
 | true=>
 go_wp2_with fail
 refine (k2.o _ hx.o).mono ?_;rintro e w3 ⟨rfl,hx3⟩;replace hA:=hx3.at hA.o id;replace hB:=hx3.at hB.o id;replace hx:=Y (hx.o.trans hx3);clear hx3 k2 p_bl0 p_bl1;have p_til0:=cS hA 11;have p_til1:=cS hB 11;have p_aft0:=cS hA 12;have p_aft1:=cS hB 12;have p_app0:=cS hA 13;have p_app1:=cS hB 13;have p_den0:=cS hA 14;have p_den1:=cS hB 14;replace hA:=Y hA;replace hB:=Y hB;cases b_bl with
 | false=>
  go_wp2_with fail
  go_ret;exact ⟨by rw [hr.o];simp [*],hx.o⟩
 | true=>
 go_wp2_with fail
 refine (k3.o _ hx.o).mono ?_;rintro e w4 ⟨rfl,hx4⟩;replace hA:=hx4.at hA.o id;replace hB:=hx4.at hB.o id;replace hx:=Y (hx.o.trans hx4);clear hx4 k3 p_til0 p_til1 p_aft0 p_aft1 p_app0 p_app1 p_den0 p_den1;have p_ed0:=cS hA 15;have p_ed1:=cS hB 15;have p_bk0:=cS hA 16;have p_bk1:=cS hB 16;have p_se0:=cS hA 17;have p_se1:=cS hB 17;have p_tx0:=cS hA 18;have p_tx1:=cS hB 18;have p_nm0:=cS hA 19;have p_nm1:=cS hB 19;have p_pa0:=cS hA 20;have p_pa1:=cS hB 20;have p_cl0:=cS hA 21;have p_cl1:=cS hB 21;have p_un0:=cS hA 22;have p_un1:=cS hB 22;replace hA:=Y hA;replace hB:=Y hB;cases b_lb with
 | false=>
  go_wp2_with fail
  go_ret;exact ⟨by rw [hr.o];simp [*],hx.o⟩
 | true=>
 go_wp2_with fail
 all_goals
  go_ret;exact ⟨by rw [hr.o];simp [*],hx.o⟩
theorem zhM (n:Int) (w:World):Calls Tryz.prog 57 #[.int .i64 n] w fun e w'=>e=.returned (.bool (zcd n))/\w=w':=by
 obtain ⟨r,hr⟩:∃ r,r=zcd n:=⟨_,rfl⟩;rw [<- hr];unfold zcd rng at hr
 by_cases h1:0<=n <;> by_cases h2:n<=4294967295
 all_goals
  replace hr:=Y hr;go_enter Tryz.func57,Tryz.ntmps57;go_wp2;go_ret;exact ⟨by rw [hr.o];simp [*],rfl⟩
theorem zc2 (m:Ms) (w:World):Calls Tryz.prog 33 #[.agg (msC m).toArray] w fun e w'=>e=.returned (.bool (vMs m))/\Ext w w':=by
 obtain ⟨r,hr⟩:∃ r,r=vMs m:=⟨_,rfl⟩;rw [<- hr];obtain ⟨kd,pa,sq,st,ba,ve,da⟩:=m;unfold vMs at hr;simp only at hr;have k1:=Y (fun W=>zhM ba W);have k2:=Y (fun W=>zhM ve W);generalize zcd ba=sb at k1 hr;generalize zcd ve=sv at k2 hr;have hx:=Y (Mod.alloc (Mod.refl (fun _=>False) w) (.cells #[.int .i64 kd,.int .i64 pa,.int .i64 sq,.int .i64 st,.int .i64 ba,.int .i64 ve,.string ⟨da.toArray⟩] 30));have c1:=zaj ba 0;have c2:=zaj ve 0;have c3:(da.isEmpty)=da.isEmpty:=rfl;clear c3;generalize decide (ba=0)=d1 at c1 hr;generalize decide (ve=0)=d2 at c2 hr;generalize hda:decide (da.length<=16384)=d4 at hr;replace hda:Hid (decide ((da.length:Int)<=16384)=d4):=Y (by rw [<- hda,Bool.eq_iff_iff];simp;omega);have hde:Hid ((da.isEmpty)=da.isEmpty):=Y rfl;clear hde;unfold msC zb0;simp only
 by_cases g1:pa < 1
 ·have hf:Hid (r=false):=Y (by rw [hr];simp [rng];omega)
  clear hr;go_enter Tryz.func33,Tryz.ntmps33;go_wp2_with fail
  go_ret;exact ⟨by rw [hf.o];rfl,hx.o⟩
 by_cases g2:8 < pa
 ·have hf:Hid (r=false):=Y (by rw [hr];simp [rng];omega)
  clear hr;go_enter Tryz.func33,Tryz.ntmps33;go_wp2_with fail
  go_ret;exact ⟨by rw [hf.o];rfl,hx.o⟩
 by_cases g3:sq < 1
 ·have hf:Hid (r=false):=Y (by rw [hr];simp [rng];omega)
  clear hr;go_enter Tryz.func33,Tryz.ntmps33;go_wp2_with fail
  go_ret;exact ⟨by rw [hf.o];rfl,hx.o⟩
 by_cases g4:4611686018427387903 < sq
 ·have hf:Hid (r=false):=Y (by rw [hr];simp [rng];omega)
  clear hr;go_enter Tryz.func33,Tryz.ntmps33;go_wp2_with fail
  go_ret;exact ⟨by rw [hf.o];rfl,hx.o⟩
 by_cases g5:st < 1
 ·have hf:Hid (r=false):=Y (by rw [hr];simp [rng];omega)
  clear hr;go_enter Tryz.func33,Tryz.ntmps33;go_wp2_with fail
  go_ret;exact ⟨by rw [hf.o];rfl,hx.o⟩
 by_cases g6:64 < st
 ·have hf:Hid (r=false):=Y (by rw [hr];simp [rng];omega)
  clear hr;go_enter Tryz.func33,Tryz.ntmps33;go_wp2_with fail
  go_ret;exact ⟨by rw [hf.o];rfl,hx.o⟩
 rw [zam.2 (show 1<=pa/\pa<=8 by omega),zam.2 (show 1<=sq/\sq<=4611686018427387903 by omega),zam.2 (show 1<=st/\st<=64 by omega),Bool.true_and,Bool.true_and,Bool.true_and] at hr;cases sb with
 | false=>
  replace hr:=Y hr;go_enter Tryz.func33,Tryz.ntmps33;go_wp2_with fail
  refine (k1.o _).mono ?_;rintro e w' ⟨rfl,rfl⟩;go_wp2_with fail
  go_ret;exact ⟨by rw [hr.o];rfl,hx.o⟩
 | true=>
  cases sv with
  | false=>
   replace hr:=Y hr;go_enter Tryz.func33,Tryz.ntmps33;go_wp2_with fail
   refine (k1.o _).mono ?_;rintro e w' ⟨rfl,rfl⟩;go_wp2_with fail
   refine (k2.o _).mono ?_;rintro e w' ⟨rfl,rfl⟩;go_wp2_with fail
   go_ret;exact ⟨by rw [hr.o];rfl,hx.o⟩
  | true=>
   rw [Bool.true_and,Bool.true_and] at hr
   by_cases n1:kd=1
   ·rw [if_pos n1] at hr
    subst n1;replace hr:=Y (hr.trans hda.o.symm);go_enter Tryz.func33,Tryz.ntmps33;go_wp2_with fail
    refine (k1.o _).mono ?_;rintro e w' ⟨rfl,rfl⟩;go_wp2_with fail
    refine (k2.o _).mono ?_;rintro e w' ⟨rfl,rfl⟩;go_wp2_with fail
    go_ret;exact ⟨by rw [hr.o];rfl,hx.o⟩
   rw [if_neg n1] at hr
   by_cases n2:kd=2
   ·rw [if_pos n2] at hr
    subst n2;replace hr:=Y hr;go_enter Tryz.func33,Tryz.ntmps33;go_wp2_with fail
    refine (k1.o _).mono ?_;rintro e w' ⟨rfl,rfl⟩;go_wp2_with fail
    refine (k2.o _).mono ?_;rintro e w' ⟨rfl,rfl⟩;go_wp2_with fail
    all_goals
     go_ret;exact ⟨by rw [hr.o];simp [*],hx.o⟩
   rw [if_neg n2] at hr
   by_cases n3:kd=3
   ·rw [if_pos n3] at hr
    subst n3;replace hr:=Y hr;go_enter Tryz.func33,Tryz.ntmps33;go_wp2_with fail
    refine (k1.o _).mono ?_;rintro e w' ⟨rfl,rfl⟩;go_wp2_with fail
    refine (k2.o _).mono ?_;rintro e w' ⟨rfl,rfl⟩;go_wp2_with fail
    all_goals
     go_ret;exact ⟨by rw [hr.o];simp [*],hx.o⟩
   rw [if_neg n3] at hr
   by_cases n4:kd=4
   ·rw [if_pos n4] at hr
    subst n4;replace hr:=Y hr;go_enter Tryz.func33,Tryz.ntmps33;go_wp2_with fail
    refine (k1.o _).mono ?_;rintro e w' ⟨rfl,rfl⟩;go_wp2_with fail
    refine (k2.o _).mono ?_;rintro e w' ⟨rfl,rfl⟩;go_wp2_with fail
    all_goals
     go_ret;exact ⟨by rw [hr.o];simp [*],hx.o⟩
   ·rw [if_neg n4] at hr
    have e1:(kd==1)=false:=by rw [beq_eq_false_iff_ne];exact n1
    have e2:(kd==2)=false:=by rw [beq_eq_false_iff_ne];exact n2
    have e3:(kd==3)=false:=by rw [beq_eq_false_iff_ne];exact n3
    have e4:(kd==4)=false:=by rw [beq_eq_false_iff_ne];exact n4
    replace hr:=Y hr;go_enter Tryz.func33,Tryz.ntmps33;go_wp2_with fail
    refine (k1.o _).mono ?_;rintro e w' ⟨rfl,rfl⟩;go_wp2_with fail
    refine (k2.o _).mono ?_;rintro e w' ⟨rfl,rfl⟩;go_wp2_with fail
    go_ret;exact ⟨by rw [hr.o];rfl,hx.o⟩
theorem zf3 (n:Int) (w:World):Calls Tryz.prog 31 #[.int .i64 n] w fun e w'=>e=.returned (.bool (rng n 0 3))/\w=w':=by
 have h:=Y (zbo n 0 3 w);generalize rng n 0 3=r at h ⊢;go_enter Tryz.func31,Tryz.ntmps31;go_wp2_with fail
 refine h.o.mono ?_;rintro e w' ⟨rfl,rfl⟩;go_wp2_with fail
 go_ret;exact ⟨rfl,rfl⟩
theorem zj0 (n top:Int) (B:Nat) (w:World) (hB:w.cell? ⟨B,0,none⟩=some (.int .i64 top)):Calls Tryz.prog 56 #[.int .i64 n,.pointer (some ⟨B,0,none⟩)] w fun e w'=>e=.returned (.bool (!rng n 0 top))/\w=w':=by
 have h:=Y (zbo n 0 top w);generalize rng n 0 top=r at h ⊢;go_enter Tryz.func56,Tryz.ntmps56;go_wp2_with fail
 refine h.o.mono ?_;rintro e w' ⟨rfl,rfl⟩;go_wp2_with fail
 go_ret;exact ⟨rfl,rfl⟩
def zpR (l:List Int) (top:Int) (w:World) (e:Ending) (w':World):Prop:=∃ k:Int,e=.returned (.int .i64 k)/\decide (0<=k)=!(l.all fun n=>rng n 0 top)/\w=w'
theorem zbG {F:Nat -> Prop} {w:World} {ao:Option Addr} {n cap:Nat} {l:List Int} (h:zaF F w (.slice ao n cap) l) {j:Nat} (hj:j < l.length):∃ b off,ao=some ⟨b,off,none⟩/\w.cell? ⟨b,off+j,none⟩=some (.int .i64 l[j]):=by
 obtain ⟨b,off,c,e,-,hc⟩:=h.get 1 zbv (by decide) hj;injection e with e1 _ _
 have:=hc 0 _ (by decide) rfl;rw [Nat.mul_one,Nat.add_zero] at this;exact ⟨b,off,e1,this⟩
theorem zkc {F:Nat -> Prop} (v:Value) (l:List Int) (top:Int) (B:Nat) (w:World) (hB:w.cell? ⟨B,0,none⟩=some (.int .i64 top)) (h:zaF F w v l):
  Calls Tryz.prog 94 #[v,.func (.func 56) #[] #[.pointer (some ⟨B,0,none⟩)]] w (zpR l top w):=by
 obtain ⟨post,hpost⟩:∃ post,post=zpR l top w:=⟨_,rfl⟩;rw [<- hpost];have hn0:=h.len;obtain ⟨ao,cap,rfl⟩:=h.slice;obtain ⟨n,hn⟩:∃ n,n=l.length:=⟨_,rfl⟩;rw [<- hn] at h hn0 ⊢;replace hn:=Y hn;replace h:=Y h;replace hpost:=Y hpost;replace hB:=Y hB;go_enter Tryz.func94,Tryz.ntmps94;go_wp2_with fail
 go_loopg [8] n (fun g i wr=>∃ j:Nat,j+g=n/\i=.int .i64 j/\wr=w/\(l.all fun n=>rng n 0 top)=((l.drop j).all fun n=>rng n 0 top))
 case atStart=>exact ⟨0,by omega,rfl,rfl,rfl⟩
 case round=>
  obtain ⟨j,hj,rfl,rfl,hrj⟩:=hrel;replace hj:=Y hj
  by_cases hlt:j < n
  ·have hdi:(j:Int) < (n:Int):=by omega
   have hd:decide ((j:Int) < (n:Int))=true:=decide_eq_true hdi;have hjl:j < l.length:=by have:=hn.o;omega
   obtain ⟨b,off,rfl,c0⟩:=zbG h.o hjl;rw [List.drop_eq_getElem_cons hjl,List.all_cons] at hrj;have hC:=zj0 l[j] top B wr hB.o;generalize l[j]=x at c0 hrj hC;generalize rng x 0 top=bx at hrj hC;replace hC:=Y hC;replace hrj:=Y hrj;cases bx with
   | false=>
    go_wp2_with fail
    refine hC.o.mono ?_;rintro e w' ⟨rfl,rfl⟩;go_wp2_with fail
    rw [hpost.o];exact ⟨j,rfl,by rw [hrj.o];simp,rfl⟩
   | true=>
    go_wp2_with fail
    refine hC.o.mono ?_;rintro e w' ⟨rfl,rfl⟩;go_wp2_with fail
    go_roundg (gk - 1)
    case measure=>have:=hj.o;omega
    case rel=>exact ⟨j+1,by have:=hj.o;omega,by go_num,rfl,by rw [hrj.o];rfl⟩
  ·have hdi:¬ (j:Int) < (n:Int):=by omega
   have hd:decide ((j:Int) < (n:Int))=false:=decide_eq_false hdi;rw [List.drop_eq_nil_of_le (by have:=hn.o;omega)] at hrj;replace hrj:=Y hrj;go_wp2_with fail
   rw [hpost.o];exact ⟨-1,rfl,by rw [hrj.o];rfl,rfl⟩
theorem zgA {F:Nat -> Prop} (v:Value) (l:List Int) (top:Int) (B:Nat) (w:World) (hB:w.cell? ⟨B,0,none⟩=some (.int .i64 top)) (h:zaF F w v l):
  Calls Tryz.prog 55 #[v,.func (.func 56) #[] #[.pointer (some ⟨B,0,none⟩)]] w fun e w'=>e=.returned (.bool (!(l.all fun n=>rng n 0 top)))/\w=w':=by
 have hI:=Y (zkc v l top B w hB h);obtain ⟨r,hr⟩:∃ r,r=!(l.all fun n=>rng n 0 top):=⟨_,rfl⟩;rw [<- hr];replace hr:=Y hr;clear h hB;go_enter Tryz.func55,Tryz.ntmps55;go_wp2_with fail
 refine hI.o.mono ?_;rintro e w' ⟨k,rfl,hk,rfl⟩;rw [<- hr.o] at hk;go_wp2_with fail
 go_ret;exact ⟨by rw [<- hk];rfl,rfl⟩
theorem zhx {F:Nat -> Prop} (v:Value) (l:List Int) (most:Nat) (top:Int) (w:World) (h:zaF F w v l):
  Calls Tryz.prog 30 #[v,.int .i64 most,.int .i64 top] w fun e w'=>e=.returned (.bool (zg5 l most top))/\Ext w w':=by
 obtain ⟨r,hr⟩:∃ r,r=zg5 l most top:=⟨_,rfl⟩;rw [<- hr];unfold zg5 at hr;have hx:=Mod.alloc (Mod.refl (fun _=>False) w) (.cells #[.int .i64 top] 3);have hC:=zgA v l top w.heap.size _ (zaa (heap_alloc_new w (.cells #[.int .i64 top] 3)) 0) (h.ext hx);obtain ⟨ao,cap,rfl⟩:=h.slice;obtain ⟨n,hn⟩:∃ n,n=l.length:=⟨_,rfl⟩;rw [<- hn] at hr hC ⊢;generalize (l.all fun n=>rng n 0 top)=q at hr hC;replace hn:=Y hn;replace hC:=Y hC;replace hx:=Y hx;clear h;have hmf:∀ (fn:Fn) (first cap:Array Value) (w:World),(Instr.makeFunc fn first cap).run Tryz.prog w=.ok (.func fn first cap) w:=fun _ _ _ _=>rfl
 by_cases hl:n<=most
 ·have hq:¬ (most:Int) < (n:Int):=by omega
  rw [decide_eq_true hl,Bool.true_and] at hr;replace hr:=Y hr;go_enter Tryz.func30,Tryz.ntmps30;go_wp2_with fail
  refine hC.o.mono ?_;rintro e w' ⟨rfl,rfl⟩;go_wp2_with fail
  go_ret;exact ⟨by rw [hr.o];simp,hx.o⟩
 ·have hq:(most:Int) < (n:Int):=by omega
  rw [decide_eq_false hl,Bool.false_and] at hr;replace hr:=Y hr;go_enter Tryz.func30,Tryz.ntmps30;go_wp2_with fail
  go_ret;exact ⟨by rw [hr.o];rfl,hx.o⟩
theorem zie (s:ByteArray) (a b f:Nat) (hb:b<=100000) (w:World):
  Calls Tryz.prog 32 #[.string s,.int .i64 a,.int .i64 b,.int .u8 f] w fun e w'=>e=.returned (.bool (zf7 s.data.toList a b f))/\w=w':=by
 obtain ⟨r,hr⟩:∃ r,r=zf7 s.data.toList a b f:=⟨_,rfl⟩;rw [<- hr];unfold zf7 at hr;rw [<- zaN] at hr;have hw:=Y (zbo s.size a b w);have hrg:rng s.size a b=(decide (a<=s.size) && decide (s.size<=b)):=by unfold rng;rw [Bool.eq_iff_iff];simp
 rw [<- Bool.and_assoc,<- hrg] at hr;clear hrg;cases hrg:rng (s.size:Int) a b with
 | false=>
  rw [hrg] at hw hr;replace hr:=Y hr;clear hrg;go_enter Tryz.func32,Tryz.ntmps32;go_wp2_with fail
  refine hw.o.mono ?_;rintro e w' ⟨rfl,rfl⟩;go_wp2_with fail
  go_ret;exact ⟨by rw [hr.o];rfl,rfl⟩
 | true=>
  have hsz:=(zam.1 hrg).2;rw [hrg] at hw hr;rw [Bool.true_and] at hr;replace hr:=Y hr;have hss:s.size<=100000:=by omega
  clear hrg hsz;go_enter Tryz.func32,Tryz.ntmps32;go_wp2_with fail
  refine hw.o.mono ?_;rintro e w' ⟨rfl,rfl⟩;clear hw;go_wp2_with fail
  go_loopg [18] s.size (fun g i wr=>∃ j:Nat,j+g=s.size/\i=.int .i64 j/\wr=w/\r=(s.data.toList.drop j).all (fun c=>decide (f<=c.toNat) && decide (c.toNat<=126)))
  case atStart=>exact ⟨0,by omega,rfl,rfl,hr.o⟩
  case round=>
   obtain ⟨j,hj,rfl,rfl,hrj⟩:=hrel;replace hj:=Y hj
   by_cases hlt:j < s.size
   ·have hdd:decide ((j:Int) < (s.size:Int))=true:=decide_eq_true (by omega)
    rw [zcS s _ hlt] at hrj;generalize hrest:(s.data.toList.drop (j+1)).all (fun c=>decide (f<=c.toNat) && decide (c.toNat<=126))=rest at hrj;replace hrj:=Y hrj;replace hrest:=Y hrest
    by_cases h1:((s[j].toNat:Nat):Int) < (f:Int)
    ·have hp:Hid (r=false):=Y (by rw [hrj.o];simp;omega)
     go_wp2_with fail
     go_ret;exact ⟨by rw [hp.o];rfl,rfl⟩
    ·by_cases h2:(126:Int) < ((s[j].toNat:Nat):Int)
     ·have hp:Hid (r=false):=Y (by rw [hrj.o];simp;omega)
      go_wp2_with fail
      go_ret;exact ⟨by rw [hp.o];rfl,rfl⟩
     ·have hp:Hid (r=rest):=Y (by rw [hrj.o,decide_eq_true (show f<=s[j].toNat by omega),decide_eq_true (show s[j].toNat<=126 by omega)];rfl)
      go_wp2_with fail
      go_roundg (gk - 1)
      case measure=>have:=hj.o;omega
      case rel=>exact ⟨j+1,by have:=hj.o;omega,by go_num,rfl,by rw [hp.o];exact hrest.o.symm⟩
   ·obtain rfl:j=s.size:=by have:=hj.o;omega
    have hdd:decide ((s.size:Int) < (s.size:Int))=false:=decide_eq_false (by omega);rw [List.drop_eq_nil_of_le (by rw [<- zaN];exact Nat.le_refl _)] at hrj;replace hrj:=Y hrj;go_wp2_with fail
    go_ret;exact ⟨by rw [hrj.o];rfl,rfl⟩
end Go.Proofs.YtjjfphalcibjfaaGreatDoor
