import Derived.Test.YtjjfphalcibjfaaGreatDoorA7
import Derived.Test.YtjjfphalcibjfaaGreatDoorMaps
set_option maxRecDepth 100000
set_option maxHeartbeats 16000000
namespace Go.Proofs.YtjjfphalcibjfaaGreatDoor
open Go.RowKit Cdk Scr
def fcA (a1:Option Addr) (n1 c1:Nat) (a2:Option Addr) (n2 c2:Nat) (a3:Option Addr) (n3 c3:Nat) (f:Fc):Array Value:=
 #[.int .i64 f.n,.int .i64 f.tm,.int .i64 f.kd,.int .i64 f.st,.string ⟨f.lg.toArray⟩,.int .i64 f.rv,.int .i64 f.bs,.string ⟨f.ti.toArray⟩,.string ⟨f.au.toArray⟩,.slice a1 n1 c1,.slice a2 n2 c2,.int .i64 f.lb.til,.slice a3 n3 c3,.int .i64 f.lb.app,.int .i64 f.lb.den,.int .i64 f.ed,.int .i64 f.bk,.int .i64 f.se,.string ⟨f.tx.toArray⟩,.string ⟨f.nm.toArray⟩,.int .i64 f.pa,.int .i64 f.cl,.int .i64 f.un]
theorem zfo {F:Nat -> Prop} (a1:Option Addr) (n1 c1:Nat) (a2:Option Addr) (n2 c2:Nat) (a3:Option Addr) (n3 c3:Nat) (f:Fc) (w:World) (h1:zbw F w (.slice a1 n1 c1) f.tp) (h2:zaD F w (.slice a2 n2 c2) f.bl) (h3:zaF F w (.slice a3 n3 c3) f.lb.aft):
  Calls Tryz.prog 88 #[.agg (fcA a1 n1 c1 a2 n2 c2 a3 n3 c3 f)] w fun e w'=>e=.returned (.bool (zbv f.lg && (rng f.rv 1 100 && (rng f.bs 0 (f.rv - 1) && (zcj f.ti && (zbv f.au && (vTp f.tp && (zdt f.bl && vLb f.lb))))))))/\Ext w w':=by
 obtain ⟨r,hr⟩:∃ r,r=(zbv f.lg && (rng f.rv 1 100 && (rng f.bs 0 (f.rv - 1) && (zcj f.ti && (zbv f.au && (vTp f.tp && (zdt f.bl && vLb f.lb))))))):=⟨_,rfl⟩;rw [<- hr];have k1:=hid (fun W=>zcG ⟨f.lg.toArray⟩ W);have k2:=hid (fun W=>zaf f.rv 1 100 W);have k3:=hid (fun W=>zaf f.bs 0 (f.rv - 1) W);have k4:=hid (fun W=>zef ⟨f.ti.toArray⟩ W);have k5:=hid (fun W=>zcG ⟨f.au.toArray⟩ W);have k6:=hid (fun W (hX:Ext w W)=>zg8 (F:=F) (.slice a1 n1 c1) f.tp W (h1.ext hX));have k7:=hid (fun W (hX:Ext w W)=>zbQ (F:=F) (.slice a2 n2 c2) f.bl W (h2.ext hX));have k8:=hid (fun W (hX:Ext w W)=>zb6 (F:=F) (.slice a3 n3 c3) f.lb W (h3.ext hX));simp only [] at k1 k4 k5;clear h1 h2 h3;obtain ⟨fn,ftm,fkd,fst,flg,frv,fbs,fti,fau,ftp,fbl,flb,fed,fbk,fse,ftx,fnm,fpa,fcl,fun_⟩:=f;obtain ⟨til,aft,app,den⟩:=flb;simp only at k1 k2 k3 k4 k5 k6 k7 k8 hr;unfold lbC at k8;simp only at k8;have hrv:rng frv 1 100=true -> 1<=frv/\frv<=100:=zaq.1;generalize zbv flg=b1 at k1 hr;generalize rng frv 1 100=b2 at k2 hr hrv;generalize rng fbs 0 (frv - 1)=b3 at k3 hr;generalize zcj fti=b4 at k4 hr;generalize zbv fau=b5 at k5 hr;generalize vTp ftp=b6 at k6 hr;generalize zdt fbl=b7 at k7 hr;generalize vLb ⟨til,aft,app,den⟩=b8 at k8 hr;replace hr:=hid hr;replace hrv:=hid hrv;unfold fcA;simp only;go_enter Tryz.func88,Tryz.ntmps88;go_wp2_with fail
 have hx1:=Mod.alloc (Mod.refl (fun _=>False) w) (.cells #[.int .i64 fn,.int .i64 ftm,.int .i64 fkd,.int .i64 fst,.string ⟨flg.toArray⟩,.int .i64 frv,.int .i64 fbs,.string ⟨fti.toArray⟩,.string ⟨fau.toArray⟩,.slice a1 n1 c1,.slice a2 n2 c2,.int .i64 til,.slice a3 n3 c3,.int .i64 app,.int .i64 den,.int .i64 fed,.int .i64 fbk,.int .i64 fse,.string ⟨ftx.toArray⟩,.string ⟨fnm.toArray⟩,.int .i64 fpa,.int .i64 fcl,.int .i64 fun_] 28);have hR:=heap_alloc_new w (.cells #[.int .i64 fn,.int .i64 ftm,.int .i64 fkd,.int .i64 fst,.string ⟨flg.toArray⟩,.int .i64 frv,.int .i64 fbs,.string ⟨fti.toArray⟩,.string ⟨fau.toArray⟩,.slice a1 n1 c1,.slice a2 n2 c2,.int .i64 til,.slice a3 n3 c3,.int .i64 app,.int .i64 den,.int .i64 fed,.int .i64 fbk,.int .i64 fse,.string ⟨ftx.toArray⟩,.string ⟨fnm.toArray⟩,.int .i64 fpa,.int .i64 fcl,.int .i64 fun_] 28);generalize (w.alloc (.cells #[.int .i64 fn,.int .i64 ftm,.int .i64 fkd,.int .i64 fst,.string ⟨flg.toArray⟩,.int .i64 frv,.int .i64 fbs,.string ⟨fti.toArray⟩,.string ⟨fau.toArray⟩,.slice a1 n1 c1,.slice a2 n2 c2,.int .i64 til,.slice a3 n3 c3,.int .i64 app,.int .i64 den,.int .i64 fed,.int .i64 fbk,.int .i64 fse,.string ⟨ftx.toArray⟩,.string ⟨fnm.toArray⟩,.int .i64 fpa,.int .i64 fcl,.int .i64 fun_] 28))=w1 at hx1 hR ⊢;generalize w.heap.size=R at hR ⊢;have p5:w1.cell? ⟨R,5,none⟩=some (.int .i64 frv):=zaa hR 5;have p6:w1.cell? ⟨R,6,none⟩=some (.int .i64 fbs):=zaa hR 6;have p7:w1.cell? ⟨R,7,none⟩=some (.string ⟨fti.toArray⟩):=zaa hR 7;have p8:w1.cell? ⟨R,8,none⟩=some (.string ⟨fau.toArray⟩):=zaa hR 8;have p9:w1.cell? ⟨R,9,none⟩=some (.slice a1 n1 c1):=zaa hR 9;have p10:w1.cell? ⟨R,10,none⟩=some (.slice a2 n2 c2):=zaa hR 10;replace hR:=hid hR;replace hx1:=hid hx1;refine (k1.out _).mono ?_;rintro e w' ⟨rfl,rfl⟩;cases b1 with
 | false=>
  go_wp2_with fail
  go_ret;exact ⟨by rw [hr.out];simp,hx1.out⟩
 | true=>
  go_wp2_with fail
  refine (k2.out _).mono ?_;rintro e w' ⟨rfl,rfl⟩;cases b2 with
  | false=>
   go_wp2_with fail
   go_ret;exact ⟨by rw [hr.out];simp,hx1.out⟩
  | true=>
   obtain ⟨hv1,hv2⟩:=hrv.out rfl;clear hrv;go_wp2_with fail
   refine (k3.out _).mono ?_;rintro e w' ⟨rfl,rfl⟩;cases b3 with
   | false=>
    go_wp2_with fail
    go_ret;exact ⟨by rw [hr.out];simp,hx1.out⟩
   | true=>
    go_wp2_with fail
    refine (k4.out _).mono ?_;rintro e w' ⟨rfl,rfl⟩;cases b4 with
    | false=>
     go_wp2_with fail
     go_ret;exact ⟨by rw [hr.out];simp,hx1.out⟩
    | true=>
     go_wp2_with fail
     refine (k5.out _).mono ?_;rintro e w' ⟨rfl,rfl⟩;cases b5 with
     | false=>
      go_wp2_with fail
      go_ret;exact ⟨by rw [hr.out];simp,hx1.out⟩
     | true=>
      go_wp2_with fail
      refine (k6.out _ hx1.out).mono ?_;rintro e w' ⟨rfl,rfl⟩;cases b6 with
      | false=>
       go_wp2_with fail
       go_ret;exact ⟨by rw [hr.out];simp,hx1.out⟩
      | true=>
       go_wp2_with fail
       refine (k7.out _ hx1.out).mono ?_;rintro e w3 ⟨rfl,hx3⟩;have hR3:=hx3.at hR.out (fun h=>h);have p11:w3.cell? ⟨R,11,none⟩=some (.int .i64 til):=zaa hR3 11;have p12:w3.cell? ⟨R,12,none⟩=some (.slice a3 n3 c3):=zaa hR3 12;have p13:w3.cell? ⟨R,13,none⟩=some (.int .i64 app):=zaa hR3 13;have p14:w3.cell? ⟨R,14,none⟩=some (.int .i64 den):=zaa hR3 14;clear p5 p6 p7 p8 p9 p10 hR3;replace hx1:=hid (hx1.out.trans hx3);clear hx3;cases b7 with
       | false=>
        go_wp2_with fail
        go_ret;exact ⟨by rw [hr.out];simp,hx1.out⟩
       | true=>
        go_wp2_with fail
        refine (k8.out _ hx1.out).mono ?_;rintro e w3 ⟨rfl,hx3⟩;replace hx1:=hid (hx1.out.trans hx3);clear hx3;cases b8 with
        | false=>
         go_wp2_with fail
         go_ret;exact ⟨by rw [hr.out];simp,hx1.out⟩
        | true=>
         go_wp2_with fail
         go_ret;exact ⟨by rw [hr.out];simp,hx1.out⟩
theorem zec (a1:Option Addr) (n1 c1:Nat) (a2:Option Addr) (n2 c2:Nat) (a3:Option Addr) (n3 c3:Nat) (f:Fc) (w:World):
  Calls Tryz.prog 90 #[.agg (fcA a1 n1 c1 a2 n2 c2 a3 n3 c3 f)] w fun e w'=>e=.returned (.bool (zbv f.lg && (rng f.bk 1 1000 && (rng f.se 0 299 && zcj f.tx))))/\Ext w w':=by
 obtain ⟨r,hr⟩:∃ r,r=(zbv f.lg && (rng f.bk 1 1000 && (rng f.se 0 299 && zcj f.tx))):=⟨_,rfl⟩;rw [<- hr];have k1:=hid (fun W=>zcG ⟨f.lg.toArray⟩ W);have k2:=hid (fun W=>zaf f.bk 1 1000 W);have k3:=hid (fun W=>zaf f.se 0 299 W);have k4:=hid (fun W=>zef ⟨f.tx.toArray⟩ W);simp only [] at k1 k4;obtain ⟨fn,ftm,fkd,fst,flg,frv,fbs,fti,fau,ftp,fbl,flb,fed,fbk,fse,ftx,fnm,fpa,fcl,fun_⟩:=f;obtain ⟨til,aft,app,den⟩:=flb;simp only at k1 k2 k3 k4 hr;generalize zbv flg=b1 at k1 hr;generalize rng fbk 1 1000=b2 at k2 hr;generalize rng fse 0 299=b3 at k3 hr;generalize zcj ftx=b4 at k4 hr;replace hr:=hid hr;unfold fcA;simp only;go_enter Tryz.func90,Tryz.ntmps90;go_wp2_with fail
 have hx1:=Mod.alloc (Mod.refl (fun _=>False) w) (.cells #[.int .i64 fn,.int .i64 ftm,.int .i64 fkd,.int .i64 fst,.string ⟨flg.toArray⟩,.int .i64 frv,.int .i64 fbs,.string ⟨fti.toArray⟩,.string ⟨fau.toArray⟩,.slice a1 n1 c1,.slice a2 n2 c2,.int .i64 til,.slice a3 n3 c3,.int .i64 app,.int .i64 den,.int .i64 fed,.int .i64 fbk,.int .i64 fse,.string ⟨ftx.toArray⟩,.string ⟨fnm.toArray⟩,.int .i64 fpa,.int .i64 fcl,.int .i64 fun_] 28);have hR:=heap_alloc_new w (.cells #[.int .i64 fn,.int .i64 ftm,.int .i64 fkd,.int .i64 fst,.string ⟨flg.toArray⟩,.int .i64 frv,.int .i64 fbs,.string ⟨fti.toArray⟩,.string ⟨fau.toArray⟩,.slice a1 n1 c1,.slice a2 n2 c2,.int .i64 til,.slice a3 n3 c3,.int .i64 app,.int .i64 den,.int .i64 fed,.int .i64 fbk,.int .i64 fse,.string ⟨ftx.toArray⟩,.string ⟨fnm.toArray⟩,.int .i64 fpa,.int .i64 fcl,.int .i64 fun_] 28);generalize (w.alloc (.cells #[.int .i64 fn,.int .i64 ftm,.int .i64 fkd,.int .i64 fst,.string ⟨flg.toArray⟩,.int .i64 frv,.int .i64 fbs,.string ⟨fti.toArray⟩,.string ⟨fau.toArray⟩,.slice a1 n1 c1,.slice a2 n2 c2,.int .i64 til,.slice a3 n3 c3,.int .i64 app,.int .i64 den,.int .i64 fed,.int .i64 fbk,.int .i64 fse,.string ⟨ftx.toArray⟩,.string ⟨fnm.toArray⟩,.int .i64 fpa,.int .i64 fcl,.int .i64 fun_] 28))=w1 at hx1 hR ⊢;generalize w.heap.size=R at hR ⊢;have p16:w1.cell? ⟨R,16,none⟩=some (.int .i64 fbk):=zaa hR 16;have p17:w1.cell? ⟨R,17,none⟩=some (.int .i64 fse):=zaa hR 17;have p18:w1.cell? ⟨R,18,none⟩=some (.string ⟨ftx.toArray⟩):=zaa hR 18;replace hR:=hid hR;replace hx1:=hid hx1;refine (k1.out _).mono ?_;rintro e w' ⟨rfl,rfl⟩;cases b1 with
 | false=>
  go_wp2_with fail
  go_ret;exact ⟨by rw [hr.out];simp,hx1.out⟩
 | true=>
  go_wp2_with fail
  refine (k2.out _).mono ?_;rintro e w' ⟨rfl,rfl⟩;cases b2 with
  | false=>
   go_wp2_with fail
   go_ret;exact ⟨by rw [hr.out];simp,hx1.out⟩
  | true=>
   go_wp2_with fail
   refine (k3.out _).mono ?_;rintro e w' ⟨rfl,rfl⟩;cases b3 with
   | false=>
    go_wp2_with fail
    go_ret;exact ⟨by rw [hr.out];simp,hx1.out⟩
   | true=>
    go_wp2_with fail
    refine (k4.out _).mono ?_;rintro e w' ⟨rfl,rfl⟩;cases b4 with
    | false=>
     go_wp2_with fail
     go_ret;exact ⟨by rw [hr.out];simp,hx1.out⟩
    | true=>
     go_wp2_with fail
     go_ret;exact ⟨by rw [hr.out];simp,hx1.out⟩
end Go.Proofs.YtjjfphalcibjfaaGreatDoor
namespace Cdk
open Go Go.RowKit
def strip (o : Oper) : Oper := ⟨o.dst, o.op, o.type, "", #[], o.guard⟩
theorem zcr (d : Option Tmp) (op : Op) (t : TypeId) (p : String) (e : Array Edge) (g : Option (Nat × Bool)) : strip ⟨d, op, t, p, e, g⟩ = ⟨d, op, t, "", #[], g⟩ := rfl
section
variable {P:Program} {Q:Exit -> Act -> World -> Prop}
theorem zk9 (o:Oper) (a:Act) (w:World) (next:Act -> World -> Prop):(strip o).wp P a w next Q=o.wp P a w next Q:=rfl
theorem zfn (l:List Oper) (t:Array Value):yielded (l.map strip).toArray t=yielded l.toArray t:=by
 funext j
 unfold yielded;have:((l.map strip).toArray[j]?).bind (·.dst)=(l.toArray[j]?).bind (·.dst):=by
  simp only [List.getElem?_toArray,List.getElem?_map];cases l[j]? <;> rfl
 rw [this]
theorem zcy (ops:List Oper):∀ (l:List Oper) (a:Act) (w:World),wpList P (ops.map strip).toArray Q (l.map strip) a w -> wpList P ops.toArray Q l a w
 | [],a,w,h=>h
 | o::r,a,w,h=>by
  simp only [List.map_cons,wpList] at h ⊢;rw [zfn] at h;have hw:Region.wanted (strip o) (yielded ops.toArray a.tmps)=Region.wanted o (yielded ops.toArray a.tmps):=rfl;rw [hw] at h
  by_cases hc:Region.wanted o (yielded ops.toArray a.tmps)=true
  ·rw [if_pos hc] at h ⊢
   rcases h with h | h
   ·refine .inl ?_
    rw [zk9] at h;exact Oper.wp_mono (fun a' w' h'=>zcy ops r a' w' h') h
   ·exact .inr h
  ·rw [if_neg hc] at h ⊢
   exact zcy ops r _ _ h
theorem za0 {id:Nat} {l:List Oper} {a:Act} {w:World} (h:wpList P (l.map strip).toArray Q (l.map strip) a w):(Code.region id l.toArray false).wp P Q a w:=
 wp_region_lit (zcy l l a w h)
end
end Cdk
namespace Go.Proofs.YtjjfphalcibjfaaGreatDoor
open Go.RowKit Cdk Scr
theorem zdL {F:Nat -> Prop} (a11:Option Addr) (n11 c11:Nat) (a12:Option Addr) (n12 c12:Nat) (a13:Option Addr) (n13 c13:Nat) (f:Fc) (a21:Option Addr) (n21 c21:Nat) (a22:Option Addr) (n22 c22:Nat) (a23:Option Addr) (n23 c23:Nat) (g:Fc) (w:World)
  (h1:FcAt F w ⟨.slice a11 n11 c11,.slice a12 n12 c12,.slice a13 n13 c13⟩ f) (h2:FcAt F w ⟨.slice a21 n21 c21,.slice a22 n22 c22,.slice a23 n23 c23⟩ g):
  Calls Tryz.prog 39 #[.agg (fcA a11 n11 c11 a12 n12 c12 a13 n13 c13 f),.agg (fcA a21 n21 c21 a22 n22 c22 a23 n23 c23 g)] w fun e w'=>e=.returned (.bool (decide (f=g)))/\Ext w w':=by
 obtain ⟨r,hr⟩:∃ r,r=decide (f=g):=⟨_,rfl⟩;rw [<- hr];have k1:=hid (fun W (hX:Ext w W)=>zh0 (F:=F) (.slice a11 n11 c11) (.slice a21 n21 c21) f.tp g.tp W (h1.tp.ext hX) (h2.tp.ext hX));have k2:=hid (fun W (hX:Ext w W)=>zdu (F:=F) (.slice a12 n12 c12) (.slice a22 n22 c22) f.bl g.bl W (h1.bl.ext hX) (h2.bl.ext hX));have k3:=hid (fun W (hX:Ext w W)=>zdp (F:=F) (.slice a13 n13 c13) (.slice a23 n23 c23) f.lb g.lb W (h1.af.ext hX) (h2.af.ext hX));clear h1 h2;obtain ⟨n1,tm1,kd1,st1,lg1,rv1,bs1,ti1,au1,tp1,bl1,lb1,ed1,bk1,se1,tx1,nm1,pa1,cl1,un1⟩:=f;obtain ⟨n2,tm2,kd2,st2,lg2,rv2,bs2,ti2,au2,tp2,bl2,lb2,ed2,bk2,se2,tx2,nm2,pa2,cl2,un2⟩:=g;obtain ⟨til1,aft1,app1,den1⟩:=lb1;obtain ⟨til2,aft2,app2,den2⟩:=lb2;replace hr:r=(decide (n1=n2) && (decide (tm1=tm2) && (decide (kd1=kd2) && (decide (st1=st2) && (decide (lg1=lg2) && (decide (rv1=rv2) && (decide (bs1=bs2) && (decide (ti1=ti2) && (decide (au1=au2) && (decide (tp1=tp2) && (decide (bl1=bl2) && (decide ((⟨til1,aft1,app1,den1⟩:Lb)=⟨til2,aft2,app2,den2⟩) && (decide (ed1=ed2) && (decide (bk1=bk2) && (decide (se1=se2) && (decide (tx1=tx2) && (decide (nm1=nm2) && (decide (pa1=pa2) && (decide (cl1=cl2) && (decide (un1=un2))))))))))))))))))))):=by
  rw [hr,Bool.eq_iff_iff];simp only [Fc.mk.injEq,decide_eq_true_eq,Bool.and_eq_true]
 unfold lbC at k3;simp only at k1 k2 k3;have e_n:=zam n1 n2;have e_tm:=zam tm1 tm2;have e_kd:=zam kd1 kd2;have e_st:=zam st1 st2;have e_lg:=zbO lg1 lg2;have e_rv:=zam rv1 rv2;have e_bs:=zam bs1 bs2;have e_ti:=zbO ti1 ti2;have e_au:=zbO au1 au2;have e_ed:=zam ed1 ed2;have e_bk:=zam bk1 bk2;have e_se:=zam se1 se2;have e_tx:=zbO tx1 tx2;have e_nm:=zbO nm1 nm2;have e_pa:=zam pa1 pa2;have e_cl:=zam cl1 cl2;have e_un:=zam un1 un2;generalize decide (n1=n2)=b_n at hr e_n;generalize decide (tm1=tm2)=b_tm at hr e_tm;generalize decide (kd1=kd2)=b_kd at hr e_kd;generalize decide (st1=st2)=b_st at hr e_st;generalize decide (lg1=lg2)=b_lg at hr e_lg;generalize decide (rv1=rv2)=b_rv at hr e_rv;generalize decide (bs1=bs2)=b_bs at hr e_bs;generalize decide (ti1=ti2)=b_ti at hr e_ti;generalize decide (au1=au2)=b_au at hr e_au;generalize decide (ed1=ed2)=b_ed at hr e_ed;generalize decide (bk1=bk2)=b_bk at hr e_bk;generalize decide (se1=se2)=b_se at hr e_se;generalize decide (tx1=tx2)=b_tx at hr e_tx;generalize decide (nm1=nm2)=b_nm at hr e_nm;generalize decide (pa1=pa2)=b_pa at hr e_pa;generalize decide (cl1=cl2)=b_cl at hr e_cl;generalize decide (un1=un2)=b_un at hr e_un;generalize decide (tp1=tp2)=b_tp at hr k1;generalize decide (bl1=bl2)=b_bl at hr k2;generalize decide ((⟨til1,aft1,app1,den1⟩:Lb)=⟨til2,aft2,app2,den2⟩)=b_lb at hr k3;replace hr:=hid hr;obtain ⟨hx,hA,hB,-⟩:=zaY w #[.int .i64 n1,.int .i64 tm1,.int .i64 kd1,.int .i64 st1,.string ⟨lg1.toArray⟩,.int .i64 rv1,.int .i64 bs1,.string ⟨ti1.toArray⟩,.string ⟨au1.toArray⟩,.slice a11 n11 c11,.slice a12 n12 c12,.int .i64 til1,.slice a13 n13 c13,.int .i64 app1,.int .i64 den1,.int .i64 ed1,.int .i64 bk1,.int .i64 se1,.string ⟨tx1.toArray⟩,.string ⟨nm1.toArray⟩,.int .i64 pa1,.int .i64 cl1,.int .i64 un1] #[.int .i64 n2,.int .i64 tm2,.int .i64 kd2,.int .i64 st2,.string ⟨lg2.toArray⟩,.int .i64 rv2,.int .i64 bs2,.string ⟨ti2.toArray⟩,.string ⟨au2.toArray⟩,.slice a21 n21 c21,.slice a22 n22 c22,.int .i64 til2,.slice a23 n23 c23,.int .i64 app2,.int .i64 den2,.int .i64 ed2,.int .i64 bk2,.int .i64 se2,.string ⟨tx2.toArray⟩,.string ⟨nm2.toArray⟩,.int .i64 pa2,.int .i64 cl2,.int .i64 un2] 28 28;replace hx:=hid hx;unfold fcA;simp only;go_enter Tryz.func39,Tryz.ntmps39;go_upto_region 1 with (fail)
 generalize ((w.alloc (.cells #[.int .i64 n1,.int .i64 tm1,.int .i64 kd1,.int .i64 st1,.string ⟨lg1.toArray⟩,.int .i64 rv1,.int .i64 bs1,.string ⟨ti1.toArray⟩,.string ⟨au1.toArray⟩,.slice a11 n11 c11,.slice a12 n12 c12,.int .i64 til1,.slice a13 n13 c13,.int .i64 app1,.int .i64 den1,.int .i64 ed1,.int .i64 bk1,.int .i64 se1,.string ⟨tx1.toArray⟩,.string ⟨nm1.toArray⟩,.int .i64 pa1,.int .i64 cl1,.int .i64 un1] 28)).alloc (.cells #[.int .i64 n2,.int .i64 tm2,.int .i64 kd2,.int .i64 st2,.string ⟨lg2.toArray⟩,.int .i64 rv2,.int .i64 bs2,.string ⟨ti2.toArray⟩,.string ⟨au2.toArray⟩,.slice a21 n21 c21,.slice a22 n22 c22,.int .i64 til2,.slice a23 n23 c23,.int .i64 app2,.int .i64 den2,.int .i64 ed2,.int .i64 bk2,.int .i64 se2,.string ⟨tx2.toArray⟩,.string ⟨nm2.toArray⟩,.int .i64 pa2,.int .i64 cl2,.int .i64 un2] 28))=w1 at hx hA hB ⊢;generalize w.heap.size=R at hA hB ⊢;have p_n0:w1.cell? ⟨R,0,none⟩=some (.int .i64 n1):=zaa hA 0;have p_n1:w1.cell? ⟨R+1,0,none⟩=some (.int .i64 n2):=zaa hB 0;have p_tm0:w1.cell? ⟨R,1,none⟩=some (.int .i64 tm1):=zaa hA 1;have p_tm1:w1.cell? ⟨R+1,1,none⟩=some (.int .i64 tm2):=zaa hB 1;have p_kd0:w1.cell? ⟨R,2,none⟩=some (.int .i64 kd1):=zaa hA 2;have p_kd1:w1.cell? ⟨R+1,2,none⟩=some (.int .i64 kd2):=zaa hB 2;have p_st0:w1.cell? ⟨R,3,none⟩=some (.int .i64 st1):=zaa hA 3;have p_st1:w1.cell? ⟨R+1,3,none⟩=some (.int .i64 st2):=zaa hB 3;have p_lg0:w1.cell? ⟨R,4,none⟩=some (.string ⟨lg1.toArray⟩):=zaa hA 4;have p_lg1:w1.cell? ⟨R+1,4,none⟩=some (.string ⟨lg2.toArray⟩):=zaa hB 4;have p_rv0:w1.cell? ⟨R,5,none⟩=some (.int .i64 rv1):=zaa hA 5;have p_rv1:w1.cell? ⟨R+1,5,none⟩=some (.int .i64 rv2):=zaa hB 5;have p_bs0:w1.cell? ⟨R,6,none⟩=some (.int .i64 bs1):=zaa hA 6;have p_bs1:w1.cell? ⟨R+1,6,none⟩=some (.int .i64 bs2):=zaa hB 6;have p_ti0:w1.cell? ⟨R,7,none⟩=some (.string ⟨ti1.toArray⟩):=zaa hA 7;have p_ti1:w1.cell? ⟨R+1,7,none⟩=some (.string ⟨ti2.toArray⟩):=zaa hB 7;have p_au0:w1.cell? ⟨R,8,none⟩=some (.string ⟨au1.toArray⟩):=zaa hA 8;have p_au1:w1.cell? ⟨R+1,8,none⟩=some (.string ⟨au2.toArray⟩):=zaa hB 8;have p_tp0:w1.cell? ⟨R,9,none⟩=some (.slice a11 n11 c11):=zaa hA 9;have p_tp1:w1.cell? ⟨R+1,9,none⟩=some (.slice a21 n21 c21):=zaa hB 9;replace hA:=hid hA;replace hB:=hid hB;refine za0 ?_;simp only [List.append_eq,List.map_cons,List.map_nil,zcr,List.cons_append,List.nil_append];go_wp2_with fail
 rotate_left
 iterate 9
  ·go_ret
   exact ⟨by rw [hr.out];simp [*],hx.out⟩
 clear p_n0 p_n1 p_tm0 p_tm1 p_kd0 p_kd1 p_st0 p_st1 p_lg0 p_lg1 p_rv0 p_rv1 p_bs0 p_bs1 p_ti0 p_ti1 p_au0 p_au1 p_tp0 p_tp1;replace hA:=hA.out;replace hB:=hB.out;refine (k1.out _ hx.out).mono ?_;rintro e w2 ⟨rfl,hx2⟩;replace hA:=hx2.at hA (fun h=>h);replace hB:=hx2.at hB (fun h=>h);replace hx:=hid (hx.out.trans hx2);clear hx2 k1;have p_bl0:w2.cell? ⟨R,10,none⟩=some (.slice a12 n12 c12):=zaa hA 10;have p_bl1:w2.cell? ⟨R+1,10,none⟩=some (.slice a22 n22 c22):=zaa hB 10;replace hA:=hid hA;replace hB:=hid hB;cases b_tp with
 | false=>
  go_wp2_with fail
  go_ret;exact ⟨by rw [hr.out];simp [*],hx.out⟩
 | true=>
 go_wp2_with fail
 refine (k2.out _ hx.out).mono ?_;rintro e w3 ⟨rfl,hx3⟩;replace hA:=hx3.at hA.out (fun h=>h);replace hB:=hx3.at hB.out (fun h=>h);replace hx:=hid (hx.out.trans hx3);clear hx3 k2 p_bl0 p_bl1;have p_til0:w3.cell? ⟨R,11,none⟩=some (.int .i64 til1):=zaa hA 11;have p_til1:w3.cell? ⟨R+1,11,none⟩=some (.int .i64 til2):=zaa hB 11;have p_aft0:w3.cell? ⟨R,12,none⟩=some (.slice a13 n13 c13):=zaa hA 12;have p_aft1:w3.cell? ⟨R+1,12,none⟩=some (.slice a23 n23 c23):=zaa hB 12;have p_app0:w3.cell? ⟨R,13,none⟩=some (.int .i64 app1):=zaa hA 13;have p_app1:w3.cell? ⟨R+1,13,none⟩=some (.int .i64 app2):=zaa hB 13;have p_den0:w3.cell? ⟨R,14,none⟩=some (.int .i64 den1):=zaa hA 14;have p_den1:w3.cell? ⟨R+1,14,none⟩=some (.int .i64 den2):=zaa hB 14;replace hA:=hid hA;replace hB:=hid hB;cases b_bl with
 | false=>
  go_wp2_with fail
  go_ret;exact ⟨by rw [hr.out];simp [*],hx.out⟩
 | true=>
 go_wp2_with fail
 refine (k3.out _ hx.out).mono ?_;rintro e w4 ⟨rfl,hx4⟩;replace hA:=hx4.at hA.out (fun h=>h);replace hB:=hx4.at hB.out (fun h=>h);replace hx:=hid (hx.out.trans hx4);clear hx4 k3 p_til0 p_til1 p_aft0 p_aft1 p_app0 p_app1 p_den0 p_den1;have p_ed0:w4.cell? ⟨R,15,none⟩=some (.int .i64 ed1):=zaa hA 15;have p_ed1:w4.cell? ⟨R+1,15,none⟩=some (.int .i64 ed2):=zaa hB 15;have p_bk0:w4.cell? ⟨R,16,none⟩=some (.int .i64 bk1):=zaa hA 16;have p_bk1:w4.cell? ⟨R+1,16,none⟩=some (.int .i64 bk2):=zaa hB 16;have p_se0:w4.cell? ⟨R,17,none⟩=some (.int .i64 se1):=zaa hA 17;have p_se1:w4.cell? ⟨R+1,17,none⟩=some (.int .i64 se2):=zaa hB 17;have p_tx0:w4.cell? ⟨R,18,none⟩=some (.string ⟨tx1.toArray⟩):=zaa hA 18;have p_tx1:w4.cell? ⟨R+1,18,none⟩=some (.string ⟨tx2.toArray⟩):=zaa hB 18;have p_nm0:w4.cell? ⟨R,19,none⟩=some (.string ⟨nm1.toArray⟩):=zaa hA 19;have p_nm1:w4.cell? ⟨R+1,19,none⟩=some (.string ⟨nm2.toArray⟩):=zaa hB 19;have p_pa0:w4.cell? ⟨R,20,none⟩=some (.int .i64 pa1):=zaa hA 20;have p_pa1:w4.cell? ⟨R+1,20,none⟩=some (.int .i64 pa2):=zaa hB 20;have p_cl0:w4.cell? ⟨R,21,none⟩=some (.int .i64 cl1):=zaa hA 21;have p_cl1:w4.cell? ⟨R+1,21,none⟩=some (.int .i64 cl2):=zaa hB 21;have p_un0:w4.cell? ⟨R,22,none⟩=some (.int .i64 un1):=zaa hA 22;have p_un1:w4.cell? ⟨R+1,22,none⟩=some (.int .i64 un2):=zaa hB 22;replace hA:=hid hA;replace hB:=hid hB;cases b_lb with
 | false=>
  go_wp2_with fail
  go_ret;exact ⟨by rw [hr.out];simp [*],hx.out⟩
 | true=>
 go_wp2_with fail
 all_goals
  go_ret;exact ⟨by rw [hr.out];simp [*],hx.out⟩
end Go.Proofs.YtjjfphalcibjfaaGreatDoor
