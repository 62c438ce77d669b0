import Derived.Test.YtjjfphalcibjfaaGreatDoorB5
set_option maxRecDepth 100000
set_option maxHeartbeats 16000000
namespace Go.Proofs.YtjjfphalcibjfaaGreatDoor
open Go.RowKit Cdk Scr
structure FcSz (f:Fc):Prop where
 lg:maxS f.lg
 ti:maxS f.ti
 au:maxS f.au
 tx:maxS f.tx
 nm:maxS f.nm
 tp:∀ s ∈ f.tp,maxS s
 bl:∀ b ∈ f.bl,maxS b.tx
def zax (f:Fc) (c:Nat):Bool:=
 if c=115 then rng f.st 1 64 else if c=108 then zbv f.lg else if c=114 then rng f.rv 1 100
 else if c=97 then rng f.bs 0 (f.rv - 1) else if c=116 then zcj f.ti else if c=117 then zbv f.au
 else if c=111 then vTp f.tp else if c=98 then zdt f.bl else if c=76 then vLb f.lb
 else if c=101 then rng f.ed 1 5 else if c=107 then rng f.bk 1 1000 else if c=110 then rng f.se 0 299
 else if c=120 then (if f.kd=7 then zgO f.tx else zcj f.tx) else if c=109 then zbv f.nm
 else if c=112 then rng f.pa 1 8 else if c=99 then rng f.cl 0 3 else rng f.un 0 1000000000
theorem zln {F:Nat -> Prop} (a1:Option Addr) (n1 c1:Nat) (a2:Option Addr) (n2 c2:Nat) (a3:Option Addr) (n3 c3:Nat) (f:Fc) (w:World) (h:FcAt F w ⟨.slice a1 n1 c1,.slice a2 n2 c2,.slice a3 n3 c3⟩ f) (hs:FcSz f):
  Calls Tryz.prog 59 #[.agg (fcA a1 n1 c1 a2 n2 c2 a3 n3 c3 f),.int .u8 115] w fun e w'=>e=.returned (.bool (zax f 115))/\Ext w w':=by
 obtain ⟨r,hr⟩:∃ r,r=zax f 115:=⟨_,rfl⟩;rw [<- hr];obtain ⟨fn,ftm,fkd,fst,flg,frv,fbs,fti,fau,ftp,fbl,flb,fed,fbk,fse,ftx,fnm,fpa,fcl,fun_⟩:=f;obtain ⟨til,aft,app,den⟩:=flb;replace hr:r=(decide ((1:Int)<=fst) && decide (fst<=64)):=hr;generalize q1:decide ((1:Int)<=fst)=b1 at hr;generalize q2:decide (fst<=64)=b2 at hr;replace hr:=hid hr;clear h hs;generalize hV:fcA _ _ _ _ _ _ _ _ _ _=V;have v3:V[3]?=some (.int .i64 fst):=by rw [<- hV];rfl
 replace hV:=hid hV;have hR:=heap_alloc_new w (.cells V 28);have hx:=Mod.alloc (Mod.refl (fun _=>False) w) (.cells V 28);go_enter Tryz.func59,Tryz.ntmps59;go_upto_region 1 with (fail)
 generalize (w.alloc _)=w1 at hR hx ⊢;generalize w.heap.size=R at hR ⊢;have p3:w1.cell? ⟨R,3,none⟩=some (.int .i64 fst):=(zaa hR 3).trans v3;clear hR v3;replace hx:=hid hx;go_wp2_with fail
 all_goals
  go_ret;exact ⟨by rw [hr.out];simp [*],hx.out⟩
theorem zkZ {F:Nat -> Prop} (a1:Option Addr) (n1 c1:Nat) (a2:Option Addr) (n2 c2:Nat) (a3:Option Addr) (n3 c3:Nat) (f:Fc) (w:World) (h:FcAt F w ⟨.slice a1 n1 c1,.slice a2 n2 c2,.slice a3 n3 c3⟩ f) (hs:FcSz f):
  Calls Tryz.prog 59 #[.agg (fcA a1 n1 c1 a2 n2 c2 a3 n3 c3 f),.int .u8 108] w fun e w'=>e=.returned (.bool (zax f 108))/\Ext w w':=by
 obtain ⟨r,hr⟩:∃ r,r=zax f 108:=⟨_,rfl⟩;rw [<- hr];have k1:=hid (fun W (hX:Ext w W)=>zcD ⟨f.lg.toArray⟩ W hs.lg);obtain ⟨fn,ftm,fkd,fst,flg,frv,fbs,fti,fau,ftp,fbl,flb,fed,fbk,fse,ftx,fnm,fpa,fcl,fun_⟩:=f;obtain ⟨til,aft,app,den⟩:=flb;replace hr:r=(zbv flg):=hr;simp only at k1;generalize zbv flg=b1 at hr k1;replace hr:=hid hr;clear h hs;generalize hV:fcA _ _ _ _ _ _ _ _ _ _=V;have v4:V[4]?=some (.string ⟨flg.toArray⟩):=by rw [<- hV];rfl
 replace hV:=hid hV;have hR:=heap_alloc_new w (.cells V 28);have hx:=Mod.alloc (Mod.refl (fun _=>False) w) (.cells V 28);go_enter Tryz.func59,Tryz.ntmps59;go_upto_region 1 with (fail)
 generalize (w.alloc _)=w1 at hR hx ⊢;generalize w.heap.size=R at hR ⊢;have p4:w1.cell? ⟨R,4,none⟩=some (.string ⟨flg.toArray⟩):=(zaa hR 4).trans v4;clear hR v4;replace hx:=hid hx;go_wp2_with fail
 refine (k1.out _ hx.out).mono ?_;rintro e w2 ⟨rfl,rfl⟩;go_wp2_with fail
 go_ret;exact ⟨by rw [hr.out];try rfl,hx.out⟩
theorem zla {F:Nat -> Prop} (a1:Option Addr) (n1 c1:Nat) (a2:Option Addr) (n2 c2:Nat) (a3:Option Addr) (n3 c3:Nat) (f:Fc) (w:World) (h:FcAt F w ⟨.slice a1 n1 c1,.slice a2 n2 c2,.slice a3 n3 c3⟩ f) (hs:FcSz f):
  Calls Tryz.prog 59 #[.agg (fcA a1 n1 c1 a2 n2 c2 a3 n3 c3 f),.int .u8 114] w fun e w'=>e=.returned (.bool (zax f 114))/\Ext w w':=by
 obtain ⟨r,hr⟩:∃ r,r=zax f 114:=⟨_,rfl⟩;rw [<- hr];obtain ⟨fn,ftm,fkd,fst,flg,frv,fbs,fti,fau,ftp,fbl,flb,fed,fbk,fse,ftx,fnm,fpa,fcl,fun_⟩:=f;obtain ⟨til,aft,app,den⟩:=flb;replace hr:r=(decide ((1:Int)<=frv) && decide (frv<=100)):=hr;generalize q1:decide ((1:Int)<=frv)=b1 at hr;generalize q2:decide (frv<=100)=b2 at hr;replace hr:=hid hr;clear h hs;generalize hV:fcA _ _ _ _ _ _ _ _ _ _=V;have v5:V[5]?=some (.int .i64 frv):=by rw [<- hV];rfl
 replace hV:=hid hV;have hR:=heap_alloc_new w (.cells V 28);have hx:=Mod.alloc (Mod.refl (fun _=>False) w) (.cells V 28);go_enter Tryz.func59,Tryz.ntmps59;go_upto_region 1 with (fail)
 generalize (w.alloc _)=w1 at hR hx ⊢;generalize w.heap.size=R at hR ⊢;have p5:w1.cell? ⟨R,5,none⟩=some (.int .i64 frv):=(zaa hR 5).trans v5;clear hR v5;replace hx:=hid hx;go_wp2_with fail
 all_goals
  go_ret;exact ⟨by rw [hr.out];simp [*],hx.out⟩
theorem zlF {F:Nat -> Prop} (a1:Option Addr) (n1 c1:Nat) (a2:Option Addr) (n2 c2:Nat) (a3:Option Addr) (n3 c3:Nat) (f:Fc) (w:World) (h:FcAt F w ⟨.slice a1 n1 c1,.slice a2 n2 c2,.slice a3 n3 c3⟩ f) (hs:FcSz f):
  Calls Tryz.prog 59 #[.agg (fcA a1 n1 c1 a2 n2 c2 a3 n3 c3 f),.int .u8 97] w fun e w'=>e=.returned (.bool (zax f 97))/\Ext w w':=by
 obtain ⟨r,hr⟩:∃ r,r=zax f 97:=⟨_,rfl⟩;rw [<- hr];obtain ⟨fn,ftm,fkd,fst,flg,frv,fbs,fti,fau,ftp,fbl,flb,fed,fbk,fse,ftx,fnm,fpa,fcl,fun_⟩:=f;obtain ⟨til,aft,app,den⟩:=flb;replace hr:r=(decide ((0:Int)<=fbs) && decide (fbs<=(frv - 1))):=hr;have q0:decide (fbs<=frv - 1)=decide (fbs < frv):=by rw [Bool.eq_iff_iff,decide_eq_true_eq,decide_eq_true_eq];omega
 rw [q0] at hr;clear q0;generalize q1:decide ((0:Int)<=fbs)=b1 at hr;generalize q2:decide (fbs < frv)=b2 at hr;replace hr:=hid hr;clear h hs;generalize hV:fcA _ _ _ _ _ _ _ _ _ _=V;have v5:V[5]?=some (.int .i64 frv):=by rw [<- hV];rfl
 have v6:V[6]?=some (.int .i64 fbs):=by rw [<- hV];rfl
 replace hV:=hid hV;have hR:=heap_alloc_new w (.cells V 28);have hx:=Mod.alloc (Mod.refl (fun _=>False) w) (.cells V 28);go_enter Tryz.func59,Tryz.ntmps59;go_upto_region 1 with (fail)
 generalize (w.alloc _)=w1 at hR hx ⊢;generalize w.heap.size=R at hR ⊢;have p5:w1.cell? ⟨R,5,none⟩=some (.int .i64 frv):=(zaa hR 5).trans v5;have p6:w1.cell? ⟨R,6,none⟩=some (.int .i64 fbs):=(zaa hR 6).trans v6;clear hR v5 v6;replace hx:=hid hx;go_wp2_with fail
 all_goals
  go_ret;exact ⟨by rw [hr.out];simp [*],hx.out⟩
theorem zk1 {F:Nat -> Prop} (a1:Option Addr) (n1 c1:Nat) (a2:Option Addr) (n2 c2:Nat) (a3:Option Addr) (n3 c3:Nat) (f:Fc) (w:World) (h:FcAt F w ⟨.slice a1 n1 c1,.slice a2 n2 c2,.slice a3 n3 c3⟩ f) (hs:FcSz f):
  Calls Tryz.prog 59 #[.agg (fcA a1 n1 c1 a2 n2 c2 a3 n3 c3 f),.int .u8 116] w fun e w'=>e=.returned (.bool (zax f 116))/\Ext w w':=by
 obtain ⟨r,hr⟩:∃ r,r=zax f 116:=⟨_,rfl⟩;rw [<- hr];have k1:=hid (fun W (hX:Ext w W)=>zeY ⟨f.ti.toArray⟩ W hs.ti);obtain ⟨fn,ftm,fkd,fst,flg,frv,fbs,fti,fau,ftp,fbl,flb,fed,fbk,fse,ftx,fnm,fpa,fcl,fun_⟩:=f;obtain ⟨til,aft,app,den⟩:=flb;replace hr:r=(zcj fti):=hr;simp only at k1;generalize zcj fti=b1 at hr k1;replace hr:=hid hr;clear h hs;generalize hV:fcA _ _ _ _ _ _ _ _ _ _=V;have v7:V[7]?=some (.string ⟨fti.toArray⟩):=by rw [<- hV];rfl
 replace hV:=hid hV;have hR:=heap_alloc_new w (.cells V 28);have hx:=Mod.alloc (Mod.refl (fun _=>False) w) (.cells V 28);go_enter Tryz.func59,Tryz.ntmps59;go_upto_region 1 with (fail)
 generalize (w.alloc _)=w1 at hR hx ⊢;generalize w.heap.size=R at hR ⊢;have p7:w1.cell? ⟨R,7,none⟩=some (.string ⟨fti.toArray⟩):=(zaa hR 7).trans v7;clear hR v7;replace hx:=hid hx;go_wp2_with fail
 refine (k1.out _ hx.out).mono ?_;rintro e w2 ⟨rfl,rfl⟩;go_wp2_with fail
 go_ret;exact ⟨by rw [hr.out];try rfl,hx.out⟩
theorem zlo {F:Nat -> Prop} (a1:Option Addr) (n1 c1:Nat) (a2:Option Addr) (n2 c2:Nat) (a3:Option Addr) (n3 c3:Nat) (f:Fc) (w:World) (h:FcAt F w ⟨.slice a1 n1 c1,.slice a2 n2 c2,.slice a3 n3 c3⟩ f) (hs:FcSz f):
  Calls Tryz.prog 59 #[.agg (fcA a1 n1 c1 a2 n2 c2 a3 n3 c3 f),.int .u8 117] w fun e w'=>e=.returned (.bool (zax f 117))/\Ext w w':=by
 obtain ⟨r,hr⟩:∃ r,r=zax f 117:=⟨_,rfl⟩;rw [<- hr];have k1:=hid (fun W (hX:Ext w W)=>zcD ⟨f.au.toArray⟩ W hs.au);obtain ⟨fn,ftm,fkd,fst,flg,frv,fbs,fti,fau,ftp,fbl,flb,fed,fbk,fse,ftx,fnm,fpa,fcl,fun_⟩:=f;obtain ⟨til,aft,app,den⟩:=flb;replace hr:r=(zbv fau):=hr;simp only at k1;generalize zbv fau=b1 at hr k1;replace hr:=hid hr;clear h hs;generalize hV:fcA _ _ _ _ _ _ _ _ _ _=V;have v8:V[8]?=some (.string ⟨fau.toArray⟩):=by rw [<- hV];rfl
 replace hV:=hid hV;have hR:=heap_alloc_new w (.cells V 28);have hx:=Mod.alloc (Mod.refl (fun _=>False) w) (.cells V 28);go_enter Tryz.func59,Tryz.ntmps59;go_upto_region 1 with (fail)
 generalize (w.alloc _)=w1 at hR hx ⊢;generalize w.heap.size=R at hR ⊢;have p8:w1.cell? ⟨R,8,none⟩=some (.string ⟨fau.toArray⟩):=(zaa hR 8).trans v8;clear hR v8;replace hx:=hid hx;go_wp2_with fail
 refine (k1.out _ hx.out).mono ?_;rintro e w2 ⟨rfl,rfl⟩;go_wp2_with fail
 go_ret;exact ⟨by rw [hr.out];try rfl,hx.out⟩
theorem zkX {F:Nat -> Prop} (a1:Option Addr) (n1 c1:Nat) (a2:Option Addr) (n2 c2:Nat) (a3:Option Addr) (n3 c3:Nat) (f:Fc) (w:World) (h:FcAt F w ⟨.slice a1 n1 c1,.slice a2 n2 c2,.slice a3 n3 c3⟩ f) (hs:FcSz f):
  Calls Tryz.prog 59 #[.agg (fcA a1 n1 c1 a2 n2 c2 a3 n3 c3 f),.int .u8 111] w fun e w'=>e=.returned (.bool (zax f 111))/\Ext w w':=by
 obtain ⟨r,hr⟩:∃ r,r=zax f 111:=⟨_,rfl⟩;rw [<- hr];have k1:=hid (fun W (hX:Ext w W)=>zgS (F:=F) (.slice a1 n1 c1) f.tp W (h.tp.ext hX) hs.tp);obtain ⟨fn,ftm,fkd,fst,flg,frv,fbs,fti,fau,ftp,fbl,flb,fed,fbk,fse,ftx,fnm,fpa,fcl,fun_⟩:=f;obtain ⟨til,aft,app,den⟩:=flb;replace hr:r=(vTp ftp):=hr;simp only at k1;generalize vTp ftp=b1 at hr k1;replace hr:=hid hr;clear h hs;generalize hV:fcA _ _ _ _ _ _ _ _ _ _=V;have v9:V[9]?=some (.slice a1 n1 c1):=by rw [<- hV];rfl
 replace hV:=hid hV;have hR:=heap_alloc_new w (.cells V 28);have hx:=Mod.alloc (Mod.refl (fun _=>False) w) (.cells V 28);go_enter Tryz.func59,Tryz.ntmps59;go_upto_region 1 with (fail)
 generalize (w.alloc _)=w1 at hR hx ⊢;generalize w.heap.size=R at hR ⊢;have p9:w1.cell? ⟨R,9,none⟩=some (.slice a1 n1 c1):=(zaa hR 9).trans v9;clear hR v9;replace hx:=hid hx;go_wp2_with fail
 refine (k1.out _ hx.out).mono ?_;rintro e w2 ⟨rfl,hx2⟩;replace hx:=hid (hx.out.trans hx2);go_wp2_with fail
 go_ret;exact ⟨by rw [hr.out];try rfl,hx.out⟩
theorem zlG {F:Nat -> Prop} (a1:Option Addr) (n1 c1:Nat) (a2:Option Addr) (n2 c2:Nat) (a3:Option Addr) (n3 c3:Nat) (f:Fc) (w:World) (h:FcAt F w ⟨.slice a1 n1 c1,.slice a2 n2 c2,.slice a3 n3 c3⟩ f) (hs:FcSz f):
  Calls Tryz.prog 59 #[.agg (fcA a1 n1 c1 a2 n2 c2 a3 n3 c3 f),.int .u8 98] w fun e w'=>e=.returned (.bool (zax f 98))/\Ext w w':=by
 obtain ⟨r,hr⟩:∃ r,r=zax f 98:=⟨_,rfl⟩;rw [<- hr];have k1:=hid (fun W (hX:Ext w W)=>zcU (F:=F) (.slice a2 n2 c2) f.bl W (h.bl.ext hX) hs.bl);obtain ⟨fn,ftm,fkd,fst,flg,frv,fbs,fti,fau,ftp,fbl,flb,fed,fbk,fse,ftx,fnm,fpa,fcl,fun_⟩:=f;obtain ⟨til,aft,app,den⟩:=flb;replace hr:r=(zdt fbl):=hr;simp only at k1;generalize zdt fbl=b1 at hr k1;replace hr:=hid hr;clear h hs;generalize hV:fcA _ _ _ _ _ _ _ _ _ _=V;have v10:V[10]?=some (.slice a2 n2 c2):=by rw [<- hV];rfl
 replace hV:=hid hV;have hR:=heap_alloc_new w (.cells V 28);have hx:=Mod.alloc (Mod.refl (fun _=>False) w) (.cells V 28);go_enter Tryz.func59,Tryz.ntmps59;go_upto_region 1 with (fail)
 generalize (w.alloc _)=w1 at hR hx ⊢;generalize w.heap.size=R at hR ⊢;have p10:w1.cell? ⟨R,10,none⟩=some (.slice a2 n2 c2):=(zaa hR 10).trans v10;clear hR v10;replace hx:=hid hx;go_wp2_with fail
 refine (k1.out _ hx.out).mono ?_;rintro e w2 ⟨rfl,hx2⟩;replace hx:=hid (hx.out.trans hx2);go_wp2_with fail
 go_ret;exact ⟨by rw [hr.out];try rfl,hx.out⟩
theorem zlP {F:Nat -> Prop} (a1:Option Addr) (n1 c1:Nat) (a2:Option Addr) (n2 c2:Nat) (a3:Option Addr) (n3 c3:Nat) (f:Fc) (w:World) (h:FcAt F w ⟨.slice a1 n1 c1,.slice a2 n2 c2,.slice a3 n3 c3⟩ f) (hs:FcSz f):
  Calls Tryz.prog 59 #[.agg (fcA a1 n1 c1 a2 n2 c2 a3 n3 c3 f),.int .u8 76] w fun e w'=>e=.returned (.bool (zax f 76))/\Ext w w':=by
 obtain ⟨r,hr⟩:∃ r,r=zax f 76:=⟨_,rfl⟩;rw [<- hr];have k1:=hid (fun W (hX:Ext w W)=>zcF (F:=F) (.slice a3 n3 c3) f.lb W (h.af.ext hX));obtain ⟨fn,ftm,fkd,fst,flg,frv,fbs,fti,fau,ftp,fbl,flb,fed,fbk,fse,ftx,fnm,fpa,fcl,fun_⟩:=f;obtain ⟨til,aft,app,den⟩:=flb;replace hr:r=(vLb ⟨til,aft,app,den⟩):=hr;unfold lbC at k1;simp only at k1;generalize vLb ⟨til,aft,app,den⟩=b1 at hr k1;replace hr:=hid hr;clear h hs;generalize hV:fcA _ _ _ _ _ _ _ _ _ _=V;have v11:V[11]?=some (.int .i64 til):=by rw [<- hV];rfl
 have v12:V[12]?=some (.slice a3 n3 c3):=by rw [<- hV];rfl
 have v13:V[13]?=some (.int .i64 app):=by rw [<- hV];rfl
 have v14:V[14]?=some (.int .i64 den):=by rw [<- hV];rfl
 replace hV:=hid hV;have hR:=heap_alloc_new w (.cells V 28);have hx:=Mod.alloc (Mod.refl (fun _=>False) w) (.cells V 28);go_enter Tryz.func59,Tryz.ntmps59;go_upto_region 1 with (fail)
 generalize (w.alloc _)=w1 at hR hx ⊢;generalize w.heap.size=R at hR ⊢;have p11:w1.cell? ⟨R,11,none⟩=some (.int .i64 til):=(zaa hR 11).trans v11;have p12:w1.cell? ⟨R,12,none⟩=some (.slice a3 n3 c3):=(zaa hR 12).trans v12;have p13:w1.cell? ⟨R,13,none⟩=some (.int .i64 app):=(zaa hR 13).trans v13;have p14:w1.cell? ⟨R,14,none⟩=some (.int .i64 den):=(zaa hR 14).trans v14;clear hR v11 v12 v13 v14;replace hx:=hid hx;go_wp2_with fail
 refine (k1.out _ hx.out).mono ?_;rintro e w2 ⟨rfl,hx2⟩;replace hx:=hid (hx.out.trans hx2);go_wp2_with fail
 go_ret;exact ⟨by rw [hr.out];try rfl,hx.out⟩
theorem zlH {F:Nat -> Prop} (a1:Option Addr) (n1 c1:Nat) (a2:Option Addr) (n2 c2:Nat) (a3:Option Addr) (n3 c3:Nat) (f:Fc) (w:World) (h:FcAt F w ⟨.slice a1 n1 c1,.slice a2 n2 c2,.slice a3 n3 c3⟩ f) (hs:FcSz f):
  Calls Tryz.prog 59 #[.agg (fcA a1 n1 c1 a2 n2 c2 a3 n3 c3 f),.int .u8 101] w fun e w'=>e=.returned (.bool (zax f 101))/\Ext w w':=by
 obtain ⟨r,hr⟩:∃ r,r=zax f 101:=⟨_,rfl⟩;rw [<- hr];obtain ⟨fn,ftm,fkd,fst,flg,frv,fbs,fti,fau,ftp,fbl,flb,fed,fbk,fse,ftx,fnm,fpa,fcl,fun_⟩:=f;obtain ⟨til,aft,app,den⟩:=flb;replace hr:r=(decide ((1:Int)<=fed) && decide (fed<=5)):=hr;generalize q1:decide ((1:Int)<=fed)=b1 at hr;generalize q2:decide (fed<=5)=b2 at hr;replace hr:=hid hr;clear h hs;generalize hV:fcA _ _ _ _ _ _ _ _ _ _=V;have v15:V[15]?=some (.int .i64 fed):=by rw [<- hV];rfl
 replace hV:=hid hV;have hR:=heap_alloc_new w (.cells V 28);have hx:=Mod.alloc (Mod.refl (fun _=>False) w) (.cells V 28);go_enter Tryz.func59,Tryz.ntmps59;go_upto_region 1 with (fail)
 generalize (w.alloc _)=w1 at hR hx ⊢;generalize w.heap.size=R at hR ⊢;have p15:w1.cell? ⟨R,15,none⟩=some (.int .i64 fed):=(zaa hR 15).trans v15;clear hR v15;replace hx:=hid hx;go_wp2_with fail
 all_goals
  go_ret;exact ⟨by rw [hr.out];simp [*],hx.out⟩
theorem zkL {F:Nat -> Prop} (a1:Option Addr) (n1 c1:Nat) (a2:Option Addr) (n2 c2:Nat) (a3:Option Addr) (n3 c3:Nat) (f:Fc) (w:World) (h:FcAt F w ⟨.slice a1 n1 c1,.slice a2 n2 c2,.slice a3 n3 c3⟩ f) (hs:FcSz f):
  Calls Tryz.prog 59 #[.agg (fcA a1 n1 c1 a2 n2 c2 a3 n3 c3 f),.int .u8 107] w fun e w'=>e=.returned (.bool (zax f 107))/\Ext w w':=by
 obtain ⟨r,hr⟩:∃ r,r=zax f 107:=⟨_,rfl⟩;rw [<- hr];obtain ⟨fn,ftm,fkd,fst,flg,frv,fbs,fti,fau,ftp,fbl,flb,fed,fbk,fse,ftx,fnm,fpa,fcl,fun_⟩:=f;obtain ⟨til,aft,app,den⟩:=flb;replace hr:r=(decide ((1:Int)<=fbk) && decide (fbk<=1000)):=hr;generalize q1:decide ((1:Int)<=fbk)=b1 at hr;generalize q2:decide (fbk<=1000)=b2 at hr;replace hr:=hid hr;clear h hs;generalize hV:fcA _ _ _ _ _ _ _ _ _ _=V;have v16:V[16]?=some (.int .i64 fbk):=by rw [<- hV];rfl
 replace hV:=hid hV;have hR:=heap_alloc_new w (.cells V 28);have hx:=Mod.alloc (Mod.refl (fun _=>False) w) (.cells V 28);go_enter Tryz.func59,Tryz.ntmps59;go_upto_region 1 with (fail)
 generalize (w.alloc _)=w1 at hR hx ⊢;generalize w.heap.size=R at hR ⊢;have p16:w1.cell? ⟨R,16,none⟩=some (.int .i64 fbk):=(zaa hR 16).trans v16;clear hR v16;replace hx:=hid hx;go_wp2_with fail
 all_goals
  go_ret;exact ⟨by rw [hr.out];simp [*],hx.out⟩
theorem zkH {F:Nat -> Prop} (a1:Option Addr) (n1 c1:Nat) (a2:Option Addr) (n2 c2:Nat) (a3:Option Addr) (n3 c3:Nat) (f:Fc) (w:World) (h:FcAt F w ⟨.slice a1 n1 c1,.slice a2 n2 c2,.slice a3 n3 c3⟩ f) (hs:FcSz f):
  Calls Tryz.prog 59 #[.agg (fcA a1 n1 c1 a2 n2 c2 a3 n3 c3 f),.int .u8 110] w fun e w'=>e=.returned (.bool (zax f 110))/\Ext w w':=by
 obtain ⟨r,hr⟩:∃ r,r=zax f 110:=⟨_,rfl⟩;rw [<- hr];obtain ⟨fn,ftm,fkd,fst,flg,frv,fbs,fti,fau,ftp,fbl,flb,fed,fbk,fse,ftx,fnm,fpa,fcl,fun_⟩:=f;obtain ⟨til,aft,app,den⟩:=flb;replace hr:r=(decide ((0:Int)<=fse) && decide (fse<=299)):=hr;have q0:decide (fse<=299)=decide (fse < 300):=by rw [Bool.eq_iff_iff,decide_eq_true_eq,decide_eq_true_eq];omega
 rw [q0] at hr;clear q0;generalize q1:decide ((0:Int)<=fse)=b1 at hr;generalize q2:decide (fse < 300)=b2 at hr;replace hr:=hid hr;clear h hs;generalize hV:fcA _ _ _ _ _ _ _ _ _ _=V;have v17:V[17]?=some (.int .i64 fse):=by rw [<- hV];rfl
 replace hV:=hid hV;have hR:=heap_alloc_new w (.cells V 28);have hx:=Mod.alloc (Mod.refl (fun _=>False) w) (.cells V 28);go_enter Tryz.func59,Tryz.ntmps59;go_upto_region 1 with (fail)
 generalize (w.alloc _)=w1 at hR hx ⊢;generalize w.heap.size=R at hR ⊢;have p17:w1.cell? ⟨R,17,none⟩=some (.int .i64 fse):=(zaa hR 17).trans v17;clear hR v17;replace hx:=hid hx;go_wp2_with fail
 all_goals
  go_ret;exact ⟨by rw [hr.out];simp [*],hx.out⟩
theorem zlz {F:Nat -> Prop} (a1:Option Addr) (n1 c1:Nat) (a2:Option Addr) (n2 c2:Nat) (a3:Option Addr) (n3 c3:Nat) (f:Fc) (w:World) (h:FcAt F w ⟨.slice a1 n1 c1,.slice a2 n2 c2,.slice a3 n3 c3⟩ f) (hs:FcSz f):
  Calls Tryz.prog 59 #[.agg (fcA a1 n1 c1 a2 n2 c2 a3 n3 c3 f),.int .u8 120] w fun e w'=>e=.returned (.bool (zax f 120))/\Ext w w':=by
 obtain ⟨r,hr⟩:∃ r,r=zax f 120:=⟨_,rfl⟩;rw [<- hr];have k1:=hid (fun W (hX:Ext w W)=>zgV ⟨f.tx.toArray⟩ W hs.tx);have k2:=hid (fun W (hX:Ext w W)=>zeY ⟨f.tx.toArray⟩ W hs.tx);obtain ⟨fn,ftm,fkd,fst,flg,frv,fbs,fti,fau,ftp,fbl,flb,fed,fbk,fse,ftx,fnm,fpa,fcl,fun_⟩:=f;obtain ⟨til,aft,app,den⟩:=flb;replace hr:r=(if fkd=7 then zgO ftx else zcj ftx):=hr;simp only at k1 k2;generalize zgO ftx=b1 at hr k1;generalize zcj ftx=b2 at hr k2;replace hr:=hid hr;clear h hs;generalize hV:fcA _ _ _ _ _ _ _ _ _ _=V;have v2:V[2]?=some (.int .i64 fkd):=by rw [<- hV];rfl
 have v18:V[18]?=some (.string ⟨ftx.toArray⟩):=by rw [<- hV];rfl
 replace hV:=hid hV;have hR:=heap_alloc_new w (.cells V 28);have hx:=Mod.alloc (Mod.refl (fun _=>False) w) (.cells V 28);go_enter Tryz.func59,Tryz.ntmps59;go_upto_region 1 with (fail)
 generalize (w.alloc _)=w1 at hR hx ⊢;generalize w.heap.size=R at hR ⊢;have p2:w1.cell? ⟨R,2,none⟩=some (.int .i64 fkd):=(zaa hR 2).trans v2;have p18:w1.cell? ⟨R,18,none⟩=some (.string ⟨ftx.toArray⟩):=(zaa hR 18).trans v18;clear hR v2 v18;replace hx:=hid hx
 by_cases g7:fkd=7
 ·subst g7
  have hr:=hid (hr.out.trans (if_pos rfl));go_wp2_with fail
  refine (k1.out _ hx.out).mono ?_;rintro e w2 ⟨rfl,rfl⟩;go_wp2_with fail
  go_ret;exact ⟨by rw [hr.out];try rfl,hx.out⟩
 ·have hr:=hid (hr.out.trans (if_neg g7))
  have e7:(fkd==7)=false:=by rw [beq_eq_false_iff_ne];exact g7
  replace g7:=hid g7;go_wp2_with fail
  refine (k2.out _ hx.out).mono ?_;rintro e w2 ⟨rfl,rfl⟩;go_wp2_with fail
  go_ret;exact ⟨by rw [hr.out];try rfl,hx.out⟩
theorem zly {F:Nat -> Prop} (a1:Option Addr) (n1 c1:Nat) (a2:Option Addr) (n2 c2:Nat) (a3:Option Addr) (n3 c3:Nat) (f:Fc) (w:World) (h:FcAt F w ⟨.slice a1 n1 c1,.slice a2 n2 c2,.slice a3 n3 c3⟩ f) (hs:FcSz f):
  Calls Tryz.prog 59 #[.agg (fcA a1 n1 c1 a2 n2 c2 a3 n3 c3 f),.int .u8 109] w fun e w'=>e=.returned (.bool (zax f 109))/\Ext w w':=by
 obtain ⟨r,hr⟩:∃ r,r=zax f 109:=⟨_,rfl⟩;rw [<- hr];have k1:=hid (fun W (hX:Ext w W)=>zcD ⟨f.nm.toArray⟩ W hs.nm);obtain ⟨fn,ftm,fkd,fst,flg,frv,fbs,fti,fau,ftp,fbl,flb,fed,fbk,fse,ftx,fnm,fpa,fcl,fun_⟩:=f;obtain ⟨til,aft,app,den⟩:=flb;replace hr:r=(zbv fnm):=hr;simp only at k1;generalize zbv fnm=b1 at hr k1;replace hr:=hid hr;clear h hs;generalize hV:fcA _ _ _ _ _ _ _ _ _ _=V;have v19:V[19]?=some (.string ⟨fnm.toArray⟩):=by rw [<- hV];rfl
 replace hV:=hid hV;have hR:=heap_alloc_new w (.cells V 28);have hx:=Mod.alloc (Mod.refl (fun _=>False) w) (.cells V 28);go_enter Tryz.func59,Tryz.ntmps59;go_upto_region 1 with (fail)
 generalize (w.alloc _)=w1 at hR hx ⊢;generalize w.heap.size=R at hR ⊢;have p19:w1.cell? ⟨R,19,none⟩=some (.string ⟨fnm.toArray⟩):=(zaa hR 19).trans v19;clear hR v19;replace hx:=hid hx;go_wp2_with fail
 refine (k1.out _ hx.out).mono ?_;rintro e w2 ⟨rfl,rfl⟩;go_wp2_with fail
 go_ret;exact ⟨by rw [hr.out];try rfl,hx.out⟩
theorem zk5 {F:Nat -> Prop} (a1:Option Addr) (n1 c1:Nat) (a2:Option Addr) (n2 c2:Nat) (a3:Option Addr) (n3 c3:Nat) (f:Fc) (w:World) (h:FcAt F w ⟨.slice a1 n1 c1,.slice a2 n2 c2,.slice a3 n3 c3⟩ f) (hs:FcSz f):
  Calls Tryz.prog 59 #[.agg (fcA a1 n1 c1 a2 n2 c2 a3 n3 c3 f),.int .u8 112] w fun e w'=>e=.returned (.bool (zax f 112))/\Ext w w':=by
 obtain ⟨r,hr⟩:∃ r,r=zax f 112:=⟨_,rfl⟩;rw [<- hr];obtain ⟨fn,ftm,fkd,fst,flg,frv,fbs,fti,fau,ftp,fbl,flb,fed,fbk,fse,ftx,fnm,fpa,fcl,fun_⟩:=f;obtain ⟨til,aft,app,den⟩:=flb;replace hr:r=(decide ((1:Int)<=fpa) && decide (fpa<=8)):=hr;generalize q1:decide ((1:Int)<=fpa)=b1 at hr;generalize q2:decide (fpa<=8)=b2 at hr;replace hr:=hid hr;clear h hs;generalize hV:fcA _ _ _ _ _ _ _ _ _ _=V;have v20:V[20]?=some (.int .i64 fpa):=by rw [<- hV];rfl
 replace hV:=hid hV;have hR:=heap_alloc_new w (.cells V 28);have hx:=Mod.alloc (Mod.refl (fun _=>False) w) (.cells V 28);go_enter Tryz.func59,Tryz.ntmps59;go_upto_region 1 with (fail)
 generalize (w.alloc _)=w1 at hR hx ⊢;generalize w.heap.size=R at hR ⊢;have p20:w1.cell? ⟨R,20,none⟩=some (.int .i64 fpa):=(zaa hR 20).trans v20;clear hR v20;replace hx:=hid hx;go_wp2_with fail
 all_goals
  go_ret;exact ⟨by rw [hr.out];simp [*],hx.out⟩
theorem zkF {F:Nat -> Prop} (a1:Option Addr) (n1 c1:Nat) (a2:Option Addr) (n2 c2:Nat) (a3:Option Addr) (n3 c3:Nat) (f:Fc) (w:World) (h:FcAt F w ⟨.slice a1 n1 c1,.slice a2 n2 c2,.slice a3 n3 c3⟩ f) (hs:FcSz f):
  Calls Tryz.prog 59 #[.agg (fcA a1 n1 c1 a2 n2 c2 a3 n3 c3 f),.int .u8 99] w fun e w'=>e=.returned (.bool (zax f 99))/\Ext w w':=by
 obtain ⟨r,hr⟩:∃ r,r=zax f 99:=⟨_,rfl⟩;rw [<- hr];obtain ⟨fn,ftm,fkd,fst,flg,frv,fbs,fti,fau,ftp,fbl,flb,fed,fbk,fse,ftx,fnm,fpa,fcl,fun_⟩:=f;obtain ⟨til,aft,app,den⟩:=flb;replace hr:r=(decide ((0:Int)<=fcl) && decide (fcl<=3)):=hr;have q0:decide (fcl<=3)=decide (fcl < 4):=by rw [Bool.eq_iff_iff,decide_eq_true_eq,decide_eq_true_eq];omega
 rw [q0] at hr;clear q0;generalize q1:decide ((0:Int)<=fcl)=b1 at hr;generalize q2:decide (fcl < 4)=b2 at hr;replace hr:=hid hr;clear h hs;generalize hV:fcA _ _ _ _ _ _ _ _ _ _=V;have v21:V[21]?=some (.int .i64 fcl):=by rw [<- hV];rfl
 replace hV:=hid hV;have hR:=heap_alloc_new w (.cells V 28);have hx:=Mod.alloc (Mod.refl (fun _=>False) w) (.cells V 28);go_enter Tryz.func59,Tryz.ntmps59;go_upto_region 1 with (fail)
 generalize (w.alloc _)=w1 at hR hx ⊢;generalize w.heap.size=R at hR ⊢;have p21:w1.cell? ⟨R,21,none⟩=some (.int .i64 fcl):=(zaa hR 21).trans v21;clear hR v21;replace hx:=hid hx;go_wp2_with fail
 all_goals
  go_ret;exact ⟨by rw [hr.out];simp [*],hx.out⟩
theorem zkM {F:Nat -> Prop} (a1:Option Addr) (n1 c1:Nat) (a2:Option Addr) (n2 c2:Nat) (a3:Option Addr) (n3 c3:Nat) (f:Fc) (w:World) (h:FcAt F w ⟨.slice a1 n1 c1,.slice a2 n2 c2,.slice a3 n3 c3⟩ f) (hs:FcSz f):
  Calls Tryz.prog 59 #[.agg (fcA a1 n1 c1 a2 n2 c2 a3 n3 c3 f),.int .u8 105] w fun e w'=>e=.returned (.bool (zax f 105))/\Ext w w':=by
 obtain ⟨r,hr⟩:∃ r,r=zax f 105:=⟨_,rfl⟩;rw [<- hr];obtain ⟨fn,ftm,fkd,fst,flg,frv,fbs,fti,fau,ftp,fbl,flb,fed,fbk,fse,ftx,fnm,fpa,fcl,fun_⟩:=f;obtain ⟨til,aft,app,den⟩:=flb;replace hr:r=(decide ((0:Int)<=fun_) && decide (fun_<=1000000000)):=hr;generalize q1:decide ((0:Int)<=fun_)=b1 at hr;generalize q2:decide (fun_<=1000000000)=b2 at hr;replace hr:=hid hr;clear h hs;generalize hV:fcA _ _ _ _ _ _ _ _ _ _=V;have v22:V[22]?=some (.int .i64 fun_):=by rw [<- hV];rfl
 replace hV:=hid hV;have hR:=heap_alloc_new w (.cells V 28);have hx:=Mod.alloc (Mod.refl (fun _=>False) w) (.cells V 28);go_enter Tryz.func59,Tryz.ntmps59;go_upto_region 1 with (fail)
 generalize (w.alloc _)=w1 at hR hx ⊢;generalize w.heap.size=R at hR ⊢;have p22:w1.cell? ⟨R,22,none⟩=some (.int .i64 fun_):=(zaa hR 22).trans v22;clear hR v22;replace hx:=hid hx;go_wp2_with fail
 all_goals
  go_ret;exact ⟨by rw [hr.out];simp [*],hx.out⟩
end Go.Proofs.YtjjfphalcibjfaaGreatDoor
