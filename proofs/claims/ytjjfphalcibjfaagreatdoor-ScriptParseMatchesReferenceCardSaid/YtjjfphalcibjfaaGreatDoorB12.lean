import Derived.Test.YtjjfphalcibjfaaGreatDoorB5
import Derived.Test.YtjjfphalcibjfaaGreatDoorH0
set_option maxRecDepth 100000
set_option maxHeartbeats 16000000
namespace Go.Proofs.YtjjfphalcibjfaaGreatDoor
open Go.RowKit Cdk Scr
theorem zh6 {F:Nat -> Prop} (a11:Option Addr) (n11 c11:Nat) (a12:Option Addr) (n12 c12:Nat) (a13:Option Addr) (n13 c13:Nat) (a14:Option Addr) (n14 c14:Nat) (a15:Option Addr) (n15 c15:Nat) (a:Ac) (a21:Option Addr) (n21 c21:Nat) (a22:Option Addr) (n22 c22:Nat) (a23:Option Addr) (n23 c23:Nat) (a24:Option Addr) (n24 c24:Nat) (a25:Option Addr) (n25 c25:Nat) (b:Ac) (w:World) (h1:AcAt F w ⟨⟨.slice a11 n11 c11,.slice a12 n12 c12,.slice a13 n13 c13⟩,.slice a14 n14 c14,.slice a15 n15 c15⟩ a) (h2:AcAt F w ⟨⟨.slice a21 n21 c21,.slice a22 n22 c22,.slice a23 n23 c23⟩,.slice a24 n24 c24,.slice a25 n25 c25⟩ b):
  Calls Tryz.prog 17 #[.agg (acA a11 n11 c11 a12 n12 c12 a13 n13 c13 a14 n14 c14 a15 n15 c15 a),.agg (acA a21 n21 c21 a22 n22 c22 a23 n23 c23 a24 n24 c24 a25 n25 c25 b)] w fun e w'=>e=.returned (.bool (decide (a=b)))/\Ext w w':=by
 obtain ⟨r,hr⟩:∃ r,r=decide (a=b):=⟨_,rfl⟩;rw [<- hr];have H1:=Y (fun W (hX:Ext w W)=>zhZ (F:=F) (.slice a14 n14 c14) (.slice a24 n24 c24) a.fa b.fa W (h1.fa.ext hX) (h2.fa.ext hX));have H2:=Y (fun W (hX:Ext w W)=>zhZ (F:=F) (.slice a15 n15 c15) (.slice a25 n25 c25) a.ke b.ke W (h1.ke.ext hX) (h2.ke.ext hX));have H3:=Y (fun W (hX:Ext w W)=>zdT (F:=F) a11 n11 c11 a12 n12 c12 a13 n13 c13 a.fc a21 n21 c21 a22 n22 c22 a23 n23 c23 b.fc W (h1.fc.ext hX) (h2.fc.ext hX));clear h1 h2;obtain ⟨k1,f1,n1,cl1,x1,fa1,ke1,m1⟩:=a;obtain ⟨m1kd,m1pa,m1sq,m1st,m1ba,m1ve,m1da⟩:=m1;obtain ⟨k2,f2,n2,cl2,x2,fa2,ke2,m2⟩:=b;obtain ⟨m2kd,m2pa,m2sq,m2st,m2ba,m2ve,m2da⟩:=m2;replace hr:r=(decide (f1=f2) && (decide (fa1=fa2) && (decide (ke1=ke2) && (decide (k1=k2) && (decide (n1=n2) && (decide (cl1=cl2) && (decide (x1=x2) && (decide ((⟨m1kd,m1pa,m1sq,m1st,m1ba,m1ve,m1da⟩:Ms)=⟨m2kd,m2pa,m2sq,m2st,m2ba,m2ve,m2da⟩))))))))):=by
  rw [hr,Bool.eq_iff_iff];simp only [Ac.mk.injEq,decide_eq_true_eq,Bool.and_eq_true];constructor
  ·rintro ⟨h1,h2,h3,h4,h5,h6,h7,h8⟩;exact ⟨h2,h6,h7,h1,h3,h4,h5,h8⟩
  ·rintro ⟨h2,h6,h7,h1,h3,h4,h5,h8⟩;exact ⟨h1,h2,h3,h4,h5,h6,h7,h8⟩
 simp only at H1 H2 H3;generalize decide (fa1=fa2)=b_fa at hr H1;generalize decide (ke1=ke2)=b_ke at hr H2;generalize decide (f1=f2)=b_f at hr H3;have hms:=fun W=>zjl ⟨m1kd,m1pa,m1sq,m1st,m1ba,m1ve,m1da⟩ ⟨m2kd,m2pa,m2sq,m2st,m2ba,m2ve,m2da⟩ W
 unfold msC zb0 at hms;simp only at hms;generalize decide ((⟨m1kd,m1pa,m1sq,m1st,m1ba,m1ve,m1da⟩:Ms)=⟨m2kd,m2pa,m2sq,m2st,m2ba,m2ve,m2da⟩)=b_m at hr hms;have e_k:=zaj k1 k2;generalize decide (k1=k2)=b_k at hr e_k;have e_n:=zaj n1 n2;generalize decide (n1=n2)=b_n at hr e_n;have e_cl:=zaj cl1 cl2;generalize decide (cl1=cl2)=b_cl at hr e_cl;have e_x:=zbZ x1 x2;generalize decide (x1=x2)=b_x at hr e_x;replace hr:=Y hr;obtain ⟨hx,hA,hB,-⟩:=zaV w #[.int .i64 k1,.int .i64 f1.n,.int .i64 f1.tm,.int .i64 f1.kd,.int .i64 f1.st,.string ⟨f1.lg.toArray⟩,.int .i64 f1.rv,.int .i64 f1.bs,.string ⟨f1.ti.toArray⟩,.string ⟨f1.au.toArray⟩,.slice a11 n11 c11,.slice a12 n12 c12,.int .i64 f1.lb.til,.slice a13 n13 c13,.int .i64 f1.lb.app,.int .i64 f1.lb.den,.int .i64 f1.ed,.int .i64 f1.bk,.int .i64 f1.se,.string ⟨f1.tx.toArray⟩,.string ⟨f1.nm.toArray⟩,.int .i64 f1.pa,.int .i64 f1.cl,.int .i64 f1.un,.int .i64 n1,.int .i64 cl1,.string ⟨x1.toArray⟩,.slice a14 n14 c14,.slice a15 n15 c15,.int .i64 m1kd,.int .i64 m1pa,.int .i64 m1sq,.int .i64 m1st,.int .i64 m1ba,.int .i64 m1ve,.string ⟨m1da.toArray⟩] #[.int .i64 k2,.int .i64 f2.n,.int .i64 f2.tm,.int .i64 f2.kd,.int .i64 f2.st,.string ⟨f2.lg.toArray⟩,.int .i64 f2.rv,.int .i64 f2.bs,.string ⟨f2.ti.toArray⟩,.string ⟨f2.au.toArray⟩,.slice a21 n21 c21,.slice a22 n22 c22,.int .i64 f2.lb.til,.slice a23 n23 c23,.int .i64 f2.lb.app,.int .i64 f2.lb.den,.int .i64 f2.ed,.int .i64 f2.bk,.int .i64 f2.se,.string ⟨f2.tx.toArray⟩,.string ⟨f2.nm.toArray⟩,.int .i64 f2.pa,.int .i64 f2.cl,.int .i64 f2.un,.int .i64 n2,.int .i64 cl2,.string ⟨x2.toArray⟩,.slice a24 n24 c24,.slice a25 n25 c25,.int .i64 m2kd,.int .i64 m2pa,.int .i64 m2sq,.int .i64 m2st,.int .i64 m2ba,.int .i64 m2ve,.string ⟨m2da.toArray⟩] 32 32;replace hx:=Y hx;unfold acA;simp only;unfold fcA at H3;go_enter Tryz.func17,Tryz.ntmps17;go_upto_region 1 with (fail)
 generalize ((w.alloc _).alloc _)=W at hx hA hB ⊢;generalize w.heap.size=R at hA hB ⊢;replace hA:=Y hA;replace hB:=Y hB;go_wp2_with (first | (refine zaW (by rfl) 28 _ rfl R 1 [.int .i64 k1] [.int .i64 f1.n,.int .i64 f1.tm,.int .i64 f1.kd,.int .i64 f1.st,.string ⟨f1.lg.toArray⟩,.int .i64 f1.rv,.int .i64 f1.bs,.string ⟨f1.ti.toArray⟩,.string ⟨f1.au.toArray⟩,.slice a11 n11 c11,.slice a12 n12 c12,.int .i64 f1.lb.til,.slice a13 n13 c13,.int .i64 f1.lb.app,.int .i64 f1.lb.den,.int .i64 f1.ed,.int .i64 f1.bk,.int .i64 f1.se,.string ⟨f1.tx.toArray⟩,.string ⟨f1.nm.toArray⟩,.int .i64 f1.pa,.int .i64 f1.cl,.int .i64 f1.un] [.int .i64 n1,.int .i64 cl1,.string ⟨x1.toArray⟩,.slice a14 n14 c14,.slice a15 n15 c15,.int .i64 m1kd,.int .i64 m1pa,.int .i64 m1sq,.int .i64 m1st,.int .i64 m1ba,.int .i64 m1ve,.string ⟨m1da.toArray⟩] _ _ _ rfl rfl hA.o Tryz.underlying28 rfl (by kernel_rfl) ?_) | (refine zaW (by rfl) 28 _ rfl (R+1) 1 [.int .i64 k2] [.int .i64 f2.n,.int .i64 f2.tm,.int .i64 f2.kd,.int .i64 f2.st,.string ⟨f2.lg.toArray⟩,.int .i64 f2.rv,.int .i64 f2.bs,.string ⟨f2.ti.toArray⟩,.string ⟨f2.au.toArray⟩,.slice a21 n21 c21,.slice a22 n22 c22,.int .i64 f2.lb.til,.slice a23 n23 c23,.int .i64 f2.lb.app,.int .i64 f2.lb.den,.int .i64 f2.ed,.int .i64 f2.bk,.int .i64 f2.se,.string ⟨f2.tx.toArray⟩,.string ⟨f2.nm.toArray⟩,.int .i64 f2.pa,.int .i64 f2.cl,.int .i64 f2.un] [.int .i64 n2,.int .i64 cl2,.string ⟨x2.toArray⟩,.slice a24 n24 c24,.slice a25 n25 c25,.int .i64 m2kd,.int .i64 m2pa,.int .i64 m2sq,.int .i64 m2st,.int .i64 m2ba,.int .i64 m2ve,.string ⟨m2da.toArray⟩] _ _ _ rfl rfl hB.o Tryz.underlying28 rfl (by kernel_rfl) ?_))
 refine (H3.o _ hx.o).mono ?_;rintro e W2 ⟨rfl,hxn⟩;replace hA:=Y (hxn.at hA.o id);replace hB:=Y (hxn.at hB.o id);replace hx:=Y (hx.o.trans hxn);clear hxn;have p_27:=cS hA.o 27;have q_27:=cS hB.o 27;go_wp2_with fail
 refine (H1.o _ hx.o).mono ?_;rintro e W3 ⟨rfl,hxn⟩;replace hA:=Y (hxn.at hA.o id);replace hB:=Y (hxn.at hB.o id);replace hx:=Y (hx.o.trans hxn);clear hxn p_27 q_27;have p_28:=cS hA.o 28;have q_28:=cS hB.o 28;go_wp2_with fail
 refine (H2.o _ hx.o).mono ?_;rintro e W4 ⟨rfl,hxn⟩;replace hA:=Y (hxn.at hA.o id);replace hB:=Y (hxn.at hB.o id);replace hx:=Y (hx.o.trans hxn);clear hxn p_28 q_28;have p_0:=cS hA.o 0;have q_0:=cS hB.o 0;have p_24:=cS hA.o 24;have q_24:=cS hB.o 24;have p_25:=cS hA.o 25;have q_25:=cS hB.o 25;have p_26:=cS hA.o 26;have q_26:=cS hB.o 26;have p_29:=cS hA.o 29;have q_29:=cS hB.o 29;have p_30:=cS hA.o 30;have q_30:=cS hB.o 30;have p_31:=cS hA.o 31;have q_31:=cS hB.o 31;have p_32:=cS hA.o 32;have q_32:=cS hB.o 32;have p_33:=cS hA.o 33;have q_33:=cS hB.o 33;have p_34:=cS hA.o 34;have q_34:=cS hB.o 34;have p_35:=cS hA.o 35;have q_35:=cS hB.o 35;go_upto_region 4 with (fail)
 refine zaX ?_;simp only [List.map_cons,List.map_nil,zcJ];cases b_f with
 | false=>
  go_wp2_with fail
  go_ret;exact ⟨by rw [hr.o];simp,hx.o⟩
 | true=>
 cases b_fa with
 | false=>
  go_wp2_with fail
  go_ret;exact ⟨by rw [hr.o];simp,hx.o⟩
 | true=>
 cases b_ke with
 | false=>
  go_wp2_with fail
  go_ret;exact ⟨by rw [hr.o];simp,hx.o⟩
 | true=>
 cases b_k with
 | false=>
  go_wp2_with fail
  go_ret;exact ⟨by rw [hr.o];simp,hx.o⟩
 | true=>
 cases b_n with
 | false=>
  go_wp2_with fail
  go_ret;exact ⟨by rw [hr.o];simp,hx.o⟩
 | true=>
 cases b_cl with
 | false=>
  go_wp2_with fail
  go_ret;exact ⟨by rw [hr.o];simp,hx.o⟩
 | true=>
 cases b_x with
 | false=>
  go_wp2_with fail
  go_ret;exact ⟨by rw [hr.o];simp,hx.o⟩
 | true=>
 cases b_m with
 | false=>
  go_wp2_with fail
  go_ret;exact ⟨by rw [hr.o];simp,hx.o⟩
 | true=>
 go_wp2_with fail
 go_ret;exact ⟨by rw [hr.o];simp,hx.o⟩
theorem zg1 (v1 v2:Value) (l m:List Ac) (w:World) (h1:zcg (fun k=>k < w.heap.size) w v1 l) (h2:zcg (fun k=>k < w.heap.size) w v2 m):
  Calls Tryz.prog 24 #[v1,v2] w fun e w'=>e=.returned (.bool (decide (l=m)))/\Ext w w':=by
 obtain ⟨ao1,cap1,rfl⟩:=h1.slice;obtain ⟨ao2,cap2,rfl⟩:=h2.slice;have hl1:=h1.len;have hl2:=h2.len;obtain ⟨r,hr⟩:∃ r,r=decide (l=m):=⟨_,rfl⟩;rw [<- hr];replace h1:=Y h1;replace h2:=Y h2
 by_cases hlm:l.length=m.length
 ·have e1:((l.length:Int)==(m.length:Int))=true:=by rw [beq_iff_eq];omega
  replace hr:=Y hr;generalize hn2:m.length=n2 at hlm h2 e1 hl2 ⊢;subst hlm;go_enter Tryz.func24,Tryz.ntmps24;go_wp2_with fail
  go_loopg [5] l.length (fun g i wr=>∃ j:Nat,j+g=l.length/\i=.int .i64 j/\Hid (l.take j=m.take j)/\Ext w wr)
  case atStart=>exact ⟨0,by omega,rfl,Y rfl,Mod.refl _ _⟩
  case round=>
   obtain ⟨j,hj,rfl,htk,hx⟩:=hrel;replace hx:=Y hx
   by_cases hlt:j < l.length
   ·have hdi:(j:Int) < (l.length:Int):=by omega
    have hd:decide ((j:Int) < (l.length:Int))=true:=decide_eq_true hdi;have hjw:IntKind.i64.wrap ((j:Int)+1)=(j:Int)+1:=IntWalk.i64_in _ (by omega);have hltm:j < m.length:=by omega
    obtain ⟨b1,o1,k1,sv,e,-,hAa,hc⟩:=h1.o.get hlt;injection e with e _ e3
    subst e e3;have h2':=h2.o;rw [<- hn2] at h2';obtain ⟨b2,o2,k2,tv,e,-,hBa,hd2⟩:=h2'.get hltm;injection e with e _ e3
    subst e e3;clear h2';obtain ⟨x,hxe⟩:∃ x,x=l[j]:=⟨_,rfl⟩;obtain ⟨y,hye⟩:∃ y,y=m[j]:=⟨_,rfl⟩;rw [<- hxe] at hAa hc;rw [<- hye] at hBa hd2;obtain ⟨xa1,xn1,xc1,xa2,xn2,xc2,xa3,xn3,xc3,xa4,xn4,xc4,xa5,xn5,xc5,rfl⟩:=zbL hAa;obtain ⟨ya1,yn1,yc1,ya2,yn2,yc2,ya3,yn3,yc3,ya4,yn4,yc4,ya5,yn5,yc5,rfl⟩:=zbL hBa;obtain ⟨V,hV⟩:∃ V,V=acA xa1 xn1 xc1 xa2 xn2 xc2 xa3 xn3 xc3 xa4 xn4 xc4 xa5 xn5 xc5 x:=⟨_,rfl⟩;have rV:wr.rangeAt b1 (o1+j*36) V.toList:=fun i u hu=>by
     have hu':(acC (⟨⟨.slice xa1 xn1 xc1,.slice xa2 xn2 xc2,.slice xa3 xn3 xc3⟩,.slice xa4 xn4 xc4,.slice xa5 xn5 xc5⟩,x))[i]?=some u:=by rw [hV] at hu;exact hu
     exact hx.o.cell (hc i u (List.getElem?_eq_some_iff.1 hu').1 hu') id
    have sV:V.size=36:=by rw [hV];rfl
    have iV:(Tryz.prog.info? 32).map (·.size)=some V.size:=by rw [sV];kernel_rfl
    obtain ⟨U,hU⟩:∃ V,V=acA ya1 yn1 yc1 ya2 yn2 yc2 ya3 yn3 yc3 ya4 yn4 yc4 ya5 yn5 yc5 y:=⟨_,rfl⟩;have rU:wr.rangeAt b2 (o2+j*36) U.toList:=fun i u hu=>by
     have hu':(acC (⟨⟨.slice ya1 yn1 yc1,.slice ya2 yn2 yc2,.slice ya3 yn3 yc3⟩,.slice ya4 yn4 yc4,.slice ya5 yn5 yc5⟩,y))[i]?=some u:=by rw [hU] at hu;exact hu
     exact hx.o.cell (hd2 i u (List.getElem?_eq_some_iff.1 hu').1 hu') id
    have sU:U.size=36:=by rw [hU];rfl
    have iU:(Tryz.prog.info? 32).map (·.size)=some U.size:=by rw [sU];kernel_rfl
    have hsm:=fun W (hW:Ext wr W)=>zh6 xa1 xn1 xc1 xa2 xn2 xc2 xa3 xn3 xc3 xa4 xn4 xc4 xa5 xn5 xc5 x ya1 yn1 yc1 ya2 yn2 yc2 ya3 yn3 yc3 ya4 yn4 yc4 ya5 yn5 yc5 y W ((hAa.ext hx.o).ext hW) ((hBa.ext hx.o).ext hW)
    rw [<- hV,<- hU] at hsm;replace hsm:=Y hsm;replace rV:=Y rV;replace rU:=Y rU;replace sV:=Y sV;replace iV:=Y iV;replace sU:=Y sU;replace iU:=Y iU;replace hV:=Y hV;replace hU:=Y hU;replace hxe:=Y hxe;replace hye:=Y hye;replace hj:=Y hj;replace hn2:=Y hn2;clear hc hd2 hAa hBa;go_upto_region 6 with fail
    try simp only [List.append_eq,List.cons_append,List.nil_append]
    refine rS (fun W=>Ext wr W) [(0,true),(1,true),(2,true),(3,true),(4,true),(5,true),(6,true),(7,true),(8,false),(9,true)] (Mod.drew0 (fun _=>False) wr) ?_;simp only [zah,List.map_cons,List.map_nil,List.getD_cons_zero,List.getD_cons_succ];have hy0:=Y (Mod.drew0 (fun _=>False) wr)
    iterate 3 (refine qT ?_)
    refine zb8 (by rfl) 32 _ rfl b1 (o1+j*36) rfl V _ (fun W hW=>zbA rV.o hW) Tryz.underlying32 rfl (by have:=iV.o;simpa using this) ?_;try simp only [Act.put,sA,sZ,sS]
    iterate 3 (refine qT ?_)
    refine zb8 (by rfl) 32 _ rfl b2 (o2+j*36) rfl U _ (fun W hW=>zbA rU.o hW) Tryz.underlying32 rfl (by have:=iU.o;simpa using this) ?_;try simp only [Act.put,sA,sZ,sS]
    refine zak (by rfl) (fun K hK=>?_);go_simp;refine (hsm.o _ hy0.o).mono ?_;rintro e w9 ⟨rfl,hxn⟩;refine hK.o _ _ (hy0.o.trans hxn) ?_;have hy1:=Y (hx.o.trans (hy0.o.trans hxn));clear hK K hxn;try simp only [Act.put,sA,sZ,sS]
    by_cases hxy:x=y
    ·have hb:decide (x=y)=true:=decide_eq_true hxy
     rw [hb];have htk2:Hid (l.take (j+1)=m.take (j+1)):=Y (by rw [List.take_succ_eq_append_getElem hlt,List.take_succ_eq_append_getElem hltm,htk.o,<- hxe.o,<- hye.o,hxy]);replace hxy:=Y hxy
     iterate 1 (refine qT ?_)
     refine zar ?_;go_wp2_with fail
     go_roundg (gk - 1)
     case measure=>have:=hj.o;omega
     case rel=>exact ⟨j+1,by have:=hj.o;omega,by go_num,htk2,hy1.o⟩
    ·have hb:decide (x=y)=false:=decide_eq_false hxy
     rw [hb];have hrf:Hid (r=false):=Y (by rw [hr.o];exact decide_eq_false (fun e=>hxy (by rw [hxe.o,hye.o];simp only [e])));replace hxy:=Y hxy
     iterate 1 (refine qT ?_)
     refine zar ?_;go_wp2_with fail
     go_ret;exact ⟨by rw [hrf.o];rfl,hy1.o⟩
   ·obtain rfl:j=l.length:=by omega
    have hdi:¬ (l.length:Int) < (l.length:Int):=by omega
    have hd:decide ((l.length:Int) < (l.length:Int))=false:=decide_eq_false hdi;have hrt:Hid (r=true):=Y (by rw [hr.o];refine decide_eq_true ?_;have:=htk.o;rw [List.take_length,<- hn2,List.take_length] at this;exact this);replace hn2:=Y hn2;go_wp2_with fail
    go_ret;exact ⟨by rw [hrt.o];rfl,hx.o⟩
 ·have e1:((l.length:Int)==(m.length:Int))=false:=by rw [beq_eq_false_iff_ne];omega
  have e1i:¬ (l.length:Int)=(m.length:Int):=by omega
  have hrf:Hid (r=false):=Y (by rw [hr];exact decide_eq_false (fun e=>hlm (by rw [e])));replace hr:=Y hr;go_enter Tryz.func24,Tryz.ntmps24;go_wp2_with fail
  go_ret;exact ⟨by rw [hrf.o];rfl,Mod.refl _ _⟩
theorem zhY {F:Nat -> Prop} (v:Value) (l:List Int) (top:Int) (w:World) (h:zaF F w v l):Calls Tryz.prog 35 #[v,.int .i64 top] w fun e w'=>e=.returned (.bool (zg5 l 64 top))/\w=w':=by
 obtain ⟨ao,cap,rfl⟩:=h.slice;have hlen:=h.len;obtain ⟨r,hr⟩:∃ r,r=zg5 l 64 top:=⟨_,rfl⟩;rw [<- hr];obtain ⟨n,hn⟩:∃ n,n=l.length:=⟨_,rfl⟩;rw [<- hn] at h hlen ⊢;replace hr:r=(decide (n<=64) && (l.drop 0).all (fun x=>rng x 0 top)):=by rw [hr,hn];rfl
 have hd64:decide ((n:Int)<=64)=decide (n<=64):=by rw [decide_eq_decide];omega
 generalize decide (n<=64)=d at hr hd64;replace hr:=Y hr;replace h:=Y h;replace hn:=Y hn;go_enter Tryz.func35,Tryz.ntmps35;go_wp2_with fail
 go_loopg [5] n (fun g i wr=>∃ j:Nat,j+g=n/\i=.int .i64 j/\w=wr/\r=(d && (l.drop j).all (fun x=>rng x 0 top)))
 case atStart=>exact ⟨0,by omega,rfl,rfl,hr.o⟩
 case round=>
  clear hr;obtain ⟨j,hj,rfl,rfl,hrj⟩:=hrel;replace hj:=Y hj
  by_cases hlt:j < n
  ·have hdi:(j:Int) < (n:Int):=by omega
   have hd:decide ((j:Int) < (n:Int))=true:=decide_eq_true hdi;have hjw:IntKind.i64.wrap ((j:Int)+1)=(j:Int)+1:=IntWalk.i64_in _ (by omega);have hjl:j < l.length:=by have:=hn.o;omega
   have h':=h.o;rw [hn.o] at h';obtain ⟨b,off,rfl,hc⟩:=zbG h' hjl;rw [List.drop_eq_getElem_cons hjl,List.all_cons] at hrj;generalize l[j]=x at hc hrj;clear h'
   by_cases g1:x < 0
   ·have hrf:Hid (r=false):=Y (by rw [hrj,show rng x 0 top=false by simp [rng];omega];simp)
    replace hrj:=Y hrj;go_wp2_with fail
    go_ret;exact ⟨by rw [hrf.o];rfl,rfl⟩
   by_cases g2:top < x
   ·have hrf:Hid (r=false):=Y (by rw [hrj,show rng x 0 top=false by simp [rng];omega];simp)
    replace hrj:=Y hrj;go_wp2_with fail
    go_ret;exact ⟨by rw [hrf.o];rfl,rfl⟩
   ·have hrn:Hid (r=(d && (l.drop (j+1)).all (fun x=>rng x 0 top))):=Y (by rw [hrj,show rng x 0 top=true by simp [rng];omega];rfl)
    replace hrj:=Y hrj;go_wp2_with fail
    go_roundg (gk - 1)
    case measure=>have:=hj.o;omega
    case rel=>exact ⟨j+1,by have:=hj.o;omega,by go_num,rfl,hrn.o⟩
  ·obtain rfl:j=n:=by have:=hj.o;omega
   have hdi:¬ (j:Int) < (j:Int):=by omega
   have hd:decide ((j:Int) < (j:Int))=false:=decide_eq_false hdi;have hrd:Hid (r=d):=Y (by rw [hrj,hn.o,List.drop_length];simp);replace hrj:=Y hrj;go_wp2_with fail
   go_ret;exact ⟨by rw [hrd.o];rfl,rfl⟩
theorem ze4 (s:Bs) (hs:s.length<=4611686018427387904) (a b f:Nat) (_hf:f<=255) (_hab:a<=100000/\b<=100000) (w:World):Calls Tryz.prog 36 #[.string ⟨s.toArray⟩,.int .i64 (a:Int),.int .i64 (b:Int),.int .u8 (f:Int)] w fun e w'=>e=.returned (.bool (zf7 s a b f))/\w=w':=by
 obtain ⟨r,hr⟩:∃ r,r=zf7 s a b f:=⟨_,rfl⟩;rw [<- hr];obtain ⟨S,hS⟩:∃ S:ByteArray,S=⟨s.toArray⟩:=⟨_,rfl⟩;have hSs:S.size=s.length:=by rw [hS];rfl
 have hget:Hid (∀ (j:Nat) (h:j < S.size) (h2:j < s.length),S[j]=s[j]):=Y (fun j h h2=>by subst hS;rfl);rw [<- hS];replace hr:r=((decide (a<=S.size) && decide (S.size<=b)) && (s.drop 0).all (fun c=>decide (f<=c.toNat) && decide (c.toNat<=126))):=by rw [hr,hSs,List.drop_zero];unfold zf7;rw [Bool.and_assoc]
 have hS47:S.size<=4611686018427387904:=by omega
 replace hr:=Y hr;replace hS:=Y hS;replace hSs:=Y hSs;go_enter Tryz.func36,Tryz.ntmps36;go_wp2_with fail
 go_loopg [9] S.size (fun g i wr=>∃ j:Nat,j+g=S.size/\i=.int .i64 j/\w=wr/\r=((decide (a<=S.size) && decide (S.size<=b)) && (s.drop j).all (fun c=>decide (f<=c.toNat) && decide (c.toNat<=126))))
 case atStart=>exact ⟨0,by omega,rfl,rfl,hr.o⟩
 case round=>
  clear hr;obtain ⟨j,hj,rfl,rfl,hrj⟩:=hrel;replace hj:=Y hj
  by_cases hlt:j < S.size
  ·have hdi:(j:Int) < (S.size:Int):=by omega
   have hd:decide ((j:Int) < (S.size:Int))=true:=decide_eq_true hdi;have hjw:IntKind.i64.wrap ((j:Int)+1)=(j:Int)+1:=IntWalk.i64_in _ (by omega);have hjl:j < s.length:=by have:=hSs.o;omega
   have hgj:=hget.o j hlt hjl;rw [List.drop_eq_getElem_cons hjl,List.all_cons,<- hgj] at hrj;obtain ⟨x,hx⟩:∃ x,x=S[j].toNat:=⟨_,rfl⟩;rw [<- hx] at hrj;replace hgj:=Y hgj
   by_cases g1:x < f
   ·have hrf:Hid (r=false):=Y (by rw [hrj,decide_eq_false (show ¬ f<=x by omega)];simp)
    have b1:S[j].toNat < f:=by omega
    have b1i:(S[j].toNat:Int) < (f:Int):=by omega
    replace hrj:=Y hrj;replace hx:=Y hx;go_wp2_with fail
    go_ret;exact ⟨by rw [hrf.o];rfl,rfl⟩
   have b1:¬ S[j].toNat < f:=by omega
   have b1i:¬ (S[j].toNat:Int) < (f:Int):=by omega
   by_cases g2:126 < x
   ·have hrf:Hid (r=false):=Y (by rw [hrj,decide_eq_false (show ¬ x<=126 by omega)];simp)
    have b2:126 < S[j].toNat:=by omega
    have b2i:(126:Int) < (S[j].toNat:Int):=by omega
    replace hrj:=Y hrj;replace hx:=Y hx;go_wp2_with fail
    go_ret;exact ⟨by rw [hrf.o];rfl,rfl⟩
   ·have hrn:Hid (r=((decide (a<=S.size) && decide (S.size<=b)) && (s.drop (j+1)).all (fun c=>decide (f<=c.toNat) && decide (c.toNat<=126)))):=Y (by rw [hrj,decide_eq_true (show f<=x by omega),decide_eq_true (show x<=126 by omega)];rfl)
    have b2:¬ 126 < S[j].toNat:=by omega
    have b2i:¬ (126:Int) < (S[j].toNat:Int):=by omega
    replace hrj:=Y hrj;replace hx:=Y hx;go_wp2_with fail
    go_roundg (gk - 1)
    case measure=>have:=hj.o;omega
    case rel=>exact ⟨j+1,by have:=hj.o;omega,by go_num,rfl,hrn.o⟩
  ·obtain rfl:j=S.size:=by have:=hj.o;omega
   have hdi:¬ (S.size:Int) < (S.size:Int):=by omega
   have hd:decide ((S.size:Int) < (S.size:Int))=false:=decide_eq_false hdi;have hrd:Hid (r=(decide (a<=S.size) && decide (S.size<=b))):=Y (by rw [hrj,hSs.o,List.drop_length];simp);replace hrj:=Y hrj
   by_cases ha:a<=S.size
   ·have hai:(a:Int)<=(S.size:Int):=by omega
    have hrd2:Hid (r=decide (S.size<=b)):=Y (by rw [hrd.o,decide_eq_true ha];rfl);go_wp2_with fail
    go_ret;exact ⟨by rw [hrd2.o];rfl,rfl⟩
   ·have hai:¬ (a:Int)<=(S.size:Int):=by omega
    have hrd2:Hid (r=false):=Y (by rw [hrd.o,decide_eq_false ha];rfl);go_wp2_with fail
    go_ret;exact ⟨by rw [hrd2.o];rfl,rfl⟩
theorem zcL (m:Ms) (w:World) (hda0:m.da.length<=4611686018427387904):Calls Tryz.prog 37 #[.agg (msC m).toArray] w fun e w'=>e=.returned (.bool (vMs m))/\Ext w w':=by
 obtain ⟨r,hr⟩:∃ r,r=vMs m:=⟨_,rfl⟩;rw [<- hr];obtain ⟨kd,pa,sq,st,ba,ve,da⟩:=m;unfold vMs at hr;simp only at hr;have hx:=Y (Mod.alloc (Mod.refl (fun _=>False) w) (.cells #[.int .i64 kd,.int .i64 pa,.int .i64 sq,.int .i64 st,.int .i64 ba,.int .i64 ve,.string ⟨da.toArray⟩] 30));unfold msC zb0;simp only
 by_cases g0:pa < 1
 ·have hf:Hid (r=false):=Y (by rw [hr];simp [rng,zcd];omega)
  clear hr;go_enter Tryz.func37,Tryz.ntmps37;go_wp2_with fail
  go_ret;exact ⟨by rw [hf.o];rfl,hx.o⟩
 by_cases g1:8 < pa
 ·have hf:Hid (r=false):=Y (by rw [hr];simp [rng,zcd];omega)
  clear hr;go_enter Tryz.func37,Tryz.ntmps37;go_wp2_with fail
  go_ret;exact ⟨by rw [hf.o];rfl,hx.o⟩
 by_cases g2:sq < 1
 ·have hf:Hid (r=false):=Y (by rw [hr];simp [rng,zcd];omega)
  clear hr;go_enter Tryz.func37,Tryz.ntmps37;go_wp2_with fail
  go_ret;exact ⟨by rw [hf.o];rfl,hx.o⟩
 by_cases g3:4611686018427387903 < sq
 ·have hf:Hid (r=false):=Y (by rw [hr];simp [rng,zcd];omega)
  clear hr;go_enter Tryz.func37,Tryz.ntmps37;go_wp2_with fail
  go_ret;exact ⟨by rw [hf.o];rfl,hx.o⟩
 by_cases g4:st < 1
 ·have hf:Hid (r=false):=Y (by rw [hr];simp [rng,zcd];omega)
  clear hr;go_enter Tryz.func37,Tryz.ntmps37;go_wp2_with fail
  go_ret;exact ⟨by rw [hf.o];rfl,hx.o⟩
 by_cases g5:64 < st
 ·have hf:Hid (r=false):=Y (by rw [hr];simp [rng,zcd];omega)
  clear hr;go_enter Tryz.func37,Tryz.ntmps37;go_wp2_with fail
  go_ret;exact ⟨by rw [hf.o];rfl,hx.o⟩
 by_cases g6:ba < 0
 ·have hf:Hid (r=false):=Y (by rw [hr];simp [rng,zcd];omega)
  clear hr;go_enter Tryz.func37,Tryz.ntmps37;go_wp2_with fail
  go_ret;exact ⟨by rw [hf.o];rfl,hx.o⟩
 by_cases g7:4294967295 < ba
 ·have hf:Hid (r=false):=Y (by rw [hr];simp [rng,zcd];omega)
  clear hr;go_enter Tryz.func37,Tryz.ntmps37;go_wp2_with fail
  go_ret;exact ⟨by rw [hf.o];rfl,hx.o⟩
 by_cases g8:ve < 0
 ·have hf:Hid (r=false):=Y (by rw [hr];simp [rng,zcd];omega)
  clear hr;go_enter Tryz.func37,Tryz.ntmps37;go_wp2_with fail
  go_ret;exact ⟨by rw [hf.o];rfl,hx.o⟩
 by_cases g9:4294967295 < ve
 ·have hf:Hid (r=false):=Y (by rw [hr];simp [rng,zcd];omega)
  clear hr;go_enter Tryz.func37,Tryz.ntmps37;go_wp2_with fail
  go_ret;exact ⟨by rw [hf.o];rfl,hx.o⟩
 rw [show rng pa 1 8=true by simp [rng];omega,show rng sq 1 4611686018427387903=true by simp [rng];omega,show rng st 1 64=true by simp [rng];omega,show zcd ba=true by simp [rng,zcd];omega,show zcd ve=true by simp [rng,zcd];omega] at hr;simp only [Bool.true_and] at hr;have c1:=zaj ba 0;have c2:=zaj ve 0;generalize decide (ba=0)=d1 at c1 hr;generalize decide (ve=0)=d2 at c2 hr;generalize hda:decide (da.length<=16384)=d4 at hr;replace hda:decide ((da.length:Int)<=16384)=d4:=by rw [<- hda,decide_eq_decide];omega
 by_cases n1:kd=1
 ·rw [if_pos n1] at hr
  subst n1;replace hr:=Y (hr.trans hda.symm);clear hda;go_enter Tryz.func37,Tryz.ntmps37;go_wp2_with fail
  go_ret;exact ⟨by rw [hr.o];rfl,hx.o⟩
 clear hda;rw [if_neg n1] at hr
 by_cases n2:kd=2
 ·rw [if_pos n2] at hr
  subst n2;replace hr:=Y hr;go_enter Tryz.func37,Tryz.ntmps37;go_wp2_with fail
  all_goals
   go_ret;exact ⟨by rw [hr.o];simp [*],hx.o⟩
 rw [if_neg n2] at hr
 by_cases n3:kd=3
 ·rw [if_pos n3] at hr
  subst n3;replace hr:=Y hr;go_enter Tryz.func37,Tryz.ntmps37;go_wp2_with fail
  all_goals
   go_ret;exact ⟨by rw [hr.o];simp [*],hx.o⟩
 rw [if_neg n3] at hr
 by_cases n4:kd=4
 ·rw [if_pos n4] at hr
  subst n4;replace hr:=Y hr;go_enter Tryz.func37,Tryz.ntmps37;go_wp2_with fail
  all_goals
   go_ret;exact ⟨by rw [hr.o];simp [*],hx.o⟩
 ·rw [if_neg n4] at hr
  have e1:(kd==1)=false:=by rw [beq_eq_false_iff_ne];exact n1
  have e2:(kd==2)=false:=by rw [beq_eq_false_iff_ne];exact n2
  have e3:(kd==3)=false:=by rw [beq_eq_false_iff_ne];exact n3
  have e4:(kd==4)=false:=by rw [beq_eq_false_iff_ne];exact n4
  replace hr:=Y hr;go_enter Tryz.func37,Tryz.ntmps37;go_wp2_with fail
  go_ret;exact ⟨by rw [hr.o];rfl,hx.o⟩
end Go.Proofs.YtjjfphalcibjfaaGreatDoor
