import Derived.Test.YtjjfphalcibjfaaGreatDoorB3
import Derived.Test.YtjjfphalcibjfaaGreatDoorA9
set_option maxRecDepth 100000
set_option maxHeartbeats 16000000
namespace Go.Proofs.YtjjfphalcibjfaaGreatDoor
open Go.RowKit Cdk Scr
theorem zcU {F:Nat -> Prop} (v:Value) (l:List Bk) (w:World) (h:zaD F w v l) (hs:∀ b ∈ l,maxS b.tx):
  Calls Tryz.prog 98 #[v] w fun e w'=>e=.returned (.bool (zdt l))/\Ext w w':=by
 obtain ⟨r,hr⟩:∃ r,r=zdt l:=⟨_,rfl⟩;rw [<- hr];unfold zdt at hr;obtain ⟨ao,cap,rfl⟩:=h.slice;have hcap:=zl1 h;obtain ⟨n,hn⟩:∃ n,n=l.length:=⟨_,rfl⟩;rw [<- hn] at h hcap hr ⊢;replace hn:=hid hn;replace h:=hid h;replace hs:=hid hs
 by_cases hl:n<=24
 rotate_left
 ·have hq:(24:Int) < (n:Int):=by omega
  rw [decide_eq_false hl,Bool.false_and] at hr;replace hr:=hid hr;go_enter Tryz.func98,Tryz.ntmps98;go_wp2_with fail
  go_ret;exact ⟨by rw [hr.out];rfl,Mod.refl _ _⟩
 have hq:¬ (24:Int) < (n:Int):=by omega
 rw [decide_eq_true hl,Bool.true_and] at hr;replace hr:=hid hr;go_enter Tryz.func98,Tryz.ntmps98;go_wp2_with fail
 go_loopg [3] n (fun g i wr=>∃ j:Nat,j+g=n/\i=.int .i64 j/\Ext w wr/\r=zdU (l.take j) (l.drop j))
 case atStart=>exact ⟨0,by omega,rfl,Mod.refl _ _,hr.out⟩
 case round=>
  clear hr;obtain ⟨j,hj,rfl,hx,hrj⟩:=hrel;replace hj:=hid hj
  by_cases hlt:j < n
  rotate_left
  ·have hdi:¬ (j:Int) < (n:Int):=by omega
   have hd:decide ((j:Int) < (n:Int))=false:=decide_eq_false hdi;rw [List.drop_eq_nil_of_le (by have:=hn.out;omega)] at hrj;replace hrj:=hid hrj;replace hx:=hid hx;go_wp2_with fail
   go_ret;exact ⟨by rw [hrj.out];rfl,hx.out⟩
  ·have hdi:(j:Int) < (n:Int):=by omega
   have hd:decide ((j:Int) < (n:Int))=true:=decide_eq_true hdi;have hjl:j < l.length:=by have:=hn.out;omega
   obtain ⟨b1,o1,a1,m1,c1,rfl,-,hF1,hI1,g0,g1,g2,g3,g4,g5,g6,g7,g8⟩:=(h.out.ext hx).cells hjl
   have hrest:Hid (∀ bb,bb=l[j] -> r=(vBk bb && ((l.take j).all (fun x=>!decide (x.id=bb.id)) && zdU (l.take (j+1)) (l.drop (j+1))))):=hid (fun bb e=>by
    rw [hrj,List.drop_eq_getElem_cons hjl,e];simp only [zdU]
    rw [List.take_succ_eq_append_getElem hjl])
   clear hrj;have hfol:=zd3 (F:=F) (.slice a1 m1 c1) l[j] wr hI1 (hs.out _ (List.getElem_mem _));obtain ⟨bb,hbb⟩:∃ bb,bb=l[j]:=⟨_,rfl⟩;rw [<- hbb] at g0 g1 g2 g3 g4 g5 g7 g8 hfol;have hrest:=hid (hrest.out bb hbb);clear hI1 hF1;replace hbb:=hid hbb;obtain ⟨i1,k1,x1,s1,r1,t1,y1,p1,q1⟩:=bb;simp only at g0 g1 g2 g3 g4 g5 g6 g7 g8;unfold bkC zbR at hfol;dsimp only at hfol;replace hfol:=hid hfol;replace hx:=hid hx;go_wp2_with fail
   refine hfol.out.mono ?_;rintro e w2 ⟨rfl,hx2⟩;clear hfol g0 g1 g2 g3 g4 g5 g6 g7 g8;have hx2:=hid (hx.out.trans hx2);clear hx;generalize vBk ⟨i1,k1,x1,s1,r1,t1,y1,p1,q1⟩=vb at hrest ⊢;cases vb with
   | false=>
    go_wp2_with fail
    go_ret;exact ⟨by rw [hrest.out];rfl,hx2.out⟩
   | true=>
    go_wp2_with fail
    obtain ⟨J,rfl⟩:∃ J,J=j:=⟨_,rfl⟩;obtain ⟨G,rfl⟩:∃ G,G=gk:=⟨_,rfl⟩;obtain ⟨rest,hrs⟩:∃ rest,rest=zdU (l.take (J+1)) (l.drop (J+1)):=⟨_,rfl⟩;rw [<- hrs] at hrest;replace hrs:=hid hrs;go_loopg [5] J (fun g i wi=>∃ k:Nat,k+g=J/\i=.int .i64 k/\Ext w wi/\r=(((l.take J).drop k).all (fun x=>!decide (x.id=i1)) && rest))
    case atStart=>exact ⟨0,by omega,rfl,hx2.out,hrest.out⟩
    case round=>
     obtain ⟨wi,rfl⟩:∃ wi:World,wi=wr:=⟨_,rfl⟩;clear hrest hx2;obtain ⟨k,hk,rfl,hx,hrk⟩:=hrel;replace hk:=hid hk
     by_cases hlk:k < J
     ·have hdk:(k:Int) < (J:Int):=by omega
      have hdd:decide ((k:Int) < (J:Int))=true:=decide_eq_true hdk;have hkn:(k:Int) < (n:Int):=by omega
      have hkl:k < l.length:=by omega
      obtain ⟨b2,o2,a2,m2,c2,e2,-,-,-,f0,f1,f2,f3,f4,f5,f6,f7,f8⟩:=(h.out.ext hx).cells hkl;obtain ⟨b3,o3,a3,m3,c3,e3,-,-,-,u0,u1,u2,u3,u4,u5,u6,u7,u8⟩:=(h.out.ext hx).cells hjl;injection e2 with e2;injection e2 with e2 e2' _
      subst e2;subst e2';injection e3 with e3;injection e3 with e3 e3' _
      subst e3;subst e3';rw [zhV hlk (Nat.le_of_lt hjl)] at hrk;rw [<- hbb.out] at u0;simp only at u0;clear u1 u2 u3 u4 u5 u6 u7 u8 f1 f2 f3 f4 f5 f6 f7 f8;obtain ⟨z,hz⟩:∃ z,z=l[k]:=⟨_,rfl⟩;rw [<- hz] at f0 hrk;clear hz;have hc:=zam z.id i1;generalize decide (z.id=i1)=q at hc hrk;generalize z.id=zi at f0 hc;replace hrk:=hid hrk;replace hx:=hid hx;cases q with
      | true=>
       go_wp2_with fail
       go_quiet (fail)
       go_wp2_with fail
       go_ret;exact ⟨by rw [hrk.out];rfl,hx.out.ofDrewN _⟩
      | false=>
       go_wp2_with fail
       go_quiet (fail)
       go_wp2_with fail
       go_roundg (gk - 1)
       case measure=>have:=hk.out;omega
       case rel=>exact ⟨k+1,by have:=hk.out;omega,by go_num,hx.out.ofDrewN _,by rw [hrk.out];rfl⟩
     ·obtain rfl:k=J:=by have:=hk.out;omega
      have hdk:¬ (k:Int) < (k:Int):=by omega
      rw [List.drop_eq_nil_of_le (by rw [List.length_take];omega)] at hrk;replace hrk:=hid hrk;replace hx:=hid hx;go_wp2_with fail
      go_roundg (G - 1)
      case measure=>have:=hj.out;omega
      case rel=>exact ⟨k+1,by have:=hj.out;omega,by go_num,hx.out,by rw [hrk.out];exact hrs.out⟩
theorem zgS {F:Nat -> Prop} (v:Value) (l:List Bs) (w:World) (h:zbw F w v l) (hs:∀ s ∈ l,maxS s):
  Calls Tryz.prog 97 #[v] w fun e w'=>e=.returned (.bool (vTp l))/\Ext w w':=by
 obtain ⟨r,hr⟩:∃ r,r=vTp l:=⟨_,rfl⟩;rw [<- hr];have hn0:=h.len;obtain ⟨ao,cap,rfl⟩:=h.slice;obtain ⟨n,hn⟩:∃ n,n=l.length:=⟨_,rfl⟩;have hr2:r=(zbP l 0 && decide (l.length<=4)):=by rw [Bool.and_comm];exact hr
 clear hr;rw [<- hn] at h hr2 hn0 ⊢;replace hn:=hid hn;replace h:=hid h;replace hs:=hid hs;replace hr2:=hid hr2;go_enter Tryz.func97,Tryz.ntmps97;go_wp2_with fail
 go_loopg [3] n (fun g i wr=>∃ j:Nat,j+g=n/\i=.int .i64 j/\Ext w wr/\r=(zbP l j && decide (n<=4)))
 case atStart=>exact ⟨0,by omega,rfl,Mod.refl _ _,hr2.out⟩
 case round=>
  clear hr2;obtain ⟨j,hj,rfl,hx,hrj⟩:=hrel;replace hj:=hid hj
  by_cases hlt:j < n
  rotate_left
  ·have hdi:¬ (j:Int) < (n:Int):=by omega
   have hd:decide ((j:Int) < (n:Int))=false:=decide_eq_false hdi;rw [zfe (by have:=hn.out;omega),Bool.true_and] at hrj;replace hrj:=hid hrj;replace hx:=hid hx
   by_cases q1:(n:Int)<=4
   all_goals
    go_wp2_with fail
    go_ret;exact ⟨by rw [hrj.out];congr 2;simp;omega,hx.out⟩
  ·have hdi:(j:Int) < (n:Int):=by omega
   have hd:decide ((j:Int) < (n:Int))=true:=decide_eq_true hdi;have hjl:j < l.length:=by have:=hn.out;omega
   obtain ⟨b,off,rfl,c0⟩:=zcs (h.out.ext hx) hjl;have hN:=zcD ⟨l[j].toArray⟩ wr (hs.out _ (List.getElem_mem _));rw [zcT] at hN
   by_cases h0:j=0
   ·subst h0
    have hpos:¬ (0:Int) < ((0:Nat):Int):=by omega
    rw [zeF hjl] at hrj;generalize l[0]=x at c0 hN hrj;generalize zbv x=bx at hN hrj;replace hN:=hid hN;obtain ⟨rest,hrs⟩:∃ rest,rest=zbP l 1:=⟨_,rfl⟩;rw [<- hrs] at hrj;replace hrs:=hid hrs;replace hrj:=hid hrj;replace hx:=hid hx;simp only [Nat.add_zero] at c0;go_wp2_with fail
    refine hN.out.mono ?_;rintro e w' ⟨rfl,rfl⟩;cases bx with
    | false=>
     go_wp2_with fail
     go_quiet (fail)
     go_wp2_with fail
     go_ret;exact ⟨by rw [hrj.out];rfl,hx.out.ofDrewN _⟩
    | true=>
     go_wp2_with fail
     go_quiet (fail)
     go_wp2_with fail
     go_roundg (gk - 1)
     case measure=>have:=hj.out;omega
     case rel=>exact ⟨1,by have:=hj.out;omega,rfl,hx.out.ofDrewN _,by rw [hrj.out,hrs.out,Bool.true_and]⟩
   ·rw [zeJ (by omega) hjl] at hrj
    have hp1:j - 1 < l.length:=by omega
    obtain ⟨b2,off2,e2,c1⟩:=zcs (h.out.ext hx) hp1;injection e2 with e2;injection e2 with e2 e3 _
    subst e2;subst e3;rw [<- zkm] at hrj;generalize l[j]=x at c0 hN hrj;generalize l[j - 1]=y at c1 hrj;generalize zbv x=bx at hN hrj;obtain ⟨q,hq1⟩:∃ q,q=Go.Op.bytesLess y x:=⟨_,rfl⟩;rw [<- hq1] at hrj;replace hq1:=hq1.symm;replace hN:=hid hN;obtain ⟨rest,hrs⟩:∃ rest,rest=zbP l (j+1):=⟨_,rfl⟩;rw [<- hrs] at hrj;replace hrs:=hid hrs;replace hrj:=hid hrj;replace hx:=hid hx;have hj0:(0:Int) < (j:Int):=by omega
    have hj0d:decide ((0:Int) < (j:Int))=true:=decide_eq_true hj0;obtain ⟨m,rfl⟩:∃ m,j=m+1:=⟨j - 1,by omega⟩;simp only [Nat.add_sub_cancel] at c1;have hj1:IntKind.i64.wrap (((m+1:Nat):Int) - 1)=(m:Int):=by
     rw [show ((m+1:Nat):Int) - 1=(m:Int) by omega];exact IntWalk.i64_in _ (by omega)
    have hj6:IntKind.i64.wrap ((m:Int)+1 - 1)=(m:Int):=by
     rw [show (m:Int)+1 - 1=(m:Int) by omega];exact IntWalk.i64_in _ (by omega)
    have hj7:IntKind.i64.wrap (m:Int)=(m:Int):=IntWalk.i64_in _ (by omega);have hj4:0 < m+1:=by omega
    have hj5:decide (0 < m+1)=true:=rfl;have hj2:(m:Int) < (n:Int):=by omega
    clear h0;go_wp2_with fail
    refine hN.out.mono ?_;rintro e w' ⟨rfl,rfl⟩;cases bx with
    | false=>
     go_wp2_with fail
     go_quiet (fail)
     go_wp2_with fail
     go_ret;exact ⟨by rw [hrj.out];rfl,hx.out.ofDrewN _⟩
    | true=>
     cases q with
     | false=>
      go_wp2_with fail
      go_quiet (fail)
      go_wp2_with fail
      go_ret;exact ⟨by rw [hrj.out];rfl,hx.out.ofDrewN _⟩
     | true=>
      go_wp2_with fail
      go_quiet (fail)
      go_wp2_with fail
      go_roundg (gk - 1)
      case measure=>have:=hj.out;omega
      case rel=>exact ⟨m+1+1,by have:=hj.out;omega,by go_num,hx.out.ofDrewN _,by rw [hrj.out,hrs.out,Bool.true_and,Bool.true_and]⟩
end Go.Proofs.YtjjfphalcibjfaaGreatDoor
namespace Cdk
open Go Go.RowKit
section
variable {P:Program} {ops:Array Oper} {rest:List Oper} {o:Oper} {a:Act} {w:World} {Q:Exit -> Act -> World -> Prop}
theorem zcz {b:Bool} (hw:Region.wanted o (yielded ops a.tmps)=b) (v:Value) (h1:b=true -> (execOp a.eval o).run P w=.ok (.value v) w)
  (h:wpList P ops Q rest (a.put o.dst (bif b then v else undef)) w):wpList P ops Q (o::rest) a w:=by
 unfold wpList;cases b with
 | false=>rw [if_neg (by rw [hw];decide)];exact h
 | true=>
  rw [if_pos hw];refine .inl ?_;unfold Oper.wp;rw [h1 rfl];exact h
theorem zd8 {g d:Nat} {p:Bool} (hg:o.guard=some (g,true)) (ho:(ops[g]?).bind (·.dst)=some d) (hv:a.tmps[d]?=some (.bool p)):Region.wanted o (yielded ops a.tmps)=p:=by
 unfold Region.wanted yielded;rw [hg];simp [ho,hv];try cases p <;> rfl
theorem zdx (hg:o.guard=none) (v:Value) (h1:(execOp a.eval o).run P w=.ok (.value v) w)
  (h:wpList P ops Q rest (a.put o.dst v) w):wpList P ops Q (o::rest) a w:=by
 have hw:Region.wanted o (yielded ops a.tmps)=true:=by unfold Region.wanted;rw [hg]
 exact zcz hw v (fun _=>h1) h
theorem zco (hg:o.guard=none) {p q:Bool} {c x y:Operand} (ho:o.op=.pick c x y) (hc:a.eval c=.bool p) (hx:a.eval x=(bif p then .bool q else undef)) (hy:a.eval y=.bool false)
  (h:wpList P ops Q rest (a.put o.dst (.bool (p && q))) w):wpList P ops Q (o::rest) a w:=by
 have hw:Region.wanted o (yielded ops a.tmps)=true:=by unfold Region.wanted;rw [hg]
 refine zcz hw (.bool (p && q)) (fun _=>?_) h;rw [execOp,ho];simp only [hc,hx,hy];cases p <;> rfl
end
end Cdk
namespace Go.Proofs.YtjjfphalcibjfaaGreatDoor
open Go.RowKit Cdk Scr
theorem znA (a b:Bs):(a !=b)=!decide (a=b):=by rw [Bool.eq_iff_iff,bne_iff_ne];simp
theorem zdo {F:Nat -> Prop} (a11:Option Addr) (n11 c11:Nat) (a12:Option Addr) (n12 c12:Nat) (a13:Option Addr) (n13 c13:Nat) (f:Fc) (a21:Option Addr) (n21 c21:Nat) (a22:Option Addr) (n22 c22:Nat) (a23:Option Addr) (n23 c23:Nat) (g:Fc) (w:World)
  (h1:FcAt F w ⟨.slice a11 n11 c11,.slice a12 n12 c12,.slice a13 n13 c13⟩ f) (h2:FcAt F w ⟨.slice a21 n21 c21,.slice a22 n22 c22,.slice a23 n23 c23⟩ g):
  Calls Tryz.prog 40 #[.agg (fcA a11 n11 c11 a12 n12 c12 a13 n13 c13 f),.agg (fcA a21 n21 c21 a22 n22 c22 a23 n23 c23 g)] w fun e w'=>e=.returned (.bool (decide (f=g)))/\Ext w w':=by
 obtain ⟨r,hr⟩:∃ r,r=decide (f=g):=⟨_,rfl⟩;rw [<- hr];have hT1:=h1.tp;have hT2:=h2.tp;have k2:=hid (fun W (hX:Ext w W)=>zgZ (F:=F) (.slice a12 n12 c12) (.slice a22 n22 c22) f.bl g.bl W (h1.bl.ext hX) (h2.bl.ext hX));have k3:=hid (fun W (hX:Ext w W)=>zcR (F:=F) (.slice a13 n13 c13) (.slice a23 n23 c23) f.lb g.lb W (h1.af.ext hX) (h2.af.ext hX));clear h1 h2;obtain ⟨n1,tm1,kd1,st1,lg1,rv1,bs1,ti1,au1,tp1,bl1,lb1,ed1,bk1,se1,tx1,nm1,pa1,cl1,un1⟩:=f;obtain ⟨n2,tm2,kd2,st2,lg2,rv2,bs2,ti2,au2,tp2,bl2,lb2,ed2,bk2,se2,tx2,nm2,pa2,cl2,un2⟩:=g;obtain ⟨til1,aft1,app1,den1⟩:=lb1;obtain ⟨til2,aft2,app2,den2⟩:=lb2;replace hr:r=(decide (n1=n2) && (decide (tm1=tm2) && (decide (kd1=kd2) && (decide (st1=st2) && (decide (lg1=lg2) && (decide (rv1=rv2) && (decide (bs1=bs2) && (decide (ti1=ti2) && (decide (au1=au2) && (decide (tp1=tp2) && (decide (bl1=bl2) && (decide ((⟨til1,aft1,app1,den1⟩:Lb)=⟨til2,aft2,app2,den2⟩) && (decide (ed1=ed2) && (decide (bk1=bk2) && (decide (se1=se2) && (decide (tx1=tx2) && (decide (nm1=nm2) && (decide (pa1=pa2) && (decide (cl1=cl2) && (decide (un1=un2))))))))))))))))))))):=by
  rw [hr,Bool.eq_iff_iff];simp only [Fc.mk.injEq,decide_eq_true_eq,Bool.and_eq_true]
 unfold lbC at k3;simp only at k2 k3 hT1 hT2;have e_n:=zam n1 n2;have e_tm:=zam tm1 tm2;have e_kd:=zam kd1 kd2;have e_st:=zam st1 st2;have e_lg:=zbO lg1 lg2;have e_rv:=zam rv1 rv2;have e_bs:=zam bs1 bs2;have e_ti:=zbO ti1 ti2;have e_au:=zbO au1 au2;have e_ed:=zam ed1 ed2;have e_bk:=zam bk1 bk2;have e_se:=zam se1 se2;have e_tx:=zbO tx1 tx2;have e_nm:=zbO nm1 nm2;have e_pa:=zam pa1 pa2;have e_cl:=zam cl1 cl2;have e_un:=zam un1 un2;generalize decide (n1=n2)=b_n at hr e_n;generalize decide (tm1=tm2)=b_tm at hr e_tm;generalize decide (kd1=kd2)=b_kd at hr e_kd;generalize decide (st1=st2)=b_st at hr e_st;generalize decide (lg1=lg2)=b_lg at hr e_lg;generalize decide (rv1=rv2)=b_rv at hr e_rv;generalize decide (bs1=bs2)=b_bs at hr e_bs;generalize decide (ti1=ti2)=b_ti at hr e_ti;generalize decide (au1=au2)=b_au at hr e_au;generalize decide (ed1=ed2)=b_ed at hr e_ed;generalize decide (bk1=bk2)=b_bk at hr e_bk;generalize decide (se1=se2)=b_se at hr e_se;generalize decide (tx1=tx2)=b_tx at hr e_tx;generalize decide (nm1=nm2)=b_nm at hr e_nm;generalize decide (pa1=pa2)=b_pa at hr e_pa;generalize decide (cl1=cl2)=b_cl at hr e_cl;generalize decide (un1=un2)=b_un at hr e_un;generalize decide (bl1=bl2)=b_bl at hr k2;generalize decide ((⟨til1,aft1,app1,den1⟩:Lb)=⟨til2,aft2,app2,den2⟩)=b_lb at hr k3;obtain ⟨q,hq⟩:∃ q,q=(b_bl && (b_lb && ((b_n && (b_tm && (b_kd && (b_st && (b_lg && (b_rv && (b_bs && (b_ti && (b_au))))))))) && (b_ed && (b_bk && (b_se && (b_tx && (b_nm && (b_pa && (b_cl && (b_un))))))))))):=⟨_,rfl⟩;replace hr:r=(decide (tp1=tp2) && q):=by
  rw [hr,hq];generalize decide (tp1=tp2)=b_tp;ac_rfl
 have hn0:=hT1.len;have z1:n11=tp1.length:=by obtain ⟨_,_,z⟩:=hT1.slice;injection z
 have z2:n21=tp2.length:=by obtain ⟨_,_,z⟩:=hT2.slice;injection z
 rw [<- z1] at hn0;have hne:((n11:Int) !=(n21:Int))=!decide (n11=n21):=by rw [Bool.eq_iff_iff,bne_iff_ne];simp;omega
 replace z1:=hid z1;replace z2:=hid z2;replace hq:=hid hq;replace hT1:=hid hT1;replace hT2:=hid hT2;obtain ⟨hx,hA,hB,-⟩:=zaY w #[.int .i64 n1,.int .i64 tm1,.int .i64 kd1,.int .i64 st1,.string ⟨lg1.toArray⟩,.int .i64 rv1,.int .i64 bs1,.string ⟨ti1.toArray⟩,.string ⟨au1.toArray⟩,.slice a11 n11 c11,.slice a12 n12 c12,.int .i64 til1,.slice a13 n13 c13,.int .i64 app1,.int .i64 den1,.int .i64 ed1,.int .i64 bk1,.int .i64 se1,.string ⟨tx1.toArray⟩,.string ⟨nm1.toArray⟩,.int .i64 pa1,.int .i64 cl1,.int .i64 un1] #[.int .i64 n2,.int .i64 tm2,.int .i64 kd2,.int .i64 st2,.string ⟨lg2.toArray⟩,.int .i64 rv2,.int .i64 bs2,.string ⟨ti2.toArray⟩,.string ⟨au2.toArray⟩,.slice a21 n21 c21,.slice a22 n22 c22,.int .i64 til2,.slice a23 n23 c23,.int .i64 app2,.int .i64 den2,.int .i64 ed2,.int .i64 bk2,.int .i64 se2,.string ⟨tx2.toArray⟩,.string ⟨nm2.toArray⟩,.int .i64 pa2,.int .i64 cl2,.int .i64 un2] 28 28;replace hx:=hid hx;replace hr:=hid hr;unfold fcA;simp only;go_enter Tryz.func40,Tryz.ntmps40;go_upto_region 1 with (fail)
 generalize ((w.alloc (.cells #[.int .i64 n1,.int .i64 tm1,.int .i64 kd1,.int .i64 st1,.string ⟨lg1.toArray⟩,.int .i64 rv1,.int .i64 bs1,.string ⟨ti1.toArray⟩,.string ⟨au1.toArray⟩,.slice a11 n11 c11,.slice a12 n12 c12,.int .i64 til1,.slice a13 n13 c13,.int .i64 app1,.int .i64 den1,.int .i64 ed1,.int .i64 bk1,.int .i64 se1,.string ⟨tx1.toArray⟩,.string ⟨nm1.toArray⟩,.int .i64 pa1,.int .i64 cl1,.int .i64 un1] 28)).alloc (.cells #[.int .i64 n2,.int .i64 tm2,.int .i64 kd2,.int .i64 st2,.string ⟨lg2.toArray⟩,.int .i64 rv2,.int .i64 bs2,.string ⟨ti2.toArray⟩,.string ⟨au2.toArray⟩,.slice a21 n21 c21,.slice a22 n22 c22,.int .i64 til2,.slice a23 n23 c23,.int .i64 app2,.int .i64 den2,.int .i64 ed2,.int .i64 bk2,.int .i64 se2,.string ⟨tx2.toArray⟩,.string ⟨nm2.toArray⟩,.int .i64 pa2,.int .i64 cl2,.int .i64 un2] 28))=w1 at hx hA hB ⊢;obtain ⟨Q,hQ⟩:∃ Q,Q=w.heap.size+1:=⟨_,rfl⟩;rw [<- hQ] at hB ⊢;replace hQ:=hid hQ;generalize w.heap.size=R at hA hB ⊢;replace hA:=hid hA;replace hB:=hid hB;have hE1:Hid ((n1==n2)=b_n/\(tm1==tm2)=b_tm/\(kd1==kd2)=b_kd/\(st1==st2)=b_st/\(lg1==lg2)=b_lg/\(rv1==rv2)=b_rv/\(bs1==bs2)=b_bs/\(ti1==ti2)=b_ti/\(au1==au2)=b_au):=hid ⟨e_n,e_tm,e_kd,e_st,e_lg,e_rv,e_bs,e_ti,e_au⟩;have hE2:Hid ((ed1==ed2)=b_ed/\(bk1==bk2)=b_bk/\(se1==se2)=b_se/\(tx1==tx2)=b_tx/\(nm1==nm2)=b_nm/\(pa1==pa2)=b_pa/\(cl1==cl2)=b_cl/\(un1==un2)=b_un):=hid ⟨e_ed,e_bk,e_se,e_tx,e_nm,e_pa,e_cl,e_un⟩;clear e_n e_tm e_kd e_st e_lg e_rv e_bs e_ti e_au e_ed e_bk e_se e_tx e_nm e_pa e_cl e_un;have p_tp0:w1.cell? ⟨R,9,none⟩=some (.slice a11 n11 c11):=zaa hA.out 9;have p_tp1:w1.cell? ⟨Q,9,none⟩=some (.slice a21 n21 c21):=zaa hB.out 9;cases hnm:decide (n11=n21) with
 | false=>
  rw [hnm] at hne
  have hrf:Hid (r=false):=hid (by
   rw [hr.out,Bool.and_eq_false_iff];left;rw [decide_eq_false_iff_not];intro e;rw [decide_eq_false_iff_not] at hnm
   exact hnm (by rw [z1.out,z2.out,e]))
  replace hnm:=hid hnm;go_wp2_with fail
  go_ret;exact ⟨by rw [hrf.out];rfl,hx.out⟩
 | true=>
 rw [hnm] at hne;obtain rfl:n11=n21:=by simpa using hnm
 clear hnm;replace hr:r=(decide (tp1.drop 0=tp2.drop 0) && q):=by rw [hr.out];simp
 replace hr:=hid hr;go_wp2_with fail
 clear p_tp0 p_tp1;go_loopg [5] n11 (fun g i wr=>∃ j:Nat,j+g=n11/\i=.int .i64 j/\Ext w1 wr/\r=(decide (tp1.drop j=tp2.drop j) && q))
 case atStart=>exact ⟨0,by omega,rfl,Mod.refl _ _,hr.out⟩
 case round=>
  clear hne hr;obtain ⟨j,hj,rfl,hx',hrj⟩:=hrel;replace hj:=hid hj;replace hA:=hid (hx'.at hA.out (fun h=>h));replace hB:=hid (hx'.at hB.out (fun h=>h));replace hx:=hid (hx.out.trans hx');replace hx':=hid hx';have p_tp0:wr.cell? ⟨R,9,none⟩=some (.slice a11 n11 c11):=zaa hA.out 9;have p_tp1:wr.cell? ⟨Q,9,none⟩=some (.slice a21 n11 c21):=zaa hB.out 9
  by_cases hlt:j < n11
  ·have hdi:(j:Int) < (n11:Int):=by omega
   have hd:decide ((j:Int) < (n11:Int))=true:=decide_eq_true hdi;have hjl1:j < tp1.length:=by have:=z1.out;omega
   have hjl2:j < tp2.length:=by have:=z2.out;omega
   obtain ⟨b1,o1,rfl,g1⟩:=zcs (hT1.out.ext hx.out) hjl1;obtain ⟨b2,o2,rfl,g2⟩:=zcs (hT2.out.ext hx.out) hjl2;rw [zb4 hjl1 hjl2] at hrj;generalize tp1[j]=x at g1 hrj;generalize tp2[j]=y at g2 hrj;have hxy:=znA x y;have hxe:=zbO x y;generalize decide (x=y)=p at hxy hxe hrj;generalize hrest:decide (tp1.drop (j+1)=tp2.drop (j+1))=rest at hrj;replace hrj:=hid hrj;replace hrest:=hid hrest;cases p with
   | false=>
    go_wp2_with fail
    go_quiet (fail)
    go_wp2_with fail
    go_ret;exact ⟨by rw [hrj.out];rfl,hx.out.ofDrewN _⟩
   | true=>
    go_wp2_with fail
    go_quiet (fail)
    go_wp2_with fail
    go_roundg (gk - 1)
    case measure=>have:=hj.out;omega
    case rel=>exact ⟨j+1,by have:=hj.out;omega,by go_num,hx'.out.ofDrewN _,by rw [hrj.out,hrest.out,Bool.true_and]⟩
  ·obtain rfl:j=n11:=by have:=hj.out;omega
   have hdi:¬ (j:Int) < (j:Int):=by omega
   have hd:decide ((j:Int) < (j:Int))=false:=decide_eq_false hdi;rw [List.drop_eq_nil_of_le (by have:=z1.out;omega),List.drop_eq_nil_of_le (by have:=z2.out;omega)] at hrj;replace hrj:r=q:=by rw [hrj];simp
   rw [hq.out] at hrj;replace hrj:=hid hrj;clear hx' hq hT1 hT2 z1 z2;have p_bl0:wr.cell? ⟨R,10,none⟩=some (.slice a12 n12 c12):=zaa hA.out 10;have p_bl1:wr.cell? ⟨Q,10,none⟩=some (.slice a22 n22 c22):=zaa hB.out 10;go_wp2_with fail
   refine (k2.out _ hx.out).mono ?_;rintro e w3 ⟨rfl,hx3⟩;replace hA:=hx3.at hA.out (fun h=>h);replace hB:=hx3.at hB.out (fun h=>h);replace hx:=hid (hx.out.trans hx3);clear hx3 k2 p_bl0 p_bl1 p_tp0 p_tp1;replace hA:=hid hA;replace hB:=hid hB;have p_til0:w3.cell? ⟨R,11,none⟩=some (.int .i64 til1):=zaa hA.out 11;have p_til1:w3.cell? ⟨Q,11,none⟩=some (.int .i64 til2):=zaa hB.out 11;have p_aft0:w3.cell? ⟨R,12,none⟩=some (.slice a13 n13 c13):=zaa hA.out 12;have p_aft1:w3.cell? ⟨Q,12,none⟩=some (.slice a23 n23 c23):=zaa hB.out 12;have p_app0:w3.cell? ⟨R,13,none⟩=some (.int .i64 app1):=zaa hA.out 13;have p_app1:w3.cell? ⟨Q,13,none⟩=some (.int .i64 app2):=zaa hB.out 13;have p_den0:w3.cell? ⟨R,14,none⟩=some (.int .i64 den1):=zaa hA.out 14;have p_den1:w3.cell? ⟨Q,14,none⟩=some (.int .i64 den2):=zaa hB.out 14;go_wp2_with fail
   refine (k3.out _ hx.out).mono ?_;rintro e w4 ⟨rfl,hx4⟩;replace hA:=hx4.at hA.out (fun h=>h);replace hB:=hx4.at hB.out (fun h=>h);replace hx:=hid (hx.out.trans hx4);clear hx4 k3 p_til0 p_til1 p_aft0 p_aft1 p_app0 p_app1 p_den0 p_den1 hd hdi hlt hj;replace hA:=hid hA;replace hB:=hid hB;go_upto_region 10 with (fail)
   have p_n0:w4.cell? ⟨R,0,none⟩=some (.int .i64 n1):=zaa hA.out 0;have p_n1:w4.cell? ⟨Q,0,none⟩=some (.int .i64 n2):=zaa hB.out 0;have p_tm0:w4.cell? ⟨R,1,none⟩=some (.int .i64 tm1):=zaa hA.out 1;have p_tm1:w4.cell? ⟨Q,1,none⟩=some (.int .i64 tm2):=zaa hB.out 1;have p_kd0:w4.cell? ⟨R,2,none⟩=some (.int .i64 kd1):=zaa hA.out 2;have p_kd1:w4.cell? ⟨Q,2,none⟩=some (.int .i64 kd2):=zaa hB.out 2;have p_st0:w4.cell? ⟨R,3,none⟩=some (.int .i64 st1):=zaa hA.out 3;have p_st1:w4.cell? ⟨Q,3,none⟩=some (.int .i64 st2):=zaa hB.out 3;have p_lg0:w4.cell? ⟨R,4,none⟩=some (.string ⟨lg1.toArray⟩):=zaa hA.out 4;have p_lg1:w4.cell? ⟨Q,4,none⟩=some (.string ⟨lg2.toArray⟩):=zaa hB.out 4;have p_rv0:w4.cell? ⟨R,5,none⟩=some (.int .i64 rv1):=zaa hA.out 5;have p_rv1:w4.cell? ⟨Q,5,none⟩=some (.int .i64 rv2):=zaa hB.out 5;have p_bs0:w4.cell? ⟨R,6,none⟩=some (.int .i64 bs1):=zaa hA.out 6;have p_bs1:w4.cell? ⟨Q,6,none⟩=some (.int .i64 bs2):=zaa hB.out 6;have p_ti0:w4.cell? ⟨R,7,none⟩=some (.string ⟨ti1.toArray⟩):=zaa hA.out 7;have p_ti1:w4.cell? ⟨Q,7,none⟩=some (.string ⟨ti2.toArray⟩):=zaa hB.out 7;have p_au0:w4.cell? ⟨R,8,none⟩=some (.string ⟨au1.toArray⟩):=zaa hA.out 8;have p_au1:w4.cell? ⟨Q,8,none⟩=some (.string ⟨au2.toArray⟩):=zaa hB.out 8;obtain ⟨e_n,e_tm,e_kd,e_st,e_lg,e_rv,e_bs,e_ti,e_au⟩:=hE1.out;refine za0 ?_;simp only [List.map_cons,List.map_nil,zcr]
   repeat (first
    | (refine zco (by rfl) (by rfl) (by rfl) (by rfl) (by rfl) ?_;simp only [Act.put,sA,sZ,sS])
    | (refine zcz (zd8 (by rfl) (by rfl) (by rfl)) ?_ (fun hb=>?_) ?_;rotate_left;(first | (go_simp;with_reducible rfl) | (go_simp;simp only [hb,cond_true];with_reducible rfl) | (go_simp;simp only [hb,cond_true];go_simp;with_reducible rfl));simp only [Act.put,sA,sZ,sS])
    | (refine zdx (by rfl) ?_ ?_ ?_;rotate_left;(go_simp;try with_reducible rfl);simp only [Act.put,sA,sZ,sS]))
   clear p_n0 p_n1 p_tm0 p_tm1 p_kd0 p_kd1 p_st0 p_st1 p_lg0 p_lg1 p_rv0 p_rv1 p_bs0 p_bs1 p_ti0 p_ti1 p_au0 p_au1;clear e_n e_tm e_kd e_st e_lg e_rv e_bs e_ti e_au;go_upto_region 11 with (fail)
   have p_ed0:w4.cell? ⟨R,15,none⟩=some (.int .i64 ed1):=zaa hA.out 15;have p_ed1:w4.cell? ⟨Q,15,none⟩=some (.int .i64 ed2):=zaa hB.out 15;have p_bk0:w4.cell? ⟨R,16,none⟩=some (.int .i64 bk1):=zaa hA.out 16;have p_bk1:w4.cell? ⟨Q,16,none⟩=some (.int .i64 bk2):=zaa hB.out 16;have p_se0:w4.cell? ⟨R,17,none⟩=some (.int .i64 se1):=zaa hA.out 17;have p_se1:w4.cell? ⟨Q,17,none⟩=some (.int .i64 se2):=zaa hB.out 17;have p_tx0:w4.cell? ⟨R,18,none⟩=some (.string ⟨tx1.toArray⟩):=zaa hA.out 18;have p_tx1:w4.cell? ⟨Q,18,none⟩=some (.string ⟨tx2.toArray⟩):=zaa hB.out 18;have p_nm0:w4.cell? ⟨R,19,none⟩=some (.string ⟨nm1.toArray⟩):=zaa hA.out 19;have p_nm1:w4.cell? ⟨Q,19,none⟩=some (.string ⟨nm2.toArray⟩):=zaa hB.out 19;have p_pa0:w4.cell? ⟨R,20,none⟩=some (.int .i64 pa1):=zaa hA.out 20;have p_pa1:w4.cell? ⟨Q,20,none⟩=some (.int .i64 pa2):=zaa hB.out 20;have p_cl0:w4.cell? ⟨R,21,none⟩=some (.int .i64 cl1):=zaa hA.out 21;have p_cl1:w4.cell? ⟨Q,21,none⟩=some (.int .i64 cl2):=zaa hB.out 21;have p_un0:w4.cell? ⟨R,22,none⟩=some (.int .i64 un1):=zaa hA.out 22;have p_un1:w4.cell? ⟨Q,22,none⟩=some (.int .i64 un2):=zaa hB.out 22;obtain ⟨e_ed,e_bk,e_se,e_tx,e_nm,e_pa,e_cl,e_un⟩:=hE2.out;refine za0 ?_;simp only [List.map_cons,List.map_nil,zcr]
   repeat (first
    | (refine zco (by rfl) (by rfl) (by rfl) (by rfl) (by rfl) ?_;simp only [Act.put,sA,sZ,sS])
    | (refine zcz (zd8 (by rfl) (by rfl) (by rfl)) ?_ (fun hb=>?_) ?_;rotate_left;(first | (go_simp;with_reducible rfl) | (go_simp;simp only [hb,cond_true];with_reducible rfl) | (go_simp;simp only [hb,cond_true];go_simp;with_reducible rfl));simp only [Act.put,sA,sZ,sS])
    | (refine zdx (by rfl) ?_ ?_ ?_;rotate_left;(go_simp;try with_reducible rfl);simp only [Act.put,sA,sZ,sS]))
   clear p_ed0 p_ed1 p_bk0 p_bk1 p_se0 p_se1 p_tx0 p_tx1 p_nm0 p_nm1 p_pa0 p_pa1 p_cl0 p_cl1 p_un0 p_un1;clear e_ed e_bk e_se e_tx e_nm e_pa e_cl e_un;go_upto_region 12 with (fail)
   refine za0 ?_;simp only [List.map_cons,List.map_nil,zcr]
   repeat (first
    | (refine zco (by rfl) (by rfl) (by rfl) (by rfl) (by rfl) ?_;simp only [Act.put,sA,sZ,sS])
    | (refine zcz (zd8 (by rfl) (by rfl) (by rfl)) ?_ (fun hb=>?_) ?_;rotate_left;(first | (go_simp;with_reducible rfl) | (go_simp;simp only [hb,cond_true];with_reducible rfl) | (go_simp;simp only [hb,cond_true];go_simp;with_reducible rfl));simp only [Act.put,sA,sZ,sS])
    | (refine zdx (by rfl) ?_ ?_ ?_;rotate_left;(go_simp;try with_reducible rfl);simp only [Act.put,sA,sZ,sS]))
   go_wp2_with fail
   go_ret;exact ⟨by rw [hrj.out];simp [Bool.and_assoc],hx.out⟩
end Go.Proofs.YtjjfphalcibjfaaGreatDoor
