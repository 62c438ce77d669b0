import Derived.Test.YtjjfphalcibjfaaGreatDoorB10
import Derived.Test.YtjjfphalcibjfaaGreatDoorH2
import Derived.Test.YtjjfphalcibjfaaGreatDoorH6
set_option maxRecDepth 100000
set_option maxHeartbeats 16000000
namespace Go.Proofs.YtjjfphalcibjfaaGreatDoor
open Go.Shelf Go.RowKit Cdk Scr
def AtA (w0:World) (B A:Nat) (a:Ac) (w:World):Prop:=∃ (a1:Option Addr) (n1 c1:Nat) (a2:Option Addr) (n2 c2:Nat) (a3:Option Addr) (n3 c3:Nat) (a4:Option Addr) (n4 c4:Nat) (a5:Option Addr) (n5 c5:Nat),w.heap[A]?=some (.cells (acA a1 n1 c1 a2 n2 c2 a3 n3 c3 a4 n4 c4 a5 n5 c5 a) 32 (0,0))/\AcAt (fun k=>B<=k/\k ≠ A/\k < w.heap.size) w ⟨⟨.slice a1 n1 c1,.slice a2 n2 c2,.slice a3 n3 c3⟩,.slice a4 n4 c4,.slice a5 n5 c5⟩ a/\Mod (Eq A) w0 w
theorem znO {w w':World} {e:Ending} {D:Option Fc} (h:FoE w w' e D):∃ (a1:Option Addr) (n1 c1:Nat) (a2:Option Addr) (n2 c2:Nat) (a3:Option Addr) (n3 c3:Nat) (f:Fc) (b:Bool),e=.returned (.tuple #[.agg (fcA a1 n1 c1 a2 n2 c2 a3 n3 c3 f),.bool b])/\FcAt (fun k=>w.heap.size<=k/\k < w'.heap.size) w' ⟨.slice a1 n1 c1,.slice a2 n2 c2,.slice a3 n3 c3⟩ f/\D=if b then some f else none:=by
 cases D with
 | some f=>obtain ⟨a1,n1,c1,a2,n2,c2,a3,n3,c3,rfl,hf⟩:=h;exact ⟨a1,n1,c1,a2,n2,c2,a3,n3,c3,f,true,rfl,hf,rfl⟩
 | none=>exact ⟨none,0,0,none,0,0,none,0,0,Fc.zero,false,h,⟨zac.nil _ _ _,⟨[],rfl,zac.nil _ _ _,fun p hp=>by cases hp⟩,zac.nil _ _ _⟩,rfl⟩
theorem znI {e:Ending} {s:Bs} (h:MsE e (zkl s)):∃ er:Int,e=.returned (.tuple #[.agg #[.int .i64 (zdy s).kd,.int .i64 (zdy s).pa,.int .i64 (zdy s).sq,.int .i64 (zdy s).st,.int .i64 (zdy s).ba,.int .i64 (zdy s).ve,.string ⟨(zdy s).da.toArray⟩],.int .i64 er]):=by
 unfold zdy;cases hd:zkl s with
 | ok m=>rw [hd] at h;exact ⟨0,h⟩
 | error c=>rw [hd] at h;obtain ⟨c,-,h⟩:=h;exact ⟨c,h⟩
theorem znK (t:Bs) (ht:t.length<=1000000) (w:World):Calls Tryz.prog 52 #[.string ⟨t.toArray⟩] w (PlP w t):=by
 obtain ⟨D,hD⟩:∃ D,D=zbd t:=⟨_,rfl⟩;have hPl:Hid (∀ e w',PlP w t e w'=(Ext w w'/\PlE w w' e D)):=Y (fun e w'=>by rw [hD];rfl);obtain ⟨U,hU⟩:∃ U,U=w.heap.size:=⟨_,rfl⟩;have hwU:w.heap.size<=U:=Nat.le_of_eq hU.symm;have hx0:=Y (Mod.alloc (Mod.refl (fun _=>False) w) (.cells zA9 32));have uz:=Y (heap_alloc_new w (.cells zA9 32));have hsz0:U+1<=(w.alloc (.cells zA9 32)).heap.size:=by rw [World.size_alloc,hU];exact Nat.le_refl _
 rw [<- hU] at uz;obtain ⟨x,hx⟩:∃ x,x=(zby 32 t).1:=⟨_,rfl⟩;have r1:=Y (fun W=>zcD t 32 99 100 rfl ht (by decide) W);have hne1:=zhP 32 99 t;have hhd1:=zdI 32 98 t;have hle1:=zcs 32 99 t;rw [<- hx] at hhd1;generalize zat 32 99 t=L1 at r1 hne1 hhd1 hle1;have hl11:1<=L1.length:=List.length_pos_iff.2 hne1;have hx1:L1[0]=x:=by rw [<- hhd1];rcases L1 with _ | ⟨y,r⟩ <;> first | rfl | simp at hl11
 have hxl:x.length<=1000000:=by rw [<- hx1];exact Nat.le_trans (hle1 _ (List.getElem_mem _)) ht
 obtain ⟨c,hc⟩:∃ c,c=zjV x:=⟨_,rfl⟩;have hcm:=Y (fun W=>zlM x W);rw [<- hc] at hcm;have hc10:c<=10:=by rw [hc];exact zod x
 obtain ⟨M,hM⟩:∃ M,M=(c - 1)+1:=⟨_,rfl⟩;have hmx:max (1:Int) (c:Int)=(M:Int):=by omega
 have r2:=Y (fun W=>zcD t 32 (c - 1) M hM ht (by omega) W);have hle2:=zcs 32 (c - 1) t;have hne2:=zhP 32 (c - 1) t;have hno:=@zpF t;have hln:=@zor t c;have hcd:=@znx t c;have hhd:=@zlC t c;rw [<- hx,<- hD] at hno;rw [<- hx,<- hD] at hln hcd;rw [<- hx] at hhd;generalize zat 32 (c - 1) t=WL at r2 hle2 hne2 hln hcd hhd;have hno2:=Y hno;have hln2:=Y (hln hc.symm);have hcd2:=Y (hcd hc.symm);have hhd2:=Y (fun h0 hl {j} {f}=>@hhd hc.symm h0 hl j f);clear hno hln hcd hhd hhd1;obtain ⟨n1,hn1⟩:∃ n,n=L1.length:=⟨_,rfl⟩;have hn1i:(0:Int) < (n1:Int):=by omega
 replace hle1:=Y hle1;replace hle2:=Y hle2;replace hx1:=Y hx1;replace hx:=Y hx;replace hc:=Y hc;replace hD:=Y hD;replace hU:=Y hU;replace hM:=Y hM;replace hn1:=Y hn1;replace hne1:=Y hne1;replace hne2:=Y hne2;replace hl11:=Y hl11;go_enter Tryz.func52,Tryz.ntmps52;go_upto_region 1 with fail
 generalize (w.alloc _)=w0 at hx0 uz hsz0 ⊢;try rw [<- hU.o]
 go_wp2_with fail
 refine (r1.o _).mono ?_;rintro e w1 ⟨ao,cap,rfl,hs1,hxn⟩;obtain ⟨-,b1,f1,rfl,-,hc1⟩:=zeg hs1 hl11.o;have p0:=hc1 0 hl11.o;rw [hx1.o,Nat.add_zero] at p0;replace uz:=Y (hxn.at uz.o id);replace hx0:=Y (hx0.o.trans hxn);have hsz1:U+1<=w1.heap.size:=Nat.le_trans hsz0 hxn.size;rw [<- hn1.o];clear r1 hs1 hc1 hxn hsz0;go_wp2_with fail
 refine (hcm.o _).mono ?_;rintro e w' ⟨rfl,rfl⟩;clear p0;go_wp2_with fail
 refine (r2.o _).mono ?_;rintro e w2 ⟨ao2,cap2,rfl,hs2,hxn⟩;replace uz:=Y (hxn.at uz.o id);replace hx0:=Y (hx0.o.trans hxn);have hsz2:U+1<=w2.heap.size:=Nat.le_trans hsz1 hxn.size;replace hs2:=Y (hs2.mono (F':=fun k=>U+1<=k/\k < w2.heap.size) (fun k hk=>⟨by omega,hk.2⟩));clear r2 hxn hsz1 hmx hn1i;obtain ⟨n2,hn2⟩:∃ n,n=WL.length:=⟨_,rfl⟩;rw [<- hn2];replace hn2:=Y hn2;go_wp2_with fail
 refine (hcm.o _).mono ?_;rintro e w' ⟨rfl,rfl⟩
 by_cases hc0:c=0
 ·have hres:=Y (show D=none from hno2.o (by rw [<- hc.o];exact hc0))
  have hc0i:(c:Int)=0:=by omega
  have e1:((c:Int)==0)=true:=by rw [hc0i];rfl
  replace hc0:=Y hc0;go_wp2_with (refine zab rfl 32 _ _ rfl U _ _ 32 rfl rfl uz.o rfl (by kernel_rfl) rfl (fun WS HS=>?_))
  refine bodyPost_ret (zaf rfl _ _ U _ _ _ _ rfl HS.o.1 Tryz.underlying32 rfl (by kernel_rfl)) rfl ?_;rw [hPl.o,hres.o];exact ⟨zao (B:=U) hwU ((hx0.o.mono (T:=fun k=>U<=k) (fun _ h=>h.elim)).then HS.o.2 (fun k _ e=>by have:U=k:=e;omega)),rfl⟩
 have hc0i:¬ (c:Int)=0:=by omega
 have e1:((c:Int)==0)=false:=by rw [beq_eq_false_iff_ne];exact hc0i
 go_wp2_with fail
 refine (hcm.o _).mono ?_;rintro e w' ⟨rfl,rfl⟩;clear hcm
 by_cases hcl:n2=c
 rotate_left
 ·have hres:=Y (show D=none from hln2.o (by rw [<- hn2.o];exact hcl))
  have hci:¬ (n2:Int)=(c:Int):=by omega
  have e2:((n2:Int) !=(c:Int))=true:=by rw [bne_iff_ne];exact hci
  replace hcl:=Y hcl;go_wp2_with (refine zab rfl 32 _ _ rfl U _ _ 32 rfl rfl uz.o rfl (by kernel_rfl) rfl (fun WS HS=>?_))
  refine bodyPost_ret (zaf rfl _ _ U _ _ _ _ rfl HS.o.1 Tryz.underlying32 rfl (by kernel_rfl)) rfl ?_;rw [hPl.o,hres.o];exact ⟨zao (B:=U) hwU ((hx0.o.mono (T:=fun k=>U<=k) (fun _ h=>h.elim)).then HS.o.2 (fun k _ e=>by have:U=k:=e;omega)),rfl⟩
 subst hcl;have hres:=Y (hcd2.o hc0 hn2.o.symm);replace hhd2:=Y (fun (j:Nat) (f:Fm) (h:zbt (WL.headD []) 0 forms=some (j,f))=>hhd2.o hc0 hn2.o.symm h);have e2:((n2:Int) !=(n2:Int))=false:=by simp
 have hl1:1<=WL.length:=by have:=hn2.o;omega
 obtain ⟨-,bk,off,rfl,hFb,hcl⟩:=zeg hs2.o hl1;obtain ⟨m,hml,hmn,hm⟩:∃ m:Nat,m < n2/\min (1:Int) ((n2:Int) - 1)=(m:Int)/\Hid (m=if n2=1 then 0 else 1):=⟨if n2=1 then 0 else 1,by split <;> omega,by split <;> omega,Y rfl⟩;have hmw:m < WL.length:=hn2.o ▸ hml;have pm:=hcl m hmw;obtain ⟨xm,hxm⟩:∃ xm,xm=WL[m]'hmw:=⟨_,rfl⟩;rw [<- hxm] at pm;have nm:=Y (fun W=>zba xm (by rw [hxm];exact Nat.le_trans (hle2.o _ (List.getElem_mem _)) ht) W);obtain ⟨nv,hnv⟩:∃ nv,nv=zbu xm:=⟨_,rfl⟩;rw [<- hnv] at nm;have hLw:IntKind.i64.wrap ((n2:Int) - 1)=(n2:Int) - 1:=IntWalk.i64_in _ (by omega);have hmi:(m:Int) < (n2:Int):=by omega
 obtain ⟨XM,hXM⟩:∃ XM:ByteArray,XM=⟨xm.toArray⟩:=⟨_,rfl⟩;rw [<- hXM] at pm nm;replace hcl:=Y hcl;replace hxm:=Y hxm;replace hnv:=Y hnv;replace hXM:=Y hXM;replace hl1:=Y hl1;replace hc0:=Y hc0;clear hno2 hln2 hcd2;go_wp2_with fail
 refine (nm.o _).mono ?_;rintro e w' ⟨rfl,rfl⟩;clear pm nm hmn hLw e2 e1;have hxA:=Mod.alloc (Mod.refl (fun _=>False) w2) (.cells zA9 32);have az:=Y (heap_alloc_new w2 (.cells zA9 32));obtain ⟨A,hA⟩:∃ A,A=w2.heap.size:=⟨_,rfl⟩;rw [<- hA] at az;have hUA:U+1<=A:=by omega
 replace uz:=Y (hxA.at uz.o id);replace hx0:=Y (hx0.o.trans hxA);replace hcl:=Y (fun i (hi:i < WL.length)=>hxA.cell (hcl.o i hi) id);replace hs2:=Y ((hs2.o.ext hxA).mono (F':=fun k=>U+1<=k/\k < A) (fun k hk=>⟨hk.1,by omega⟩));replace hFb:=Y (show U+1<=bk/\bk < A by omega);have hszA:A+1<=(w2.alloc (.cells zA9 32)).heap.size:=by rw [World.size_alloc,hA];exact Nat.le_refl _
 clear hxA;go_upto_region 7 with fail
 generalize (w2.alloc _)=w3 at hx0 az uz hszA hcl hs2 ⊢;try rw [<- hA]
 replace hA:=Y hA;have hfo:=zi2 (some ⟨bk,off,none⟩) cap2 WL w3 hs2.o (fun k hk=>by omega) hl1.o (by have:=hn2.o;omega) (fun z hz=>Nat.le_trans (hle2.o z hz) ht) (fun j f h _=>(hhd2.o j f h).1);rw [<- hn2.o] at hfo;replace hfo:=Y hfo;go_wp2_with fail
 refine hfo.o.mono ?_;rintro e w4 ⟨hxn,hfe⟩;obtain ⟨a1,n1,c1,a2,m2,c2,a3,n3,c3,f,b,rfl,hfc,hfb⟩:=znO hfe;replace uz:=Y (hxn.at uz.o id);replace az:=Y (hxn.at az.o id);replace hx0:=Y (hx0.o.trans hxn);replace hcl:=Y (fun i (hi:i < WL.length)=>hxn.cell (hcl.o i hi) id);have hsz4:A+1<=w4.heap.size:=Nat.le_trans hszA hxn.size;replace hfc:=Y (hfc.mono (F':=fun k=>A+1<=k/\k < w4.heap.size) (fun k hk=>⟨by omega,hk.2⟩));replace hfb:=Y hfb;clear hfe hfo hxn hszA hs2;obtain ⟨FV,hFV⟩:∃ FV,FV=fcA a1 n1 c1 a2 m2 c2 a3 n3 c3 f:=⟨_,rfl⟩;have iF:=Y (show (Tryz.prog.info? 28).map (·.size)=some FV.size by rw [hFV];kernel_rfl);have sF:=Y (show FV.size=(zF9:Array Value).size by rw [hFV];rfl);have oF:=Y (show FV.toList.all (·.oneCell')=true by rw [hFV];rfl);rw [<- hFV];replace hFV:=Y hFV
 go_upto_if 46 with (refine zab rfl 28 _ _ rfl w4.heap.size _ FV 28 rfl rfl (heap_alloc_new w4 _) (by rw [sF.o]) iF.o oF.o (fun WS HS=>?_))
 have hX2:Ext w4 WS:=(((Mod.alloc (Mod.refl (fun _=>False) w4) (.cells zF9 28)).mono (T:=fun k=>w4.heap.size<=k) (fun _ h=>h.elim)).then HS.o.2 (fun k _ e=>by omega)).mono' (fun k h1 h2=>by omega);have hB:=Y HS.o.1;generalize w4.heap.size=B at hB ⊢;replace uz:=Y (hX2.at uz.o id);replace az:=Y (hX2.at az.o id);replace hx0:=Y (hx0.o.trans hX2);replace hcl:=Y (fun i (hi:i < WL.length)=>hX2.cell (hcl.o i hi) id);have hszS:A+1<=WS.heap.size:=Nat.le_trans hsz4 hX2.size;replace hfc:=Y ((hfc.o.ext hX2).mono (F':=fun k=>A+1<=k/\k < WS.heap.size) (fun k hk=>⟨hk.1,Nat.lt_of_lt_of_le hk.2 hX2.size⟩));clear hX2 HS hsz4 hsz2;go_cut [] from 13 to 121 (fun wx=>AtA WS (U+1) A (zmJ WL) wx)
 case first=>
  cases b
  case false=>
   have hpre:zmJ WL=Ac.zero:=by unfold zmJ;rw [hfb.o];rfl
   go_wp2_with fail
   go_meet
   rw [hpre];exact ⟨none,0,0,none,0,0,none,0,0,none,0,0,none,0,0,az.o,⟨⟨zac.nil _ _ _,⟨[],rfl,zac.nil _ _ _,fun p hp=>by cases hp⟩,zac.nil _ _ _⟩,zac.nil _ _ _,zac.nil _ _ _⟩,Mod.refl _ _⟩
  case true=>
   have hpre:zmJ WL={ Ac.zero with kd:=1,fc:=f }:=by unfold zmJ;rw [hfb.o];rfl
   have hB2:=hB.o;rw [hFV.o] at hB2;unfold fcA at hB2;replace hB2:=Y hB2;go_wp2_with (first | (refine zae (by rfl) 28 _ rfl B _ _ _ _ rfl hB2.o Tryz.underlying28 rfl (by kernel_rfl) ?_) | (refine zab rfl 32 _ _ rfl A _ _ 32 rfl rfl az.o rfl (by kernel_rfl) rfl (fun WT HT=>?_)))
   go_meet
   rw [hpre];have hsT:=HT.o.2.size;exact ⟨a1,n1,c1,a2,m2,c2,a3,n3,c3,none,0,0,none,0,0,HT.o.1,⟨(hfc.o.mod HT.o.2 (fun k hk e=>by have:A=k:=e;have:=hk.1;omega)).mono (fun k hk=>⟨by have:=hk.1;omega,by have:=hk.1;omega,Nat.lt_of_lt_of_le hk.2 hsT⟩),zac.nil _ _ _,zac.nil _ _ _⟩,HT.o.2⟩
 case rest=>
 clear hfc hfb hB iF sF oF hFV;obtain ⟨d1,e1,f1,d2,e2,f2,d3,e3,f3,d4,e4,f4,d5,e5,f5,hAa,hAt,hM1⟩:=hcut;have hbA:A ≠ bk:=by have:=hFb.o.2;omega
 replace uz:=Y (hM1.at uz.o (fun e=>by have:A=U:=e;omega));replace hcl:=Y (fun i (hi:i < WL.length)=>hM1.cell (hcl.o i hi) (fun e=>hbA e));have hx1':=Y ((hx0.o.mono (T:=fun k=>U<=k) (fun _ h=>h.elim)).then hM1 (fun k _ e=>by have:A=k:=e;omega));have hsz5:A+1<=wc.heap.size:=Nat.le_trans hszS hM1.size;replace hAa:=Y hAa;replace hAt:=Y hAt;clear az hx0 hM1 hszS;obtain ⟨y,hy⟩:∃ y,y=WL.headD []:=⟨_,rfl⟩;have hy0:WL[0]'hl1.o=y:=by
  have h:=hl1.o;rw [hy];cases WL with
  | nil=>simp at h
  | cons z r=>rfl
 obtain ⟨T,hT⟩:∃ T:ByteArray,T=⟨y.toArray⟩:=⟨_,rfl⟩;have hTl:T.toList=y:=by rw [hT,ByteArray.toList_eq]
 have p0:=hcl.o 0 hl1.o;rw [hy0,<- hT,Nat.add_zero] at p0;replace hT:=Y hT;replace hTl:=Y hTl;replace hy:=Y hy;replace hy0:=Y hy0
 go_upto_block 0 with (fail)
 clear p0;go_cut [] from 13 to 121 (fun wx=>AtA wc (U+1) A (zcf WL) wx)
 case first=>
  by_cases g0:y=Scr.fTick
  ·have pb:(T.toList==[116,105,99,107])=true:=by rw [hTl.o,g0];rfl
   have hcn:n2=2:=by rw [hn2.o];exact (hhd2.o 9 _ (by rw [<- hy.o,g0];rfl)).1
   subst hcn;obtain ⟨x1,rfl⟩:∃ x1,WL=y::[x1]:=by
    have h0:=hy.o;have hn:=hn2.o;rcases WL with _ | ⟨y0,_ | ⟨y1,_ | ⟨y2,r⟩⟩⟩ <;> simp at hn
    simp only [List.headD_cons] at h0;subst h0;exact ⟨_,rfl⟩
   have hcand:zcf (y::[x1])={ Ac.zero with kd:=2,n:=nv }:=by
    rw [hnv.o];have hm1:m=1:=hm.o;subst hm1;rw [hxm.o];rw [g0]
    rfl
   replace g0:=Y g0;go_wp2_with (refine zab rfl 32 _ _ rfl A _ _ 32 rfl rfl hAa.o rfl (by kernel_rfl) rfl (fun WT HT=>?_))
   go_meet
   rw [hcand];exact ⟨none,0,0,none,0,0,none,0,0,none,0,0,none,0,0,HT.o.1,⟨⟨zac.nil _ _ _,⟨[],rfl,zac.nil _ _ _,fun p hp=>by cases hp⟩,zac.nil _ _ _⟩,zac.nil _ _ _,zac.nil _ _ _⟩,HT.o.2⟩
  have mb0:(T.toList==[116,105,99,107])=false:=by rw [hTl.o,beq_eq_false_iff_ne];exact g0
  replace g0:=Y g0
  by_cases g1:y=Scr.fClock
  ·have pb:(T.toList==[99,108,111,99,107])=true:=by rw [hTl.o,g1];rfl
   have hcn:n2=2:=by rw [hn2.o];exact (hhd2.o 10 _ (by rw [<- hy.o,g1];rfl)).1
   subst hcn;obtain ⟨x1,rfl⟩:∃ x1,WL=y::[x1]:=by
    have h0:=hy.o;have hn:=hn2.o;rcases WL with _ | ⟨y0,_ | ⟨y1,_ | ⟨y2,r⟩⟩⟩ <;> simp at hn
    simp only [List.headD_cons] at h0;subst h0;exact ⟨_,rfl⟩
   have hcand:zcf (y::[x1])={ Ac.zero with kd:=3,n:=nv }:=by
    rw [hnv.o];have hm1:m=1:=hm.o;subst hm1;rw [hxm.o];rw [g1]
    rfl
   replace g1:=Y g1;go_wp2_with (refine zab rfl 32 _ _ rfl A _ _ 32 rfl rfl hAa.o rfl (by kernel_rfl) rfl (fun WT HT=>?_))
   go_meet
   rw [hcand];exact ⟨none,0,0,none,0,0,none,0,0,none,0,0,none,0,0,HT.o.1,⟨⟨zac.nil _ _ _,⟨[],rfl,zac.nil _ _ _,fun p hp=>by cases hp⟩,zac.nil _ _ _⟩,zac.nil _ _ _,zac.nil _ _ _⟩,HT.o.2⟩
  have mb1:(T.toList==[99,108,111,99,107])=false:=by rw [hTl.o,beq_eq_false_iff_ne];exact g1
  replace g1:=Y g1
  by_cases g2:y=Scr.fFates
  ·have pb:(T.toList==[102,97,116,101,115])=true:=by rw [hTl.o,g2];rfl
   have hcn:n2=2:=by rw [hn2.o];exact (hhd2.o 12 _ (by rw [<- hy.o,g2];rfl)).1
   subst hcn;obtain ⟨x1,rfl⟩:∃ x1,WL=y::[x1]:=by
    have h0:=hy.o;have hn:=hn2.o;rcases WL with _ | ⟨y0,_ | ⟨y1,_ | ⟨y2,r⟩⟩⟩ <;> simp at hn
    simp only [List.headD_cons] at h0;subst h0;exact ⟨_,rfl⟩
   have hcand:zcf (y::[x1])={ Ac.zero with kd:=4,fa:=zep x1 }:=by
    rw [g2]
    rfl
   replace g2:=Y g2;have p1:wc.cell? ⟨bk,off+1,none⟩=some (.string ⟨x1.toArray⟩):=hcl.o 1 (by simp);have hc1:=Y (fun W=>zdC x1 (Nat.le_trans (hle2.o x1 (by simp)) ht) W);generalize zep x1=L4 at hc1 hcand;go_wp2_with fail
   refine (hc1.o _).mono ?_;rintro e wn ⟨a4,c4,rfl,hI,hxn⟩;replace hAa:=Y (hxn.at hAa.o id);have hI2:=Y (hI.mono (F':=fun k=>A+1<=k/\k < wn.heap.size) (fun k hk=>⟨Nat.le_trans hsz5 hk.1,hk.2⟩));have hxn2:=Y hxn;clear hI hxn p1 hc1;go_wp2_with (refine zab rfl 32 _ _ rfl A _ _ 32 rfl rfl hAa.o rfl (by kernel_rfl) rfl (fun WT HT=>?_))
   have hsT:=HT.o.2.size
   go_meet
   rw [hcand];exact ⟨none,0,0,none,0,0,none,0,0,a4,_,c4,none,0,0,HT.o.1,⟨⟨zac.nil _ _ _,⟨[],rfl,zac.nil _ _ _,fun p hp=>by cases hp⟩,zac.nil _ _ _⟩,(hI2.o.mod HT.o.2 (fun k hk e=>by have:A=k:=e;have:=hk.1;omega)).mono (fun k hk=>⟨by have:=hk.1;omega,by have:=hk.1;omega,by have:=hk.2;omega⟩),zac.nil _ _ _⟩,(hxn2.o.mono (T:=Eq A) (fun _ h=>h.elim)).trans HT.o.2⟩
  have mb2:(T.toList==[102,97,116,101,115])=false:=by rw [hTl.o,beq_eq_false_iff_ne];exact g2
  replace g2:=Y g2
  by_cases g3:y=Scr.fCrash
  ·have pb:(T.toList==[99,114,97,115,104])=true:=by rw [hTl.o,g3];rfl
   have hcn:n2=3:=by rw [hn2.o];exact (hhd2.o 13 _ (by rw [<- hy.o,g3];rfl)).1
   subst hcn;obtain ⟨x1,x2,rfl⟩:∃ x1 x2,WL=y::[x1,x2]:=by
    have h0:=hy.o;have hn:=hn2.o;rcases WL with _ | ⟨y0,_ | ⟨y1,_ | ⟨y2,_ | ⟨y3,r⟩⟩⟩⟩ <;> simp at hn
    simp only [List.headD_cons] at h0;subst h0;exact ⟨_,_,rfl⟩
   have hcand:zcf (y::[x1,x2])={ Ac.zero with kd:=5,n:=nv,ke:=zep x2 }:=by
    rw [hnv.o];have hm1:m=1:=hm.o;subst hm1;rw [hxm.o];rw [g3]
    rfl
   replace g3:=Y g3;have p2:wc.cell? ⟨bk,off+2,none⟩=some (.string ⟨x2.toArray⟩):=hcl.o 2 (by simp);have hc2:=Y (fun W=>zdC x2 (Nat.le_trans (hle2.o x2 (by simp)) ht) W);generalize zep x2=L4 at hc2 hcand;go_wp2_with fail
   refine (hc2.o _).mono ?_;rintro e wn ⟨a4,c4,rfl,hI,hxn⟩;replace hAa:=Y (hxn.at hAa.o id);have hI2:=Y (hI.mono (F':=fun k=>A+1<=k/\k < wn.heap.size) (fun k hk=>⟨Nat.le_trans hsz5 hk.1,hk.2⟩));have hxn2:=Y hxn;clear hI hxn p2 hc2;go_wp2_with (refine zab rfl 32 _ _ rfl A _ _ 32 rfl rfl hAa.o rfl (by kernel_rfl) rfl (fun WT HT=>?_))
   have hsT:=HT.o.2.size
   go_meet
   rw [hcand];exact ⟨none,0,0,none,0,0,none,0,0,none,0,0,a4,_,c4,HT.o.1,⟨⟨zac.nil _ _ _,⟨[],rfl,zac.nil _ _ _,fun p hp=>by cases hp⟩,zac.nil _ _ _⟩,zac.nil _ _ _,(hI2.o.mod HT.o.2 (fun k hk e=>by have:A=k:=e;have:=hk.1;omega)).mono (fun k hk=>⟨by have:=hk.1;omega,by have:=hk.1;omega,by have:=hk.2;omega⟩)⟩,(hxn2.o.mono (T:=Eq A) (fun _ h=>h.elim)).trans HT.o.2⟩
  have mb3:(T.toList==[99,114,97,115,104])=false:=by rw [hTl.o,beq_eq_false_iff_ne];exact g3
  replace g3:=Y g3
  by_cases g4:y=Scr.fGet
  ·have pb:(T.toList==[103,101,116])=true:=by rw [hTl.o,g4];rfl
   have hcn:n2=3:=by rw [hn2.o];exact (hhd2.o 15 _ (by rw [<- hy.o,g4];rfl)).1
   subst hcn;obtain ⟨x1,x2,rfl⟩:∃ x1 x2,WL=y::[x1,x2]:=by
    have h0:=hy.o;have hn:=hn2.o;rcases WL with _ | ⟨y0,_ | ⟨y1,_ | ⟨y2,_ | ⟨y3,r⟩⟩⟩⟩ <;> simp at hn
    simp only [List.headD_cons] at h0;subst h0;exact ⟨_,_,rfl⟩
   have hcand:zcf (y::[x1,x2])={ Ac.zero with kd:=6,cl:=nv,tx:=x2 }:=by
    rw [hnv.o];have hm1:m=1:=hm.o;subst hm1;rw [hxm.o];rw [g4]
    rfl
   replace g4:=Y g4;have p2:wc.cell? ⟨bk,off+2,none⟩=some (.string ⟨x2.toArray⟩):=hcl.o 2 (by simp);go_wp2_with (refine zab rfl 32 _ _ rfl A _ _ 32 rfl rfl hAa.o rfl (by kernel_rfl) rfl (fun WT HT=>?_))
   go_meet
   rw [hcand];exact ⟨none,0,0,none,0,0,none,0,0,none,0,0,none,0,0,HT.o.1,⟨⟨zac.nil _ _ _,⟨[],rfl,zac.nil _ _ _,fun p hp=>by cases hp⟩,zac.nil _ _ _⟩,zac.nil _ _ _,zac.nil _ _ _⟩,HT.o.2⟩
  have mb4:(T.toList==[103,101,116])=false:=by rw [hTl.o,beq_eq_false_iff_ne];exact g4
  replace g4:=Y g4
  by_cases g5:y=Scr.fSearch
  ·have pb:(T.toList==[115,101,97,114,99,104])=true:=by rw [hTl.o,g5];rfl
   have hcn:n2=4:=by rw [hn2.o];exact (hhd2.o 16 _ (by rw [<- hy.o,g5];rfl)).1
   subst hcn;obtain ⟨x1,x2,x3,rfl⟩:∃ x1 x2 x3,WL=y::[x1,x2,x3]:=by
    have h0:=hy.o;have hn:=hn2.o;rcases WL with _ | ⟨y0,_ | ⟨y1,_ | ⟨y2,_ | ⟨y3,_ | ⟨y4,r⟩⟩⟩⟩⟩ <;> simp at hn
    simp only [List.headD_cons] at h0;subst h0;exact ⟨_,_,_,rfl⟩
   have hcand:zcf (y::[x1,x2,x3])={ Ac.zero with kd:=7,cl:=nv,n:=zbu x2,tx:=x3 }:=by
    rw [hnv.o];have hm1:m=1:=hm.o;subst hm1;rw [hxm.o];rw [g5]
    rfl
   replace g5:=Y g5;have p2:wc.cell? ⟨bk,off+2,none⟩=some (.string ⟨x2.toArray⟩):=hcl.o 2 (by simp);have p3:wc.cell? ⟨bk,off+3,none⟩=some (.string ⟨x3.toArray⟩):=hcl.o 3 (by simp);have hc2:=Y (fun W=>zba x2 (Nat.le_trans (hle2.o x2 (by simp)) ht) W);generalize zbu x2=v2 at hc2 hcand;replace p2:=Y p2;replace p3:=Y p3;go_upto_region 22 with fail
   try simp only [List.append_eq,List.cons_append,List.nil_append]
   refine rS (fun Wx=>Mod (Eq A) wc Wx) [(0,true),(1,true),(2,true),(3,true),(5,true),(6,true),(7,true),(4,false),(8,true),(9,false)] (Mod.drew0 (Eq A) wc) ?_;simp only [zah,List.map_cons,List.map_nil,List.getD_cons_zero,List.getD_cons_succ];have hy1:=Y (Mod.drew0 (Eq A) wc);replace hAa:=Y (show wc.drew.heap[A]?=_ from hAa.o)
   iterate 7 (refine zav (by rfl) ?_ (fun w' hC=>?_) ?_;rotate_left;(have q2:=hC.cell p2.o (fun e=>hbA e);have q3:=hC.cell p3.o (fun e=>hbA e);go_simp;try with_reducible rfl);try simp only [Act.put,sA,sZ,sS])
   refine zak (by rfl) (fun K hK=>?_);go_simp;refine (hc2.o _).mono ?_;rintro e u ⟨rfl,rfl⟩;refine hK.o _ _ hy1.o ?_;clear hK K;try simp only [Act.put,sA,sZ,sS]
   refine zav (by rfl) ?_ (fun w' hC=>?_) ?_;rotate_left;(have q2:=hC.cell p2.o (fun e=>hbA e);have q3:=hC.cell p3.o (fun e=>hbA e);go_simp;try with_reducible rfl);try simp only [Act.put,sA,sZ,sS]
   refine zak (by rfl) (fun K hK=>?_);refine zbf 32 _ _ rfl A _ _ 32 rfl rfl hAa.o rfl (by kernel_rfl) rfl (fun WT HT=>hK.o _ _ (hy1.o.trans HT.o.2) ?_);have hmS:=Y (hy1.o.trans HT.o.2);clear hK K;try simp only [Act.put]
   refine zar ?_;go_wp2_with fail
   go_meet
   rw [hcand];exact ⟨none,0,0,none,0,0,none,0,0,none,0,0,none,0,0,HT.o.1,⟨⟨zac.nil _ _ _,⟨[],rfl,zac.nil _ _ _,fun p hp=>by cases hp⟩,zac.nil _ _ _⟩,zac.nil _ _ _,zac.nil _ _ _⟩,hmS.o⟩
  have mb5:(T.toList==[115,101,97,114,99,104])=false:=by rw [hTl.o,beq_eq_false_iff_ne];exact g5
  replace g5:=Y g5
  by_cases g6:y=Scr.fForge
  ·have pb:(T.toList==[102,111,114,103,101])=true:=by rw [hTl.o,g6];rfl
   have hcn:n2=2:=by rw [hn2.o];exact (hhd2.o 17 _ (by rw [<- hy.o,g6];rfl)).1
   subst hcn;obtain ⟨x1,rfl⟩:∃ x1,WL=y::[x1]:=by
    have h0:=hy.o;have hn:=hn2.o;rcases WL with _ | ⟨y0,_ | ⟨y1,_ | ⟨y2,r⟩⟩⟩ <;> simp at hn
    simp only [List.headD_cons] at h0;subst h0;exact ⟨_,rfl⟩
   have hcand:zcf (y::[x1])={ Ac.zero with kd:=8,ms:=zdy (zbJ x1) }:=by
    rw [g6]
    rfl
   replace g6:=Y g6;have p1:wc.cell? ⟨bk,off+1,none⟩=some (.string ⟨x1.toArray⟩):=hcl.o 1 (by simp);have hc1:=Y (fun W=>zeu x1 (Nat.le_trans (hle2.o x1 (by simp)) ht) W);have hul:=ze5 x1;have hx1l:=hle2.o x1 (by simp);generalize zbJ x1=u1 at hc1 hul hcand;have hcD:=Y (fun W=>zfW u1 (by omega) W);go_wp2_with fail
   refine (hc1.o _).mono ?_;rintro e wm ⟨rfl,hxm1⟩;go_wp2_with fail
   refine (hcD.o _).mono ?_;rintro e wn ⟨hxn,hme⟩;obtain ⟨er,rfl⟩:=znI hme;have hxn2:=Y (hxm1.trans hxn);replace hAa:=Y (hxn2.o.at hAa.o id);generalize zdy u1=mm at hcand ⊢;have hmz:Hid ((#[.int .i64 0,.int .i64 0,.int .i64 0,.int .i64 0,.int .i64 0,.int .i64 0,.string ⟨#[]⟩]:Array Value).size=(#[.int .i64 mm.kd,.int .i64 mm.pa,.int .i64 mm.sq,.int .i64 mm.st,.int .i64 mm.ba,.int .i64 mm.ve,.string ⟨mm.da.toArray⟩]:Array Value).size):=Y rfl;clear hme hxn hxm1 p1 hc1 hcD;go_upto_region 25 with (refine zab rfl 30 _ _ rfl wn.heap.size _ _ 30 rfl rfl (heap_alloc_new wn _) rfl (by kernel_rfl) rfl (fun WM HM=>?_))
   have hX3:Ext wn WM:=(((Mod.alloc (Mod.refl (fun _=>False) wn) (.cells #[.int .i64 0,.int .i64 0,.int .i64 0,.int .i64 0,.int .i64 0,.int .i64 0,.string ⟨#[]⟩] 30)).mono (T:=fun k=>wn.heap.size<=k) (fun _ h=>h.elim)).then HM.o.2 (fun k _ e=>by omega)).mono' (fun k h1 h2=>by omega);have hMB:=Y HM.o.1;generalize wn.heap.size=BM at hMB ⊢;replace hAa:=Y (hX3.at hAa.o id);have hxM:=Y (hxn2.o.trans hX3);clear HM hX3;go_wp2_with (first | (refine zae (by rfl) 30 _ rfl BM _ _ _ _ rfl hMB.o Tryz.underlying30 rfl (by kernel_rfl) ?_) | (refine zab rfl 32 _ _ rfl A _ _ 32 rfl rfl hAa.o rfl (by kernel_rfl) rfl (fun WT HT=>?_)))
   go_meet
   rw [hcand];exact ⟨none,0,0,none,0,0,none,0,0,none,0,0,none,0,0,HT.o.1,⟨⟨zac.nil _ _ _,⟨[],rfl,zac.nil _ _ _,fun p hp=>by cases hp⟩,zac.nil _ _ _⟩,zac.nil _ _ _,zac.nil _ _ _⟩,(hxM.o.mono (T:=Eq A) (fun _ h=>h.elim)).trans HT.o.2⟩
  have mb6:(T.toList==[102,111,114,103,101])=false:=by rw [hTl.o,beq_eq_false_iff_ne];exact g6
  replace g6:=Y g6
  by_cases g7:y=Scr.fCheck
  ·have pb:(T.toList==[99,104,101,99,107])=true:=by rw [hTl.o,g7];rfl
   have hcn:n2=1:=by rw [hn2.o];exact (hhd2.o 14 _ (by rw [<- hy.o,g7];rfl)).1
   subst hcn;have hcand:zcf WL={ Ac.zero with kd:=9 }:=by
    unfold zcf;rw [<- hy.o,g7]
    rfl
   replace g7:=Y g7;go_wp2_with (refine zab rfl 32 _ _ rfl A _ _ 32 rfl rfl hAa.o rfl (by kernel_rfl) rfl (fun WT HT=>?_))
   go_meet
   rw [hcand];exact ⟨none,0,0,none,0,0,none,0,0,none,0,0,none,0,0,HT.o.1,⟨⟨zac.nil _ _ _,⟨[],rfl,zac.nil _ _ _,fun p hp=>by cases hp⟩,zac.nil _ _ _⟩,zac.nil _ _ _,zac.nil _ _ _⟩,HT.o.2⟩
  have mb7:(T.toList==[99,104,101,99,107])=false:=by rw [hTl.o,beq_eq_false_iff_ne];exact g7
  replace g7:=Y g7
  by_cases g8:y=Scr.fCut
  ·have pb:(T.toList==[99,117,116])=true:=by rw [hTl.o,g8];rfl
   have hcn:n2=2:=by rw [hn2.o];exact (hhd2.o 11 _ (by rw [<- hy.o,g8];rfl)).1
   subst hcn;obtain ⟨x1,rfl⟩:∃ x1,WL=y::[x1]:=by
    have h0:=hy.o;have hn:=hn2.o;rcases WL with _ | ⟨y0,_ | ⟨y1,_ | ⟨y2,r⟩⟩⟩ <;> simp at hn
    simp only [List.headD_cons] at h0;subst h0;exact ⟨_,rfl⟩
   have hcand:zcf (y::[x1])={ Ac.zero with kd:=10,n:=nv }:=by
    rw [hnv.o];have hm1:m=1:=hm.o;subst hm1;rw [hxm.o];rw [g8]
    rfl
   replace g8:=Y g8;go_wp2_with (refine zab rfl 32 _ _ rfl A _ _ 32 rfl rfl hAa.o rfl (by kernel_rfl) rfl (fun WT HT=>?_))
   go_meet
   rw [hcand];exact ⟨none,0,0,none,0,0,none,0,0,none,0,0,none,0,0,HT.o.1,⟨⟨zac.nil _ _ _,⟨[],rfl,zac.nil _ _ _,fun p hp=>by cases hp⟩,zac.nil _ _ _⟩,zac.nil _ _ _,zac.nil _ _ _⟩,HT.o.2⟩
  have mb8:(T.toList==[99,117,116])=false:=by rw [hTl.o,beq_eq_false_iff_ne];exact g8
  replace g8:=Y g8;have hcand:zcf WL=zmJ WL:=zlg hy.o g0.o g1.o g8.o g2.o g3.o g7.o g4.o g5.o g6.o;go_wp2_with fail
  go_meet
  rw [hcand];exact ⟨d1,e1,f1,d2,e2,f2,d3,e3,f3,d4,e4,f4,d5,e5,f5,hAa.o,hAt.o,Mod.refl _ _⟩
 case rest=>
 clear hAa hAt hcl hhd2 hnv hxm hT hTl hy0 hy;obtain ⟨a1,n1,c1,a2,n2',c2,a3,n3,c3,a4,n4,c4,a5,n5,c5,hAa,hAt,hM2⟩:=hcut;replace uz:=Y (hM2.at uz.o (fun e=>by have:A=U:=e;omega));have hm5:=Y (hx1'.then hM2 (fun k _ e=>by have:A=k:=e;omega));have hz5:A+1<=wc.heap.size:=Nat.le_trans hsz5 hM2.size;have hsz:=zml WL (fun z hz=>Nat.le_trans (hle2.o z hz) ht);clear hM2 hx1' hsz5;obtain ⟨a,ha⟩:∃ a,a=zcf WL:=⟨_,rfl⟩;rw [<- ha] at hAa hAt hsz;have hres2:=Y (show D=if vAc a && decide (line a=t) then some a else none by rw [ha];exact hres.o);clear hres;replace ha:=Y ha;obtain ⟨V,hV⟩:∃ V,V=acA a1 n1 c1 a2 n2' c2 a3 n3 c3 a4 n4 c4 a5 n5 c5 a:=⟨_,rfl⟩;have hVs:=Y (show (Tryz.prog.info? 32).map (·.size)=some V.size by rw [hV];kernel_rfl);have hV1:=Y (show V.toList.all (·.oneCell')=true by rw [hV];rfl);have hVz:=Y (show V.size=(zA9:Array Value).size by rw [hV];rfl);have hvl:=zkA a1 n1 c1 a2 n2' c2 a3 n3 c3 a4 n4 c4 a5 n5 c5 a wc (hAt.mono (fun k hk=>hk.2.2)) hsz.fc hsz.tx hsz.da;rw [<- hV] at hvl hAa;replace hvl:=Y hvl;replace hAa:=Y hAa;replace hAt:=Y hAt;replace hV:=Y hV;cases hva:vAc a with
 | false=>
  rw [hva] at hvl;have hres:=Y (show D=none by rw [hres2.o,hva];rfl);replace hva:=Y hva;go_wp2_with (refine zae (by rfl) 32 _ rfl A V _ _ _ rfl hAa.o Tryz.underlying32 rfl hVs.o ?_)
  refine hvl.o.mono ?_;rintro e W6 ⟨rfl,hxn⟩;replace uz:=Y (hxn.at uz.o id);have hm6:=Y (hm5.o.then hxn (fun _ _ h=>h.elim));clear hvl hxn;go_wp2_with (refine zab rfl 32 _ _ rfl U _ _ 32 rfl rfl uz.o rfl (by kernel_rfl) rfl (fun WS HS=>?_))
  refine bodyPost_ret (zaf rfl _ _ U _ _ _ _ rfl HS.o.1 Tryz.underlying32 rfl (by kernel_rfl)) rfl ?_;rw [hPl.o,hres.o];exact ⟨zao (B:=U) hwU (hm6.o.then HS.o.2 (fun k _ e=>by have:U=k:=e;omega)),rfl⟩
 | true=>
  rw [hva] at hvl;go_wp2_with (refine zae (by rfl) 32 _ rfl A V _ _ _ rfl hAa.o Tryz.underlying32 rfl hVs.o ?_)
  refine hvl.o.mono ?_;rintro e W6 ⟨rfl,hxn⟩;replace uz:=Y (hxn.at uz.o id);replace hAa:=Y (hxn.at hAa.o id);have hz6:A+1<=W6.heap.size:=Nat.le_trans hz5 hxn.size;replace hAt:=Y ((hAt.o.ext hxn).mono (F':=fun k=>U+1<=k/\k ≠ A/\k < W6.heap.size) (fun k hk=>⟨hk.1,hk.2.1,Nat.lt_of_lt_of_le hk.2.2 hxn.size⟩));have hm6:=Y (hm5.o.then hxn (fun _ _ h=>h.elim));clear hvl hxn hm5;have hln:=zlq a1 n1 c1 a2 n2' c2 a3 n3 c3 a4 n4 c4 a5 n5 c5 a W6 (hAt.o.mono (fun k hk=>hk.2.2)) hva;rw [<- hV.o] at hln;generalize hL:line a=ln at hln hres2;replace hln:=Y hln;replace hL:=Y hL;go_wp2_with (refine zae (by rfl) 32 _ rfl A V _ _ _ rfl hAa.o Tryz.underlying32 rfl hVs.o ?_)
  refine hln.o.mono ?_;rintro e W7 ⟨rfl,hxn⟩;replace uz:=Y (hxn.at uz.o id);replace hAa:=Y (hxn.at hAa.o id);replace hAt:=Y ((hAt.o.ext hxn).mono (F':=fun k=>U+1<=k/\k ≠ A/\k < W7.heap.size) (fun k hk=>⟨hk.1,hk.2.1,Nat.lt_of_lt_of_le hk.2.2 hxn.size⟩));have hm7:=Y (hm6.o.then hxn (fun _ _ h=>h.elim));clear hln hxn hm6
  by_cases hlt:ln=t
  ·have b3:(ln==t)=true:=by rw [hlt];simp
   have b4:(ln !=t)=false:=by rw [hlt];simp
   have hres:=Y (show D=some a by rw [hres2.o,hva,decide_eq_true hlt];rfl);replace hlt:=Y hlt;replace hva:=Y hva;clear hres2;go_wp2_with (first | (refine zae (by rfl) 32 _ rfl A V _ _ _ rfl hAa.o Tryz.underlying32 rfl hVs.o ?_) | (refine zab rfl 32 _ _ rfl U _ V 32 rfl rfl uz.o (by rw [hVz.o]) hVs.o hV1.o (fun HSw HS=>?_)))
   refine bodyPost_ret (zaf rfl _ _ U _ _ _ _ rfl HS.o.1 Tryz.underlying32 rfl hVs.o) rfl ?_;rw [hPl.o,hres.o];have hsE:=HS.o.2.size;exact ⟨zao (B:=U) hwU (hm7.o.then HS.o.2 (fun k _ e=>by have:U=k:=e;omega)),a1,n1,c1,a2,n2',c2,a3,n3,c3,a4,n4,c4,a5,n5,c5,by rw [<- hV.o];rfl,(hAt.o.mod HS.o.2 (fun k hk e=>by have:U=k:=e;have:=hk.1;omega)).mono (fun k hk=>⟨by have:=hk.1;omega,by have:=hk.2.2;omega⟩)⟩
  ·have b3:(ln==t)=false:=by rw [beq_eq_false_iff_ne];exact hlt
   have b4:(ln !=t)=true:=by rw [bne_iff_ne];exact hlt
   have hres:=Y (show D=none by rw [hres2.o,hva,decide_eq_false hlt];rfl);replace hlt:=Y hlt;replace hva:=Y hva;clear hres2;go_wp2_with (refine zab rfl 32 _ _ rfl U _ _ 32 rfl rfl uz.o rfl (by kernel_rfl) rfl (fun WS HS=>?_))
   refine bodyPost_ret (zaf rfl _ _ U _ _ _ _ rfl HS.o.1 Tryz.underlying32 rfl (by kernel_rfl)) rfl ?_;rw [hPl.o,hres.o];exact ⟨zao (B:=U) hwU (hm7.o.then HS.o.2 (fun k _ e=>by have:U=k:=e;omega)),rfl⟩
end Go.Proofs.YtjjfphalcibjfaaGreatDoor
