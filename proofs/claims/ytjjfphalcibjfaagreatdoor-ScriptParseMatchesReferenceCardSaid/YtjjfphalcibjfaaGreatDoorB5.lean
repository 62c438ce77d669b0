import Derived.Test.YtjjfphalcibjfaaGreatDoorB3
import Derived.Test.YtjjfphalcibjfaaGreatDoorJ9
import Derived.Test.YtjjfphalcibjfaaGreatDoorD5
import Derived.Test.YtjjfphalcibjfaaGreatDoorA12
set_option maxRecDepth 100000
set_option maxHeartbeats 16000000
namespace Go.Proofs.YtjjfphalcibjfaaGreatDoor
open Go.RowKit Cdk Scr
theorem zbR {F:Nat -> Prop} (v:Value) (l:List Bk) (w:World) (h:zaE F w v l) (hs:∀ b ∈ l,maxS b.tx):
  Calls Tryz.prog 98 #[v] w fun e w'=>e=.returned (.bool (zec l))/\Ext w w':=by
 obtain ⟨r,hr⟩:∃ r,r=zec l:=⟨_,rfl⟩;rw [<- hr];unfold zec at hr;obtain ⟨ao,cap,rfl⟩:=h.slice;have hcap:=znn h;obtain ⟨n,hn⟩:∃ n,n=l.length:=⟨_,rfl⟩;rw [<- hn] at h hcap hr ⊢;replace hn:=Y hn;replace h:=Y h;replace hs:=Y hs
 by_cases hl:n<=24
 rotate_left
 ·have hq:(24:Int) < (n:Int):=by omega
  rw [decide_eq_false hl,Bool.false_and] at hr;replace hr:=Y hr;go_enter Tryz.func98,Tryz.ntmps98;go_wp2_with fail
  go_ret;exact ⟨by rw [hr.o];rfl,Mod.refl _ _⟩
 have hq:¬ (24:Int) < (n:Int):=by omega
 rw [decide_eq_true hl,Bool.true_and] at hr;replace hr:=Y hr;go_enter Tryz.func98,Tryz.ntmps98;go_wp2_with fail
 go_loopg [3] n (fun g i wr=>∃ j:Nat,j+g=n/\i=.int .i64 j/\Ext w wr/\r=zeR (l.take j) (l.drop j))
 case atStart=>exact ⟨0,by omega,rfl,Mod.refl _ _,hr.o⟩
 case round=>
  clear hr;obtain ⟨j,hj,rfl,hx,hrj⟩:=hrel;replace hj:=Y hj
  by_cases hlt:j < n
  rotate_left
  ·have hdi:¬ (j:Int) < (n:Int):=by omega
   have hd:decide ((j:Int) < (n:Int))=false:=decide_eq_false hdi;rw [List.drop_eq_nil_of_le (by have:=hn.o;omega)] at hrj;replace hrj:=Y hrj;replace hx:=Y hx;go_wp2_with fail
   go_ret;exact ⟨by rw [hrj.o];rfl,hx.o⟩
  ·have hdi:(j:Int) < (n:Int):=by omega
   have hd:decide ((j:Int) < (n:Int))=true:=decide_eq_true hdi;have hjl:j < l.length:=by have:=hn.o;omega
   obtain ⟨b1,o1,a1,m1,c1,rfl,-,hF1,hI1,g0,g1,g2,g3,g4,g5,g6,g7,g8⟩:=(h.o.ext hx).cells hjl
   have hrest:Hid (∀ bb,bb=l[j] -> r=(vBk bb && ((l.take j).all (fun x=>!decide (x.id=bb.id)) && zeR (l.take (j+1)) (l.drop (j+1))))):=Y (fun bb e=>by
    rw [hrj,List.drop_eq_getElem_cons hjl,e];simp only [zeR]
    rw [List.take_succ_eq_append_getElem hjl])
   clear hrj;have hfol:=zfL (F:=F) (.slice a1 m1 c1) l[j] wr hI1 (hs.o _ (List.getElem_mem _));obtain ⟨bb,hbb⟩:∃ bb,bb=l[j]:=⟨_,rfl⟩;rw [<- hbb] at g0 g1 g2 g3 g4 g5 g7 g8 hfol;have hrest:=Y (hrest.o bb hbb);clear hI1 hF1;replace hbb:=Y hbb;obtain ⟨i1,k1,x1,s1,r1,t1,y1,p1,q1⟩:=bb;simp only at g0 g1 g2 g3 g4 g5 g6 g7 g8;unfold bkC zb0 at hfol;dsimp only at hfol;replace hfol:=Y hfol;replace hx:=Y hx;go_wp2_with fail
   refine hfol.o.mono ?_;rintro e w2 ⟨rfl,hx2⟩;clear hfol g0 g1 g2 g3 g4 g5 g6 g7 g8;have hx2:=Y (hx.o.trans hx2);clear hx;generalize vBk ⟨i1,k1,x1,s1,r1,t1,y1,p1,q1⟩=vb at hrest ⊢;cases vb with
   | false=>
    go_wp2_with fail
    go_ret;exact ⟨by rw [hrest.o];rfl,hx2.o⟩
   | true=>
    go_wp2_with fail
    obtain ⟨J,rfl⟩:∃ J,J=j:=⟨_,rfl⟩;obtain ⟨G,rfl⟩:∃ G,G=gk:=⟨_,rfl⟩;obtain ⟨rest,hrs⟩:∃ rest,rest=zeR (l.take (J+1)) (l.drop (J+1)):=⟨_,rfl⟩;rw [<- hrs] at hrest;replace hrs:=Y hrs;go_loopg [5] J (fun g i wi=>∃ k:Nat,k+g=J/\i=.int .i64 k/\Ext w wi/\r=(((l.take J).drop k).all (fun x=>!decide (x.id=i1)) && rest))
    case atStart=>exact ⟨0,by omega,rfl,hx2.o,hrest.o⟩
    case round=>
     obtain ⟨wi,rfl⟩:∃ wi:World,wi=wr:=⟨_,rfl⟩;clear hrest hx2;obtain ⟨k,hk,rfl,hx,hrk⟩:=hrel;replace hk:=Y hk
     by_cases hlk:k < J
     ·have hdk:(k:Int) < (J:Int):=by omega
      have hdd:decide ((k:Int) < (J:Int))=true:=decide_eq_true hdk;have hkn:(k:Int) < (n:Int):=by omega
      have hkl:k < l.length:=by omega
      obtain ⟨b2,o2,a2,m2,c2,e2,-,-,-,f0,f1,f2,f3,f4,f5,f6,f7,f8⟩:=(h.o.ext hx).cells hkl;obtain ⟨b3,o3,a3,m3,c3,e3,-,-,-,u0,u1,u2,u3,u4,u5,u6,u7,u8⟩:=(h.o.ext hx).cells hjl;injection e2 with e2;injection e2 with e2 e2' _
      subst e2;subst e2';injection e3 with e3;injection e3 with e3 e3' _
      subst e3;subst e3';rw [zjy hlk (Nat.le_of_lt hjl)] at hrk;rw [<- hbb.o] at u0;simp only at u0;clear u1 u2 u3 u4 u5 u6 u7 u8 f1 f2 f3 f4 f5 f6 f7 f8;obtain ⟨z,hz⟩:∃ z,z=l[k]:=⟨_,rfl⟩;rw [<- hz] at f0 hrk;clear hz;have hc:=zaj z.id i1;generalize decide (z.id=i1)=q at hc hrk;generalize z.id=zi at f0 hc;replace hrk:=Y hrk;replace hx:=Y hx;cases q with
      | true=>
       go_wp2_with fail
       go_quiet (fail)
       go_wp2_with fail
       go_ret;exact ⟨by rw [hrk.o];rfl,hx.o.ofDrewN _⟩
      | false=>
       go_wp2_with fail
       go_quiet (fail)
       go_wp2_with fail
       go_roundg (gk - 1)
       case measure=>have:=hk.o;omega
       case rel=>exact ⟨k+1,by have:=hk.o;omega,by go_num,hx.o.ofDrewN _,by rw [hrk.o];rfl⟩
     ·obtain rfl:k=J:=by have:=hk.o;omega
      have hdk:¬ (k:Int) < (k:Int):=by omega
      rw [List.drop_eq_nil_of_le (by rw [List.length_take];omega)] at hrk;replace hrk:=Y hrk;replace hx:=Y hx;go_wp2_with fail
      go_roundg (G - 1)
      case measure=>have:=hj.o;omega
      case rel=>exact ⟨k+1,by have:=hj.o;omega,by go_num,hx.o,by rw [hrk.o];exact hrs.o⟩
theorem ziN {F:Nat -> Prop} (v:Value) (l:List Bs) (w:World) (h:zbC F w v l) (hs:∀ s ∈ l,maxS s):
  Calls Tryz.prog 97 #[v] w fun e w'=>e=.returned (.bool (vTp l))/\Ext w w':=by
 obtain ⟨r,hr⟩:∃ r,r=vTp l:=⟨_,rfl⟩;rw [<- hr];have hn0:=h.len;obtain ⟨ao,cap,rfl⟩:=h.slice;obtain ⟨n,hn⟩:∃ n,n=l.length:=⟨_,rfl⟩;have hr2:r=(zbY l 0 && decide (l.length<=4)):=by rw [Bool.and_comm];exact hr
 clear hr;rw [<- hn] at h hr2 hn0 ⊢;replace hn:=Y hn;replace h:=Y h;replace hs:=Y hs;replace hr2:=Y hr2;go_enter Tryz.func97,Tryz.ntmps97;go_wp2_with fail
 go_loopg [3] n (fun g i wr=>∃ j:Nat,j+g=n/\i=.int .i64 j/\Ext w wr/\r=(zbY l j && decide (n<=4)))
 case atStart=>exact ⟨0,by omega,rfl,Mod.refl _ _,hr2.o⟩
 case round=>
  clear hr2;obtain ⟨j,hj,rfl,hx,hrj⟩:=hrel;replace hj:=Y hj
  by_cases hlt:j < n
  rotate_left
  ·have hdi:¬ (j:Int) < (n:Int):=by omega
   have hd:decide ((j:Int) < (n:Int))=false:=decide_eq_false hdi;rw [zf4 (by have:=hn.o;omega),Bool.true_and] at hrj;replace hrj:=Y hrj;replace hx:=Y hx
   by_cases q1:(n:Int)<=4
   all_goals
    go_wp2_with fail
    go_ret;exact ⟨by rw [hrj.o];congr 2;simp;omega,hx.o⟩
  ·have hdi:(j:Int) < (n:Int):=by omega
   have hd:decide ((j:Int) < (n:Int))=true:=decide_eq_true hdi;have hjl:j < l.length:=by have:=hn.o;omega
   obtain ⟨b,off,rfl,c0⟩:=zcR (h.o.ext hx) hjl;have hN:=zdb ⟨l[j].toArray⟩ wr (hs.o _ (List.getElem_mem _));rw [zeI] at hN
   by_cases h0:j=0
   ·subst h0
    have hpos:¬ (0:Int) < ((0:Nat):Int):=by omega
    rw [ze9 hjl] at hrj;generalize l[0]=x at c0 hN hrj;generalize zbT x=bx at hN hrj;replace hN:=Y hN;obtain ⟨rest,hrs⟩:∃ rest,rest=zbY l 1:=⟨_,rfl⟩;rw [<- hrs] at hrj;replace hrs:=Y hrs;replace hrj:=Y hrj;replace hx:=Y hx;simp only [Nat.add_zero] at c0;go_wp2_with fail
    refine hN.o.mono ?_;rintro e w' ⟨rfl,rfl⟩;cases bx with
    | false=>
     go_wp2_with fail
     go_quiet (fail)
     go_wp2_with fail
     go_ret;exact ⟨by rw [hrj.o];rfl,hx.o.ofDrewN _⟩
    | true=>
     go_wp2_with fail
     go_quiet (fail)
     go_wp2_with fail
     go_roundg (gk - 1)
     case measure=>have:=hj.o;omega
     case rel=>exact ⟨1,by have:=hj.o;omega,rfl,hx.o.ofDrewN _,by rw [hrj.o,hrs.o,Bool.true_and]⟩
   ·rw [zfs (by omega) hjl] at hrj
    have hp1:j - 1 < l.length:=by omega
    obtain ⟨b2,off2,e2,c1⟩:=zcR (h.o.ext hx) hp1;injection e2 with e2;injection e2 with e2 e3 _
    subst e2;subst e3;rw [<- zlx] at hrj;generalize l[j]=x at c0 hN hrj;generalize l[j - 1]=y at c1 hrj;generalize zbT x=bx at hN hrj;obtain ⟨q,hq1⟩:∃ q,q=Go.Op.bytesLess y x:=⟨_,rfl⟩;rw [<- hq1] at hrj;replace hq1:=hq1.symm;replace hN:=Y hN;obtain ⟨rest,hrs⟩:∃ rest,rest=zbY l (j+1):=⟨_,rfl⟩;rw [<- hrs] at hrj;replace hrs:=Y hrs;replace hrj:=Y hrj;replace hx:=Y hx;have hj0:(0:Int) < (j:Int):=by omega
    have hj0d:decide ((0:Int) < (j:Int))=true:=decide_eq_true hj0;obtain ⟨m,rfl⟩:∃ m,j=m+1:=⟨j - 1,by omega⟩;simp only [Nat.add_sub_cancel] at c1;have hj1:IntKind.i64.wrap (((m+1:Nat):Int) - 1)=(m:Int):=by
     rw [show ((m+1:Nat):Int) - 1=(m:Int) by omega];exact IntWalk.i64_in _ (by omega)
    have hj6:IntKind.i64.wrap ((m:Int)+1 - 1)=(m:Int):=by
     rw [show (m:Int)+1 - 1=(m:Int) by omega];exact IntWalk.i64_in _ (by omega)
    have hj7:IntKind.i64.wrap (m:Int)=(m:Int):=IntWalk.i64_in _ (by omega);have hj4:0 < m+1:=by omega
    have hj5:decide (0 < m+1)=true:=rfl;have hj2:(m:Int) < (n:Int):=by omega
    clear h0;go_wp2_with fail
    refine hN.o.mono ?_;rintro e w' ⟨rfl,rfl⟩;cases bx with
    | false=>
     go_wp2_with fail
     go_quiet (fail)
     go_wp2_with fail
     go_ret;exact ⟨by rw [hrj.o];rfl,hx.o.ofDrewN _⟩
    | true=>
     cases q with
     | false=>
      go_wp2_with fail
      go_quiet (fail)
      go_wp2_with fail
      go_ret;exact ⟨by rw [hrj.o];rfl,hx.o.ofDrewN _⟩
     | true=>
      go_wp2_with fail
      go_quiet (fail)
      go_wp2_with fail
      go_roundg (gk - 1)
      case measure=>have:=hj.o;omega
      case rel=>exact ⟨m+1+1,by have:=hj.o;omega,by go_num,hx.o.ofDrewN _,by rw [hrj.o,hrs.o,Bool.true_and,Bool.true_and]⟩
open Go.Shelf Go.RowKit Cdk Scr
theorem zou {α:Type} (el:St -> α × St) (most:Int) (hm:0<=most) (st:St):mL most el st=mN el (mC most st).1.toNat (mC most st).2/\0<=(mC most st).1/\(mC most st).1<=most:=by
 unfold mL mC;generalize mI st=q;obtain ⟨c,s⟩:=q;cases s with
 | error e=>exact ⟨by simp [mN],by simp,by simpa using hm⟩
 | ok r=>
  simp only
  by_cases h:c < 0 \/ most < c
  ·rw [if_pos h,if_pos h];exact ⟨by simp [mN],by simp,by simpa using hm⟩
  ·rw [if_neg h,if_neg h];exact ⟨rfl,by simp only;omega,by simp only;omega⟩
theorem znp (st:St):(mS st).1.length<=65536:=by
 unfold mS mR;cases st with
 | error e=>simp
 | ok r=>
  simp only;unfold rbS zhj;cases zdt r with
  | none=>simp
  | some x=>
   obtain ⟨n,u⟩:=x;simp only
   by_cases h:n < 0 \/ 65536 < n \/ (u.length:Int) < n
   ·rw [if_pos h];simp
   ·rw [if_neg h];simp only [List.length_take];omega
theorem zpu (st:St):(mB st).1.tx.length<=65536:=znp (mI (mI st).2).2
theorem zi5 (s:Bs) (hs:s.length<=1000000) (w:World):
  Calls Tryz.prog 161 #[.string ⟨s.toArray⟩] w (DbP w s):=by
 obtain ⟨R,hR⟩:∃ R,R=w.heap.size:=⟨_,rfl⟩;have hx0:=(Mod.refl (fun _=>False) w).alloc (.cells #[.string ⟨s.toArray⟩,.int .i64 0,.int .i64 0] 170);have hnew:=heap_alloc_new w (.cells #[.string ⟨s.toArray⟩,.int .i64 0,.int .i64 0] 170);have hb0:BrQ (w.alloc (.cells #[.string ⟨s.toArray⟩,.int .i64 0,.int .i64 0] 170)) R s (.ok s):=⟨0,Nat.zero_le _,rfl,by rw [hR];exact hnew⟩;have hsz:(w.alloc (.cells #[.string ⟨s.toArray⟩,.int .i64 0,.int .i64 0] 170)).heap.size=R+1:=by rw [World.size_alloc,hR]
 have hsl:Hid ((⟨s.toArray⟩:ByteArray).size=s.length):=Y rfl;go_enter Tryz.func161,Tryz.ntmps161;go_wp2_with fail
 rw [<- hR];generalize (w.alloc (.cells #[.string ⟨s.toArray⟩,.int .i64 0,.int .i64 0] 170))=w0 at hx0 hb0 hsz ⊢;have h1:=Y (zgs 24 ⟨by decide,by decide⟩ R s (.ok s) hs w0 hb0);have hwR:w.heap.size<=R:=Nat.le_of_eq hR.symm;have hRlt:R < w0.heap.size:=by omega
 replace hR:=Y hR;replace hsz:=Y hsz;replace hx0:=Y hx0;clear hnew hb0;obtain ⟨T,hT⟩:∃ T,T=mL 24 mB (.ok s):=⟨_,rfl⟩;obtain ⟨hmc,hc0,hc1⟩:=zou mB 24 (by decide) (.ok s);have hT6:=hT.trans hmc;replace hT:=Y hT;clear hmc;generalize mC 24 (.ok s)=qc at h1 hT6 hc0 hc1;obtain ⟨c,sc⟩:=qc;simp only at h1 hT6 hc0 hc1;obtain ⟨n,rfl⟩:∃ n:Nat,c=n:=⟨c.toNat,by omega⟩;rw [Int.toNat_natCast] at hT6;replace hT6:=Y hT6;refine h1.o.mono ?_;rintro e V ⟨rfl,hbV,hn⟩;replace hbV:=Y hbV;replace hn:=Y hn;clear h1;go_wp2_with fail
 go_loopg [5,7] n (fun g l i wr=>∃ (j:Nat) (pre:List Bk) (rows:List (Value × Bk)) (av:Option Addr) (cv:Nat) (st':St),j+g=n/\i=.int .i64 j/\l=.slice av rows.length cv/\Cdk.Own wr w0.heap.size 118 9 bkC (.slice av rows.length cv) rows/\(∀ p ∈ rows,Cdk.Own wr w0.heap.size 3 1 zcZ p.1 p.2.lb.aft)/\rows.map Prod.snd=pre/\BrQ wr R s st'/\RdM R w0 wr/\T=(pre++(mN mB g st').1,(mN mB g st').2)/\pre.length=j)
 case atStart=>exact ⟨0,[],[],none,0,sc,by omega,rfl,rfl,Own.nil _ _ _ _ _,(fun p hh=>by cases hh),rfl,hbV.o,hn.o,by rw [hT6.o];rfl,rfl⟩
 case round=>
 clear hT6 hn hbV;obtain ⟨j,pre,rows,av,cv,st',hj,rfl,rfl,hO,hA,hpre,hb,hm,hTj,hlj⟩:=hrel;have d2:=hb.err;rcases (show (j < n/\∃ u,st'=.ok u) \/ ((j < n/\∃ er,st'=.error er) \/ ¬ j < n) by by_cases h:j < n <;> cases st' <;> simp [h]) with hlt | hlt | hlt
 case' inl=>
  obtain ⟨hlt,u,rfl⟩:=hlt;simp only [stE] at d2;obtain ⟨g,rfl⟩:∃ g,gk=g+1:=⟨gk - 1,by omega⟩;rw [mN] at hTj;have hel:=Y (zj3 R s (.ok u) hs wr hb);generalize mB (.ok u)=xs at hel hTj;obtain ⟨x,st2⟩:=xs;simp only at hel hTj;have hd:decide ((j:Int) < (n:Int))=true:=decide_eq_true (by omega);have hdi:(j:Int) < (n:Int):=by omega
  have hszr:w0.heap.size<=wr.heap.size:=hm.size;have hpl:rows.length<=9000000000000000000:=by have:=congrArg List.length hpre;rw [List.length_map] at this;omega
  have hjw:IntKind.i64.wrap ((j:Int)+1)=(j:Int)+1:=IntWalk.i64_in _ (by omega);replace hTj:=Y hTj;replace hO:=Y hO;replace hb:=Y hb;replace hm:=Y hm;replace hj:=Y hj;replace hlj:=Y hlj;replace hA:=Y hA;replace hpre:=Y hpre;go_wp2_with fail
  refine hel.o.mono ?_;rintro e w2 ⟨vx,rfl,hOx,hb2,hm2⟩;obtain ⟨ax,cx,rfl,-,-⟩:=hOx.row;have hOx2:=Y (hOx.weaken (base':=w0.heap.size) hszr);have hO2:=Y (hO.o.mod hm2 (fun k hk e=>by have:=(hO.o.block _ hk).1;omega));have hA2:=Y (fun p hp=>(hA.o p hp).mod hm2 (fun k hk e=>by have:=((hA.o p hp).block _ hk).1;omega));have hm2:=Y (hm.o.trans hm2);have hsz2:w0.heap.size<=w2.heap.size:=hm2.o.size;obtain ⟨VB,hVB⟩:∃ VB,VB=(bkC (.slice ax x.lb.aft.length cx,x)).toArray:=⟨_,rfl⟩;rw [<- hVB];have hVs:Hid (VB.size=9):=Y (by rw [hVB];rfl);have hxa:=Mod.alloc (Mod.refl (fun _=>False) w2) (.cells VB 118);replace hb2:=Y hb2;have hrow:zaJ (w2.alloc (.cells VB 118)) (some ⟨w2.heap.size,0,none⟩) ([((.slice ax x.lb.aft.length cx:Value),x)].flatMap bkC):=by
   rw [show [((.slice ax x.lb.aft.length cx:Value),x)].flatMap bkC=bkC (.slice ax x.lb.aft.length cx,x) from by simp,hVB];exact zaJ.new _ _ _
  have h1c:∀ y ∈ [((.slice ax x.lb.aft.length cx:Value),x)],∀ u ∈ bkC y,u.oneCell'=true:=fun y hy u hu=>by simp only [List.mem_singleton] at hy;subst hy;exact zl3 u hu
  have hlen6:rows.length+[((.slice ax x.lb.aft.length cx:Value),x)].length<=137438953472:=by have:=hlj.o;have hp:=congrArg List.length hpre.o;rw [List.length_map] at hp;simp only [List.length_singleton];omega
  replace hrow:=Y hrow;replace h1c:=Y h1c;replace hlen6:=Y hlen6;replace hVB:=Y hVB;clear hel hO hm hb hA hOx;go_wp2_with (first | (refine zcQ rfl _ _ rfl Tryz.underlying23 elB (by decide) VB rfl hVs.o ?_) | (at_builtin;refine zaI rfl _ _ _ rfl Tryz.underlying23 elB rfl (hO2.o.ext hxa) _ 1 1 rfl [(.slice ax x.lb.aft.length cx,x)] rfl hrow.o zgU h1c.o hlen6.o (by rw [World.size_alloc];omega) (fun e=>nomatch e) (fun v6 w6 H6=>?_);skip))
  obtain ⟨hO6,hm6⟩:=H6.o;have hmx:Mod (fun k=>(Value.slice av rows.length cv).ownBlock=some k) w2 w6:=(hxa.mono (fun _ h=>h.elim)).trans hm6;have hRo:(Value.slice av rows.length cv).ownBlock ≠ some R:=fun e=>by have:=(hO2.o.block _ e).1;omega
  have hb6:=Y (hb2.o.mod hmx hRo)
  have hap:∀ p:Value × Bk,Cdk.Own w2 w0.heap.size 3 1 zcZ p.1 p.2.lb.aft -> Cdk.Own w6 w0.heap.size 3 1 zcZ p.1 p.2.lb.aft:=fun p hp=>hp.mod hmx (fun k hk e=>by
   obtain ⟨c,hc⟩:=hO2.o.cells e
   exact own_ne hp hc (by decide) hk)
  have hA6:Hid (∀ p ∈ rows++[(.slice ax x.lb.aft.length cx,x)],Cdk.Own w6 w0.heap.size 3 1 zcZ p.1 p.2.lb.aft):=Y (fun p hp=>by
   rcases List.mem_append.1 hp with hp | hp
   ·exact hap p (hA2.o p hp)
   ·simp only [List.mem_singleton] at hp
    subst hp
    exact hap _ hOx2.o)
  have hm7:=Y (hm2.o.then hmx (fun k hk e=>by have:=(hO2.o.block _ e).1;omega));obtain ⟨av6,cv6,rfl,-⟩:=hO6.row;have hl6:(rows++[((.slice ax x.lb.aft.length cx:Value),x)]).length=rows.length+1:=by simp
  have hpre6:=Y (show (rows++[((.slice ax x.lb.aft.length cx:Value),x)]).map Prod.snd=pre++[x] by rw [List.map_append,hpre.o];rfl);rw [hl6];rw [hl6] at hO6;clear H6 hm6 hmx hxa hap;replace hO6:=Y hO6;go_wp2_with fail
  go_roundg g
  case measure=>omega
  case rel=>exact ⟨j+1,pre++[x],_,av6,cv6,st2,by have:=hj.o;omega,by go_num,by rw [hl6],by rw [hl6];exact hO6.o,hA6.o,hpre6.o,hb6.o,hm7.o,by rw [hTj.o];simp,by rw [List.length_append,hlj.o];rfl⟩
 case' inr.inl=>
  obtain ⟨hlt,er,he⟩:=hlt;have hq:=show mL 24 mB (.ok s)=(pre,st') by rw [<- hT.o,hTj,he,zh9];simp
  have hd:decide ((j:Int) < (n:Int))=true:=decide_eq_true (by omega);have hdi:(j:Int) < (n:Int):=by omega
  have hne:stE st' ≠ 0:=by rw [he] at hb ⊢;exact hb.ne
  have he1:(stE st'==0)=false:=by rw [beq_eq_false_iff_ne];exact hne
  clear he hTj
 case' inr.inr=>
  obtain rfl:gk=0:=by omega
  obtain rfl:j=n:=by omega
  have hq:=show mL 24 mB (.ok s)=(pre,st') by rw [<- hT.o,hTj];simp [mN]
  have hdi:¬ (j:Int) < (j:Int):=by omega
  have hd:decide ((j:Int) < (j:Int))=false:=decide_eq_false hdi;clear hTj
 all_goals
  replace hj:=Y hj;replace hlj:=Y hlj;have hx1:Ext w wr:=zao (B:=R) hwR ((hx0.o.mono (T:=fun k=>R<=k) (fun _ h=>h.elim)).trans (hm.mono (fun k hk=>by omega)));have hlen:(mL 24 mB (.ok s)).1.length<=1000:=by have:=zkT mB (most:=24) (by decide) (.ok s);omega
  have haft:=zlB (P:=fun b:Bk=>b.lb.aft.length<=1000) mB (fun st=>Nat.le_trans (zm9 st) (by decide)) 24 (.ok s);have htx:∀ b ∈ (mL 24 mB (.ok s)).1,maxS b.tx:=fun b hb=>by have:=zlB (P:=fun b:Bk=>b.tx.length<=65536) mB zpu 24 (.ok s) b hb;unfold maxS;omega
  have hd2:=zlk s;rw [hq] at hlen haft htx hd2;simp only at hlen haft htx hd2;clear d2;have hbks:=(zjx hpre hO hA hlen haft).mono (F':=fun k=>w.heap.size<=k/\k < wr.heap.size) (fun k hk=>⟨by omega,hk.2⟩);have hrl:rows.length=pre.length:=by rw [<- hpre,List.length_map]
  rw [hrl] at hbks ⊢;obtain ⟨D,hD⟩:∃ D,D=zdm s:=⟨_,rfl⟩;have hDP:Hid (∀ e w',DbP w s e w'=(Ext w w'/\DbE w e w' D)):=Y (fun e w'=>by rw [hD];rfl);rw [<- hD] at hd2;replace hD:=Y hD;have he:=hb.err;clear hq;replace hx1:=Y hx1;clear hO hA hm haft hpre;replace hrl:=Y hrl;rcases hd2 with ⟨l,hT,hv,hDl⟩ | ⟨hT,er,hDe⟩
  ·injection hT with h1 h2
   subst h1 h2;try exact absurd he1 (by simp [stE])
   all_goals
   obtain ⟨a,ha,ha2,hb⟩:=hb;have hal:a=s.length:=by
    have:=congrArg List.length ha2;rw [List.length_drop] at this;simp at this;omega
   subst hal;have c1:=cS hb 1;simp only [stE] at he;have hvl:=Y (zbR _ pre wr hbks htx);rw [hv] at hvl;have hlt:¬ (s.length:Int) < (s.length:Int):=by omega
   replace hb:=Y hb;replace hbks:=Y hbks;replace hDl:=Y hDl;replace hv:=Y hv;clear ha2;go_wp2_with fail
   refine hvl.o.mono ?_;rintro e w2 ⟨rfl,hx2⟩;have hxx:=Y (hx1.o.trans hx2);have hbb:=Y ((hbks.o.ext hx2).mono (F':=fun k=>w.heap.size<=k/\k < w2.heap.size) (fun k hk=>⟨hk.1,Nat.lt_of_lt_of_le hk.2 hx2.size⟩));clear hvl hx2;go_wp2_with fail
   go_ret2
   rw [hDP.o,hDl.o];exact ⟨hxx.o,_,_,rfl,hbb.o⟩
  ·rcases hT with ⟨e1,rfl⟩ | ⟨b,r,rfl⟩ | ⟨rfl,hv⟩
   ·try simp only [stE] at he1
    have hne:=hb.ne;have hne1:(e1 !=0)=true:=by rw [bne_iff_ne];exact hne
    have hne2:(e1==0)=false:=by rw [beq_eq_false_iff_ne];exact hne
    simp only [stE] at he;replace hb:=Y hb;replace hbks:=Y hbks;replace hDe:=Y hDe;go_wp2_with fail
    go_quiet (fail)
    go_wp2_with fail
    go_ret2
    rw [hDP.o,hDe.o];exact ⟨hx1.o.ofDrewN _,e1,hne,rfl⟩
   ·skip
    try exact absurd he1 (by simp [stE])
    all_goals
    obtain ⟨a,ha,ha2,hb⟩:=hb;have hal:a < s.length:=by
     have:=congrArg List.length ha2;rw [List.length_drop] at this;simp at this;omega
    have c1:=cS hb 1;simp only [stE] at he;have hlt:(a:Int) < (s.length:Int):=by omega
    have hltd:decide ((a:Int) < (s.length:Int))=true:=decide_eq_true hlt;replace hb:=Y hb;replace hbks:=Y hbks;replace hDe:=Y hDe;clear ha2;go_wp2_with fail
    go_ret2
    rw [hDP.o,hDe.o];exact ⟨hx1.o,10,by decide,rfl⟩
   ·skip
    skip
    try exact absurd he1 (by simp [stE])
    all_goals
    obtain ⟨a,ha,ha2,hb⟩:=hb;have hal:a=s.length:=by
     have:=congrArg List.length ha2;rw [List.length_drop] at this;simp at this;omega
    subst hal;have c1:=cS hb 1;simp only [stE] at he;have hvl:=Y (zbR _ pre wr hbks htx);rw [hv] at hvl;have hlt:¬ (s.length:Int) < (s.length:Int):=by omega
    replace hb:=Y hb;replace hbks:=Y hbks;replace hDe:=Y hDe;replace hv:=Y hv;clear ha2;go_wp2_with fail
    refine hvl.o.mono ?_;rintro e w2 ⟨rfl,hx2⟩;have hxx:=Y (hx1.o.trans hx2);clear hvl hx2;go_wp2_with fail
    go_ret2
    rw [hDP.o,hDe.o];exact ⟨hxx.o,30,by decide,rfl⟩
end Go.Proofs.YtjjfphalcibjfaaGreatDoor
namespace Cdk
open Go Go.RowKit
section
variable {P:Program} {ops:Array Oper} {rest:List Oper} {o:Oper} {a:Act} {w:World} {Q:Exit -> Act -> World -> Prop}
theorem zc6 {b:Bool} (hw:Region.wanted o (yielded ops a.tmps)=b) (v:Value) (h1:b=true -> (execOp a.eval o).run P w=.ok (.value v) w)
  (h:wpList P ops Q rest (a.put o.dst (bif b then v else undef)) w):wpList P ops Q (o::rest) a w:=by
 unfold wpList;cases b with
 | false=>rw [if_neg (by rw [hw];decide)];exact h
 | true=>
  rw [if_pos hw];refine .inl ?_;unfold Oper.wp;rw [h1 rfl];exact h
theorem zfr {g d:Nat} {p:Bool} (hg:o.guard=some (g,true)) (ho:(ops[g]?).bind (·.dst)=some d) (hv:a.tmps[d]?=some (.bool p)):Region.wanted o (yielded ops a.tmps)=p:=by
 unfold Region.wanted yielded;rw [hg];simp [ho,hv];try cases p <;> rfl
theorem zeh (hg:o.guard=none) (v:Value) (h1:(execOp a.eval o).run P w=.ok (.value v) w)
  (h:wpList P ops Q rest (a.put o.dst v) w):wpList P ops Q (o::rest) a w:=by
 have hw:Region.wanted o (yielded ops a.tmps)=true:=by unfold Region.wanted;rw [hg]
 exact zc6 hw v (fun _=>h1) h
theorem zcN (hg:o.guard=none) {p q:Bool} {c x y:Operand} (ho:o.op=.pick c x y) (hc:a.eval c=.bool p) (hx:a.eval x=(bif p then .bool q else undef)) (hy:a.eval y=.bool false)
  (h:wpList P ops Q rest (a.put o.dst (.bool (p && q))) w):wpList P ops Q (o::rest) a w:=by
 have hw:Region.wanted o (yielded ops a.tmps)=true:=by unfold Region.wanted;rw [hg]
 refine zc6 hw (.bool (p && q)) (fun _=>?_) h;rw [execOp,ho];simp only [hc,hx,hy];cases p <;> rfl
end
end Cdk
namespace Go.Proofs.YtjjfphalcibjfaaGreatDoor
open Go.RowKit Cdk Scr
theorem zoO (a b:Bs):(a !=b)=!decide (a=b):=by rw [Bool.eq_iff_iff,bne_iff_ne];simp
theorem zdT {F:Nat -> Prop} (a11:Option Addr) (n11 c11:Nat) (a12:Option Addr) (n12 c12:Nat) (a13:Option Addr) (n13 c13:Nat) (f:Fc) (a21:Option Addr) (n21 c21:Nat) (a22:Option Addr) (n22 c22:Nat) (a23:Option Addr) (n23 c23:Nat) (g:Fc) (w:World)
  (h1:FcAt F w ⟨.slice a11 n11 c11,.slice a12 n12 c12,.slice a13 n13 c13⟩ f) (h2:FcAt F w ⟨.slice a21 n21 c21,.slice a22 n22 c22,.slice a23 n23 c23⟩ g):
  Calls Tryz.prog 40 #[.agg (fcA a11 n11 c11 a12 n12 c12 a13 n13 c13 f),.agg (fcA a21 n21 c21 a22 n22 c22 a23 n23 c23 g)] w fun e w'=>e=.returned (.bool (decide (f=g)))/\Ext w w':=by
 obtain ⟨r,hr⟩:∃ r,r=decide (f=g):=⟨_,rfl⟩;rw [<- hr];have hT1:=h1.tp;have hT2:=h2.tp;have k2:=Y (fun W (hX:Ext w W)=>ziz (F:=F) (.slice a12 n12 c12) (.slice a22 n22 c22) f.bl g.bl W (h1.bl.ext hX) (h2.bl.ext hX));have k3:=Y (fun W (hX:Ext w W)=>zdq (F:=F) (.slice a13 n13 c13) (.slice a23 n23 c23) f.lb g.lb W (h1.af.ext hX) (h2.af.ext hX));clear h1 h2;obtain ⟨n1,tm1,kd1,st1,lg1,rv1,bs1,ti1,au1,tp1,bl1,lb1,ed1,bk1,se1,tx1,nm1,pa1,cl1,un1⟩:=f;obtain ⟨n2,tm2,kd2,st2,lg2,rv2,bs2,ti2,au2,tp2,bl2,lb2,ed2,bk2,se2,tx2,nm2,pa2,cl2,un2⟩:=g;obtain ⟨til1,aft1,app1,den1⟩:=lb1;obtain ⟨til2,aft2,app2,den2⟩:=lb2;replace hr:r=(decide (n1=n2) && (decide (tm1=tm2) && (decide (kd1=kd2) && (decide (st1=st2) && (decide (lg1=lg2) && (decide (rv1=rv2) && (decide (bs1=bs2) && (decide (ti1=ti2) && (decide (au1=au2) && (decide (tp1=tp2) && (decide (bl1=bl2) && (decide ((⟨til1,aft1,app1,den1⟩:Lb)=⟨til2,aft2,app2,den2⟩) && (decide (ed1=ed2) && (decide (bk1=bk2) && (decide (se1=se2) && (decide (tx1=tx2) && (decide (nm1=nm2) && (decide (pa1=pa2) && (decide (cl1=cl2) && (decide (un1=un2))))))))))))))))))))):=by
  rw [hr,Bool.eq_iff_iff];simp only [Fc.mk.injEq,decide_eq_true_eq,Bool.and_eq_true]
 unfold lbC at k3;simp only at k2 k3 hT1 hT2;have e_n:=zaj n1 n2;have e_tm:=zaj tm1 tm2;have e_kd:=zaj kd1 kd2;have e_st:=zaj st1 st2;have e_lg:=zbZ lg1 lg2;have e_rv:=zaj rv1 rv2;have e_bs:=zaj bs1 bs2;have e_ti:=zbZ ti1 ti2;have e_au:=zbZ au1 au2;have e_ed:=zaj ed1 ed2;have e_bk:=zaj bk1 bk2;have e_se:=zaj se1 se2;have e_tx:=zbZ tx1 tx2;have e_nm:=zbZ nm1 nm2;have e_pa:=zaj pa1 pa2;have e_cl:=zaj cl1 cl2;have e_un:=zaj un1 un2;generalize decide (n1=n2)=b_n at hr e_n;generalize decide (tm1=tm2)=b_tm at hr e_tm;generalize decide (kd1=kd2)=b_kd at hr e_kd;generalize decide (st1=st2)=b_st at hr e_st;generalize decide (lg1=lg2)=b_lg at hr e_lg;generalize decide (rv1=rv2)=b_rv at hr e_rv;generalize decide (bs1=bs2)=b_bs at hr e_bs;generalize decide (ti1=ti2)=b_ti at hr e_ti;generalize decide (au1=au2)=b_au at hr e_au;generalize decide (ed1=ed2)=b_ed at hr e_ed;generalize decide (bk1=bk2)=b_bk at hr e_bk;generalize decide (se1=se2)=b_se at hr e_se;generalize decide (tx1=tx2)=b_tx at hr e_tx;generalize decide (nm1=nm2)=b_nm at hr e_nm;generalize decide (pa1=pa2)=b_pa at hr e_pa;generalize decide (cl1=cl2)=b_cl at hr e_cl;generalize decide (un1=un2)=b_un at hr e_un;generalize decide (bl1=bl2)=b_bl at hr k2;generalize decide ((⟨til1,aft1,app1,den1⟩:Lb)=⟨til2,aft2,app2,den2⟩)=b_lb at hr k3;obtain ⟨q,hq⟩:∃ q,q=(b_bl && (b_lb && ((b_n && (b_tm && (b_kd && (b_st && (b_lg && (b_rv && (b_bs && (b_ti && (b_au))))))))) && (b_ed && (b_bk && (b_se && (b_tx && (b_nm && (b_pa && (b_cl && (b_un))))))))))):=⟨_,rfl⟩;replace hr:r=(decide (tp1=tp2) && q):=by
  rw [hr,hq];generalize decide (tp1=tp2)=b_tp;ac_rfl
 have hn0:=hT1.len;have z1:n11=tp1.length:=by obtain ⟨_,_,z⟩:=hT1.slice;injection z
 have z2:n21=tp2.length:=by obtain ⟨_,_,z⟩:=hT2.slice;injection z
 rw [<- z1] at hn0;have hne:((n11:Int) !=(n21:Int))=!decide (n11=n21):=by rw [Bool.eq_iff_iff,bne_iff_ne];simp;omega
 replace z1:=Y z1;replace z2:=Y z2;replace hq:=Y hq;replace hT1:=Y hT1;replace hT2:=Y hT2;obtain ⟨hx,hA,hB,-⟩:=zaV w #[.int .i64 n1,.int .i64 tm1,.int .i64 kd1,.int .i64 st1,.string ⟨lg1.toArray⟩,.int .i64 rv1,.int .i64 bs1,.string ⟨ti1.toArray⟩,.string ⟨au1.toArray⟩,.slice a11 n11 c11,.slice a12 n12 c12,.int .i64 til1,.slice a13 n13 c13,.int .i64 app1,.int .i64 den1,.int .i64 ed1,.int .i64 bk1,.int .i64 se1,.string ⟨tx1.toArray⟩,.string ⟨nm1.toArray⟩,.int .i64 pa1,.int .i64 cl1,.int .i64 un1] #[.int .i64 n2,.int .i64 tm2,.int .i64 kd2,.int .i64 st2,.string ⟨lg2.toArray⟩,.int .i64 rv2,.int .i64 bs2,.string ⟨ti2.toArray⟩,.string ⟨au2.toArray⟩,.slice a21 n21 c21,.slice a22 n22 c22,.int .i64 til2,.slice a23 n23 c23,.int .i64 app2,.int .i64 den2,.int .i64 ed2,.int .i64 bk2,.int .i64 se2,.string ⟨tx2.toArray⟩,.string ⟨nm2.toArray⟩,.int .i64 pa2,.int .i64 cl2,.int .i64 un2] 28 28;replace hx:=Y hx;replace hr:=Y hr;unfold fcA;simp only;go_enter Tryz.func40,Tryz.ntmps40;go_upto_region 1 with (fail)
 generalize ((w.alloc (.cells #[.int .i64 n1,.int .i64 tm1,.int .i64 kd1,.int .i64 st1,.string ⟨lg1.toArray⟩,.int .i64 rv1,.int .i64 bs1,.string ⟨ti1.toArray⟩,.string ⟨au1.toArray⟩,.slice a11 n11 c11,.slice a12 n12 c12,.int .i64 til1,.slice a13 n13 c13,.int .i64 app1,.int .i64 den1,.int .i64 ed1,.int .i64 bk1,.int .i64 se1,.string ⟨tx1.toArray⟩,.string ⟨nm1.toArray⟩,.int .i64 pa1,.int .i64 cl1,.int .i64 un1] 28)).alloc (.cells #[.int .i64 n2,.int .i64 tm2,.int .i64 kd2,.int .i64 st2,.string ⟨lg2.toArray⟩,.int .i64 rv2,.int .i64 bs2,.string ⟨ti2.toArray⟩,.string ⟨au2.toArray⟩,.slice a21 n21 c21,.slice a22 n22 c22,.int .i64 til2,.slice a23 n23 c23,.int .i64 app2,.int .i64 den2,.int .i64 ed2,.int .i64 bk2,.int .i64 se2,.string ⟨tx2.toArray⟩,.string ⟨nm2.toArray⟩,.int .i64 pa2,.int .i64 cl2,.int .i64 un2] 28))=w1 at hx hA hB ⊢;obtain ⟨Q,hQ⟩:∃ Q,Q=w.heap.size+1:=⟨_,rfl⟩;rw [<- hQ] at hB ⊢;replace hQ:=Y hQ;generalize w.heap.size=R at hA hB ⊢;replace hA:=Y hA;replace hB:=Y hB;have hE1:Hid ((n1==n2)=b_n/\(tm1==tm2)=b_tm/\(kd1==kd2)=b_kd/\(st1==st2)=b_st/\(lg1==lg2)=b_lg/\(rv1==rv2)=b_rv/\(bs1==bs2)=b_bs/\(ti1==ti2)=b_ti/\(au1==au2)=b_au):=Y ⟨e_n,e_tm,e_kd,e_st,e_lg,e_rv,e_bs,e_ti,e_au⟩;have hE2:Hid ((ed1==ed2)=b_ed/\(bk1==bk2)=b_bk/\(se1==se2)=b_se/\(tx1==tx2)=b_tx/\(nm1==nm2)=b_nm/\(pa1==pa2)=b_pa/\(cl1==cl2)=b_cl/\(un1==un2)=b_un):=Y ⟨e_ed,e_bk,e_se,e_tx,e_nm,e_pa,e_cl,e_un⟩;clear e_n e_tm e_kd e_st e_lg e_rv e_bs e_ti e_au e_ed e_bk e_se e_tx e_nm e_pa e_cl e_un;have p_tp0:=cS hA.o 9;have p_tp1:=cS hB.o 9;cases hnm:decide (n11=n21) with
 | false=>
  rw [hnm] at hne
  have hrf:Hid (r=false):=Y (by
   rw [hr.o,Bool.and_eq_false_iff];left;rw [decide_eq_false_iff_not];intro e;rw [decide_eq_false_iff_not] at hnm
   exact hnm (by rw [z1.o,z2.o,e]))
  replace hnm:=Y hnm;go_wp2_with fail
  go_ret;exact ⟨by rw [hrf.o];rfl,hx.o⟩
 | true=>
 rw [hnm] at hne;obtain rfl:n11=n21:=by simpa using hnm
 clear hnm;replace hr:r=(decide (tp1.drop 0=tp2.drop 0) && q):=by rw [hr.o];simp
 replace hr:=Y hr;go_wp2_with fail
 clear p_tp0 p_tp1;go_loopg [5] n11 (fun g i wr=>∃ j:Nat,j+g=n11/\i=.int .i64 j/\Ext w1 wr/\r=(decide (tp1.drop j=tp2.drop j) && q))
 case atStart=>exact ⟨0,by omega,rfl,Mod.refl _ _,hr.o⟩
 case round=>
  clear hne hr;obtain ⟨j,hj,rfl,hx',hrj⟩:=hrel;replace hj:=Y hj;replace hA:=Y (hx'.at hA.o id);replace hB:=Y (hx'.at hB.o id);replace hx:=Y (hx.o.trans hx');replace hx':=Y hx';have p_tp0:=cS hA.o 9;have p_tp1:=cS hB.o 9
  by_cases hlt:j < n11
  ·have hdi:(j:Int) < (n11:Int):=by omega
   have hd:decide ((j:Int) < (n11:Int))=true:=decide_eq_true hdi;have hjl1:j < tp1.length:=by have:=z1.o;omega
   have hjl2:j < tp2.length:=by have:=z2.o;omega
   obtain ⟨b1,o1,rfl,g1⟩:=zcR (hT1.o.ext hx.o) hjl1;obtain ⟨b2,o2,rfl,g2⟩:=zcR (hT2.o.ext hx.o) hjl2;rw [zck hjl1 hjl2] at hrj;generalize tp1[j]=x at g1 hrj;generalize tp2[j]=y at g2 hrj;have hxy:=zoO x y;have hxe:=zbZ x y;generalize decide (x=y)=p at hxy hxe hrj;generalize hrest:decide (tp1.drop (j+1)=tp2.drop (j+1))=rest at hrj;replace hrj:=Y hrj;replace hrest:=Y hrest;cases p with
   | false=>
    go_wp2_with fail
    go_quiet (fail)
    go_wp2_with fail
    go_ret;exact ⟨by rw [hrj.o];rfl,hx.o.ofDrewN _⟩
   | true=>
    go_wp2_with fail
    go_quiet (fail)
    go_wp2_with fail
    go_roundg (gk - 1)
    case measure=>have:=hj.o;omega
    case rel=>exact ⟨j+1,by have:=hj.o;omega,by go_num,hx'.o.ofDrewN _,by rw [hrj.o,hrest.o,Bool.true_and]⟩
  ·obtain rfl:j=n11:=by have:=hj.o;omega
   have hdi:¬ (j:Int) < (j:Int):=by omega
   have hd:decide ((j:Int) < (j:Int))=false:=decide_eq_false hdi;rw [List.drop_eq_nil_of_le (by have:=z1.o;omega),List.drop_eq_nil_of_le (by have:=z2.o;omega)] at hrj;replace hrj:r=q:=by rw [hrj];simp
   rw [hq.o] at hrj;replace hrj:=Y hrj;clear hx' hq hT1 hT2 z1 z2;have p_bl0:=cS hA.o 10;have p_bl1:=cS hB.o 10;go_wp2_with fail
   refine (k2.o _ hx.o).mono ?_;rintro e w3 ⟨rfl,hx3⟩;replace hA:=hx3.at hA.o id;replace hB:=hx3.at hB.o id;replace hx:=Y (hx.o.trans hx3);clear hx3 k2 p_bl0 p_bl1 p_tp0 p_tp1;replace hA:=Y hA;replace hB:=Y hB;have p_til0:=cS hA.o 11;have p_til1:=cS hB.o 11;have p_aft0:=cS hA.o 12;have p_aft1:=cS hB.o 12;have p_app0:=cS hA.o 13;have p_app1:=cS hB.o 13;have p_den0:=cS hA.o 14;have p_den1:=cS hB.o 14;go_wp2_with fail
   refine (k3.o _ hx.o).mono ?_;rintro e w4 ⟨rfl,hx4⟩;replace hA:=hx4.at hA.o id;replace hB:=hx4.at hB.o id;replace hx:=Y (hx.o.trans hx4);clear hx4 k3 p_til0 p_til1 p_aft0 p_aft1 p_app0 p_app1 p_den0 p_den1 hd hdi hlt hj;replace hA:=Y hA;replace hB:=Y hB;go_upto_region 10 with (fail)
   have p_n0:=cS hA.o 0;have p_n1:=cS hB.o 0;have p_tm0:=cS hA.o 1;have p_tm1:=cS hB.o 1;have p_kd0:=cS hA.o 2;have p_kd1:=cS hB.o 2;have p_st0:=cS hA.o 3;have p_st1:=cS hB.o 3;have p_lg0:=cS hA.o 4;have p_lg1:=cS hB.o 4;have p_rv0:=cS hA.o 5;have p_rv1:=cS hB.o 5;have p_bs0:=cS hA.o 6;have p_bs1:=cS hB.o 6;have p_ti0:=cS hA.o 7;have p_ti1:=cS hB.o 7;have p_au0:=cS hA.o 8;have p_au1:=cS hB.o 8;obtain ⟨e_n,e_tm,e_kd,e_st,e_lg,e_rv,e_bs,e_ti,e_au⟩:=hE1.o;refine zaX ?_;simp only [List.map_cons,List.map_nil,zcJ]
   repeat (first
    | (refine zcN (by rfl) (by rfl) (by rfl) (by rfl) (by rfl) ?_;simp only [Act.put,sA,sZ,sS])
    | (refine zc6 (zfr (by rfl) (by rfl) (by rfl)) ?_ (fun hb=>?_) ?_;rotate_left;(first | (go_simp;with_reducible rfl) | (go_simp;simp only [hb,cond_true];with_reducible rfl) | (go_simp;simp only [hb,cond_true];go_simp;with_reducible rfl));simp only [Act.put,sA,sZ,sS])
    | (refine zeh (by rfl) ?_ ?_ ?_;rotate_left;(go_simp;try with_reducible rfl);simp only [Act.put,sA,sZ,sS]))
   clear p_n0 p_n1 p_tm0 p_tm1 p_kd0 p_kd1 p_st0 p_st1 p_lg0 p_lg1 p_rv0 p_rv1 p_bs0 p_bs1 p_ti0 p_ti1 p_au0 p_au1;clear e_n e_tm e_kd e_st e_lg e_rv e_bs e_ti e_au;go_upto_region 11 with (fail)
   have p_ed0:=cS hA.o 15;have p_ed1:=cS hB.o 15;have p_bk0:=cS hA.o 16;have p_bk1:=cS hB.o 16;have p_se0:=cS hA.o 17;have p_se1:=cS hB.o 17;have p_tx0:=cS hA.o 18;have p_tx1:=cS hB.o 18;have p_nm0:=cS hA.o 19;have p_nm1:=cS hB.o 19;have p_pa0:=cS hA.o 20;have p_pa1:=cS hB.o 20;have p_cl0:=cS hA.o 21;have p_cl1:=cS hB.o 21;have p_un0:=cS hA.o 22;have p_un1:=cS hB.o 22;obtain ⟨e_ed,e_bk,e_se,e_tx,e_nm,e_pa,e_cl,e_un⟩:=hE2.o;refine zaX ?_;simp only [List.map_cons,List.map_nil,zcJ]
   repeat (first
    | (refine zcN (by rfl) (by rfl) (by rfl) (by rfl) (by rfl) ?_;simp only [Act.put,sA,sZ,sS])
    | (refine zc6 (zfr (by rfl) (by rfl) (by rfl)) ?_ (fun hb=>?_) ?_;rotate_left;(first | (go_simp;with_reducible rfl) | (go_simp;simp only [hb,cond_true];with_reducible rfl) | (go_simp;simp only [hb,cond_true];go_simp;with_reducible rfl));simp only [Act.put,sA,sZ,sS])
    | (refine zeh (by rfl) ?_ ?_ ?_;rotate_left;(go_simp;try with_reducible rfl);simp only [Act.put,sA,sZ,sS]))
   clear p_ed0 p_ed1 p_bk0 p_bk1 p_se0 p_se1 p_tx0 p_tx1 p_nm0 p_nm1 p_pa0 p_pa1 p_cl0 p_cl1 p_un0 p_un1;clear e_ed e_bk e_se e_tx e_nm e_pa e_cl e_un;go_upto_region 12 with (fail)
   refine zaX ?_;simp only [List.map_cons,List.map_nil,zcJ]
   repeat (first
    | (refine zcN (by rfl) (by rfl) (by rfl) (by rfl) (by rfl) ?_;simp only [Act.put,sA,sZ,sS])
    | (refine zc6 (zfr (by rfl) (by rfl) (by rfl)) ?_ (fun hb=>?_) ?_;rotate_left;(first | (go_simp;with_reducible rfl) | (go_simp;simp only [hb,cond_true];with_reducible rfl) | (go_simp;simp only [hb,cond_true];go_simp;with_reducible rfl));simp only [Act.put,sA,sZ,sS])
    | (refine zeh (by rfl) ?_ ?_ ?_;rotate_left;(go_simp;try with_reducible rfl);simp only [Act.put,sA,sZ,sS]))
   go_wp2_with fail
   go_ret;exact ⟨by rw [hrj.o];simp [Bool.and_assoc],hx.o⟩
end Go.Proofs.YtjjfphalcibjfaaGreatDoor
