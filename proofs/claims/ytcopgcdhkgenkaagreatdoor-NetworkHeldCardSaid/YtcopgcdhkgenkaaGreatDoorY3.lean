import Derived.Test.YtcopgcdhkgenkaaGreatDoorLift
set_option linter.all false
set_option maxRecDepth 100000
set_option maxHeartbeats 16000000
namespace Nt
open Scr
theorem held_law {n:Ns} {pa:Nat} {h f:Bs} (d:Nat) (hq:n.q=[⟨.dlv pa 1 1 h,pa,1,true,1⟩,⟨.dlv 1 1 2 f,1,n.t+1+d,false,2⟩]) (hf:n.fs=[]) (hσ:n.σ=fun _ _=>0) (hκ:n.κ=fun _ _=>none) (i:Nat):
  ((ticks i n).κ pa 1).isSome=decide (d+2<=i)/\((ticks i n).κ 1 2).isSome=decide (d+1<=i):=by
 obtain ⟨x1,hx1⟩:∃ x:PLt,x=⟨.dlv pa 1 1 h,pa,1,true,1⟩:=⟨_,rfl⟩;obtain ⟨x2,hx2⟩:∃ x:PLt,x=⟨.dlv 1 1 2 f,1,n.t+1+d,false,2⟩:=⟨_,rfl⟩;rw [<- hx1,<- hx2] at hq;have d1:∀ t,due t x1=false:=fun t=>by rw [hx1];rfl
 have d2:∀ t,due t x2=decide (n.t+1+d<=t):=fun t=>by rw [hx2];rfl
 have hw:∀ k,k<=d -> (ticks k n).q=[x1,x2]/\(ticks k n).fs=[]/\(ticks k n).σ=n.σ/\(ticks k n).κ=n.κ:=fun k=>by
  induction k with
  | zero=>exact fun _=>⟨hq,hf,rfl,rfl⟩
  | succ k ih=>
   intro hk;obtain ⟨a,b,c,e⟩:=ih (by omega);have h2:due ((ticks k n).t+1) x2=false:=by rw [d2,ticks_t];exact decide_eq_false (by omega)
   show (tickP (ticks k n)).q=_/\(tickP (ticks k n)).fs=_/\(tickP (ticks k n)).σ=_/\(tickP (ticks k n)).κ=_
   unfold tickP;rw [a];simp only [List.filter_cons,d1,h2,List.filter_nil,Bool.not_false,if_true,List.foldl_nil,Bool.false_eq_true,if_false];exact ⟨trivial,b,c,e⟩
 obtain ⟨a,b,c,e⟩:=hw d (Nat.le_refl _);have ht:=ticks_t d n;have h2:due ((ticks d n).t+1) x2=true:=by rw [d2,ticks_t];exact decide_eq_true (by omega)
 have hq1:dq (ticks (d+1) n)=[{ x1 with he:=false,du:=(ticks d n).t+1+1 }]:=by
  show dq (tickP (ticks d n))=_
  unfold tickP;rw [a];simp only [List.filter_cons,d1,h2,List.filter_nil,Bool.not_false,Bool.not_true,if_true,List.foldl_nil,Bool.false_eq_true,if_false,List.foldl_cons];rw [delivP_dq];unfold dq unheld;rw [hx1,hx2]
  rfl
 have hs1:((ticks (d+1) n).σ,(ticks (d+1) n).κ)=(setf n.σ 1 2 1,setf n.κ 1 2 (some f)):=by
  show ((tickP (ticks d n)).σ,(tickP (ticks d n)).κ)=_
  have hdq:dq (ticks d n)=[x1,x2]:=by unfold dq;rw [a,hx1,hx2];rfl
  have hfl:[x1,x2].filter (due ((ticks d n).t+1))=[x2]:=by simp only [List.filter_cons,d1,h2,List.filter_nil,if_true,Bool.false_eq_true,if_false]
  rw [tick_sk,hdq,hfl,c,e,hx2,hσ,hκ]
  rfl
 have hσ1:(ticks (d+1) n).σ=setf n.σ 1 2 1:=congrArg Prod.fst hs1;have hκ1:(ticks (d+1) n).κ=setf n.κ 1 2 (some f):=congrArg Prod.snd hs1
 have hall:=tick_all (n:=ticks (d+1) n) (by
  rw [hq1];intro l hl;rw [List.mem_singleton] at hl;subst hl
  exact ⟨rfl,by show (ticks d n).t+1+1<=(tickP (ticks d n)).t+1;rw [(tickP_t _).1];omega⟩)
 have hκ2:(ticks (d+2) n).κ=setf (setf n.κ 1 2 (some f)) pa 1 (some h):=by
  have e2:=congrArg Prod.snd hall.2;simp only at e2;show (tickP (ticks (d+1) n)).κ=_
  rw [e2,hq1,hσ1,hκ1,hx1,hσ];simp only [List.foldl_cons,List.foldl_nil,recvSK];rw [if_pos (by simp [setf])]
  rfl
 have hsum:∀ e,ticks (e+(d+2)) n=ticks e (ticks (d+2) n):=fun e=>by
  induction e with
  | zero=>rw [Nat.zero_add];rfl
  | succ e ih=>rw [show e+1+(d+2)=(e+(d+2))+1 by omega];show tickP _=tickP _;rw [ih]
 by_cases h0:i<=d
 ·obtain ⟨-,-,-,e'⟩:=hw i h0
  rw [e',hκ,decide_eq_false (by omega),decide_eq_false (by omega)];exact ⟨rfl,rfl⟩
 ·by_cases h1:i=d+1
  ·subst h1
   rw [hκ1,hκ,decide_eq_false (by omega),decide_eq_true (by omega)];refine ⟨?_,by simp [setf]⟩;simp [setf]
  ·obtain ⟨k,rfl⟩:∃ k,i=k+(d+2):=⟨i - (d+2),by omega⟩
   rw [hsum,(ticks_none k (n:=ticks (d+2) n) hall.1).2.2,hκ2,hκ,decide_eq_true (by omega),decide_eq_true (by omega)];refine ⟨by simp [setf],?_⟩;simp only [setf];split
   ·rfl
   ·simp
end Nt
namespace Go.Proofs.YtcopgcdhkgenkaaGreatDoor
open Go.Shelf Go.RowKit Cdk Scr Nt
def pickA (c:Int):Nat:=if c < 0 then (-(c+1)).toNat else c.toNat
def pickN (c:Int) (n:Nat):Nat:=pickA c % n
theorem pickN_lt (c:Int) {n:Nat} (h:0 < n):pickN c n < n:=Nat.mod_lt _ h
theorem tmod_nat (a n:Nat):((a:Int)).tmod (n:Int)=((a % n:Nat):Int):=by
 rw [Int.tmod_eq_emod_of_nonneg (by omega)];rfl
theorem pick_law (c:Int) (n:Nat) (hc:I64 c) (hn:1<=n/\n<=1000) (w:World):Calls Tryz.prog 10 #[.int .i64 c,.int .i64 n] w fun e w'=>e=.returned (.int .i64 (pickN c n))/\w=w':=by
 have hz:¬ (n:Int)=0:=by omega
 have hz2:((n:Int)==0)=false:=by rw [beq_eq_false_iff_ne];exact hz
 unfold I64 at hc
 by_cases h:c < 0
 ·have hw1:IntKind.i64.wrap (c+1)=c+1:=IntWalk.i64_in _ (by omega)
  have hw2:IntKind.i64.wrap (-(c+1))=-(c+1):=IntWalk.i64_in _ (by omega);have ht:(-(c+1)).tmod (n:Int)=((pickN c n:Nat):Int):=by
   unfold pickN pickA;rw [if_pos h,<- tmod_nat,Int.toNat_of_nonneg (by omega)]
  have hw3:IntKind.i64.wrap ((pickN c n:Nat):Int)=((pickN c n:Nat):Int):=IntWalk.i64_in _ (by have:=pickN_lt c (n:=n) (by omega);omega);go_enter Tryz.func10,Tryz.ntmps10;go_wp2_with fail
  go_ret;exact ⟨by first | rfl | (show Ending.returned (Value.int .i64 _)=_;simp only [ht,hw3]),rfl⟩
 ·have ht:c.tmod (n:Int)=((pickN c n:Nat):Int):=by
   unfold pickN pickA;rw [if_neg h,<- tmod_nat,Int.toNat_of_nonneg (by omega)]
  have hw3:IntKind.i64.wrap ((pickN c n:Nat):Int)=((pickN c n:Nat):Int):=IntWalk.i64_in _ (by have:=pickN_lt c (n:=n) (by omega);omega);go_enter Tryz.func10,Tryz.ntmps10;go_wp2_with fail
  go_ret;exact ⟨by first | rfl | (show Ending.returned (Value.int .i64 _)=_;simp only [ht,hw3]),rfl⟩
theorem okF_all (l:List Int) (h:l.length<=64) (hx:∀ y ∈ l,0<=y/\y<=24):okF l=true:=by
 unfold okF;rw [Bool.and_eq_true];refine ⟨decide_eq_true h,List.all_eq_true.2 (fun y hy=>?_)⟩;have:=hx y hy;rw [Bool.and_eq_true];exact ⟨decide_eq_true this.1,decide_eq_true this.2⟩
theorem ticks_s:∀ (k:Nat) (n:Ns),n.good -> (ticks k n).s<=n.s+2048*k:=fun k=>by
 induction k with
 | zero=>intro n _;exact Nat.le_add_right _ _
 | succ k ih=>
  intro n h
  have h1:=tickP_s (ticks_good k h)
  have h2:=ih n h
  generalize hc:(2048:Nat)=c at h1 h2 ⊢
  have h3:(ticks (k+1) n).s=(tickP (ticks k n)).s:=rfl
  rw [h3,Nat.mul_succ]
  omega
end Go.Proofs.YtcopgcdhkgenkaaGreatDoor
namespace Nt
open Scr
theorem held_send (pa:Nat) (h:Bs) (L:Int):sendP { Ns.new with fs:=[3,L] } (.dlv pa 1 1 h)={ Ns.new with fs:=[L],q:=[⟨.dlv pa 1 1 h,pa,1,true,1⟩],s:=1 }:=rfl
theorem ticks_held (x:PLt) (hx:x.he=true):∀ (k:Nat) (n:Ns),n.q=[x] -> (ticks k n).q=[x]/\(ticks k n).fs=n.fs/\(ticks k n).s=n.s/\(ticks k n).σ=n.σ/\(ticks k n).κ=n.κ:=fun k=>by
 induction k with
 | zero=>exact fun n h=>⟨h,rfl,rfl,rfl,rfl⟩
 | succ k ih=>
  intro n h
  obtain ⟨a,b,c,d,e⟩:=ih n h
  have hd:∀ t,due t x=false:=fun t=>by unfold due;rw [hx];rfl
  show (tickP (ticks k n)).q=_/\(tickP (ticks k n)).fs=_/\(tickP (ticks k n)).s=_/\(tickP (ticks k n)).σ=_/\(tickP (ticks k n)).κ=_
  unfold tickP
  rw [a]
  simp only [List.filter_cons,hd,List.filter_nil,Bool.not_false,if_true,List.foldl_nil,Bool.false_eq_true,if_false]
  exact ⟨trivial,b,c,d,e⟩
def lateF (la:Nat):Int:=if la=0 then 0 else 4+(la:Int)
theorem held_free (n:Ns) (x1:PLt) (la:Nat) (f:Bs) (hq:n.q=[x1]) (hs:n.s=1) (hf:n.fs=[lateF la]):(sendP n (.dlv 1 1 2 f)).q=[x1,⟨.dlv 1 1 2 f,1,n.t+1+la,false,2⟩]/\(sendP n (.dlv 1 1 2 f)).fs=[]/\(sendP n (.dlv 1 1 2 f)).s=2/\(sendP n (.dlv 1 1 2 f)).t=n.t/\(sendP n (.dlv 1 1 2 f)).σ=n.σ/\(sendP n (.dlv 1 1 2 f)).κ=n.κ:=by
 have e:fatedP (nextF [lateF la]).1 (letP n.t (.dlv 1 1 2 f))=[⟨.dlv 1 1 2 f,1,n.t+1+la,false,0⟩]:=by
  show fatedP (lateF la) _=_
  unfold fatedP lateF
  by_cases h:la=0
  ·subst h
   rw [if_pos rfl,if_pos rfl];show [(⟨_,_,n.t+1,_,_⟩:PLt)]=_
   rw [show n.t+1+((0:Nat):Int)=n.t+1 by omega];rfl
  ·rw [if_neg h,if_neg (by omega),if_neg (by omega),if_neg (by omega),if_neg (by omega),if_neg (by omega)]
   show [(⟨_,_,n.t+1+(4+(la:Int) - 4),_,_⟩:PLt)]=_
   rw [show n.t+1+(4+(la:Int) - 4)=n.t+1+la by omega];rfl
 unfold sendP;rw [hf,hq,hs,e];exact ⟨rfl,rfl,rfl,rfl,rfl,rfl⟩
end Nt
namespace Go.Proofs.YtcopgcdhkgenkaaGreatDoor
open Go.Shelf Go.RowKit Cdk Scr Nt
def sHeld:Bs:=[104,101,108,100]
def sFree:Bs:=[102,114,101,101]
theorem held_walk (a0 a1 a2:Int) (h0:I64 a0) (h1:I64 a1) (h2:I64 a2) (w:World) (hG:Gl w):
  Calls Tryz.prog 4 #[.int .i64 a0,.int .i64 a1,.int .i64 a2] w fun e w'=>e=.returned (.bool true)/\Ext w w':=by
 have hsn:=hid (sane_law w hG);have hG0:=hid hG;have p0:=hid (fun W=>pick_law a0 21 h0 (by decide) W);have p1:=hid (fun W=>pick_law a1 21 h1 (by decide) W);have p2:=hid (fun W=>pick_law a2 8 h2 (by decide) W);have q0:=pickN_lt a0 (n:=21) (by decide);have q1:=pickN_lt a1 (n:=21) (by decide);have q2:=pickN_lt a2 (n:=8) (by decide);generalize pickN a0 21=wt at p0 q0;generalize pickN a1 21=la at p1 q1;generalize pickN a2 8=pa at p2 q2;have w1:IntKind.i64.wrap (1+(pa:Int))=((pa+1:Nat):Int):=by rw [IntWalk.i64_in _ (by omega)];omega
 have w2:IntKind.i64.wrap (4+(la:Int))=4+(la:Int):=IntWalk.i64_in _ (by omega);have hk1:(Pl.dlv (pa+1) 1 1 sHeld).ok:=⟨by omega,by omega,by decide,by decide,by decide,by decide,by decide⟩;have hk2:(Pl.dlv 1 1 2 sFree).ok:=⟨by decide,by decide,by decide,by decide,by decide,by decide,by decide⟩;have hd1:=hid (fun W (h:Gl W)=>deliver_law (pa+1) 1 1 sHeld hk1 W h);have hd2:=hid (fun W (h:Gl W)=>deliver_law 1 1 2 sFree hk2 W h);have hi1:=hid (fun (U b:Nat) (n:Ns) (W:World) (hG:Gl W) (h:Net U W b n) (hs:n.s<=1000000) (ht:n.t<=1000000)=>net_inject (.dlv (pa+1) 1 1 sHeld) hk1 (.inl ⟨_,_,_,_,rfl⟩) W hG h hs ht);have hi2:=hid (fun (U b:Nat) (n:Ns) (W:World) (hG:Gl W) (h:Net U W b n) (hs:n.s<=1000000) (ht:n.t<=1000000)=>net_inject (.dlv 1 1 2 sFree) hk2 (.inl ⟨_,_,_,_,rfl⟩) W hG h hs ht);obtain ⟨T1,hT1⟩:∃ T,T=(⟨(Pl.dlv (pa+1) 1 1 sHeld).tx.toArray⟩:ByteArray):=⟨_,rfl⟩;obtain ⟨T2,hT2⟩:∃ T,T=(⟨(Pl.dlv 1 1 2 sFree).tx.toArray⟩:ByteArray):=⟨_,rfl⟩;rw [<- hT1] at hd1 hi1;rw [<- hT2] at hd2 hi2;clear hT1 hT2 hk1 hk2 h0 h1 h2 hG;go_enter Tryz.func4,Tryz.ntmps4;go_wp2_with fail
 refine hsn.out.mono ?_;rintro e wa ⟨rfl,hx0⟩;have hx1:=hid hx0;have hnew:=hid (net_new wa (hG0.out.ext hx0));obtain ⟨U,hU⟩:∃ U,U=wa.heap.size:=⟨_,rfl⟩;rw [<- hU] at hnew;have hUw:Hid (w.heap.size<=U):=hid (by have:=hx0.size;omega);clear hx0 hsn hU;go_wp2_with fail
 refine (p0.out wa).mono ?_;rintro e w0 ⟨rfl,hw0⟩;obtain rfl:wa=w0:=hw0;go_wp2_with fail
 refine (p1.out wa).mono ?_;rintro e w0 ⟨rfl,hw0⟩;obtain rfl:wa=w0:=hw0;go_wp2_with fail
 refine (p2.out wa).mono ?_;rintro e w0 ⟨rfl,hw0⟩;obtain rfl:wa=w0:=hw0;go_wp2_with fail
 refine hnew.out.mono ?_;rintro e wb ⟨⟨b,rfl,hN0,-⟩,hx0⟩;have hx2:=hid (hx1.out.trans hx0);have hN2:=hid hN0;clear hx0 hN0 hx1 hnew p0 p1 p2;have hset:=hid (net_set (.slice (some ⟨wb.heap.size,0,none⟩) 2 2) [3,4+(la:Int)] (wb.alloc (.cells #[.int .i64 3,.int .i64 (4+la)] 3)) (hN2.out.ext (Mod.alloc (Mod.refl (fun _=>False) wb) _)) (ints_new wb [3,4+(la:Int)] 2 rfl (by decide)) (show 2<=1000000 by omega));unfold SetP at hset;simp only [okF_all [3,4+(la:Int)] (show 2<=64 by omega) (fun y hy=>by simp only [List.mem_cons,List.not_mem_nil,or_false] at hy;omega),if_true] at hset;have hxA:=hid (Mod.alloc (Mod.refl (fun _=>False) wb) (.cells #[.int .i64 3,.int .i64 (4+la)] 3));go_wp2_with fail
 refine hset.out.mono ?_;rintro e w3 ⟨rfl,hN3,hm⟩;have hN3':=hid hN3;have hx3:Hid (Ext w w3):=hid ((hx2.out.trans hxA.out).then hm (fun q hq e=>by have:=hUw.out;omega));clear hN3 hm hset hxA hN2 hx2;go_wp2_with fail
 refine (hd1.out w3 (hG0.out.ext hx3.out)).mono ?_;rintro e w4 ⟨rfl,hx0⟩;have hx4:=hid (hx3.out.trans hx0);have hN4:=hid (hN3'.out.ext hx0);clear hx0 hd1 hN3' hx3;go_wp2_with fail
 refine (hi1.out U b _ w4 (hG0.out.ext hx4.out) hN4.out (by show Ns.new.s<=1000000;decide) (by show Ns.new.t<=1000000;decide)).mono ?_;rintro e w5 ⟨rfl,hN5,hm⟩;have hx5:Hid (Ext w w5):=hid (hx4.out.then hm (fun q hq e=>by have:=hUw.out;omega));rw [held_send] at hN5;obtain ⟨x1,hx1⟩:∃ x:PLt,x=⟨.dlv (pa+1) 1 1 sHeld,((pa+1:Nat):Int),1,true,1⟩:=⟨_,rfl⟩;have hx1h:Hid (x1.he=true):=hid (by rw [hx1]);rw [<- hx1] at hN5;have hN5':=hid hN5;replace hx1:=hid hx1;clear hN5 hm hi1 hN4 hx4;obtain ⟨n3,hn3⟩:∃ n3:Ns,n3={ Ns.new with fs:=[lateF la],q:=[x1],s:=1 }:=⟨_,rfl⟩
 by_cases hl0:la=0
 case' pos=>
  have hl1:((la:Int)==0)=true:=by rw [hl0];rfl
  have hset:=hid (net_set (.slice (some ⟨w5.heap.size,0,none⟩) 1 1) [0] (w5.alloc (.cells #[.int .i64 0] 3)) (hN5'.out.ext (Mod.alloc (Mod.refl (fun _=>False) w5) _)) (ints_new w5 [0] 1 rfl (by decide)) (show 1<=1000000 by omega));unfold SetP at hset;simp only [okF_all [0] (show 1<=64 by omega) (fun y hy=>by rw [List.mem_singleton] at hy;omega),if_true] at hset;have hxA:=hid (Mod.alloc (Mod.refl (fun _=>False) w5) (.cells #[.int .i64 0] 3));replace hn3:Hid (n3={ Ns.new with fs:=[0],q:=[x1],s:=1 }/\n3={ Ns.new with fs:=[lateF la],q:=[x1],s:=1 }):=hid ⟨by rw [hn3,show lateF la=0 from if_pos hl0],hn3⟩;clear hl0;go_wp2_with fail
  refine hset.out.mono ?_;rintro e w6 ⟨rfl,hN,hm⟩;have hx6:Hid (Ext w w6):=hid ((hx5.out.trans hxA.out).then hm (fun q hq e=>by have:=hUw.out;omega));have hN6:Hid (Net U w6 b n3):=hid (by rw [hn3.out.1];exact hN);replace hn3:=hn3.out.2;clear hN hm hset hxA hl1
 case' neg=>
  have hl1:((la:Int)==0)=false:=by rw [beq_eq_false_iff_ne];omega
  have hN6:Hid (Net U w5 b n3):=hid (by rw [hn3,show lateF la=4+(la:Int) from if_neg hl0];exact hN5'.out);have hx6:=hx5
  rename World=>w6
  clear hl0
 all_goals
  clear hx5;replace hn3:=hid hn3;have hw3:IntKind.i64.wrap ((la:Int)+3)=(la:Int)+3:=IntWalk.i64_in _ (by omega);have hw4:IntKind.i64.wrap ((la:Int)+1)=(la:Int)+1:=IntWalk.i64_in _ (by omega);have hw5:IntKind.i64.wrap ((la:Int)+2)=(la:Int)+2:=IntWalk.i64_in _ (by omega);go_wp2_with fail
  go_loopg [10] wt (fun g i wr=>∃ k:Nat,k+g=wt/\i=.int .i64 k/\Net U wr b (ticks k n3)/\Ext w wr)
  case atStart=>exact ⟨0,by omega,rfl,hN6.out,hx6.out⟩
  case round=>
   obtain ⟨k,hk,rfl,hNk,hxr⟩:=hrel;replace hk:=hid hk;have hNk':=hid hNk;have hxr':=hid hxr;obtain ⟨c1,c2,c3,c4,c5⟩:=ticks_held x1 hx1h.out k n3 (by rw [hn3.out]);replace c2:=c2.trans (show n3.fs=[lateF la] by rw [hn3.out]);replace c3:=c3.trans (show n3.s=1 by rw [hn3.out]);replace c4:=c4.trans (show n3.σ=fun _ _=>0 by rw [hn3.out];rfl);replace c5:=c5.trans (show n3.κ=fun _ _=>none by rw [hn3.out];rfl);have c6:(ticks k n3).t=(k:Int):=by rw [ticks_t,hn3.out];show (0:Int)+k=k;omega
   clear hNk hxr
   by_cases hkw:k < wt
   ·have hki:(k:Int) < (wt:Int):=by omega
    have hd:decide ((k:Int) < (wt:Int))=true:=decide_eq_true hki;have htc:=hid (net_tick wr (hG0.out.ext hxr'.out) hNk'.out (by rw [c3];decide) (by rw [c6];omega));clear c1 c2 c3 c4 c5 c6;go_wp2_with fail
    refine htc.out.mono ?_;rintro e w7 ⟨rfl,hN7,hm⟩;have hN7':Hid (Net U w7 b (ticks (k+1) n3)):=hid hN7;have hx7:Hid (Ext w w7):=hid (hxr'.out.then hm (fun q hq e=>by have:=hUw.out;omega));have hhl:=hid (holds_law (pa+1) 1 (by omega) w7 hN7'.out);rw [(ticks_held x1 hx1h.out (k+1) n3 (by rw [hn3.out])).2.2.2.2,hn3.out] at hhl;have hhl':Hid (Calls Tryz.prog 17 #[.pointer (some ⟨b,0,none⟩),.int .i64 ((pa+1:Nat):Int),.int .i64 1] w7 fun e w'=>e=.returned (.tuple #[.string ⟨#[]⟩,.bool false])/\w7=w'):=hhl;clear hN7 hm htc hhl;go_wp2_with fail
    refine hhl'.out.mono ?_;rintro e w0 ⟨rfl,hw0⟩;obtain rfl:w7=w0:=hw0;go_wp2_with fail
    go_roundg (gk - 1)
    case measure=>have:=hk.out;omega
    case rel=>exact ⟨k+1,by have:=hk.out;omega,by go_num,hN7'.out,hx7.out⟩
   ·obtain rfl:k=wt:=by have:=hk.out;omega
    have hki:¬ (k:Int) < (k:Int):=by omega
    have hd:decide ((k:Int) < (k:Int))=false:=decide_eq_false hki;have hgd3:=hNk'.out.good;obtain ⟨m,hm⟩:∃ m,m=ticks k n3:=⟨_,rfl⟩;rw [<- hm] at hNk' c1 c2 c3 c4 c5 c6 hgd3;clear hm;obtain ⟨e1,e2,e3,e4,e5,e6⟩:=held_free m x1 la sFree c1 c3 c2;obtain ⟨n4,hn4⟩:∃ n4,n4=sendP m (.dlv 1 1 2 sFree):=⟨_,rfl⟩;have hij:=hid (fun (W:World) (hG:Gl W) (h:Net U W b m)=>hi2.out U b m W hG h (by rw [c3];decide) (by rw [c6];omega));rw [<- hn4] at e1 e2 e3 e4 e5 e6 hij;rw [c6] at e1 e4;have hlw:Hid (∀ i,((ticks i n4).κ (pa+1) 1).isSome=decide (la+2<=i)/\((ticks i n4).κ 1 2).isSome=decide (la+1<=i)):=hid (fun i=>held_law la (by rw [e1,hx1.out,e4]) e2 (e5.trans c4) (e6.trans c5) i);have hs4:=hid (And.intro e3 e4);clear e1 e2 e3 e4 e5 e6 c1 c2 c3 c4 c5 c6 hn4 hgd3;go_wp2_with fail
    refine (hd2.out wr (hG0.out.ext hxr'.out)).mono ?_;rintro e w7 ⟨rfl,hx0⟩;have hx7:=hid (hxr'.out.trans hx0);have hN7:=hid (hNk'.out.ext hx0);clear hx0 hNk' hxr';go_wp2_with fail
    refine (hij.out w7 (hG0.out.ext hx7.out) hN7.out).mono ?_;rintro e w8 ⟨rfl,hN,hm⟩;have hN8:=hid hN;have hx8:Hid (Ext w w8):=hid (hx7.out.then hm (fun q hq e=>by have:=hUw.out;omega));clear hN hm hij hN7 hx7;go_wp2_with fail
    go_loopg [13] (la+3) (fun g i wz=>∃ j:Nat,j+g=la+3/\i=.int .i64 ((j:Int)+1)/\Net U wz b (ticks j n4)/\Ext w wz)
    case atStart=>exact ⟨0,by omega,rfl,hN8.out,hx8.out⟩
    case round=>
     obtain ⟨j,hj,rfl,hNz,hxz⟩:=hrel;replace hj:=hid hj;have hNz':=hid hNz;have hxz':=hid hxz;clear hNz hxz
     by_cases hjl:j < la+3
     ·have hz1:(j:Int)+1<=(la:Int)+3:=by omega
      have hz2:decide ((j:Int)+1<=(la:Int)+3)=true:=decide_eq_true hz1;have htc:=hid (net_tick wr (hG0.out.ext hxz'.out) hNz'.out (by have h1:=ticks_s j n4 hN8.out.good;have h2:=hs4.out.1;omega) (by rw [ticks_t];have h1:=hs4.out.2;omega));go_wp2_with fail
      refine htc.out.mono ?_;rintro e w9 ⟨rfl,hN,hm⟩;have hN9:Hid (Net U w9 b (ticks (j+1) n4)):=hid hN;have hx9:Hid (Ext w w9):=hid (hxz'.out.then hm (fun q hq e=>by have:=hUw.out;omega));have hh1:=hid (holds_law (pa+1) 1 (by omega) w9 hN9.out);have hh2:=hid (holds_law 1 2 (by decide) w9 hN9.out);obtain ⟨l1,l2⟩:=hlw.out (j+1);rw [show ((1:Nat):Int)=1 from rfl,l1] at hh1;rw [show ((1:Nat):Int)=1 from rfl,show ((2:Nat):Int)=2 from rfl,l2] at hh2;unfold strV at hh1 hh2;generalize (⟨(((ticks (j+1) n4).κ (pa+1) 1).getD []).toArray⟩:ByteArray)=s1 at hh1;generalize (⟨(((ticks (j+1) n4).κ 1 2).getD []).toArray⟩:ByteArray)=s2 at hh2;clear hN hm htc l1 l2;rcases (show j+1<=la \/ j+1=la+1 \/ la+2<=j+1 by omega) with hc | hc | hc
      case' inl=>
       rw [show decide (la+2<=j+1)=false from decide_eq_false (by omega)] at hh1;rw [show decide (la+1<=j+1)=false from decide_eq_false (by omega)] at hh2;have z1:¬ (la:Int)+1<=(j:Int)+1:=by omega
       have z2:¬ (la:Int)+2<=(j:Int)+1:=by omega
       have z3:decide ((la:Int)+1<=(j:Int)+1)=false:=decide_eq_false z1;have z4:decide ((la:Int)+2<=(j:Int)+1)=false:=decide_eq_false z2
      case' inr.inl=>
       rw [show decide (la+2<=j+1)=false from decide_eq_false (by omega)] at hh1;rw [show decide (la+1<=j+1)=true from decide_eq_true (by omega)] at hh2;have z1:(la:Int)+1<=(j:Int)+1:=by omega
       have z2:¬ (la:Int)+2<=(j:Int)+1:=by omega
       have z3:decide ((la:Int)+1<=(j:Int)+1)=true:=decide_eq_true z1;have z4:decide ((la:Int)+2<=(j:Int)+1)=false:=decide_eq_false z2
      case' inr.inr=>
       rw [show decide (la+2<=j+1)=true from decide_eq_true (by omega)] at hh1;rw [show decide (la+1<=j+1)=true from decide_eq_true (by omega)] at hh2;have z1:(la:Int)+1<=(j:Int)+1:=by omega
       have z2:(la:Int)+2<=(j:Int)+1:=by omega
       have z3:decide ((la:Int)+1<=(j:Int)+1)=true:=decide_eq_true z1;have z4:decide ((la:Int)+2<=(j:Int)+1)=true:=decide_eq_true z2
      all_goals
       clear hc;go_wp2_with fail
       refine hh1.out.mono ?_;rintro e w0 ⟨rfl,hw0⟩;obtain rfl:w9=w0:=hw0;go_wp2_with fail
       refine hh2.out.mono ?_;rintro e w0 ⟨rfl,hw0⟩;obtain rfl:w9=w0:=hw0;go_wp2_with fail
       go_roundg (gk - 1)
       case measure=>have:=hj.out;omega
       case rel=>exact ⟨j+1,by have:=hj.out;omega,by go_num,hN9.out,hx9.out⟩
     ·have hz1:¬ (j:Int)+1<=(la:Int)+3:=by omega
      have hz2:decide ((j:Int)+1<=(la:Int)+3)=false:=decide_eq_false hz1;go_wp2_with fail
      go_ret;exact ⟨rfl,hxz'.out⟩
end Go.Proofs.YtcopgcdhkgenkaaGreatDoor
