import Derived.Test.YtcopgcdhkgenkaaGreatDoorLift
set_option linter.all false
set_option maxRecDepth 100000
set_option maxHeartbeats 16000000
namespace Go.Proofs.YtcopgcdhkgenkaaGreatDoor
open Go.Shelf Go.RowKit Cdk Scr Nt
def pickA (c:Int):Nat:=if c < 0 then (-(c+1)).toNat else c.toNat
def pickN (c:Int) (n:Nat):Nat:=pickA c % n
theorem pickN_lt (c:Int) {n:Nat} (h:0 < n):pickN c n < n:=Nat.mod_lt _ h
theorem tmod_nat (a n:Nat):((a:Int)).tmod (n:Int)=((a % n:Nat):Int):=by
 rw [Int.tmod_eq_emod_of_nonneg (by omega)];rfl
theorem pick_law (c:Int) (n:Nat) (hc:I64 c) (hn:1<=n/\n<=1000) (w:World):Calls Tryz.prog 10 #[.int .i64 c,.int .i64 n] w fun e w'=>e=.returned (.int .i64 (pickN c n))/\w=w':=by
 have hz:¬ (n:Int)=0:=by omega
 have hz2:((n:Int)==0)=false:=by rw [beq_eq_false_iff_ne];exact hz
 unfold I64 at hc
 by_cases h:c < 0
 ·have hw1:IntKind.i64.wrap (c+1)=c+1:=IntWalk.i64_in _ (by omega)
  have hw2:IntKind.i64.wrap (-(c+1))=-(c+1):=IntWalk.i64_in _ (by omega);have ht:(-(c+1)).tmod (n:Int)=((pickN c n:Nat):Int):=by
   unfold pickN pickA;rw [if_pos h,<- tmod_nat,Int.toNat_of_nonneg (by omega)]
  have hw3:IntKind.i64.wrap ((pickN c n:Nat):Int)=((pickN c n:Nat):Int):=IntWalk.i64_in _ (by have:=pickN_lt c (n:=n) (by omega);omega);go_enter Tryz.func10,Tryz.ntmps10;go_wp2_with fail
  go_ret;exact ⟨by first | rfl | (show Ending.returned (Value.int .i64 _)=_;simp only [ht,hw3]),rfl⟩
 ·have ht:c.tmod (n:Int)=((pickN c n:Nat):Int):=by
   unfold pickN pickA;rw [if_neg h,<- tmod_nat,Int.toNat_of_nonneg (by omega)]
  have hw3:IntKind.i64.wrap ((pickN c n:Nat):Int)=((pickN c n:Nat):Int):=IntWalk.i64_in _ (by have:=pickN_lt c (n:=n) (by omega);omega);go_enter Tryz.func10,Tryz.ntmps10;go_wp2_with fail
  go_ret;exact ⟨by first | rfl | (show Ending.returned (Value.int .i64 _)=_;simp only [ht,hw3]),rfl⟩
theorem cut_law (s:ByteArray) (n:Nat) (hs:s.size<=140737488351232) (hn:n<=100000) (w:World):Calls Tryz.prog 11 #[.string s,.int .i64 n] w fun e w'=>e=.returned (.string (s.extract 0 (min s.size n)))/\w=w':=by
 have hm:min (s.size:Int) (n:Int)=((min s.size n:Nat):Int):=by omega
 have hl:((min s.size n:Nat):Int)<=(s.size:Int):=by omega
 go_enter Tryz.func11,Tryz.ntmps11;go_wp2_with fail
 go_ret;exact ⟨rfl,rfl⟩
theorem cut_bytes (s:ByteArray):∃ x:Bs,s.extract 0 (min s.size 300)=⟨x.toArray⟩/\x.length<=300:=by
 refine ⟨(s.extract 0 (min s.size 300)).data.toList,rfl,?_⟩;have:(s.extract 0 (min s.size 300)).size<=300:=by rw [ByteArray.size_extract];omega
 exact this
theorem okF_all (l:List Int) (h:l.length<=64) (hx:∀ y ∈ l,0<=y/\y<=24):okF l=true:=by
 unfold okF;rw [Bool.and_eq_true];refine ⟨decide_eq_true h,List.all_eq_true.2 (fun y hy=>?_)⟩;have:=hx y hy;rw [Bool.and_eq_true];exact ⟨decide_eq_true this.1,decide_eq_true this.2⟩
theorem ticks_s:∀ (k:Nat) (n:Ns),n.good -> (ticks k n).s<=n.s+2048*k:=fun k=>by
 induction k with
 | zero=>intro n _;exact Nat.le_add_right _ _
 | succ k ih=>
  intro n h
  have h1:=tickP_s (ticks_good k h)
  have h2:=ih n h
  generalize hc:(2048:Nat)=c at h1 h2 ⊢
  have h3:(ticks (k+1) n).s=(tickP (ticks k n)).s:=rfl
  rw [h3,Nat.mul_succ]
  omega
end Go.Proofs.YtcopgcdhkgenkaaGreatDoor
namespace Go.Proofs.YtcopgcdhkgenkaaGreatDoor
open Go.Shelf Go.RowKit Cdk Scr Nt
theorem delay_walk (a0 a1 a2 a4:Int) (s:ByteArray) (h0:I64 a0) (h1:I64 a1) (h2:I64 a2) (h4:I64 a4) (hs:s.size<=140737488351232) (w:World) (hG:Gl w):
  Calls Tryz.prog 3 #[.int .i64 a0,.int .i64 a1,.int .i64 a2,.string s,.int .i64 a4] w fun e w'=>e=.returned (.bool true)/\Ext w w':=by
 have hsn:=hid (sane_law w hG);have hG0:=hid hG;have p0:=hid (fun W=>pick_law a0 25 h0 (by decide) W);have p1:=hid (fun W=>pick_law a1 8 h1 (by decide) W);have p2:=hid (fun W=>pick_law a2 64 h2 (by decide) W);have p4:=hid (fun W=>pick_law a4 5 h4 (by decide) W);have pc:=hid (fun W=>cut_law s 300 hs (by decide) W);have q0:=pickN_lt a0 (n:=25) (by decide);have q1:=pickN_lt a1 (n:=8) (by decide);have q2:=pickN_lt a2 (n:=64) (by decide);have q4:=pickN_lt a4 (n:=5) (by decide);generalize pickN a0 25=f at p0 q0;generalize pickN a1 8=pa at p1 q1;generalize pickN a2 64=st at p2 q2;generalize pickN a4 5=B at p4 q4;obtain ⟨x,hx,hxl⟩:=cut_bytes s;rw [hx] at pc;have w1:IntKind.i64.wrap (1+(pa:Int))=((pa+1:Nat):Int):=by rw [IntWalk.i64_in _ (by omega)];omega
 have w2:IntKind.i64.wrap (1+(st:Int))=((st+1:Nat):Int):=by rw [IntWalk.i64_in _ (by omega)];omega
 have hok:(Pl.dlv (pa+1) 1 (st+1) x).ok:=⟨by omega,by omega,by decide,by decide,by omega,by omega,by omega⟩;have hdl:=hid (fun W (h:Gl W)=>deliver_law (pa+1) 1 (st+1) x hok W h);clear h0 h1 h2 h4 hG;go_enter Tryz.func3,Tryz.ntmps3;go_wp2_with fail
 refine hsn.out.mono ?_;rintro e wa ⟨rfl,hx0⟩;have hx1:=hid hx0;have hnew:=hid (net_new wa (hG0.out.ext hx0));obtain ⟨U,hU⟩:∃ U,U=wa.heap.size:=⟨_,rfl⟩;rw [<- hU] at hnew;have hUw:Hid (w.heap.size<=U):=hid (by have:=hx0.size;omega);clear hx0 hsn hU;go_wp2_with fail
 refine (p0.out wa).mono ?_;rintro e w0 ⟨rfl,hw0⟩;obtain rfl:wa=w0:=hw0;go_wp2_with fail
 refine (p1.out wa).mono ?_;rintro e w0 ⟨rfl,hw0⟩;obtain rfl:wa=w0:=hw0;go_wp2_with fail
 refine (p2.out wa).mono ?_;rintro e w0 ⟨rfl,hw0⟩;obtain rfl:wa=w0:=hw0;go_wp2_with fail
 refine (pc.out wa).mono ?_;rintro e w0 ⟨rfl,hw0⟩;obtain rfl:wa=w0:=hw0;go_wp2_with fail
 refine hnew.out.mono ?_;rintro e wb ⟨⟨b,rfl,hN0,-⟩,hx0⟩;have hx2:=hid (hx1.out.trans hx0);have hN2:=hid hN0;clear hx0 hN0 hx1 hnew p0 p1 p2 pc;have hrN:=hid (fun k=>ticks_new k Ns.new rfl);have htkN:=hid (fun (k:Nat) (hk:k<=24) (W:World) (hG:Gl W) (h:Net U W b (ticks k Ns.new))=>net_tick W hG h (by rw [(hrN.out k).2.2.1];decide) (by rw [ticks_t];show (0:Int)+k<=999000;omega));go_wp2_with fail
 go_loopg [14] B (fun g i wr=>∃ k:Nat,k+g=B/\i=.int .i64 k/\Net U wr b (ticks k Ns.new)/\Ext w wr)
 case atStart=>exact ⟨0,by omega,rfl,hN2.out,hx2.out⟩
 case round=>
  obtain ⟨k,hk,rfl,hNk,hxr⟩:=hrel;replace hk:=hid hk;have hNk':=hid hNk;have hxr':=hid hxr;clear hNk hxr
  by_cases hkB:k < B
  ·have hki:(k:Int) < (B:Int):=by omega
   have hd:decide ((k:Int) < (B:Int))=true:=decide_eq_true hki;have htc:=hid (htkN.out k (by omega) wr (hG0.out.ext hxr'.out) hNk'.out);go_wp2_with fail
   refine (p4.out wr).mono ?_;rintro e w0 ⟨rfl,hw0⟩;obtain rfl:wr=w0:=hw0;go_wp2_with fail
   refine htc.out.mono ?_;rintro e w3 ⟨rfl,hN3,hm⟩;have hN3':=hid hN3;have hx3:Hid (Ext w w3):=hid (hxr'.out.then hm (fun q hq e=>by have:=hUw.out;omega));clear hN3 hm;go_wp2_with fail
   go_roundg (gk - 1)
   case measure=>have:=hk.out;omega
   case rel=>exact ⟨k+1,by have:=hk.out;omega,by go_num,hN3'.out,hx3.out⟩
  ·obtain rfl:k=B:=by have:=hk.out;omega
   have hki:¬ (k:Int) < (k:Int):=by omega
   have hd:decide ((k:Int) < (k:Int))=false:=decide_eq_false hki;obtain ⟨c1,c2,c3,c4,c5⟩:=hrN.out k;obtain ⟨n0,hn0⟩:∃ n0,n0=ticks k Ns.new:=⟨_,rfl⟩;have ht0:=ticks_t k Ns.new;have hgd0:=hNk'.out.good;rw [<- hn0] at hNk' c1 c2 c3 c4 c5 ht0 hgd0;have ht0':n0.t=(k:Int):=by rw [ht0];show (0:Int)+k=k;omega
   clear ht0 hrN htkN;have hn0':=hid hn0;clear hn0;have hset:=hid (net_set (.slice (some ⟨wr.heap.size,0,none⟩) 1 1) [(f:Int)] (wr.alloc (.cells #[.int .i64 f] 3)) (hNk'.out.ext (Mod.alloc (Mod.refl (fun _=>False) wr) _)) (ints_new wr [(f:Int)] 1 rfl (by decide)) (show 1<=1000000 by omega));unfold SetP at hset;simp only [okF_all [(f:Int)] (show 1<=64 by omega) (fun y hy=>by rw [List.mem_singleton] at hy;subst hy;omega),if_true] at hset;have hxA:=hid (Mod.alloc (Mod.refl (fun _=>False) wr) (.cells #[.int .i64 f] 3));obtain ⟨n2,hn2⟩:∃ n2:Ns,n2={ n0 with fs:=[(f:Int)] }:=⟨_,rfl⟩;rw [<- hn2] at hset;have e1:n2.q=[]:=by rw [hn2];exact c1
   have e2:n2.s=0:=by rw [hn2];exact c3
   have e3:n2.fs=[(f:Int)]:=by rw [hn2]
   have e4:n2.σ=fun _ _=>0:=by rw [hn2];exact c4
   have e5:n2.κ=fun _ _=>none:=by rw [hn2];exact c5
   have e6:n2.t=(k:Int):=by rw [hn2];exact ht0'
   obtain ⟨n3,hn3⟩:∃ n3,n3=sendP n2 (.dlv (pa+1) 1 (st+1) x):=⟨_,rfl⟩;have hlaw:=hid (fun i (hi:i<=24)=>delay_law e1 e2 (f:Int) e3 (by omega) (pa+1) (st+1) x e4 e5 i hi);rw [<- hn3] at hlaw;have hinj:=hid (fun (W:World) (hG:Gl W) (h:Net U W b n2)=>net_inject (.dlv (pa+1) 1 (st+1) x) hok (.inl ⟨_,_,_,_,rfl⟩) W hG h (by omega) (by omega));rw [<- hn3] at hinj;have e7:n3.t=(k:Int):=by rw [hn3];exact e6
   have e8:n3.s<=2:=by rw [hn3];unfold sendP;simp only;have h1:=(addP_len (fatedP (nextF n2.fs).1 (letP n2.t (.dlv (pa+1) 1 (st+1) x))) n2.s n2.q (by rw [e1];decide)).2;have h2:=fatedP_len (nextF n2.fs).1 (letP n2.t (.dlv (pa+1) 1 (st+1) x));omega
   have hfin:=hid (And.intro e7 e8);have hgd3:Hid n3.good:=hid (by rw [hn3];exact sendP_good (by rw [hn2];exact ⟨hgd0.t,hgd0.c,(fun y hy=>by rw [List.mem_singleton] at hy;subst hy;omega),hgd0.q,hgd0.ql,hgd0.σ,hgd0.κ⟩) hok);clear hn2 e1 e2 e3 e4 e5 e6 e7 e8 c1 c2 c3 c4 c5 ht0' hgd0 hn3;go_wp2_with fail
   refine (p4.out wr).mono ?_;rintro e w0 ⟨rfl,hw0⟩;obtain rfl:wr=w0:=hw0;go_wp2_with fail
   refine hset.out.mono ?_;rintro e w3 ⟨rfl,hN3,hm⟩;have hN3':=hid hN3;have hx3:Hid (Ext w w3):=hid ((hxr'.out.trans hxA.out).then hm (fun q hq e=>by have:=hUw.out;omega));clear hN3 hm hset hxA;go_wp2_with fail
   refine (hdl.out w3 (hG0.out.ext hx3.out)).mono ?_;rintro e w4 ⟨rfl,hx0⟩;have hx4:=hid (hx3.out.trans hx0);have hN4:=hid (hN3'.out.ext hx0);clear hx0 hdl;go_wp2_with fail
   refine (hinj.out w4 (hG0.out.ext hx4.out) hN4.out).mono ?_;rintro e w5 ⟨rfl,hN5,hm⟩;have hN5':=hid hN5;have hx5:Hid (Ext w w5):=hid (hx4.out.then hm (fun q hq e=>by have:=hUw.out;omega));clear hN5 hm hinj;have harr:Hid ((f=1 \/ f=4 \/ f=3 -> arrives (f:Int)=99)/\(4 < f -> arrives (f:Int)=1+f - 4)/\(f=0 \/ f=2 -> arrives (f:Int)=1)):=hid ⟨fun h=>by unfold arrives;rw [if_pos (by omega)],fun h=>by unfold arrives;rw [if_neg (by omega),if_pos (by omega)],fun h=>by unfold arrives;rw [if_neg (by omega),if_neg (by omega)]⟩;obtain ⟨A,hA0⟩:∃ A:Int,arrives (f:Int)=A:=⟨_,rfl⟩;have hA:=hid hA0;have b1:∀ c:Nat,f ≠ c -> ((f:Int)==(c:Int))=false:=fun c h=>by rw [beq_eq_false_iff_ne];omega
   have b2:∀ c:Nat,f=c -> ((f:Int)==(c:Int))=true:=fun c h=>by rw [h];exact beq_self_eq_true _
   have b1':=hid b1;have b2':=hid b2;clear b1 b2 hA0;have hfw:(f:Int)<=24:=by omega
   rcases (show f=1 \/ f=4 \/ f=3 \/ 4 < f \/ (f=0 \/ f=2) by omega) with h | h | h | h | h
   case' inl=>
    have x1:((f:Int)==1)=true:=b2'.out 1 h;have hAe:Hid (A=99):=hid (hA.out.symm.trans (harr.out.1 (.inl h)))
   case' inr.inl=>
    have x1:((f:Int)==1)=false:=b1'.out 1 (by omega);have x2:((f:Int)==4)=true:=b2'.out 4 h;have hAe:Hid (A=99):=hid (hA.out.symm.trans (harr.out.1 (.inr (.inl h))))
   case' inr.inr.inl=>
    have x1:((f:Int)==1)=false:=b1'.out 1 (by omega);have x2:((f:Int)==4)=false:=b1'.out 4 (by omega);have x3:((f:Int)==3)=true:=b2'.out 3 h;have hAe:Hid (A=99):=hid (hA.out.symm.trans (harr.out.1 (.inr (.inr h))))
   case' inr.inr.inr.inl=>
    have x1:((f:Int)==1)=false:=b1'.out 1 (by omega);have x2:((f:Int)==4)=false:=b1'.out 4 (by omega);have x3:((f:Int)==3)=false:=b1'.out 3 (by omega);have x4:decide ((4:Int) < (f:Int))=true:=decide_eq_true (by omega);have x5:(4:Int) < (f:Int):=by omega
    have y1:IntKind.i64.wrap (1+(f:Int))=1+(f:Int):=IntWalk.i64_in _ (by omega);have y2:IntKind.i64.wrap (1+(f:Int) - 4)=1+(f:Int) - 4:=IntWalk.i64_in _ (by omega);have hAe:Hid (A=1+(f:Int) - 4):=hid (hA.out.symm.trans (harr.out.2.1 h))
   case' inr.inr.inr.inr=>
    have x1:((f:Int)==1)=false:=b1'.out 1 (by omega);have x2:((f:Int)==4)=false:=b1'.out 4 (by omega);have x3:((f:Int)==3)=false:=b1'.out 3 (by omega);have x4:decide ((4:Int) < (f:Int))=false:=decide_eq_false (by omega);have x5:¬ (4:Int) < (f:Int):=by omega
    have hAe:Hid (A=1):=hid (hA.out.symm.trans (harr.out.2.2 h))
   all_goals
    clear h;go_wp2_with fail
    go_loopg [16] 24 (fun g i wz=>∃ k2:Nat,k2+g=24/\i=.int .i64 ((k2:Int)+1)/\Net U wz b (ticks k2 n3)/\Ext w wz)
    case atStart=>exact ⟨0,rfl,rfl,hN5'.out,hx5.out⟩
    case round=>
     obtain ⟨k2,hk2,rfl,hNz,hxz⟩:=hrel;replace hk2:=hid hk2;have hNz':=hid hNz;have hxz':=hid hxz;clear hNz hxz
     by_cases hk24:k2 < 24
     ·have hz1:(k2:Int)+1<=24:=by omega
      have hz2:decide ((k2:Int)+1<=24)=true:=decide_eq_true hz1;have htc:=hid (net_tick wr (hG0.out.ext hxz'.out) hNz'.out (by have h1:=ticks_s k2 n3 hgd3.out;have h2:=hfin.out.2;omega) (by rw [ticks_t];have h1:=hfin.out.1;omega));have hlw:=hlaw.out (k2+1) (by omega);rw [hA.out] at hlw;go_wp2_with fail
      refine htc.out.mono ?_;rintro e w6 ⟨rfl,hN6,hm⟩;have hN6':Hid (Net U w6 b (ticks (k2+1) n3)):=hid hN6;have hx6:Hid (Ext w w6):=hid (hxz'.out.then hm (fun q hq e=>by have:=hUw.out;omega));have hhl:=hid (holds_law (pa+1) (st+1) (by omega) w6 hN6'.out);unfold strV at hhl;rw [hlw] at hhl;clear hN6 hm htc hlw;have hA3:=hAe.out
      by_cases hle:A<=((k2+1:Nat):Int)
      case' pos=>
       rw [if_pos hle] at hhl;simp only [Option.getD_some,Option.isSome_some] at hhl;have hle2:A<=(k2:Int)+1:=by omega
       have hle3:decide (A<=(k2:Int)+1)=true:=decide_eq_true hle2
      case' neg=>
       rw [if_neg hle] at hhl;simp only [Option.getD_none,Option.isSome_none] at hhl;have hle2:¬ A<=(k2:Int)+1:=by omega
       have hle3:decide (A<=(k2:Int)+1)=false:=decide_eq_false hle2
      all_goals
       subst hA3;go_wp2_with fail
       refine hhl.out.mono ?_;rintro e w0 ⟨rfl,hw0⟩;obtain rfl:w6=w0:=hw0;go_wp2_with fail
       go_roundg (gk - 1)
       case measure=>have:=hk2.out;omega
       case rel=>exact ⟨k2+1,by have:=hk2.out;omega,by go_num,hN6'.out,hx6.out⟩
     ·have hz1:¬ (k2:Int)+1<=24:=by omega
      have hz2:decide ((k2:Int)+1<=24)=false:=decide_eq_false hz1;go_wp2_with fail
      go_ret;exact ⟨rfl,hxz'.out⟩
end Go.Proofs.YtcopgcdhkgenkaaGreatDoor
