import Derived.Test.YtcopgcdhkgenkaaGreatDoorLift
import Derived.Test.YtcopgcdhkgenkaaGreatDoorQ3
set_option linter.all false
set_option maxRecDepth 100000
set_option maxHeartbeats 16000000
namespace Go.Proofs.YtcopgcdhkgenkaaGreatDoor
open Go.Shelf Go.RowKit Cdk Scr Nt
def pickA (c:Int):Nat:=if c < 0 then (-(c+1)).toNat else c.toNat
def pickN (c:Int) (n:Nat):Nat:=pickA c % n
theorem pickN_lt (c:Int) {n:Nat} (h:0 < n):pickN c n < n:=Nat.mod_lt _ h
theorem tmod_nat (a n:Nat):((a:Int)).tmod (n:Int)=((a % n:Nat):Int):=by
 rw [Int.tmod_eq_emod_of_nonneg (by omega)];rfl
theorem pick_law (c:Int) (n:Nat) (hc:I64 c) (hn:1<=n/\n<=1000) (w:World):Calls Tryz.prog 10 #[.int .i64 c,.int .i64 n] w fun e w'=>e=.returned (.int .i64 (pickN c n))/\w=w':=by
 have hz:¬ (n:Int)=0:=by omega
 have hz2:((n:Int)==0)=false:=by rw [beq_eq_false_iff_ne];exact hz
 unfold I64 at hc
 by_cases h:c < 0
 ·have hw1:IntKind.i64.wrap (c+1)=c+1:=IntWalk.i64_in _ (by omega)
  have hw2:IntKind.i64.wrap (-(c+1))=-(c+1):=IntWalk.i64_in _ (by omega)
  have ht:(-(c+1)).tmod (n:Int)=((pickN c n:Nat):Int):=by
   unfold pickN pickA;rw [if_pos h,<- tmod_nat,Int.toNat_of_nonneg (by omega)]
  have hw3:IntKind.i64.wrap ((pickN c n:Nat):Int)=((pickN c n:Nat):Int):=IntWalk.i64_in _ (by have:=pickN_lt c (n:=n) (by omega);omega)
  go_enter Tryz.func10,Tryz.ntmps10
  go_wp2_with fail
  go_ret
  exact ⟨by first | rfl | (show Ending.returned (Value.int .i64 _)=_;simp only [ht,hw3]),rfl⟩
 ·have ht:c.tmod (n:Int)=((pickN c n:Nat):Int):=by
   unfold pickN pickA;rw [if_neg h,<- tmod_nat,Int.toNat_of_nonneg (by omega)]
  have hw3:IntKind.i64.wrap ((pickN c n:Nat):Int)=((pickN c n:Nat):Int):=IntWalk.i64_in _ (by have:=pickN_lt c (n:=n) (by omega);omega)
  go_enter Tryz.func10,Tryz.ntmps10
  go_wp2_with fail
  go_ret
  exact ⟨by first | rfl | (show Ending.returned (Value.int .i64 _)=_;simp only [ht,hw3]),rfl⟩
theorem cut_law (s:ByteArray) (n:Nat) (hs:s.size<=140737488351232) (hn:n<=100000) (w:World):Calls Tryz.prog 11 #[.string s,.int .i64 n] w fun e w'=>e=.returned (.string (s.extract 0 (min s.size n)))/\w=w':=by
 have hm:min (s.size:Int) (n:Int)=((min s.size n:Nat):Int):=by omega
 have hl:((min s.size n:Nat):Int)<=(s.size:Int):=by omega
 go_enter Tryz.func11,Tryz.ntmps11
 go_wp2_with fail
 go_ret
 exact ⟨rfl,rfl⟩
theorem cut_bytes (s:ByteArray):∃ x:Bs,s.extract 0 (min s.size 300)=⟨x.toArray⟩/\x.length<=300:=by
 refine ⟨(s.extract 0 (min s.size 300)).data.toList,rfl,?_⟩
 have:(s.extract 0 (min s.size 300)).size<=300:=by rw [ByteArray.size_extract];omega
 exact this
theorem okF_all (l:List Int) (h:l.length<=64) (hx:∀ y ∈ l,0<=y/\y<=24):okF l=true:=by
 unfold okF
 rw [Bool.and_eq_true]
 refine ⟨decide_eq_true h,List.all_eq_true.2 (fun y hy=>?_)⟩
 have:=hx y hy
 rw [Bool.and_eq_true]
 exact ⟨decide_eq_true this.1,decide_eq_true this.2⟩
theorem ticks_s:∀ (k:Nat) (n:Ns),n.good -> (ticks k n).s<=n.s+2048*k:=fun k=>by
 induction k with
 | zero=>intro n _;exact Nat.le_add_right _ _
 | succ k ih=>
  intro n h
  have h1:=tickP_s (ticks_good k h)
  have h2:=ih n h
  generalize hc:(2048:Nat)=c at h1 h2 ⊢
  have h3:(ticks (k+1) n).s=(tickP (ticks k n)).s:=rfl
  rw [h3,Nat.mul_succ]
  omega
theorem netQ_keep {S:Nat -> Prop} {U Z b:Nat} {tk:Int} {w w':World} {n:Ns} {qa:Value} (h:NetQ U Z tk w b n qa) (hf:n.fs=[]) (hm:Mod S w w') (hS:∀ k,S k -> Z<=k/\qa.ownBlock ≠ some k):NetQ U Z tk w' b n qa:=by
 obtain ⟨d,r,m,f0,f1,fa,pf,lo,h1,h2,⟨a1,a2,a3,a4,a5,a6,a7⟩,h4,h5,h6,h7,h8⟩:=h
 refine ⟨d,r,m,f0,f1,fa,pf,lo,hm.at h1 (fun e=>by have:=(hS b e).1;omega),h2.mod hm (fun k _ hk e=>by have:=(hS k e).1;omega),⟨a1,a2,a3,a4,a5,a6,by have:=hm.size;omega⟩,h4.mod hm (fun e=>by have:=(hS m e).1;omega) (fun q _ hq e=>by have hq:q < lo 9:=hq;have:=(hS q e).1;omega),?_,h6,h7.mod hm (fun k hk e=>(hS k e).2 hk),h8⟩
 rw [hf] at h5 ⊢
 obtain ⟨ao,cap,e,-,g⟩:=h5
 exact ⟨ao,cap,e,RowIs.nil _ _,g⟩
theorem netQ_good {U Z b:Nat} {tk:Int} {w:World} {n:Ns} {qa:Value} (h:NetQ U Z tk w b n qa):n.good:=by
 obtain ⟨d,r,m,f0,f1,fa,pf,lo,h1,h2,hb,h4,h5,h6,h7,h8⟩:=h
 exact h8
theorem netQ_place {U Z b:Nat} {tk:Int} {w:World} {n:Ns} {qa:Value} (h:NetQ U Z tk w b n qa):b < Z/\U<=Z/\∀ q,qa.ownBlock=some q -> Z<=q/\q < w.heap.size:=by
 obtain ⟨d,r,m,f0,f1,fa,pf,lo,h1,h2,⟨a1,a2,a3,a4,a5,a6,a7⟩,h4,h5,h6,h7,h8⟩:=h
 exact ⟨a3,by omega,h7.block⟩
end Go.Proofs.YtcopgcdhkgenkaaGreatDoor
