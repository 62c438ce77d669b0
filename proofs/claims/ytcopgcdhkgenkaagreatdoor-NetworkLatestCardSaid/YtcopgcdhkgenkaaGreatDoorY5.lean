import Derived.Test.YtcopgcdhkgenkaaGreatDoorLift
set_option linter.all false
set_option maxRecDepth 100000
set_option maxHeartbeats 16000000
namespace Nt
open Scr
theorem addP_few:∀ (xs:List PLt) (s:Nat) (q:List PLt),q.length+xs.length<=1024 -> (addP s q xs).2=s+xs.length/\(addP s q xs).1.length=q.length+xs.length
 | [],s,q,h=>⟨rfl,rfl⟩
 | x::r,s,q,h=>by
  simp only [List.length_cons] at h;rw [addP,if_neg (by omega)];have:=addP_few r (s+1) (q++[{ x with se:=s+1 }]) (by simp;omega);simp only [List.length_append,List.length_cons,List.length_nil] at this ⊢;omega
end Nt
namespace Nt
open Scr
structure LInv (pa:Nat) (T:Nat -> Bs) (G:Nat -> Prop) (n:Ns):Prop where
 d:∀ l ∈ dq n,l.he=false/\l.du<=21/\∃ sq,G sq/\l.c=.dlv pa sq 7 (T sq)
 all:∀ sq:Nat,G sq -> (sq:Int)<=n.σ pa 7 \/ ∃ l ∈ dq n,l.c=.dlv pa sq 7 (T sq)
 has:(n.σ pa 7=0/\n.κ pa 7=none) \/ ∃ sq:Nat,G sq/\n.σ pa 7=sq/\n.κ pa 7=some (T sq)
theorem recv_fold {pa:Nat} {T:Nat -> Bs} {G:Nat -> Prop}:∀ (L:List PLt) (z:SK),(∀ l ∈ L,∃ sq,G sq/\l.c=.dlv pa sq 7 (T sq)) →
  ((z.1 pa 7=0/\z.2 pa 7=none) \/ ∃ sq:Nat,G sq/\z.1 pa 7=sq/\z.2 pa 7=some (T sq)) →
  (((L.foldl recvSK z).1 pa 7=0/\(L.foldl recvSK z).2 pa 7=none) \/ ∃ sq:Nat,G sq/\(L.foldl recvSK z).1 pa 7=sq/\(L.foldl recvSK z).2 pa 7=some (T sq))/\z.1 pa 7<=(L.foldl recvSK z).1 pa 7/\∀ l ∈ L,∀ sq:Nat,l.c=.dlv pa sq 7 (T sq) -> (sq:Int)<=(L.foldl recvSK z).1 pa 7
 | [],z,_,h=>⟨h,Int.le_refl _,fun l hl=>nomatch hl⟩
 | a::r,z,hL,h=>by
  obtain ⟨sq,hG,hc⟩:=hL a (List.mem_cons_self ..);have hstep:((recvSK z a).1 pa 7=0/\(recvSK z a).2 pa 7=none) \/ ∃ sq:Nat,G sq/\(recvSK z a).1 pa 7=sq/\(recvSK z a).2 pa 7=some (T sq):=by
   unfold recvSK;rw [hc];simp only
   by_cases hlt:z.1 pa 7 < sq
   ·have hlt':z.1 pa ((7:Nat):Int) < sq:=hlt
    rw [if_pos hlt'];exact .inr ⟨sq,hG,by simp [setf],by simp [setf]⟩
   ·have hlt':¬ z.1 pa ((7:Nat):Int) < sq:=hlt
    rw [if_neg hlt'];exact h
  have hle:z.1 pa 7<=(recvSK z a).1 pa 7/\(sq:Int)<=(recvSK z a).1 pa 7:=by
   unfold recvSK;rw [hc];simp only
   by_cases hlt:z.1 pa 7 < sq
   ·have hlt':z.1 pa ((7:Nat):Int) < sq:=hlt
    rw [if_pos hlt'];simp only [setf];rw [if_pos (by simp)];omega
   ·have hlt':¬ z.1 pa ((7:Nat):Int) < sq:=hlt
    rw [if_neg hlt'];omega
  obtain ⟨h1,h2,h3⟩:=recv_fold r (recvSK z a) (fun l hl=>hL l (List.mem_cons_of_mem _ hl)) hstep;rw [List.foldl_cons];refine ⟨h1,by omega,fun l hl sq' hc'=>?_⟩;rcases List.mem_cons.1 hl with rfl | hl
  ·rw [hc] at hc'
   injection hc' with _ e1
   omega
  ·exact h3 l hl sq' hc'
theorem tick_LInv {pa:Nat} {T:Nat -> Bs} {G:Nat -> Prop} {n:Ns} (h:LInv pa T G n):LInv pa T G (tickP n)/\∀ l ∈ dq (tickP n),n.t+1 < l.du:=by
 have hh:∀ l ∈ dq n,l.he=false:=fun l hl=>(h.d l hl).1
 have e:=tick_dq hh;have hmem:∀ l,l ∈ dq (tickP n) ↔ l ∈ dq n/\n.t+1 < l.du:=fun l=>by
  rw [e,List.mem_filter];refine and_congr_right (fun hl=>?_);unfold due;rw [hh l hl];simp
 have es:=tick_sk n;obtain ⟨h1,h2,h3⟩:=recv_fold (pa:=pa) (T:=T) (G:=G) ((dq n).filter (due (n.t+1))) (n.σ,n.κ) (fun l hl=>(h.d l (List.mem_filter.1 hl).1).2.2) h.has;rw [<- es] at h1 h2 h3;refine ⟨⟨fun l hl=>h.d l ((hmem l).1 hl).1,fun sq hG=>?_,h1⟩,fun l hl=>((hmem l).1 hl).2⟩;rcases h.all sq hG with hs | ⟨l,hl,hc⟩
 ·exact .inl (Int.le_trans hs h2)
 ·by_cases hdl:n.t+1 < l.du
  ·exact .inr ⟨l,(hmem l).2 ⟨hl,hdl⟩,hc⟩
  ·refine .inl (h3 l (List.mem_filter.2 ⟨hl,?_⟩) sq hc)
   unfold due;rw [hh l hl,decide_eq_true (by omega)];rfl
theorem latest_end {pa:Nat} {T:Nat -> Bs} {G:Nat -> Prop} {n:Ns} (h:LInv pa T G n) (ht:n.t=0) (k:Nat) (hk:21<=k):
  ((∀ sq,¬ G sq \/ sq=0)/\(ticks k n).κ pa 7=none) \/ ∃ sq,G sq/\(∀ sq',G sq' -> sq'<=sq)/\(ticks k n).κ pa 7=some (T sq):=by
 have hall:∀ k,LInv pa T G (ticks k n)/\(∀ l ∈ dq (ticks k n),1<=k -> (k:Int) < l.du):=fun k=>by
  induction k with
  | zero=>exact ⟨h,fun _ _ h=>absurd h (by decide)⟩
  | succ k ih=>
   obtain ⟨a,b⟩:=tick_LInv ih.1;refine ⟨a,fun l hl _=>?_⟩;have:=b l hl;rw [ticks_t,ht] at this;omega
 obtain ⟨hi,hd⟩:=hall k;have he:∀ l,¬ l ∈ dq (ticks k n):=fun l hl=>by
  have h1:=hd l hl (by omega);have h2:=(hi.d l hl).2.1;omega
 have hle:∀ sq:Nat,G sq -> (sq:Int)<=(ticks k n).σ pa 7:=fun sq hG=>by
  rcases hi.all sq hG with h | ⟨l,hl,-⟩
  ·exact h
  ·exact absurd hl (he l)
 rcases hi.has with ⟨h1,h2⟩ | ⟨sq,hG,h1,h2⟩
 ·refine .inl ⟨fun sq=>?_,h2⟩
  by_cases hG:G sq
  ·exact .inr (by have:=hle sq hG;omega)
  ·exact .inl hG
 ·exact .inr ⟨sq,hG,fun sq' hG'=>by have:=hle sq' hG';omega,h2⟩
theorem addP_sub:∀ (xs:List PLt) (s:Nat) (q:List PLt) (l:PLt),l ∈ q -> l ∈ (addP s q xs).1
 | [],s,q,l,h=>h
 | x::r,s,q,l,h=>by
  rw [addP];split
  ·exact h
  ·exact addP_sub r _ _ l (List.mem_append_left _ h)
theorem addP_has:∀ (xs:List PLt) (s:Nat) (q:List PLt),q.length+xs.length<=1024 -> ∀ x ∈ xs,∃ k:Nat,({ x with se:=k }:PLt) ∈ (addP s q xs).1
 | [],s,q,_,x,h=>nomatch h
 | y::r,s,q,hl,x,h=>by
  simp only [List.length_cons] at hl;rw [addP,if_neg (by omega)];rcases List.mem_cons.1 h with rfl | h
  ·exact ⟨s+1,addP_sub r _ _ _ (List.mem_append_right _ (List.mem_singleton.2 rfl))⟩
  ·exact addP_has r _ _ (by simp;omega) x h
theorem send_LInv {pa:Nat} {T:Nat -> Bs} {G:Nat -> Prop} {n:Ns} (h:LInv pa T G n) (ht:n.t=0) (k:Nat) (f:Int) (r:List Int) (hf:n.fs=f::r) (h0:0<=f/\f<=24) (h3:f ≠ 3) (hql:n.q.length+2<=1024):
  LInv pa T (fun sq=>G sq \/ (sq=k/\f ≠ 1/\f ≠ 4)) (sendP n (.dlv pa k 7 (T k)))/\(sendP n (.dlv pa k 7 (T k))).t=0/\(sendP n (.dlv pa k 7 (T k))).fs=r/\(sendP n (.dlv pa k 7 (T k))).q.length<=n.q.length+2:=by
 obtain ⟨m,hm⟩:∃ m,m=sendP n (.dlv pa k 7 (T k)):=⟨_,rfl⟩;rw [<- hm];have hx:∀ x ∈ fatedP f (letP n.t (.dlv pa k 7 (T k))),(x.c.isD=false) \/ (f ≠ 1/\f ≠ 4/\x.he=false/\x.du<=21/\x.c=.dlv pa k 7 (T k)):=by
  intro x hx;unfold fatedP at hx;have hn1:n.t+1<=21:=by omega
  split at hx
  ·rw [List.mem_singleton] at hx;subst hx;exact .inr ⟨by omega,by omega,rfl,hn1,rfl⟩
  ·split at hx
   ·cases hx
   ·split at hx
    ·simp only [List.mem_cons,List.not_mem_nil,or_false,or_self] at hx;subst hx;exact .inr ⟨by omega,by omega,rfl,hn1,rfl⟩
    ·split at hx
     ·rw [List.mem_singleton] at hx;subst hx;exact .inl rfl
     ·rw [List.mem_singleton] at hx;subst hx
      exact .inr ⟨by omega,by omega,rfl,by show n.t+1+(f - 4)<=21;omega,rfl⟩
 have hq:m.q=(addP n.s n.q (fatedP f (letP n.t (.dlv pa k 7 (T k))))).1:=by rw [hm];unfold sendP;simp only;rw [hf];rfl
 have hlen:=fatedP_len f (letP n.t (.dlv pa k 7 (T k)));have hfew:=addP_few (fatedP f (letP n.t (.dlv pa k 7 (T k)))) n.s n.q (by omega);have hσ:m.σ=n.σ:=by rw [hm];rfl
 have hκ:m.κ=n.κ:=by rw [hm];rfl
 have hsub:∀ l ∈ dq n,l ∈ dq m:=fun l hl=>by
  unfold dq at hl ⊢;rw [List.mem_filter] at hl ⊢;rw [hq];exact ⟨addP_sub _ _ _ _ hl.1,hl.2⟩
 refine ⟨⟨fun l hl=>?_,fun sq hG=>?_,?_⟩,by rw [hm];exact ht,by rw [hm];unfold sendP;simp only;rw [hf];rfl,by rw [hq];omega⟩
 ·unfold dq at hl
  rw [List.mem_filter,hq] at hl;rcases addP_mem _ _ _ _ hl.1 with h1 | ⟨x,hx1,j,rfl⟩
  ·obtain ⟨a,b,sq,c,d⟩:=h.d l (by unfold dq;exact List.mem_filter.2 ⟨h1,hl.2⟩)
   exact ⟨a,b,sq,.inl c,d⟩
  ·rcases hx x hx1 with e | ⟨e1,e2,e3,e4,e5⟩
   ·have:=hl.2;rw [show ({ x with se:=(j:Int) }:PLt).c.isD=x.c.isD from rfl,e] at this;cases this
   ·exact ⟨e3,e4,k,.inr ⟨rfl,e1,e2⟩,e5⟩
 ·rcases hG with hG | ⟨rfl,g1,g4⟩
  ·rcases h.all sq hG with h1 | ⟨l,hl,hc⟩
   ·exact .inl (by rw [hσ];exact h1)
   ·exact .inr ⟨l,hsub l hl,hc⟩
  ·right
   have hne:∃ x,x ∈ fatedP f (letP n.t (.dlv pa sq 7 (T sq))):=by
    unfold fatedP;split
    ·exact ⟨_,List.mem_cons_self ..⟩
    ·split
     ·exact ⟨_,List.mem_cons_self ..⟩
     ·exact ⟨_,List.mem_cons_self ..⟩
   obtain ⟨x,hxm⟩:=hne;have hxc:x.c=.dlv pa sq 7 (T sq):=by
    unfold fatedP at hxm;repeat' split at hxm
    all_goals simp only [List.mem_singleton,List.mem_cons,List.not_mem_nil,or_false,or_self] at hxm
    all_goals first | (subst hxm;rfl) | (exact absurd (by assumption) g4)
   obtain ⟨j,hj⟩:=addP_has _ n.s n.q (by omega) x hxm;refine ⟨{ x with se:=j },?_,hxc⟩;unfold dq;rw [List.mem_filter,hq];exact ⟨hj,by show x.c.isD=true;rw [hxc];rfl⟩
 ·rw [hσ,hκ]
  exact h.has.imp id (fun ⟨sq,a,b⟩=>⟨sq,.inl a,b⟩)
theorem new_LInv {pa:Nat} {T:Nat -> Bs} {n:Ns} (hq:n.q=[]) (hσ:n.σ=fun _ _=>0) (hκ:n.κ=fun _ _=>none):LInv pa T (fun _=>False) n:=by
 refine ⟨fun l hl=>?_,(fun _ h=>h.elim),.inl ⟨by rw [hσ],by rw [hκ]⟩⟩;unfold dq at hl;rw [hq] at hl;cases hl
end Nt
namespace Go.Proofs.YtcopgcdhkgenkaaGreatDoor
open Go.Shelf Go.RowKit Cdk Scr Nt
def pickA (c:Int):Nat:=if c < 0 then (-(c+1)).toNat else c.toNat
def pickN (c:Int) (n:Nat):Nat:=pickA c % n
theorem pickN_lt (c:Int) {n:Nat} (h:0 < n):pickN c n < n:=Nat.mod_lt _ h
theorem tmod_nat (a n:Nat):((a:Int)).tmod (n:Int)=((a % n:Nat):Int):=by
 rw [Int.tmod_eq_emod_of_nonneg (by omega)];rfl
theorem pick_law (c:Int) (n:Nat) (hc:I64 c) (hn:1<=n/\n<=1000) (w:World):Calls Tryz.prog 10 #[.int .i64 c,.int .i64 n] w fun e w'=>e=.returned (.int .i64 (pickN c n))/\w=w':=by
 have hz:¬ (n:Int)=0:=by omega
 have hz2:((n:Int)==0)=false:=by rw [beq_eq_false_iff_ne];exact hz
 unfold I64 at hc
 by_cases h:c < 0
 ·have hw1:IntKind.i64.wrap (c+1)=c+1:=IntWalk.i64_in _ (by omega)
  have hw2:IntKind.i64.wrap (-(c+1))=-(c+1):=IntWalk.i64_in _ (by omega);have ht:(-(c+1)).tmod (n:Int)=((pickN c n:Nat):Int):=by
   unfold pickN pickA;rw [if_pos h,<- tmod_nat,Int.toNat_of_nonneg (by omega)]
  have hw3:IntKind.i64.wrap ((pickN c n:Nat):Int)=((pickN c n:Nat):Int):=IntWalk.i64_in _ (by have:=pickN_lt c (n:=n) (by omega);omega);go_enter Tryz.func10,Tryz.ntmps10;go_wp2_with fail
  go_ret;exact ⟨by first | rfl | (show Ending.returned (Value.int .i64 _)=_;simp only [ht,hw3]),rfl⟩
 ·have ht:c.tmod (n:Int)=((pickN c n:Nat):Int):=by
   unfold pickN pickA;rw [if_neg h,<- tmod_nat,Int.toNat_of_nonneg (by omega)]
  have hw3:IntKind.i64.wrap ((pickN c n:Nat):Int)=((pickN c n:Nat):Int):=IntWalk.i64_in _ (by have:=pickN_lt c (n:=n) (by omega);omega);go_enter Tryz.func10,Tryz.ntmps10;go_wp2_with fail
  go_ret;exact ⟨by first | rfl | (show Ending.returned (Value.int .i64 _)=_;simp only [ht,hw3]),rfl⟩
theorem okF_all (l:List Int) (h:l.length<=64) (hx:∀ y ∈ l,0<=y/\y<=24):okF l=true:=by
 unfold okF;rw [Bool.and_eq_true];refine ⟨decide_eq_true h,List.all_eq_true.2 (fun y hy=>?_)⟩;have:=hx y hy;rw [Bool.and_eq_true];exact ⟨decide_eq_true this.1,decide_eq_true this.2⟩
theorem ticks_s:∀ (k:Nat) (n:Ns),n.good -> (ticks k n).s<=n.s+2048*k:=fun k=>by
 induction k with
 | zero=>intro n _;exact Nat.le_add_right _ _
 | succ k ih=>
  intro n h
  have h1:=tickP_s (ticks_good k h)
  have h2:=ih n h
  generalize hc:(2048:Nat)=c at h1 h2 ⊢
  have h3:(ticks (k+1) n).s=(tickP (ticks k n)).s:=rfl
  rw [h3,Nat.mul_succ]
  omega
theorem netQ_keep {S:Nat -> Prop} {U Z b:Nat} {tk:Int} {w w':World} {n:Ns} {qa:Value} (h:NetQ U Z tk w b n qa) (hf:n.fs=[]) (hm:Mod S w w') (hS:∀ k,S k -> Z<=k/\qa.ownBlock ≠ some k):NetQ U Z tk w' b n qa:=by
 obtain ⟨d,r,m,f0,f1,fa,pf,lo,h1,h2,⟨a1,a2,a3,a4,a5,a6,a7⟩,h4,h5,h6,h7,h8⟩:=h;refine ⟨d,r,m,f0,f1,fa,pf,lo,hm.at h1 (fun e=>by have:=(hS b e).1;omega),h2.mod hm (fun k _ hk e=>by have:=(hS k e).1;omega),⟨a1,a2,a3,a4,a5,a6,by have:=hm.size;omega⟩,h4.mod hm (fun e=>by have:=(hS m e).1;omega) (fun q _ hq e=>by have hq:q < lo 9:=hq;have:=(hS q e).1;omega),?_,h6,h7.mod hm (fun k hk e=>(hS k e).2 hk),h8⟩;rw [hf] at h5 ⊢;obtain ⟨ao,cap,e,-,g⟩:=h5;exact ⟨ao,cap,e,RowIs.nil _ _,g⟩
theorem netQ_place {U Z b:Nat} {tk:Int} {w:World} {n:Ns} {qa:Value} (h:NetQ U Z tk w b n qa):b < Z/\U<=Z/\∀ q,qa.ownBlock=some q -> Z<=q/\q < w.heap.size:=by
 obtain ⟨d,r,m,f0,f1,fa,pf,lo,h1,h2,⟨a1,a2,a3,a4,a5,a6,a7⟩,h4,h5,h6,h7,h8⟩:=h;exact ⟨a3,by omega,h7.block⟩
end Go.Proofs.YtcopgcdhkgenkaaGreatDoor
namespace Nt
open Scr
def verT (i:Nat):Bs:=[118,101,114,115,105,111,110,32,UInt8.ofNat (97+i / 26),UInt8.ofNat (97+i % 26)]
def verS (sq:Nat):Bs:=verT (sq - 1)
def okG (f:Nat -> Int) (k sq:Nat):Prop:=∃ i,i < k/\sq=i+1/\f i ≠ 1/\f i ≠ 4
def lastW (f:Nat -> Int):Nat -> Bs × Bool
 | 0=>([],false)
 | k+1=>if f k ≠ 1/\f k ≠ 4 then (verT k,true) else lastW f k
theorem okG_succ (f:Nat -> Int) (k:Nat):(fun sq=>okG f k sq \/ (sq=k+1/\f k ≠ 1/\f k ≠ 4))=okG f (k+1):=by
 funext sq
 refine propext ⟨fun h=>?_,fun ⟨i,hi,e,h⟩=>?_⟩
 ·rcases h with ⟨i,hi,h⟩ | ⟨e,h⟩
  ·exact ⟨i,by omega,h⟩
  ·exact ⟨k,by omega,e,h⟩
 ·by_cases hk:i=k
  ·subst hk;exact .inr ⟨e,h⟩
  ·exact .inl ⟨i,by omega,e,h⟩
theorem okG_zero (f:Nat -> Int):(fun _=>False)=okG f 0:=by
 funext sq
 exact propext ⟨False.elim,fun ⟨i,hi,_⟩=>absurd hi (Nat.not_lt_zero i)⟩
theorem lastW_spec (f:Nat -> Int):∀ k,((lastW f k).2=false -> (lastW f k).1=[]/\∀ sq,¬ okG f k sq)/\((lastW f k).2=true -> ∃ sq,okG f k sq/\(∀ sq',okG f k sq' -> sq'<=sq)/\(lastW f k).1=verS sq)
 | 0=>⟨fun _=>⟨rfl,fun sq ⟨i,hi,_⟩=>absurd hi (Nat.not_lt_zero i)⟩,fun h=>Bool.noConfusion h⟩
 | k+1=>by
  have ih:=lastW_spec f k;rw [<- okG_succ f k];unfold lastW
  by_cases h:f k ≠ 1/\f k ≠ 4
  ·rw [if_pos h]
   refine ⟨fun e=>Bool.noConfusion e,fun _=>⟨k+1,.inr ⟨rfl,h⟩,fun sq' h'=>?_,rfl⟩⟩;rcases h' with ⟨i,hi,e,-⟩ | ⟨e,-⟩
   ·omega
   ·omega
  ·rw [if_neg h]
   refine ⟨fun e=>⟨(ih.1 e).1,fun sq h'=>?_⟩,fun e=>?_⟩
   ·rcases h' with h' | ⟨-,h'⟩
    ·exact (ih.1 e).2 sq h'
    ·exact h h'
   ·obtain ⟨sq,a,b,c⟩:=ih.2 e
    refine ⟨sq,.inl a,fun sq' h'=>?_,c⟩;rcases h' with h' | ⟨-,h'⟩
    ·exact b sq' h'
    ·exact absurd h' h
theorem latest_last {pa:Nat} {f:Nat -> Int} {n:Ns} {K:Nat} (h:LInv pa verS (okG f K) n) (ht:n.t=0):((ticks 24 n).κ pa 7).getD []=(lastW f K).1/\((ticks 24 n).κ pa 7).isSome=(lastW f K).2:=by
 have hs:=lastW_spec f K;rcases latest_end h ht 24 (by decide) with ⟨hn,hk⟩ | ⟨sq,hg,hm,hk⟩
 ·have hno:∀ sq,¬ okG f K sq:=fun sq hg=>by
   rcases hn sq with h1 | h1
   ·exact h1 hg
   ·obtain ⟨i,hi,e,-⟩:=hg;omega
  cases hb:(lastW f K).2 with
  | false=>rw [hk,(hs.1 hb).1];exact ⟨rfl,rfl⟩
  | true=>obtain ⟨sq,a,-⟩:=hs.2 hb;exact absurd a (hno sq)
 ·cases hb:(lastW f K).2 with
  | false=>exact absurd hg ((hs.1 hb).2 sq)
  | true=>
   obtain ⟨sq',a,b,c⟩:=hs.2 hb;have e:sq=sq':=Nat.le_antisymm (b sq hg) (hm sq' a);rw [hk,c,e];exact ⟨rfl,rfl⟩
theorem latest_step {pa:Nat} {f:Nat -> Int} {n:Ns} {k:Nat} (h:LInv pa verS (okG f k) n) (ht:n.t=0) (r:List Int) (hf:n.fs=f k::r) (h0:0<=f k/\f k<=24) (h3:f k ≠ 3) (hql:n.q.length<=2*k) (hk:k < 30):
  LInv pa verS (okG f (k+1)) (sendP n (.dlv pa (k+1) 7 (verT k)))/\(sendP n (.dlv pa (k+1) 7 (verT k))).t=0/\(sendP n (.dlv pa (k+1) 7 (verT k))).fs=r/\(sendP n (.dlv pa (k+1) 7 (verT k))).q.length<=2*(k+1)/\(sendP n (.dlv pa (k+1) 7 (verT k))).s<=n.s+2:=by
 obtain ⟨a,b,c,d⟩:=send_LInv h ht (k+1) (f k) r hf h0 h3 (by omega);rw [okG_succ] at a;refine ⟨a,b,c,by have:verS (k+1)=verT k:=rfl;rw [this] at d;omega,?_⟩;unfold sendP;simp only;have h1:=(addP_len (fatedP (nextF n.fs).1 (letP n.t (.dlv pa (k+1) 7 (verT k)))) n.s n.q (by omega)).2;have h2:=fatedP_len (nextF n.fs).1 (letP n.t (.dlv pa (k+1) 7 (verT k)));omega
end Nt
namespace Go.Proofs.YtcopgcdhkgenkaaGreatDoor
open Go.Shelf Go.RowKit Cdk Scr Nt
theorem netQ_set {U Z b:Nat} {tk:Int} {n:Ns} {qa:Value} {F:Nat -> Prop} (v:Value) (l:List Int) (w:World) (h:NetQ U Z tk w b n qa) (hv:RowAt F w intC v l) (hl:l.length<=1000000) (hok:okF l=true):
  Calls Tryz.prog 14 #[.pointer (some ⟨b,0,none⟩),v] w fun e w'=>e=.returned (.int .i64 0)/\NetQ U Z tk w' b { n with fs:=l } qa/\Mod (Eq b) w w':=by
 obtain ⟨d,r,m,f0,f1,fa,pf,lo,h1,h2,⟨a1,a2,a3,a4,a5,a6,a7⟩,h4,h5,h6,h7,h8⟩:=h;refine (setFates_any v l w h1 hv hl).mono ?_;intro e w' hS;unfold SfP at hS;rw [hok] at hS;simp only [if_true] at hS;obtain ⟨rfl,⟨fa',hB,hr⟩,hm⟩:=hS;have hqb:=fun k e=>h7.block k e
 have hb1:=h4.base;refine ⟨rfl,⟨d,r,m,w.heap.size,w'.heap.size,fa',pf,lo,hB,h2.mod hm (fun k h1 h2 e=>by omega),⟨a1,a2,a3,a4,by omega,hm.size,Nat.le_refl _⟩,h4.mod hm (by omega) (fun q h1 h2 e=>by omega),hr,fun k e=>.inl (hqb k e).2,h7.mod hm (fun k e1 e2=>by have:=(hqb k e1).1;omega),?_⟩,hm⟩;refine ⟨h8.t,h8.c,fun f hf=>?_,h8.q,h8.ql,h8.σ,h8.κ⟩;unfold okF at hok;simp only [Bool.and_eq_true,List.all_eq_true,decide_eq_true_eq] at hok;exact hok.2 f hf
theorem latest_walk {F:Nat -> Prop} (v:Value) (l:List Int) (a1:Int) (h1:I64 a1) (hl:∀ x ∈ l,I64 x) (w:World) (hG:Gl w) (hv:RowAt F w intC v l):
  Calls Tryz.prog 5 #[v,.int .i64 a1] w fun e w'=>e=.returned (.bool true)/\Ext w w':=by
 have hsn:=hid (sane_law w hG);have hG0:=hid hG;have hv0:=hid hv;obtain ⟨av,cv,rfl,-⟩:=hv;have hlb:(l.length:Int)<=140737488355328:=by obtain ⟨ao,cap,-,h1,h2,h3,h4,h5⟩:=hv0.out;omega
 obtain ⟨N,hN⟩:∃ N,N=l.length:=⟨_,rfl⟩;rw [<- hN] at hlb ⊢;replace hN:=hid hN;have p1:=hid (fun W=>pick_law a1 8 h1 (by decide) W);have q1:=pickN_lt a1 (n:=8) (by decide);generalize pickN a1 8=pa at p1 q1;have w1:IntKind.i64.wrap (1+(pa:Int))=((pa+1:Nat):Int):=by rw [IntWalk.i64_in _ (by omega)];omega
 obtain ⟨f,hf⟩:∃ f:Nat -> Int,f=fun i=>if pickN (l.getD i 0) 25=3 then (0:Int) else ((pickN (l.getD i 0) 25:Nat):Int):=⟨_,rfl⟩
 have hfr:Hid (∀ i,(0<=f i/\f i<=24)/\f i ≠ 3):=hid (fun i=>by
  have:=pickN_lt (l.getD i 0) (n:=25) (by decide);rw [hf];show (0<=(if pickN (l.getD i 0) 25=3 then (0:Int) else ((pickN (l.getD i 0) 25:Nat):Int))/\(if pickN (l.getD i 0) 25=3 then (0:Int) else ((pickN (l.getD i 0) 25:Nat):Int))<=24)/\(if pickN (l.getD i 0) 25=3 then (0:Int) else ((pickN (l.getD i 0) 25:Nat):Int)) ≠ 3
  split <;> omega)
 replace hf:=hid hf;obtain ⟨K,hK⟩:∃ K,K=min N 30:=⟨_,rfl⟩;replace hK:=hid hK;obtain ⟨FL,hFL⟩:∃ FL:Nat -> List Int,FL=fun k=>(List.range k).map f:=⟨_,rfl⟩
 have hFl:Hid (∀ k,(FL k).length=k):=hid (fun k=>by rw [hFL];simp);replace hFL:=hid hFL;replace hl:=hid hl;clear hG h1;go_enter Tryz.func5,Tryz.ntmps5;go_wp2_with fail
 refine hsn.out.mono ?_;rintro e wa ⟨rfl,hx0⟩;have hx1:=hid hx0;have hnew:=hid (net_newQ wa (hG0.out.ext hx0));obtain ⟨U,hU⟩:∃ U,U=wa.heap.size:=⟨_,rfl⟩;rw [<- hU] at hnew;have hUw:Hid (w.heap.size<=U/\12<=U):=hid (by have:=hx0.size;have:=hG0.out.size;omega);clear hx0 hsn hU;go_wp2_with fail
 refine (p1.out wa).mono ?_;rintro e w0 ⟨rfl,hw0⟩;obtain rfl:wa=w0:=hw0;go_wp2_with fail
 refine hnew.out.mono ?_;rintro e wb ⟨⟨b,rfl,hN0,hbU⟩,hx0⟩;have hx2:=hid (hx1.out.trans hx0);obtain ⟨Z,hZ⟩:∃ Z,Z=wb.heap.size:=⟨_,rfl⟩;rw [<- hZ] at hN0;have hN2:=hid hN0;have hZb:Z<=wb.heap.size:=Nat.le_of_eq hZ;obtain ⟨hbZ,hUZ,-⟩:=netQ_place hN0;have hpl:=hid (And.intro hbZ (And.intro hUZ hbU));clear hx0 hN0 hx1 hnew p1 hZ hbZ hUZ hbU;go_wp2_with fail
 go_loopg [8,9] K (fun g s8 i wr=>∃ k:Nat,k+g=K/\i=.int .i64 k/\NetQ U Z 0 wr b Ns.new (.slice none 0 0)/\Cdk.Own wr Z 3 1 intC s8 (FL k)/\Z<=wr.heap.size/\Ext w wr)
 case atStart=>exact ⟨0,by omega,rfl,hN2.out,by rw [hFL.out];exact Own.nil _ _ _ _ _,hZb,hx2.out⟩
 case round=>
  clear hN2 hx2 hZb;obtain ⟨k,hk,rfl,hNk,hO,hZr,hx⟩:=hrel;replace hk:=hid hk;have hFk:=hFl.out k;obtain ⟨sv,sc,rfl,-⟩:=hO.row;rw [hFk] at hO ⊢
  by_cases hkK:k < K
  ·have hkN:k < N:=by have:=hK.out;omega
   have hk3:k < 30:=by have:=hK.out;omega
   have hi1:(k:Int) < (N:Int):=by omega
   have hd1:decide ((k:Int) < (N:Int))=true:=decide_eq_true hi1;have hi2:(k:Int) < 30:=by omega
   have hd2:decide ((k:Int) < 30)=true:=decide_eq_true hi2;have hkl:k < l.length:=by have:=hN.out;omega
   obtain ⟨b1,o1,c1,e1,-,hc⟩:=hv0.out.get 1 (fun _=>rfl) (by decide) hkl;injection e1 with e1 e2 e3
   subst e1;have hc0:=hc 0 (.int .i64 l[k]) (by decide) rfl;simp only [Nat.mul_one,Nat.add_zero] at hc0;have hpk:=hid (fun W=>pick_law l[k] 25 (hl.out _ (List.getElem_mem hkl)) (by decide) W);have hfk:f k=if pickN l[k] 25=3 then (0:Int) else ((pickN l[k] 25:Nat):Int):=by rw [hf.out];show (if pickN (l[k]?.getD 0) 25=3 then (0:Int) else ((pickN (l[k]?.getD 0) 25:Nat):Int))=_;rw [List.getElem?_eq_getElem hkl];rfl
   generalize pickN l[k] 25=pk at hpk hfk;generalize l[k]=y at hc0 hpk;have hck:=hx.cell hc0 (fun h=>h);have hFs:Hid (FL (k+1)=FL k++[f k]):=hid (by rw [hFL.out];simp only [List.range_succ,List.map_append,List.map_cons,List.map_nil]);have hxA:=Mod.alloc (Mod.refl (fun _=>False) wr) (.cells #[.int .i64 (f k)] 3);have hrS:Hid (RowIs (wr.alloc (.cells #[.int .i64 (f k)] 3)) (some ⟨wr.heap.size,0,none⟩) ([f k].flatMap intC)):=hid (RowIs.new wr [Value.int .i64 (f k)] 3);have hx7:=hid (hx.trans hxA);have hN7:=hid (hNk.ext hxA);have hO7:=hid (hO.ext hxA);have hZ7:=hid (Nat.le_trans hZr hxA.size);clear hc hc0 e2 e3 hxA hNk hO hZr hx hkl
   by_cases h3:pk=3
   case' pos=>
    rw [if_pos h3] at hfk;have hb3:((pk:Int)==3)=true:=by rw [h3];rfl
   case' neg=>
    rw [if_neg h3] at hfk;have hb3:((pk:Int)==3)=false:=by rw [beq_eq_false_iff_ne];omega
   all_goals
    rw [hfk] at hrS hx7 hN7 hO7 hZ7;replace hfk:=hid hfk;clear h3;go_wp2_with fail
    refine (hpk.out wr).mono ?_;rintro e w0 ⟨rfl,hw0⟩;obtain rfl:wr=w0:=hw0;go_wp2_with (at_builtin;refine wpList_appAt (f:=intC) (base:=Z) rfl _ _ 31 rfl Tryz.underlying31 elI rfl hO7.out _ 1 1 rfl [_] rfl hrS.out intC_len (fun y hy u hu=>by simp only [List.mem_singleton] at hy;subst hy;simp [intC] at hu;subst hu;rfl) (by rw [hFl.out];simp only [List.length_singleton];omega) hZ7.out (fun v8 w8 H=>?_))
    obtain ⟨hO8,hM8,-⟩:=H.out;have hx8:=hid (hx7.out.then hM8 (fun q hq e=>by have:=(hO7.out.block q e).1;have:=hUw.out;have:=hpl.out;omega));have hN8:=hid (netQ_keep hN7.out rfl hM8 (fun q e=>⟨(hO7.out.block q e).1,fun h=>nomatch h⟩));have hO8':=hid (show Cdk.Own w8 Z 3 1 intC v8 (FL (k+1)) by rw [hFs.out,hfk.out];exact hO8);have hZ8:=hid (Nat.le_trans hZ7.out hM8.size);clear H hO8 hM8 hO7 hN7 hx7 hrS;go_wp2_with fail
    go_roundg (gk - 1)
    case measure=>have:=hk.out;omega
    case rel=>exact ⟨k+1,by have:=hk.out;omega,by go_num,hN8.out,hO8'.out,hZ8.out,hx8.out⟩
  ·obtain rfl:k=K:=by have:=hk.out;omega
   have hk30:k<=30:=by have:=hK.out;omega
   have hx13:Hid (30 < N/\k=30 \/ N=k):=hid (by have:=hK.out;omega);have hset:=hid (netQ_set (.slice sv k sc) (FL k) wr hNk (own_rowAt hO (by rw [hFk];omega)) (by rw [hFk];omega) (okF_all (FL k) (by rw [hFk];omega) (fun y hy=>by rw [hFL.out] at hy;obtain ⟨i,-,rfl⟩:=List.mem_map.1 hy;exact (hfr.out i).1)));have hO':=hid hO;have hx':=hid hx;clear hNk hO hx hZr
   by_cases hN3:30 < N
   case' pos=>
    have hi1:(k:Int) < (N:Int):=by have:=hx13.out;omega
    have hd1:decide ((k:Int) < (N:Int))=true:=decide_eq_true hi1;have hi2:¬ (k:Int) < 30:=by have:=hx13.out;omega
    have hd2:decide ((k:Int) < 30)=false:=decide_eq_false hi2
   case' neg=>
    have hi1:¬ (k:Int) < (N:Int):=by have:=hx13.out;omega
    have hd1:decide ((k:Int) < (N:Int))=false:=decide_eq_false hi1
   all_goals
    clear hN3;go_wp2_with fail
    refine hset.out.mono ?_;rintro e w3 ⟨rfl,hN3,hm3⟩;have hN3':=hid hN3;have hO3:=hid (hO'.out.mod hm3 (fun q hq e=>by have e:b=q:=e;have:=(hO'.out.block q hq).1;have:=hpl.out;omega));have hx3:Hid (Ext w w3):=hid (hx'.out.then hm3 (fun q hq e=>by have e:b=q:=e;have:=hUw.out;have:=hpl.out;omega));clear hN3 hm3 hset hO' hx' hFk;go_wp2_with fail
    go_loopg [11,12,13] k (fun g s11 s12 i wz=>∃ (j:Nat) (n:Ns) (qa:Value),j+g=k/\i=.int .i64 j/\s11=.string ⟨(lastW f j).1.toArray⟩/\s12=.bool (lastW f j).2/\NetQ U Z n.t wz b n qa/\(LInv (pa+1) verS (okG f j) n/\n.t=0/\n.fs=(FL k).drop j/\n.q.length<=2*j/\n.s<=2*j)/\Cdk.Own wz Z 3 1 intC (.slice sv k sc) (FL k)/\(∀ q,qa.ownBlock=some q -> (Value.slice sv k sc).ownBlock ≠ some q)/\Ext w wz)
    case atStart=>exact ⟨0,{ Ns.new with fs:=FL k },_,by omega,rfl,rfl,rfl,hN3'.out,⟨by rw [<- okG_zero];exact new_LInv rfl rfl rfl,rfl,rfl,Nat.le_refl 0,Nat.le_refl 0⟩,hO3.out,(fun q e=>nomatch e),hx3.out⟩
    case round=>
     clear hN3' hO3 hx3;obtain ⟨j,n,qa,hj,rfl,rfl,rfl,hNj,⟨n1,n2,n3,n4,n5⟩,hO,hdis,hx⟩:=hrel;replace hj:=hid hj;have hx':=hid hx;clear hx;obtain ⟨SW,hSW⟩:∃ S:ByteArray,S=⟨(lastW f j).1.toArray⟩:=⟨_,rfl⟩;obtain ⟨BW,hBW⟩:∃ B:Bool,B=(lastW f j).2:=⟨_,rfl⟩;rw [<- hSW,<- hBW]
     by_cases hjk:j < k
     ·have hji:(j:Int) < (k:Int):=by omega
      have hdj:decide ((j:Int) < (k:Int))=true:=decide_eq_true hji;have hj3:j < 30:=by omega
      obtain ⟨W1,hW1⟩:∃ W1,W1=wr.alloc (.cells #[.int .u8 (97+(j:Int) / 26),.int .u8 (97+(j:Int) % 26)] 5):=⟨_,rfl⟩;obtain ⟨X2,hX2⟩:∃ X:ByteArray,X=⟨[UInt8.ofNat (97+j / 26),UInt8.ofNat (97+j % 26)].toArray⟩:=⟨_,rfl⟩;have hcv:(convert 38 9 (.slice (some ⟨wr.heap.size,0,none⟩) 2 2)).run Tryz.prog W1=.ok (.string X2) W1:=by
       rw [hX2,hW1];refine run_convert_bytes_back _ _ _ _ ⟨wr.heap.size,0,none⟩ 2 [UInt8.ofNat (97+j / 26),UInt8.ofNat (97+j % 26)] Tryz.underlying38 Tryz.underlying5 Tryz.underlying9 (fun i hi=>?_);rw [Addr.add_lit,Nat.zero_add,cellN (heap_alloc_new wr _) i];have hi:i < 2:=hi
       match i,hi with
       | 0,_=>show some (Value.int .u8 (97+(j:Int) / 26))=some (Value.int .u8 ((UInt8.ofNat (97+j / 26)).toNat:Int));rw [UInt8.toNat_ofNat'];congr 2;omega
       | 1,_=>show some (Value.int .u8 (97+(j:Int) % 26))=some (Value.int .u8 ((UInt8.ofNat (97+j % 26)).toNat:Int));rw [UInt8.toNat_ofNat'];congr 2;omega
      obtain ⟨TK,hTK⟩:∃ T:ByteArray,T=⟨(verT j).toArray⟩:=⟨_,rfl⟩;have hap:(⟨#[118,101,114,115,105,111,110,32]⟩:ByteArray)++X2=TK:=by
       rw [hX2,hTK];apply ByteArray.ext;simp [verT]
      have hx1:=hid (show Ext w W1 by rw [hW1];exact hx'.out.trans (Mod.alloc (Mod.refl (fun _=>False) wr) _));have hN1:=hid (show NetQ U Z n.t W1 b n qa by rw [hW1];exact hNj.ext (Mod.alloc (Mod.refl (fun _=>False) wr) _));have hO1:=hid (show Cdk.Own W1 Z 3 1 intC (.slice sv k sc) (FL k) by rw [hW1];exact hO.ext (Mod.alloc (Mod.refl (fun _=>False) wr) _));have hokk:(Pl.dlv (pa+1) (j+1) 7 (verT j)).ok:=⟨by omega,by omega,by omega,by omega,by decide,by decide,by show 10<=8192;omega⟩;have hdl:=hid (fun W (h:Gl W)=>deliver_law (pa+1) (j+1) 7 (verT j) hokk W h);have hin:=hid (fun W (h:Gl W) (hN:NetQ U Z n.t W b n qa)=>netInject_any (.dlv (pa+1) (j+1) 7 (verT j)) hokk (.inl ⟨_,_,_,_,rfl⟩) W h hN (by omega) (by omega));obtain ⟨T1,hT1⟩:∃ T,T=(⟨(Pl.dlv (pa+1) (j+1) 7 (verT j)).tx.toArray⟩:ByteArray):=⟨_,rfl⟩;rw [<- hT1,<- hTK] at hdl;rw [<- hT1] at hin;have w3:IntKind.i64.wrap ((j:Int)+1)=((j+1:Nat):Int):=by rw [IntWalk.i64_in _ (by omega)];omega
      have hjl:j < (FL k).length:=by rw [hFl.out];exact hjk
      have hFj:(FL k)[j]=f j:=by simp [hFL.out]
      have hfs:n.fs=f j::(FL k).drop (j+1):=by rw [n3,List.drop_eq_getElem_cons hjl,hFj]
      have hsd:=hid (latest_step n1 n2 _ hfs (hfr.out j).1 (hfr.out j).2 n4 hj3);obtain ⟨n',hn'⟩:∃ n',n'=sendP n (.dlv (pa+1) (j+1) 7 (verT j)):=⟨_,rfl⟩;rw [<- hn'] at hsd hin;have hns:=hid (And.intro n2 n5);have hqa:=hid (netQ_place hNj).2.2;have hdis':=hid hdis;have hTK':=hid hTK;have hSW':=hid hSW;have hBW':=hid hBW;replace hFj:=hid hFj;replace hjl:=hid hjl;have hXs:X2.size=2:=by rw [hX2];rfl
      replace hX2:=hid hX2;replace hW1:=hW1.symm;clear hNj n1 n2 n3 n4 n5 hO hdis hx' hTK hSW hBW hT1 hn' hfs hokk;go_wp2_with fail
      refine (hdl.out W1 (hG0.out.ext hx1.out)).mono ?_;rintro e w4 ⟨rfl,hx0⟩;have hx4:=hid (hx1.out.trans hx0);have hN4:=hid (hN1.out.ext hx0);have hO4:=hid (hO1.out.ext hx0);clear hx0 hdl hN1 hO1 hx1 hcv hW1 hap;go_wp2_with fail
      refine (hin.out w4 (hG0.out.ext hx4.out) hN4.out).mono ?_;rintro e w5 ⟨rfl,⟨qb,hNb,hqb⟩,hm5⟩
      have hO5:=hid (hO4.out.mod hm5 (fun q hq e=>by
       rcases e with e | e
       ·have:=(hO4.out.block q hq).1;have:=hpl.out.1;omega
       ·exact hdis'.out q e hq))
      have hx5:Hid (Ext w w5):=hid (hx4.out.then hm5 (fun q hq e=>by
       have:=hUw.out;have:=hpl.out;rcases e with e | e
       ·omega
       ·have:=(hqa.out q e).1;omega))
      have hd5:Hid (∀ q,qb.ownBlock=some q -> (Value.slice sv k sc).ownBlock ≠ some q):=hid (fun q e h=>by
       rcases hqb with g | g
       ·rw [g] at e;exact hdis'.out q e h
       ·have:=g q e;have:=(hO4.out.block q h).2;omega)
      have hN5:=hid hNb;clear hNb hqb hm5 hin hN4 hO4 hx4 hdis' hqa;obtain ⟨b2,o2,c2,e2,-,hc2⟩:=(own_rowAt hO5.out (by rw [hFl.out];omega)).get 1 intC_len (by decide) hjl.out;injection e2 with e2 e3 e4
      subst e2;have hcj:=hc2 0 (.int .i64 (FL k)[j]) (by decide) rfl;simp only [Nat.mul_one,Nat.add_zero] at hcj;replace hcj:=hcj.trans (congrArg (fun z=>some (Value.int .i64 z)) hFj.out);obtain ⟨y,hy⟩:∃ y,y=f j:=⟨_,rfl⟩;rw [<- hy] at hcj;clear hc2 e3 e4;rcases (show y=1 \/ y=4 \/ (y ≠ 1/\y ≠ 4) by omega) with h | h | h
      case' inl=>
       have hW:Hid (Value.string SW=.string ⟨(lastW f (j+1)).1.toArray⟩/\Value.bool BW=.bool (lastW f (j+1)).2):=hid (by rw [hSW'.out,hBW'.out,show lastW f (j+1)=lastW f j from if_neg (fun e=>e.1 (hy.symm.trans h))];exact ⟨rfl,rfl⟩);clear hy;subst h
      case' inr.inl=>
       have hW:Hid (Value.string SW=.string ⟨(lastW f (j+1)).1.toArray⟩/\Value.bool BW=.bool (lastW f (j+1)).2):=hid (by rw [hSW'.out,hBW'.out,show lastW f (j+1)=lastW f j from if_neg (fun e=>e.2 (hy.symm.trans h))];exact ⟨rfl,rfl⟩);clear hy;subst h
      case' inr.inr=>
       have x1:(y !=1)=true:=bne_iff_ne.2 h.1;have x2:(y !=4)=true:=bne_iff_ne.2 h.2;have hW:Hid (Value.string TK=.string ⟨(lastW f (j+1)).1.toArray⟩/\Value.bool true=.bool (lastW f (j+1)).2):=hid (by rw [hTK'.out,show lastW f (j+1)=(verT j,true) from if_pos ⟨fun e=>h.1 (hy.trans e),fun e=>h.2 (hy.trans e)⟩];exact ⟨rfl,rfl⟩);clear h hy
      all_goals
       go_wp2_with fail
       go_roundg (gk - 1)
       case measure=>have:=hj.out;omega
       case rel=>
        obtain ⟨s1,s2,s3,s4,s5⟩:=hsd.out;exact ⟨j+1,n',qb,by have:=hj.out;omega,by go_num,hW.out.1,hW.out.2,by rw [s2,<- hns.out.1];exact hN5.out,⟨s1,s2,s3,s4,by have:=hns.out.2;omega⟩,hO5.out,hd5.out,hx5.out⟩
     ·obtain rfl:j=k:=by have:=hj.out;omega
      have hji:¬ (j:Int) < (j:Int):=by omega
      have hdj:decide ((j:Int) < (j:Int))=false:=decide_eq_false hji;have hll:=hid (latest_last n1 n2);have hNn:=hid (show Net U wr b n from ⟨hUw.out.2,Z,qa,hNj⟩);have hns:=hid (And.intro n2 n5);have hSW':=hid hSW;have hBW':=hid hBW;clear hNj n1 n2 n3 n4 n5 hO hdis hSW hBW;go_wp2_with fail
      go_loopg [15] 24 (fun g i wz=>∃ t:Nat,t+g=24/\i=.int .i64 t/\Net U wz b (ticks t n)/\Ext w wz)
      case atStart=>exact ⟨0,rfl,rfl,hNn.out,hx'.out⟩
      case round=>
       obtain ⟨t,ht,rfl,hNz,hxz⟩:=hrel;replace ht:=hid ht;have hNz':=hid hNz;have hxz':=hid hxz;clear hNz hxz
       by_cases ht24:t < 24
       ·have hti:(t:Int) < 24:=by omega
        have hdt:decide ((t:Int) < 24)=true:=decide_eq_true hti;have htc:=hid (net_tick wr (hG0.out.ext hxz'.out) hNz'.out (by have h1:=ticks_s t n hNn.out.good;have h2:=hns.out.2;omega) (by rw [ticks_t];have h1:=hns.out.1;omega));go_wp2_with fail
        refine htc.out.mono ?_;rintro e w6 ⟨rfl,hN,hm⟩;have hN6:Hid (Net U w6 b (ticks (t+1) n)):=hid hN;have hx6:Hid (Ext w w6):=hid (hxz'.out.then hm (fun q hq e=>by have e:U<=q:=e;have:=hUw.out;omega));clear hN hm htc;go_wp2_with fail
        go_roundg (gk - 1)
        case measure=>have:=ht.out;omega
        case rel=>exact ⟨t+1,by have:=ht.out;omega,by go_num,hN6.out,hx6.out⟩
       ·obtain rfl:t=24:=by have:=ht.out;omega
        have hhl:=hid (holds_law (pa+1) 7 (by omega) wr hNz'.out);rw [show ((7:Nat):Int)=7 from rfl,hll.out.1,hll.out.2,<- hBW'.out] at hhl;unfold strV at hhl;rw [<- hSW'.out] at hhl;go_wp2_with fail
        refine hhl.out.mono ?_;rintro e w0 ⟨rfl,hw0⟩;obtain rfl:wr=w0:=hw0;go_wp2_with fail
        go_ret;exact ⟨by first | rfl | simp,hxz'.out⟩
end Go.Proofs.YtcopgcdhkgenkaaGreatDoor
