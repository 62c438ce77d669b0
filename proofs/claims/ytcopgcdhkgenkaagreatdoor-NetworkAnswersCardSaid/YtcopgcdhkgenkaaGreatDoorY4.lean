import Derived.Test.YtcopgcdhkgenkaaGreatDoorLift
set_option linter.all false
set_option maxRecDepth 100000
set_option maxHeartbeats 16000000
namespace Nt
open Scr
def dlvs (pa:Nat) (st:Nat -> Nat) (x:Bs) (i:Nat):PLt:=⟨.dlv pa (i+1) (st i) x,pa,1,false,(i+1:Nat)⟩
def ackM (pa:Nat) (st:Nat -> Nat) (x:Bs) (i:Nat):Ms:=⟨3,pa,(i+1:Nat),st i,0,crc x,[]⟩
def acks (pa:Nat) (st:Nat -> Nat) (x:Bs) (k i:Nat):PLt:=⟨.ans (ackM pa st x i),0,2,false,(k+i+1:Nat)⟩
theorem dlv_step {n:Ns} {pa:Nat} {st:Nat -> Nat} {x:Bs} {k j:Nat} (hj:j<=30) (ht:n.t=1) (hf:n.fs=[]) (hs:n.s=k+j) (hq:n.q=(List.range j).map (acks pa st x k)) (hσ:∀ a b,0<=n.σ a b/\n.σ a b<=j):
  (delivP n (dlvs pa st x j)).fs=[]/\(delivP n (dlvs pa st x j)).s=k+(j+1)/\(delivP n (dlvs pa st x j)).q=(List.range (j+1)).map (acks pa st x k)/\(∀ a b,0<=(delivP n (dlvs pa st x j)).σ a b/\(delivP n (dlvs pa st x j)).σ a b<=(j+1:Nat)):=by
 have hu:unheld n.t (j+1:Nat) n.q=n.q:=unheld_id (by
  rw [hq];intro l hl;obtain ⟨i,-,rfl⟩:=List.mem_map.1 hl
  rfl)
 have hlt:n.σ pa (st j) < (j+1:Nat):=by have:=(hσ pa (st j)).2;omega
 have ha:recvA n pa (j+1) (st j) x=ackM pa st x j:=by
  unfold recvA;rw [if_neg (by omega),if_neg (by omega)];rfl
 have hql:¬ 1024<=n.q.length:=by rw [hq];simp;omega
 unfold delivP dlvs;simp only;rw [hu,ha];unfold recvN;simp only;rw [if_pos hlt];unfold sendP;simp only;rw [hf];have e:addP n.s n.q (fatedP (nextF []).1 (letP n.t (.ans (ackM pa st x j))))=(n.q++[{ letP n.t (.ans (ackM pa st x j)) with se:=(n.s+1:Nat) }],n.s+1):=by
  show addP n.s n.q [letP n.t (.ans (ackM pa st x j))]=_
  rw [addP,if_neg hql];rfl
 rw [e];refine ⟨rfl,by show n.s+1=_;omega,?_,fun a b=>?_⟩
 ·show n.q++[_]=_
  rw [List.range_succ,List.map_append,hq];congr 1;show [_]=[_]
  congr 1;unfold letP acks;simp only [Pl.rc,ht,hs]
  rfl
 ·show 0<=setf n.σ pa (st j) _ a b/\setf n.σ pa (st j) _ a b<=_
  simp only [setf];split
  ·omega
  ·have:=hσ a b;omega
theorem dlv_fold {pa:Nat} {st:Nat -> Nat} {x:Bs} {k:Nat}:∀ (m j:Nat) (n:Ns),j+m<=30 -> n.t=1 -> n.fs=[] -> n.s=k+j -> n.q=(List.range j).map (acks pa st x k) -> (∀ a b,0<=n.σ a b/\n.σ a b<=j) →
  ((List.range' j m).map (dlvs pa st x) |>.foldl delivP n).q=(List.range (j+m)).map (acks pa st x k)
 | 0,j,n,_,_,_,_,hq,_=>by rw [Nat.add_zero];exact hq
 | m+1,j,n,hj,ht,hf,hs,hq,hσ=>by
  obtain ⟨h1,h2,h3,h4⟩:=dlv_step (k:=k) (by omega:j<=30) ht hf hs hq hσ;rw [List.range'_succ,List.map_cons,List.foldl_cons];have:=dlv_fold m (j+1) (delivP n (dlvs pa st x j)) (by omega) ((delivP_t _ _).1.trans ht) h1 h2 h3 h4;rw [show j+(m+1)=j+1+m by omega];exact this
theorem answers_law {n:Ns} {pa:Nat} {st:Nat -> Nat} {x:Bs} {k:Nat} (hk:k<=30) (ht:n.t=0) (hf:n.fs=[]) (hs:n.s=k) (hq:n.q=(List.range k).map (dlvs pa st x)) (hσ:n.σ=fun _ _=>0):
  (tickP n).q=(List.range k).map (acks pa st x k)/\(tickP (tickP n)).q=[]:=by
 have hd:n.q.filter (due (n.t+1))=n.q:=List.filter_eq_self.2 (fun l hl=>by
  rw [hq] at hl;obtain ⟨i,-,rfl⟩:=List.mem_map.1 hl
  rw [ht];rfl)
 have hn:(n.q.filter fun l=>!due (n.t+1) l)=[]:=List.filter_eq_nil_iff.2 (fun l hl=>by
  rw [hq] at hl;obtain ⟨i,-,rfl⟩:=List.mem_map.1 hl
  rw [ht];exact fun h=>Bool.noConfusion (show false=true from h))
 have h1:(tickP n).q=(List.range k).map (acks pa st x k):=by
  unfold tickP;rw [hd,hn,hq,List.range_eq_range'];have:=dlv_fold (pa:=pa) (st:=st) (x:=x) (k:=k) k 0 { n with t:=n.t+1,c:=min (n.c+1) 1000000000,q:=[] } (by omega) (by show n.t+1=1;omega) hf (by show n.s=k+0;omega) rfl (fun a b=>by show 0<=n.σ a b/\n.σ a b<=_;rw [hσ];exact ⟨Int.le_refl _,Int.le_refl _⟩);rw [Nat.zero_add,List.range_eq_range'] at this;exact this
 refine ⟨h1,?_⟩;have ht1:=(tickP_t n).1;obtain ⟨n1,hn1⟩:∃ n1,n1=tickP n:=⟨_,rfl⟩;rw [<- hn1] at h1 ht1 ⊢
 have hd1:n1.q.filter (due (n1.t+1))=n1.q:=List.filter_eq_self.2 (fun l hl=>by
  rw [h1] at hl;obtain ⟨i,-,rfl⟩:=List.mem_map.1 hl
  rw [ht1,ht];rfl)
 have hn1':(n1.q.filter fun l=>!due (n1.t+1) l)=[]:=List.filter_eq_nil_iff.2 (fun l hl=>by
  rw [h1] at hl;obtain ⟨i,-,rfl⟩:=List.mem_map.1 hl
  rw [ht1,ht];exact fun h=>Bool.noConfusion (show false=true from h))
 unfold tickP;rw [hd1,hn1',h1];have:∀ (L:List Nat) (m:Ns),m.q=[] -> ((L.map (acks pa st x k)).foldl delivP m).q=[]:=fun L=>by
  induction L with
  | nil=>exact fun m h=>h
  | cons a r ih=>
   intro m h;rw [List.map_cons,List.foldl_cons];refine ih _ ?_;show unheld m.t _ m.q=[]
   rw [h];rfl
 exact this _ _ rfl
end Nt
namespace Go.Proofs.YtcopgcdhkgenkaaGreatDoor
open Go.Shelf Go.RowKit Cdk Scr Nt
def pickA (c:Int):Nat:=if c < 0 then (-(c+1)).toNat else c.toNat
def pickN (c:Int) (n:Nat):Nat:=pickA c % n
theorem pickN_lt (c:Int) {n:Nat} (h:0 < n):pickN c n < n:=Nat.mod_lt _ h
theorem tmod_nat (a n:Nat):((a:Int)).tmod (n:Int)=((a % n:Nat):Int):=by
 rw [Int.tmod_eq_emod_of_nonneg (by omega)];rfl
theorem pick_law (c:Int) (n:Nat) (hc:I64 c) (hn:1<=n/\n<=1000) (w:World):Calls Tryz.prog 10 #[.int .i64 c,.int .i64 n] w fun e w'=>e=.returned (.int .i64 (pickN c n))/\w=w':=by
 have hz:¬ (n:Int)=0:=by omega
 have hz2:((n:Int)==0)=false:=by rw [beq_eq_false_iff_ne];exact hz
 unfold I64 at hc
 by_cases h:c < 0
 ·have hw1:IntKind.i64.wrap (c+1)=c+1:=IntWalk.i64_in _ (by omega)
  have hw2:IntKind.i64.wrap (-(c+1))=-(c+1):=IntWalk.i64_in _ (by omega);have ht:(-(c+1)).tmod (n:Int)=((pickN c n:Nat):Int):=by
   unfold pickN pickA;rw [if_pos h,<- tmod_nat,Int.toNat_of_nonneg (by omega)]
  have hw3:IntKind.i64.wrap ((pickN c n:Nat):Int)=((pickN c n:Nat):Int):=IntWalk.i64_in _ (by have:=pickN_lt c (n:=n) (by omega);omega);go_enter Tryz.func10,Tryz.ntmps10;go_wp2_with fail
  go_ret;exact ⟨by first | rfl | (show Ending.returned (Value.int .i64 _)=_;simp only [ht,hw3]),rfl⟩
 ·have ht:c.tmod (n:Int)=((pickN c n:Nat):Int):=by
   unfold pickN pickA;rw [if_neg h,<- tmod_nat,Int.toNat_of_nonneg (by omega)]
  have hw3:IntKind.i64.wrap ((pickN c n:Nat):Int)=((pickN c n:Nat):Int):=IntWalk.i64_in _ (by have:=pickN_lt c (n:=n) (by omega);omega);go_enter Tryz.func10,Tryz.ntmps10;go_wp2_with fail
  go_ret;exact ⟨by first | rfl | (show Ending.returned (Value.int .i64 _)=_;simp only [ht,hw3]),rfl⟩
theorem netQ_keep {S:Nat -> Prop} {U Z b:Nat} {tk:Int} {w w':World} {n:Ns} {qa:Value} (h:NetQ U Z tk w b n qa) (hf:n.fs=[]) (hm:Mod S w w') (hS:∀ k,S k -> Z<=k/\qa.ownBlock ≠ some k):NetQ U Z tk w' b n qa:=by
 obtain ⟨d,r,m,f0,f1,fa,pf,lo,h1,h2,⟨a1,a2,a3,a4,a5,a6,a7⟩,h4,h5,h6,h7,h8⟩:=h;refine ⟨d,r,m,f0,f1,fa,pf,lo,hm.at h1 (fun e=>by have:=(hS b e).1;omega),h2.mod hm (fun k _ hk e=>by have:=(hS k e).1;omega),⟨a1,a2,a3,a4,a5,a6,by have:=hm.size;omega⟩,h4.mod hm (fun e=>by have:=(hS m e).1;omega) (fun q _ hq e=>by have hq:q < lo 9:=hq;have:=(hS q e).1;omega),?_,h6,h7.mod hm (fun k hk e=>(hS k e).2 hk),h8⟩;rw [hf] at h5 ⊢;obtain ⟨ao,cap,e,-,g⟩:=h5;exact ⟨ao,cap,e,RowIs.nil _ _,g⟩
theorem netQ_good {U Z b:Nat} {tk:Int} {w:World} {n:Ns} {qa:Value} (h:NetQ U Z tk w b n qa):n.good:=by
 obtain ⟨d,r,m,f0,f1,fa,pf,lo,h1,h2,hb,h4,h5,h6,h7,h8⟩:=h;exact h8
theorem netQ_place {U Z b:Nat} {tk:Int} {w:World} {n:Ns} {qa:Value} (h:NetQ U Z tk w b n qa):b < Z/\U<=Z/\∀ q,qa.ownBlock=some q -> Z<=q/\q < w.heap.size:=by
 obtain ⟨d,r,m,f0,f1,fa,pf,lo,h1,h2,⟨a1,a2,a3,a4,a5,a6,a7⟩,h4,h5,h6,h7,h8⟩:=h;exact ⟨a3,by omega,h7.block⟩
end Go.Proofs.YtcopgcdhkgenkaaGreatDoor
namespace Nt
open Scr
theorem answers_send {n:Ns} {pa:Nat} {st:Nat -> Nat} {x:Bs} {k:Nat} (hk:k < 1024) (ht:n.t=0) (hf:n.fs=[]) (hs:n.s=k) (hq:n.q=(List.range k).map (dlvs pa st x)):
  (sendP n (.dlv pa (k+1) (st k) x)).q=(List.range (k+1)).map (dlvs pa st x)/\(sendP n (.dlv pa (k+1) (st k) x)).fs=[]/\(sendP n (.dlv pa (k+1) (st k) x)).s=k+1/\(sendP n (.dlv pa (k+1) (st k) x)).t=0/\(sendP n (.dlv pa (k+1) (st k) x)).σ=n.σ:=by
 have e:addP n.s n.q (fatedP (nextF []).1 (letP n.t (.dlv pa (k+1) (st k) x)))=(n.q++[{ letP n.t (.dlv pa (k+1) (st k) x) with se:=(n.s+1:Nat) }],n.s+1):=by
  show addP n.s n.q [letP n.t (.dlv pa (k+1) (st k) x)]=_
  rw [addP,if_neg (by rw [hq];simp;omega)];rfl
 unfold sendP;rw [hf,e];refine ⟨?_,rfl,by show n.s+1=_;omega,ht,rfl⟩;show n.q++[_]=_
 rw [List.range_succ,List.map_append,hq];congr 1;show [_]=[_]
 congr 1;unfold letP dlvs;simp only [Pl.rc,ht,hs]
 rfl
theorem acks_tx (pa:Nat) (st:Nat -> Nat) (x:Bs) (k:Nat):((List.range k).map (acks pa st x k)).map (fun l=>l.c.tx)=(List.range k).map fun i=>encM (ackM pa st x i):=by
 rw [List.map_map];rfl
theorem ackM_v {pa:Nat} {st:Nat -> Nat} {x:Bs} {i:Nat} (h:(Pl.dlv pa (i+1) (st i) x).ok):vMs (ackM pa st x i)=true:=by
 have h1:=(recvA_v (n:=Ns.new) h (show (0:Int)<=1000000 by decide)).1;have e:recvA Ns.new pa (i+1) (st i) x=ackM pa st x i:=by
  unfold recvA;rw [if_neg (by show ¬ ((i+1:Nat):Int) < 0;omega),if_neg (by show ¬ ((i+1:Nat):Int)=0;omega)];rfl
 rw [e] at h1;exact h1
end Nt
namespace Go.Proofs.YtcopgcdhkgenkaaGreatDoor
open Go.Shelf Go.RowKit Cdk Scr Nt
theorem sameStrings_any {F G:Nat -> Prop} (va vb:Value) (l:List Bs) (w:World) (ha:StrsAt F w va l) (hb:StrsAt G w vb l):
  Calls Tryz.prog 20 #[va,vb] w fun e w'=>e=.returned (.bool true)/\Ext w w':=by
 have ha0:=hid ha;have hb0:=hid hb;obtain ⟨av,ca,rfl,-⟩:=ha;obtain ⟨bv,cb,rfl,-⟩:=hb;obtain ⟨N,hN⟩:∃ N,N=l.length:=⟨_,rfl⟩;have hlb:(N:Int)<=140737488355328:=by obtain ⟨ao,cap,-,h1,h2,h3,h4,h5⟩:=ha0.out;omega
 rw [<- hN];replace hN:=hid hN;go_enter Tryz.func20,Tryz.ntmps20;go_wp2_with fail
 go_loopg [5] N (fun g i wr=>∃ k:Nat,k+g=N/\i=.int .i64 k/\Ext w wr)
 case atStart=>exact ⟨0,by omega,rfl,Mod.refl _ _⟩
 case round=>
  obtain ⟨k,hk,rfl,hx⟩:=hrel;replace hk:=hid hk;have hx':=hid hx;clear hx
  by_cases hlt:k < N
  ·have hdi:(k:Int) < (N:Int):=by omega
   have hd:decide ((k:Int) < (N:Int))=true:=decide_eq_true hdi;have hkl:k < l.length:=by have:=hN.out;omega
   obtain ⟨b1,o1,c1,e1,-,hc1⟩:=ha0.out.get 1 strC_len (by decide) hkl;obtain ⟨b2,o2,c2,e2,-,hc2⟩:=hb0.out.get 1 strC_len (by decide) hkl;injection e1 with e1 e3 e4
   injection e2 with e2 e5 e6
   subst e1 e2;clear e3 e4 e5 e6;have hd1:=hc1 0 (strV l[k]) (by decide) rfl;have hd2:=hc2 0 (strV l[k]) (by decide) rfl;simp only [Nat.mul_one,Nat.add_zero] at hd1 hd2;unfold strV at hd1 hd2;generalize l[k]=y at hd1 hd2;generalize (⟨y.toArray⟩:ByteArray)=s at hd1 hd2;have hf1:=hid (hx'.out.cell hd1 (fun h=>h));have hf2:=hid (hx'.out.cell hd2 (fun h=>h));clear hc1 hc2 hd1 hd2;go_wp2_with fail
   go_upto_region 6 with fail
   try simp only [List.append_eq,List.cons_append,List.nil_append]
   refine wp_region_tree (.s (.q 0 (.q 1 (.q 2 (.q 3 (.q 4 (.q 5 (.q 6 (.q 7 (.q 8 .done)))))))))) (by as_aux_lemma=>kernel_rfl) (by as_aux_lemma=>kernel_rfl) (by as_aux_lemma=>kernel_rfl) (by decide) ?_;have hy0:=hid (Mod.drew0 (fun _=>False) wr);refine wpTr_s (fun Wx=>Ext wr Wx) (fun _ _=>trivial) hy0.out ?_;generalize hWd:World.drew wr=W0 at hy0 ⊢
   iterate 9 (refine wpTr_q _ (by simp only [List.getD_cons_succ,List.getD_cons_zero];rfl) (by rfl) ?_ (fun w' hC=>?_) ?_;rotate_left;(have q_1:=hC.cell hf1.out (fun h=>h);have q_2:=hC.cell hf2.out (fun h=>h);go_simp;try with_reducible rfl);try simp only [Act.put,sA,sZ,sS])
   refine wpTr_done ?_;have hx1:=hid (hx'.out.trans hy0.out);clear hWd;go_wp2_with fail
   go_roundg (gk - 1)
   case measure=>have:=hk.out;omega
   case rel=>exact ⟨k+1,by have:=hk.out;omega,by go_num,hx1.out⟩
  ·obtain rfl:k=N:=by have:=hk.out;omega
   have hdi:¬ (k:Int) < (k:Int):=by omega
   have hd:decide ((k:Int) < (k:Int))=false:=decide_eq_false hdi;go_wp2_with fail
   go_ret;exact ⟨rfl,hx'.out⟩
theorem answers_walk {F:Nat -> Prop} (v:Value) (l:List Int) (a1:Int) (h1:I64 a1) (hl:∀ x ∈ l,I64 x) (w:World) (hG:Gl w) (hv:RowAt F w intC v l):
  Calls Tryz.prog 6 #[v,.int .i64 a1] w fun e w'=>e=.returned (.bool true)/\Ext w w':=by
 have hsn:=hid (sane_law w hG);have hG0:=hid hG;have hv0:=hid hv;obtain ⟨av,cv,rfl,-⟩:=hv;have hlb:(l.length:Int)<=140737488355328:=by obtain ⟨ao,cap,-,h1,h2,h3,h4,h5⟩:=hv0.out;omega
 obtain ⟨N,hN⟩:∃ N,N=l.length:=⟨_,rfl⟩;rw [<- hN] at hlb ⊢;replace hN:=hid hN;have p1:=hid (fun W=>pick_law a1 8 h1 (by decide) W);have q1:=pickN_lt a1 (n:=8) (by decide);generalize pickN a1 8=pa at p1 q1;have w1:IntKind.i64.wrap (1+(pa:Int))=((pa+1:Nat):Int):=by rw [IntWalk.i64_in _ (by omega)];omega
 obtain ⟨st,hst⟩:∃ st:Nat -> Nat,st=fun i=>pickN (l.getD i 0) 64+1:=⟨_,rfl⟩
 have hok:Hid (∀ k,k < 30 -> (Pl.dlv (pa+1) (k+1) (st k) [120]).ok):=hid (fun k hk=>⟨by omega,by omega,by omega,by omega,by rw [hst];exact Nat.le_add_left _ _,by rw [hst];have:=pickN_lt (l.getD k 0) (n:=64) (by decide);show pickN (l.getD k 0) 64+1<=64;omega,by decide⟩);replace hst:=hid hst;have hsm:=hid (fun W (h:Gl W)=>sum_any [120] W h (by decide));obtain ⟨C,hC⟩:∃ C,C=crc [120]:=⟨_,rfl⟩;rw [<- hC] at hsm;replace hC:=hid hC;obtain ⟨K,hK⟩:∃ K,K=min N 30:=⟨_,rfl⟩;replace hK:=hid hK;obtain ⟨WL,hWL⟩:∃ WL:Nat -> List Bs,WL=fun k=>(List.range k).map fun i=>encM (ackM (pa+1) st [120] i):=⟨_,rfl⟩
 replace hWL:=hid hWL;replace hl:=hid hl;clear hG h1;go_enter Tryz.func6,Tryz.ntmps6;go_wp2_with fail
 refine hsn.out.mono ?_;rintro e wa ⟨rfl,hx0⟩;have hx1:=hid hx0;have hnew:=hid (net_newQ wa (hG0.out.ext hx0));obtain ⟨U,hU⟩:∃ U,U=wa.heap.size:=⟨_,rfl⟩;rw [<- hU] at hnew;have hUw:Hid (w.heap.size<=U/\12<=U):=hid (by have:=hx0.size;have:=hG0.out.size;omega);clear hx0 hsn hU;go_wp2_with fail
 refine (p1.out wa).mono ?_;rintro e w0 ⟨rfl,hw0⟩;obtain rfl:wa=w0:=hw0;go_wp2_with fail
 refine hnew.out.mono ?_;rintro e wb ⟨⟨b,rfl,hN0,hbU⟩,hx0⟩;have hx2:=hid (hx1.out.trans hx0);obtain ⟨Z,hZ⟩:∃ Z,Z=wb.heap.size:=⟨_,rfl⟩;rw [<- hZ] at hN0;have hN2:=hid hN0;have hZb:Z<=wb.heap.size:=Nat.le_of_eq hZ;clear hx0 hN0 hx1 hnew p1 hZ;go_wp2_with fail
 go_loopg [8,9] K (fun g s8 i wr=>∃ (k:Nat) (n:Ns) (qa:Value),k+g=K/\i=.int .i64 k/\NetQ U Z n.t wr b n qa/\(n.q=(List.range k).map (dlvs (pa+1) st [120])/\n.fs=[]/\n.s=k/\n.t=0/\n.σ=fun _ _=>0)/\Cdk.Own wr Z 9 1 strC s8 (WL k)/\(∀ q,qa.ownBlock=some q -> s8.ownBlock ≠ some q)/\Z<=wr.heap.size/\Ext w wr)
 case atStart=>exact ⟨0,Ns.new,_,by omega,rfl,hN2.out,⟨rfl,rfl,rfl,rfl,rfl⟩,by rw [hWL.out];exact Own.nil _ _ _ _ _,(fun q e=>nomatch e),hZb,hx2.out⟩
 case round=>
  clear hN2 hx2 hZb;obtain ⟨k,n,qa,hk,rfl,hNk,⟨n1,n2,n3,n4,n5⟩,hO,hdis,hZr,hx⟩:=hrel;replace hk:=hid hk
  by_cases hkK:k < K
  ·have hkN:k < N:=by have:=hK.out;omega
   have hk3:k < 30:=by have:=hK.out;omega
   have hi1:(k:Int) < (N:Int):=by omega
   have hd1:decide ((k:Int) < (N:Int))=true:=decide_eq_true hi1;have hi2:(k:Int) < 30:=by omega
   have hd2:decide ((k:Int) < 30)=true:=decide_eq_true hi2;have hkl:k < l.length:=by have:=hN.out;omega
   obtain ⟨b1,o1,c1,e1,-,hc⟩:=hv0.out.get 1 (fun _=>rfl) (by decide) hkl;injection e1 with e1 e2 e3
   subst e1;have hc0:=hc 0 (.int .i64 l[k]) (by decide) rfl;simp only [Nat.mul_one,Nat.add_zero] at hc0;have hpk:=hid (fun W=>pick_law l[k] 64 (hl.out _ (List.getElem_mem hkl)) (by decide) W);have hsk:st k=pickN l[k] 64+1:=by rw [hst.out];show pickN (l[k]?.getD 0) 64+1=_;rw [List.getElem?_eq_getElem hkl];rfl
   have w2:IntKind.i64.wrap (1+((pickN l[k] 64:Nat):Int))=((st k:Nat):Int):=by rw [hsk,IntWalk.i64_in _ (by have:=pickN_lt l[k] (n:=64) (by decide);omega)];omega
   generalize pickN l[k] 64=pk at hpk hsk w2;generalize l[k]=y at hc0 hpk;have hck:=hx.cell hc0 (fun h=>h);have w3:IntKind.i64.wrap ((k:Int)+1)=((k+1:Nat):Int):=by rw [IntWalk.i64_in _ (by omega)];omega
   have hokk:=hok.out k hk3;obtain ⟨sk,hske⟩:∃ sk,sk=st k:=⟨_,rfl⟩;have hdl:=hid (fun W (h:Gl W)=>deliver_law (pa+1) (k+1) (st k) [120] hokk W h);have hin:=hid (fun W (h:Gl W) (hN:NetQ U Z n.t W b n qa)=>netInject_any (.dlv (pa+1) (k+1) (st k) [120]) hokk (.inl ⟨_,_,_,_,rfl⟩) W h hN (by omega) (by omega));have hen:=hid (fun W (h:Gl W)=>msgEncode_any (ackM (pa+1) st [120] k) W h (ackM_v hokk));have hms:(msC (ackM (pa+1) st [120] k)).toArray=#[.int .i64 3,.int .i64 ((pa+1:Nat):Int),.int .i64 ((k+1:Nat):Int),.int .i64 (st k),.int .i64 0,.int .i64 C,.string ⟨#[]⟩]:=by rw [hC.out];rfl
   rw [hms] at hen;obtain ⟨T1,hT1⟩:∃ T,T=(⟨(Pl.dlv (pa+1) (k+1) (st k) [120]).tx.toArray⟩:ByteArray):=⟨_,rfl⟩;rw [<- hT1] at hdl hin;obtain ⟨T2,hT2⟩:∃ T,T=encM (ackM (pa+1) st [120] k):=⟨_,rfl⟩;rw [<- hT2] at hen;have hWk:Hid (WL k++[T2]=WL (k+1)):=hid (by rw [hWL.out,hT2];simp only [List.range_succ,List.map_append,List.map_cons,List.map_nil]);have hWl:(WL k).length=k:=by rw [hWL.out];simp
   have hsd:=hid (answers_send (pa:=pa+1) (st:=st) (x:=[120]) (k:=k) (by omega) n4 n2 n3 n1);obtain ⟨n',hn'⟩:∃ n',n'=sendP n (.dlv (pa+1) (k+1) (st k) [120]):=⟨_,rfl⟩;rw [<- hn'] at hsd hin;have hn5:=hid n5;have hn4:=hid n4;obtain ⟨hbZ,hUZ,hqa⟩:=netQ_place hNk;rw [<- hske] at hdl hen w2;obtain ⟨sv,sc,rfl,-⟩:=hO.row;rw [hWl] at hO hdis ⊢;have hNk':=hid hNk;have hO':=hid hO;have hdis':=hid hdis;have hx':=hid hx;have hqa':=hid hqa;have hpl:=hid (And.intro hbZ (And.intro hUZ (And.intro hbU hZr)));have hWl':=hid hWl;clear hc hc0 hms hT1 hT2 hn' hske hsk hokk n1 n2 n3 n4 n5 e2 e3 hNk hO hdis hx hqa hbZ hUZ hWl hZr;go_wp2_with fail
   refine (hpk.out wr).mono ?_;rintro e w0 ⟨rfl,hw0⟩;obtain rfl:wr=w0:=hw0;go_wp2_with fail
   refine (hdl.out wr (hG0.out.ext hx'.out)).mono ?_;rintro e w4 ⟨rfl,hx0⟩;have hx4:=hid (hx'.out.trans hx0);have hN4:=hid (hNk'.out.ext hx0);have hO4:=hid (hO'.out.ext hx0);clear hx0 hck hdl hNk' hO' hx';go_wp2_with fail
   refine (hin.out w4 (hG0.out.ext hx4.out) hN4.out).mono ?_;rintro e w5 ⟨rfl,⟨qb,hNb,hqb⟩,hm5⟩
   have hO5:=hid (hO4.out.mod hm5 (fun q hq e=>by
    rcases e with e | e
    ·have:=(hO4.out.block q hq).1;have:=hpl.out.1;omega
    ·exact hdis'.out q e hq))
   have hx5:Hid (Ext w w5):=hid (hx4.out.then hm5 (fun q hq e=>by
    have:=hUw.out;have:=hpl.out;rcases e with e | e
    ·omega
    ·have:=(hqa'.out q e).1;omega))
   have hd5:Hid (∀ q,qb.ownBlock=some q -> (Value.slice sv k sc).ownBlock ≠ some q):=hid (fun q e h=>by
    rcases hqb with g | g
    ·rw [g] at e;exact hdis'.out q e h
    ·have:=g q e;have:=(hO4.out.block q h).2;omega)
   have hqb':=hid (netQ_place hNb).2.2;have hN5:=hid hNb;have hs5:=hm5.size;clear hNb hqb hm5 hin hN4 hO4 hx4 hdis' hqa';go_wp2_with fail
   refine (hsm.out w5 (hG0.out.ext hx5.out)).mono ?_;rintro e w0 ⟨rfl,hw0⟩;obtain rfl:w5=w0:=hw0;go_wp2_with fail
   refine (hen.out w5 (hG0.out.ext hx5.out)).mono ?_;rintro e w6 ⟨rfl,hx0⟩;have hxA:=Mod.alloc (Mod.refl (fun _=>False) w6) (.cells #[.string ⟨T2.toArray⟩] 9);have hrS:=hid (RowIs.new w6 [strV T2] 9);have hszA:(w6.alloc (.cells #[.string ⟨T2.toArray⟩] 9)).heap.size=w6.heap.size+1:=by simp
   have hx7:=hid ((hx5.out.trans hx0).trans hxA);have hN7:=hid ((hN5.out.ext hx0).ext hxA);have hO7:=hid ((hO5.out.ext hx0).ext hxA);have hs6:=hx0.size;have hs7:=hid (show w5.heap.size<=(w6.alloc (.cells #[.string ⟨T2.toArray⟩] 9)).heap.size by rw [hszA];omega);have hZ7:=hid (show Z<=(w6.alloc (.cells #[.string ⟨T2.toArray⟩] 9)).heap.size by have:=hpl.out;have:=hs7.out;have:=(netQ_place hN5.out);obtain ⟨d,r,m,f0,f1,fa,pf,lo,-,-,⟨a1,a2,a3,a4,a5,a6,a7⟩,-⟩:=hN5.out;omega);clear hx0 hxA hszA hx5 hN5 hO5 hs5 hs6 hen;go_wp2_with (at_builtin;refine wpList_appAt (f:=strC) (base:=Z) rfl _ _ 40 rfl Tryz.underlying40 elS rfl hO7.out _ 1 1 rfl [T2] rfl hrS.out strC_len (fun y hy u hu=>by simp only [List.mem_singleton] at hy;subst hy;simp [strC,strV] at hu;subst hu;rfl) (by rw [hWl'.out];simp only [List.length_singleton];omega) hZ7.out (fun v8 w8 H=>?_))
   obtain ⟨hO8,hM8,hP8⟩:=H.out;rw [hWk.out] at hO8;have hx8:=hid (hx7.out.then hM8 (fun q hq e=>by have:=(hO7.out.block q e).1;have:=hUw.out;have:=hpl.out;omega));have hN8:=hid (netQ_keep hN7.out (by rw [hsd.out.2.1]) hM8 (fun q e=>⟨(hO7.out.block q e).1,fun h=>hd5.out q h e⟩))
   have hd8:Hid (∀ q,qb.ownBlock=some q -> v8.ownBlock ≠ some q):=hid (fun q e h=>by
    rcases hP8 with g | g
    ·rw [g] at h;exact hd5.out q e h
    ·rw [g] at h;injection h with h;have:=(hqb'.out q e).2;have:=hs7.out;omega)
   have hO8':=hid hO8;have hZ8:=hid (Nat.le_trans hZ7.out hM8.size);clear H hO8 hM8 hP8 hO7 hN7 hx7 hd5 hrS;go_wp2_with fail
   go_roundg (gk - 1)
   case measure=>have:=hk.out;omega
   case rel=>
    obtain ⟨s1,s2,s3,s4,s5⟩:=hsd.out;exact ⟨k+1,n',qb,by have:=hk.out;omega,by go_num,by rw [s4,<- hn4.out];exact hN8.out,⟨s1,s2,s3,s4,s5.trans hn5.out⟩,hO8'.out,hd8.out,hZ8.out,hx8.out⟩
  ·obtain rfl:k=K:=by have:=hk.out;omega
   obtain ⟨hbZ,hUZ,hqa⟩:=netQ_place hNk;have hWl:(WL k).length=k:=by rw [hWL.out];simp
   obtain ⟨sv,sc,rfl,-⟩:=hO.row;rw [hWl] at hO ⊢;have hk30:k<=30:=by have:=hK.out;omega
   have hqs:=hid (answers_law (pa:=pa+1) (st:=st) (x:=[120]) (k:=k) hk30 n4 n2 n3 n1 n5);have htk:=hid (tick_any nrTick_any wr (hG0.out.ext hx) hUw.out.2 hNk (by omega) (by omega));have hpl:=hid (And.intro hbZ (And.intro hUZ (And.intro hbU hZr)));have hO':=hid hO;have hx':=hid hx;have hs3:=hid (And.intro n3 n4);have hgd:=hid (netQ_good hNk);clear hNk hO hdis hx n1 n2 n3 n4 n5 hqa hbZ hUZ hWl hZr;have hx13:Hid (30 < N/\k=30 \/ N=k):=hid (by have:=hK.out;omega);obtain ⟨m,hm⟩:∃ m,m=tickP n:=⟨_,rfl⟩;have hmt:m.t=n.t+1:=by rw [hm];exact (tickP_t n).1
   unfold TickP at htk;rw [<- hm] at htk hqs;have hmt':=hid hmt;have hms:Hid (m.s<=n.s+2048):=hid (by rw [hm];exact tickP_s hgd.out);clear hm hmt
   by_cases hN3:30 < N
   case' pos=>
    have hi1:(k:Int) < (N:Int):=by have:=hx13.out;omega
    have hd1:decide ((k:Int) < (N:Int))=true:=decide_eq_true hi1;have hi2:¬ (k:Int) < 30:=by have:=hx13.out;omega
    have hd2:decide ((k:Int) < 30)=false:=decide_eq_false hi2
   case' neg=>
    have hi1:¬ (k:Int) < (N:Int):=by have:=hx13.out;omega
    have hd1:decide ((k:Int) < (N:Int))=false:=decide_eq_false hi1
   all_goals
    clear hN3;go_wp2_with fail
    refine htk.out.mono ?_;rintro e w9 ⟨rfl,⟨qb,hNb,-⟩,hm9⟩;have hO9:=hid (hO'.out.mod hm9 (fun q hq e=>by have e:U<=q/\q < Z:=e;have:=(hO'.out.block q hq).1;omega));have hx9:Hid (Ext w w9):=hid (hx'.out.then hm9 (fun q hq e=>by have e:U<=q/\q < Z:=e;have:=hUw.out;omega));have hN9:Hid (Net U w9 b m):=hid ⟨hUw.out.2,Z,qb,by rw [hmt'.out];exact hNb⟩;have hpd:=hid (net_pending w9 hN9.out);rw [hqs.out.1,acks_tx,<- congrFun hWL.out k] at hpd;clear hNb hm9 htk hO' hx';go_wp2_with fail
    refine hpd.out.mono ?_;rintro e w10 ⟨⟨v2,rfl,hv2⟩,hx0⟩;have hx10:=hid (hx9.out.trans hx0);have hN10:=hid (hN9.out.ext hx0);have hO10:=hid (hO9.out.ext hx0);have hss:=hid (sameStrings_any v2 (.slice sv k sc) (WL k) w10 hv2 (own_rowAt hO10.out (by rw [hWL.out];simp;omega)));obtain ⟨vo,vc,rfl,-⟩:=hv2;clear hx0 hpd hN9 hO9 hx9;go_wp2_with fail
    refine hss.out.mono ?_;rintro e w11 ⟨rfl,hx0⟩;have hx11:=hid (hx10.out.trans hx0);have hN11:=hid (hN10.out.ext hx0);have ht2:=hid (net_tick w11 (hG0.out.ext hx11.out) hN11.out (by have:=hms.out;have:=hs3.out;omega) (by rw [hmt'.out];have:=hs3.out;omega));clear hx0 hss hN10 hx10;go_wp2_with fail
    refine ht2.out.mono ?_;rintro e w12 ⟨rfl,hN,hm12⟩;have hx12:Hid (Ext w w12):=hid (hx11.out.then hm12 (fun q hq e=>by have e:U<=q:=e;have:=hUw.out;omega));have hpe:=hid (net_pending w12 hN);rw [hqs.out.2] at hpe;clear hN hm12 ht2 hN11 hx11;go_wp2_with fail
    refine hpe.out.mono ?_;rintro e w13 ⟨⟨v3,rfl,hv3⟩,hx0⟩;obtain ⟨vo3,vc3,rfl,-⟩:=hv3;have hx14:=hid (hx12.out.trans hx0);clear hx0 hpe hx12;go_wp2_with fail
    go_ret;exact ⟨rfl,hx14.out⟩
end Go.Proofs.YtcopgcdhkgenkaaGreatDoor
