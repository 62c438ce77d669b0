import Derived.Test.YtjjfphalcibjfaaGreatDoorAppend
import Derived.Test.YtjjfphalcibjfaaGreatDoorD21
import Derived.Test.YtjjfphalcibjfaaGreatDoorRegIn
import Derived.Test.YtjjfphalcibjfaaGreatDoorWhole
import Derived.Test.YtjjfphalcibjfaaGreatDoorD5
set_option maxRecDepth 100000
set_option maxHeartbeats 16000000
namespace Cdk
open Go Go.RowKit
theorem zjv {α:Type} {P:Program} {f:α -> List Value} {base:Nat} {e:TypeId} {z:Value} {size bytes:Nat} {w:World} {v:Value} {xs:List α} {o:Oper} {a:Act} {K:Act -> World -> Prop} {Q:Exit -> Act -> World -> Prop} (s x:Operand) (t:TypeId)
  (ho:o.op=.call { callee:=.builtin .append,args:=#[s,x],argTypes:=#[t,t] }) (ht:P.underlying t=some (.slice e)) (el:El P e z size bytes)
  (hs:a.eval s=v) (hown:Own w base e size f v xs) (ad:Addr) (m c:Nat) (hx:a.eval x=.slice (some ad) m c) (ys:List α) (hm:ys.length=m) (hrow:zaJ w (some ad) (ys.flatMap f))
  (hf:∀ y,(f y).length=size) (h1:∀ y ∈ ys,∀ u ∈ f y,u.oneCell'=true) (hlen:xs.length+ys.length<=137438953472) (hbase:base<=w.heap.size)
  (hK:∀ v' w',Hid (Own w' base e size f v' (xs++ys)/\Mod (fun k=>v.ownBlock=some k) w w'/\(v'.ownBlock=v.ownBlock \/ v'.ownBlock=some w.heap.size)) -> K (a.put o.dst v') w'):o.wp P a w K Q:=by
 obtain ⟨i0,hi,hz0,hz1,hz2⟩:=info_parts el.row;have hflat:=fun l:List α=>flat_length f size hf l
 have hcells:∀ j u,(ys.flatMap f)[j]?=some u -> w.cell? (ad.add j)=some u:=by
  intro j u hu;obtain ⟨b,off,he,hcc⟩:=hrow j u hu;simp only [Option.some.injEq] at he;subst he;rw [Addr.add_lit];exact hcc
 have hb:(xs.length+m)*bytes<=140737488355328:=by
  have h1:=el.small;have:(xs.length+m)*bytes<=137438953472*1024:=Nat.mul_le_mul (by omega) h1;omega
 obtain ⟨v',w',hrun,h2,h3,-,h4⟩:=run_append_own_at w base t o.type e i0 z size bytes ht hi hz0 hz1 hz2 el.cells el.pos v xs.length (xs.flatMap f) hown ad m c (ys.flatMap f) (by rw [hflat,hm]) hcells
  (fun u hu=>by obtain ⟨y,hy,hu⟩:=List.mem_flatMap.1 hu;exact h1 y hy u hu) (by simp only [maxLen];omega) hb hbase
 have hfin:=hK v' w' ⟨by subst hm;unfold Own;rw [List.length_append,List.flatMap_append];exact h2,Mod.ofGrown h3 (fun k hk=>hk),h4⟩;unfold Oper.wp;simp [execOp,ho,resolve,invoke,builtin,hs,hx,hrun,Result.andThen];exact hfin
end Cdk
namespace Go.Proofs.YtjjfphalcibjfaaGreatDoor
open Go.Shelf Go.RowKit Cdk Scr
attribute [local go_sem] Oper.semAt_some
def zin:Nat -> List Bs -> List (Nat × Bs)
 | _,[]=>[]
 | k,t::r=>(k,t)::zin (k+1) r
theorem zgI:∀ (k:Nat) (l:List Bs),(zin k l).length=l.length
 | _,[]=>rfl
 | k,_::r=>by simp [zin,zgI (k+1) r]
theorem zgZ:∀ (k:Nat) (l:List Bs),(zin k l).map Prod.snd=l
 | _,[]=>rfl
 | k,_::r=>by simp [zin,zgZ (k+1) r]
def lnV (x:Nat × Bs):Array Value:=#[.int .i64 x.1,.string ⟨x.2.toArray⟩]
theorem zoB (k:Nat) (t:Bs):lnV (k,t)=#[.int .i64 k,.string ⟨t.toArray⟩]:=rfl
theorem grown_drew (w:World) (n:Nat):w.grownBy (w.drewN n) none:=⟨rfl,rfl,rfl,Nat.le_refl _,fun _ _ _=>rfl⟩
theorem zmW (s:Bs) (c:UInt8) (hs:s.length<=1000000) (w:World) (hmx:∃ m:Int,w.cell? ⟨2,0,none⟩=some (.int .i64 m)):Calls Tryz.prog 80 #[.string ⟨s.toArray⟩,.string ⟨#[c]⟩] w fun e w'=>
  e=.returned (.tuple #[.string ⟨(zby c s).1.toArray⟩,.string ⟨(zby c s).2.1.toArray⟩,.bool (zby c s).2.2])/\∃ n,w'=w.drewN n:=by
 obtain ⟨m,hm⟩:=hmx;have h:=Tryz.strings_Cut ⟨s.toArray⟩ ⟨#[c]⟩ m w (by show s.toArray.size < 4294967281;simp;omega) hm;have e:Lib.cut (⟨s.toArray⟩:ByteArray).data.toList (⟨#[c]⟩:ByteArray).data.toList=zby c s:=zfy c s;rw [e] at h;refine h.mono ?_;rintro e w' ⟨rfl,n,rfl⟩;exact ⟨rfl,n,rfl⟩
theorem zmM (n l Bz:Nat) (hn:1<=n) (s:Bs) (hs:s.length<=1000000) (J Jx:List (Nat × Bs) -> World -> Prop) (hJ:∀ p A B,J p A -> A.grownBy B none -> J p B)
  (hY:∀ pre x W,J pre W -> pre.length < 1000002 -> x.2.length<=1000000 -> YieldAt Fence.wide (n - 1) Tryz.prog l (lnV x) W fun e W'=>
   (e=.returned (.bool true)/\J (pre++[x]) W'/\(W.heap.size<=W'.heap.size/\∀ k,k < 10 -> W'.heap[k]?=W.heap[k]?)) \/ (e=.returned (.bool false)/\Jx (pre++[x]) W'))
  (W:World) (hmx:∃ m:Int,W.cell? ⟨2,0,none⟩=some (.int .i64 m)) (hz:W.cell? ⟨Bz,0,none⟩=some (.string ⟨s.toArray⟩)) (h0:J [] W):
  CallsIn Fence.wide n Tryz.prog 79 #[.func (.yield l) #[] #[],.pointer (some ⟨Bz,0,none⟩)] W fun e W'=>(∃ v,e=.returned v) ∧
   ((∃ ys,ys=zin 1 (parts 10 s)/\J ys W') \/ (∃ pre,pre <+:zin 1 (parts 10 s)/\Jx pre W')):=by
 refine callsIn_wide.2 ?_;have hplen:=zcw 10 s;go_enter Tryz.func79,Tryz.ntmps79;obtain ⟨SC,hSC⟩:∃ SC,SC=zin 1 (parts 10 s):=⟨_,rfl⟩;have hSl:Hid (SC.length<=1000001):=Y (by rw [hSC,zgI];omega);rw [<- hSC];replace hY:=Y hY;replace hJ:=Y hJ;replace hmx:=Y hmx;replace hplen:=Y hplen;go_wp2_with fail
 go_loopg [3,4,5] (s.length+2) (fun g rv mv nv wr=>∃ (pre:List (Nat × Bs)) (rest:Bs) (more:Bool) (k:Nat),rv=.string ⟨rest.toArray⟩/\mv=.bool more/\nv=.int .i64 k/\k=pre.length+1/\(if more then SC=pre++zin k (parts 10 rest) else SC=pre)/\J pre wr/\(∀ k,k < 10 -> wr.heap[k]?=W.heap[k]?)/\(if more then rest.length+1 < g else 0 < g)/\rest.length<=1000000)
 case atStart=>exact ⟨[],s,true,1,rfl,rfl,rfl,rfl,by simpa using hSC,h0,fun _ _=>rfl,by simp,hs⟩
 case round=>
  clear h0 hz hSC;obtain ⟨pre,rest,more,k,rfl,rfl,rfl,hk,hsc,hJp,hkp,hg,hrl⟩:=hrel;replace hkp:=Y hkp;cases more with
  | false=>
   simp only [Bool.false_eq_true,if_false] at hsc;replace hsc:=Y hsc;replace hJp:=Y hJp;replace hk:=Y hk;go_wp2_with fail
   go_end0
   exact ⟨⟨_,rfl⟩,.inl ⟨_,hsc.o.symm ▸ rfl,hJp.o⟩⟩
  | true=>
   simp only [if_true] at hsc hg;have hpl:pre.length+(parts 10 rest).length<=1000001:=by
    have:=hSl.o;rw [hsc,List.length_append,zgI] at this;exact this
   have hpne:0 < (parts 10 rest).length:=List.length_pos_iff.2 (zjK 10 rest);have hcut:=Y (zmW rest 10 hrl wr (by obtain ⟨m,hm⟩:=hmx.o;exact ⟨m,by rw [<- hm];unfold World.cell?;rw [hkp.o _ (by decide)]⟩));have hpc:=zcv 10 rest;have hcl:=zmb 10 rest;have hsp:=zbU (c:=10) rest;have hlt:(zby 10 rest).2.2=true -> (zby 10 rest).2.1.length < rest.length:=fun e=>by
    rcases hsp with ⟨-,h1,-⟩ | ⟨h0,-⟩
    ·have:=congrArg List.length h1
     simp only [List.length_append,List.length_cons] at this;omega
    ·rw [e] at h0;cases h0
   have hno:(zby 10 rest).2.2=false -> (zby 10 rest).1=rest:=fun e=>by
    rcases hsp with ⟨h0,-⟩ | ⟨-,h1,-⟩
    ·rw [e] at h0;cases h0
    ·exact h1
   generalize zby 10 rest=q at hcut hpc hcl hlt hno;clear hsp;obtain ⟨q1,q2,q3⟩:=q;simp only at hcut hpc hcl hlt hno;have hy:=fun W hJW=>hY.o pre (k,q1) W hJW (by omega) (Nat.le_trans hcl.1 hrl)
   simp only [zoB] at hy;replace hy:=Y hy;have hkw:IntKind.i64.wrap ((k:Int)+1)=(k:Int)+1:=IntWalk.i64_in _ (by omega);have hkl:Hid (k<=1000001):=Y (by omega);have hq2:Hid (q2.length<=1000000):=Y (by omega)
   have hnext:Hid (if q3 then SC=(pre++[(k,q1)])++zin (k+1) (parts 10 q2) else SC=pre++[(k,q1)]):=Y (by
    cases q3 with
    | true=>simp only [if_true] at hpc ⊢;rw [hsc,hpc];simp [zin]
    | false=>simp only [Bool.false_eq_true,if_false] at hpc ⊢;rw [hsc,hpc,hno rfl];rfl)
   have hmeas:Hid (if q3 then q2.length+1 < gk - 1 else 0 < gk - 1):=Y (by
    cases q3 with
    | true=>have:=hlt rfl;simp only [if_true];omega
    | false=>simp only [Bool.false_eq_true,if_false];omega)
   have hpre:Hid (pre++[(k,q1)] <+:SC):=Y (by
    have:=hnext.o;cases q3 with
    | true=>simp only [if_true] at this;exact ⟨_,this.symm⟩
    | false=>simp only [Bool.false_eq_true,if_false] at this;rw [this];exact List.prefix_refl _)
   have hgp:Hid (0 < gk):=Y (by omega);replace hJp:=Y hJp;replace hk:=Y hk;replace hsc:=Y hsc;clear hpc hcl hlt hno hpl hpne hg;go_wp2_with fail
   refine hcut.o.mono ?_;rintro e w1 ⟨rfl,nn,rfl⟩;have hJ1:=hJ.o _ _ _ hJp.o (grown_drew wr nn);obtain ⟨yfn,ytmps,yassign,ybody,hyr,hyR⟩:=hy.o _ hJ1;replace hyR:=Y hyR;clear hJ1 hy hcut hJp;go_upto_region 6 with fail
   refine (wpIn_wide (n:=n)).1 ?_
   gi_wp2
   refine hyR.o.mono ?_;rintro e' W3 (⟨rfl,hJ3,-,hk3⟩ | ⟨rfl,hJx3⟩)
   ·replace hJ3:=Y hJ3
    have hkk:=Y (fun (k:Nat) (h:k < 10)=>(hk3 k h).trans (hkp.o k h));clear hk3
    gi_wp2
    go_wp2_with fail
    go_roundg (gk - 1)
    case measure=>have:=hgp.o;omega
    case rel=>exact ⟨pre++[(k,q1)],q2,q3,k+1,rfl,rfl,by go_num,by rw [hk.o];simp,hnext.o,hJ3.o,hkk.o,hmeas.o,hq2.o⟩
   ·replace hJx3:=Y hJx3
    gi_wp2
    go_wp2_with fail
    try simp only [Exit.noGoto_normal]
    refine bodyPost_ret (results_none rfl _ _ _) rfl ?_;exact ⟨⟨_,rfl⟩,.inr ⟨_,hpre.o,hJx3.o⟩⟩
theorem zkX (n Bz:Nat) (hn:1<=n) (s:Bs) (hs:s.length<=1000000) (w:World) (hG:Gl w) (hB:Bz < w.heap.size) (hc:w.cell? ⟨Bz,0,none⟩=some (.string ⟨s.toArray⟩)):
  zpA Fence.wide n Tryz.prog 79 #[.pointer (some ⟨Bz,0,none⟩)] lnV (fun k=>k < 10) Bz (fun x=>x.2.length<=1000000) (fun ys=>ys=zin 1 (parts 10 s)) (fun pre=>pre <+:zin 1 (parts 10 s)) 1000002 w:=fun l J Jx W hW hJ _ hY h0=>
 zmM n l Bz hn s hs J Jx hJ hY W (by obtain ⟨m,hm⟩:=hG.mx;exact ⟨m,(hW.cell (p:=⟨2,0,none⟩) (by have:=hG.size;show (_:Nat) < _;exact Nat.lt_of_lt_of_le (by decide) hG.size)).trans hm⟩) ((hW.cell (p:=⟨Bz,0,none⟩) hB).trans hc) h0
theorem lines_any (s:Bs) (w:World):Calls Tryz.prog 49 #[.string ⟨s.toArray⟩] w fun e w'=>e=.returned (.func (.func 79) #[] #[.pointer (some ⟨w.heap.size,0,none⟩)])/\w'=w.alloc (.cells #[.string ⟨s.toArray⟩] 9):=by
 go_enter Tryz.func49,Tryz.ntmps49;go_wp2_with fail
 go_ret;exact ⟨rfl,rfl⟩
end Go.Proofs.YtjjfphalcibjfaaGreatDoor
namespace Cdk
open Go Go.RowKit
section
variable {P:Program} {Q:Exit -> Act -> World -> Prop} {l₀ n:Nat}
theorem zkh {o:Oper} (hd:∀ c,o.op ≠ .defer c) {a:Act} {w:World} {K:Act -> World -> Prop} (h:o.wp P a w K Q):o.wpIn (Fence.wide.inRound l₀) n P a w K Q:=by
 refine ⟨fun _ _=>trivial,?_⟩;rw [Oper.semAt_eq _ _ _ hd];exact zhq h
variable {ops:Array Oper} {rest:List Oper} {o:Oper} {a:Act} {w:World}
theorem zbs (hg:o.guard=none) (hd:∀ c,o.op ≠ .defer c) (h:∀ K:Act -> World -> Prop,(∀ a w,wpListIn (Fence.wide.inRound l₀) n P ops Q rest a w -> K a w) -> o.wp P a w K Q):
  wpListIn (Fence.wide.inRound l₀) n P ops Q (o::rest) a w:=wpListIn_plain hg fun K hK=>zkh hd (h K hK)
theorem zda (hg:o.guard=none) (ty:TypeId) (x y:Operand) (ho:o.op=.store ty x y) (b:Nat) (old vs:Array Value) (t:TypeId) (hx:a.eval x=.pointer (some ⟨b,0,none⟩)) (hy:a.eval y=.agg vs)
  (hold:w.heap[b]?=some (.cells old t (0,0))) (hl:vs.size=old.size) (hi:(P.info? ty).map (·.size)=some vs.size) (h1:vs.toList.all (·.oneCell')=true)
  (h:∀ w',Hid (w'.heap[b]?=some (.cells vs t (0,0))/\Mod (Eq b) w w') -> wpListIn (Fence.wide.inRound l₀) n P ops Q rest (a.put o.dst undef) w'):wpListIn (Fence.wide.inRound l₀) n P ops Q (o::rest) a w:=
 zbs hg (fun c hc=>by rw [ho] at hc;cases hc) fun _ hK=>zbf ty x y ho b old vs t hx hy hold hl hi h1 (fun w' H=>hK _ _ (h w' H))
theorem zfn {e:TypeId} {z:Value} {size bytes:Nat} (hg:o.guard=none) (t:TypeId) (x:Operand) (ho:o.op=.buildSlice t 1 #[(0,x)])
  (hu:P.underlying t=some (.slice e)) (el:El P e z size bytes) (hsm:size<=1000) (VB:Array Value) (hx:a.eval x=.agg VB) (hV:VB.size=size)
  (h:wpListIn (Fence.wide.inRound l₀) n P ops Q rest (a.put o.dst (.slice (some ⟨w.heap.size,0,none⟩) 1 1)) (w.alloc (.cells VB e))):wpListIn (Fence.wide.inRound l₀) n P ops Q (o::rest) a w:=
 zbs hg (fun c hc=>by rw [ho] at hc;cases hc) fun _ hK=>zhw t x ho hu el hsm VB hx hV (hK _ _ h)
theorem zfX {α:Type} {f:α -> List Value} {base:Nat} {e:TypeId} {z:Value} {size bytes:Nat} {v:Value} {xs:List α} (hg:o.guard=none) (s x:Operand) (t:TypeId)
  (ho:o.op=.call { callee:=.builtin .append,args:=#[s,x],argTypes:=#[t,t] }) (ht:P.underlying t=some (.slice e)) (el:El P e z size bytes)
  (hs:a.eval s=v) (hown:Own w base e size f v xs) (ad:Addr) (m c:Nat) (hx:a.eval x=.slice (some ad) m c) (ys:List α) (hm:ys.length=m) (hrow:zaJ w (some ad) (ys.flatMap f))
  (hf:∀ y,(f y).length=size) (h1:∀ y ∈ ys,∀ u ∈ f y,u.oneCell'=true) (hlen:xs.length+ys.length<=137438953472) (hbase:base<=w.heap.size)
  (hK:∀ v' w',Hid (Own w' base e size f v' (xs++ys)/\Mod (fun k=>v.ownBlock=some k) w w'/\(v'.ownBlock=v.ownBlock \/ v'.ownBlock=some w.heap.size)) -> wpListIn (Fence.wide.inRound l₀) n P ops Q rest (a.put o.dst v') w'):
  wpListIn (Fence.wide.inRound l₀) n P ops Q (o::rest) a w:=
 zbs hg (fun c hc=>by rw [ho] at hc;cases hc) fun _ hK'=>zjv s x t ho ht el hs hown ad m c hx ys hm hrow hf h1 hlen hbase (fun v' w' H=>hK' _ _ (hK v' w' H))
theorem zmu {K:Act -> World -> Prop} (ty:TypeId) (x:Operand) (ho:o.op=.load ty x) (b:Nat) (cs:Array Value) (t:TypeId) (fr:Nat × Nat) (d:TypeDesc) (hx:a.eval x=.pointer (some ⟨b,0,none⟩))
  (hold:w.heap[b]?=some (.cells cs t fr)) (hu:P.underlying ty=some d) (hd:d.isRow=true) (hi:(P.info? ty).map (·.size)=some cs.size)
  (h:K (a.put o.dst (.agg cs)) w):o.wp P a w K Q:=by
 obtain ⟨cs⟩:=cs;exact wp_load_mid ty x ho b 0 hx cs d (zbQ (pre:=[]) (post:=[]) (by simpa using hold)) hu hd (by simpa using hi) h
theorem zfP (hg:o.guard=none) (ty:TypeId) (x:Operand) (ho:o.op=.load ty x) (b:Nat) (cs:Array Value) (t:TypeId) (fr:Nat × Nat) (d:TypeDesc) (hx:a.eval x=.pointer (some ⟨b,0,none⟩))
  (hold:w.heap[b]?=some (.cells cs t fr)) (hu:P.underlying ty=some d) (hd:d.isRow=true) (hi:(P.info? ty).map (·.size)=some cs.size)
  (h:wpListIn (Fence.wide.inRound l₀) n P ops Q rest (a.put o.dst (.agg cs)) w):wpListIn (Fence.wide.inRound l₀) n P ops Q (o::rest) a w:=
 zbs hg (fun c hc=>by rw [ho] at hc;cases hc) fun _ hK=>zmu ty x ho b cs t fr d hx hold hu hd hi (hK _ _ h)
end
end Cdk
namespace Scr
theorem zeb:∀ {L:List Bs} {k:Nat} {acc l:List Ac},zbe k acc L=.ok l -> acc.length<=100 -> ∃ m,l=acc++m/\l.length<=100/\(∀ a ∈ m,vAc a=true)/\m.map line=L.filter (fun t=>!skip t)
 | [],k,acc,l,h,ha=>by
  simp only [zbe] at h;injection h with h
  subst h;exact ⟨[],by simp,ha,by simp,rfl⟩
 | t::L,k,acc,l,h,ha=>by
  simp only [zbe] at h
  by_cases hs:skip t=true
  ·rw [if_pos hs] at h
   obtain ⟨m,h1,h2,h3,h4⟩:=zeb h ha;exact ⟨m,h1,h2,h3,by rw [h4,List.filter_cons,if_neg (by simp [hs])]⟩
  ·rw [if_neg hs] at h
   split at h
   ·cases h
   ·rename_i hl
    split at h
    ·cases h
    ·rename_i a ho
     obtain ⟨m,h1,h2,h3,h4⟩:=zeb h (by simp;omega);obtain ⟨hv,he⟩:=zcG ho;refine ⟨a::m,by rw [h1];simp,h2,fun b hb=>?_,?_⟩
     ·rcases List.mem_cons.1 hb with rfl | hb
      ·exact hv
      ·exact h3 b hb
     ·rw [List.map_cons,h4,List.filter_cons,if_pos (by simp [hs]),he]
theorem zct:∀ (L:List Bs) (k:Nat) (acc:List Ac) (M:List Bs),zbe k acc (L++M)=match zbe k acc L with | .error n=>.error n | .ok l=>zbe (k+L.length) l M
 | [],k,acc,M=>by simp [zbe]
 | t::L,k,acc,M=>by
  simp only [List.cons_append,zbe,List.length_cons];rw [show k+(L.length+1)=k+1+L.length by omega];split
  ·exact zct L (k+1) acc M
  ·split
   ·rfl
   ·cases zbd t with
    | none=>rfl
    | some a=>exact zct L (k+1) (acc++[a]) M
end Scr
namespace Go.Proofs.YtjjfphalcibjfaaGreatDoor
open Go.Shelf Go.RowKit Cdk Scr
attribute [local go_sem] Oper.semAt_some
theorem zb9 {P:Program} {t:TypeId} {d:TypeDesc} {w:World} {a:Addr} {v:Value} (hu:P.underlying t=some d) (hd:(match d with | .struct _ | .array _ _=>true | _=>false)=false) (hc:w.cell? a=some v):(loadVar t a).run P w=.ok v w:=by
 have:(isAgg t).run P w=.ok false w:=by
  simp only [isAgg,Sem.run_bind,run_underlying hu,Result.andThen_ok];cases d <;> simp_all
 simp only [loadVar,Sem.run_bind,this,Result.andThen_ok];simp [load,Sem.run,hc]
theorem zej {P:Program} {fn:Func} {p q u:Tmp} {tp tq tu:TypeId} {dp dq du:TypeDesc} (h:fn.results=#[.cell p tp,.cell q tq,.cell u tu]) (tmps:Array Value) (w:World) (a b c:Addr) (va vb vc:Value)
  (hp:tmps.getD p undef=.pointer (some a)) (hq:tmps.getD q undef=.pointer (some b)) (hr:tmps.getD u undef=.pointer (some c))
  (up:P.underlying tp=some dp) (uq:P.underlying tq=some dq) (uu:P.underlying tu=some du)
  (kp:(match dp with | .struct _ | .array _ _=>true | _=>false)=false) (kq:(match dq with | .struct _ | .array _ _=>true | _=>false)=false) (ku:(match du with | .struct _ | .array _ _=>true | _=>false)=false)
  (ha:w.cell? a=some va) (hb:w.cell? b=some vb) (hc:w.cell? c=some vc):
  (results fn tmps).run P w=.ok (.tuple #[va,vb,vc]) w:=by
 have hp':tmps[p]?.getD undef=.pointer (some a):=by simpa using hp
 have hq':tmps[q]?.getD undef=.pointer (some b):=by simpa using hq
 have hr':tmps[u]?.getD undef=.pointer (some c):=by simpa using hr
 simp [results,h,asAddr,hp',hq',hr',zb9 up kp ha,zb9 uq kq hb,zb9 uu ku hc,Result.andThen]
theorem zbO {α:Type} {F:Nat -> Prop} {W W':World} {row:Option Nat} (hg:W.grownBy W' row) (hrow:∀ r,row=some r -> ∃ o:Obj,W.heap[r]?=some o/\o.isCells=false) {f:α -> List Value} {v:Value} {l:List α} (h:zac F W f v l):zac F W' f v l:=by
 obtain ⟨ao,cap,rfl,hr,hb,hc⟩:=h;refine ⟨ao,cap,rfl,fun j u hu=>?_,hb,hc⟩;obtain ⟨b,off,e,hcell⟩:=hr j u hu;refine ⟨b,off,e,?_⟩;cases hh:W.heap[b]? with
 | none=>simp [World.cell?,hh] at hcell
 | some o=>
  have hlt:b < W.heap.size:=(Array.getElem?_eq_some_iff.1 hh).1;have hne:row ≠ some b:=fun e=>by
   obtain ⟨o',h1,h2⟩:=hrow b e;rw [hh] at h1;injection h1 with h1
   subst h1;cases o <;> simp [Obj.isCells] at h2 <;> simp [World.cell?,hh] at hcell
  have e2:=hg.block b hlt (fun e=>hne e.symm);unfold World.cell? at hcell ⊢;rw [e2];exact hcell
theorem zgk {F:Nat -> Prop} {W W':World} {row:Option Nat} (hg:W.grownBy W' row) (hrow:∀ r,row=some r -> ∃ o:Obj,W.heap[r]?=some o/\o.isCells=false) {s:AV} {a:Ac} (h:AcAt F W s a):AcAt F W' s a:=by
 refine ⟨⟨zbO hg hrow h.fc.tp,?_,zbO hg hrow h.fc.af⟩,zbO hg hrow h.fa,zbO hg hrow h.ke⟩;obtain ⟨r,e,h1,h2⟩:=h.fc.bl;exact ⟨r,e,zbO hg hrow h1,fun p hp=>zbO hg hrow (h2 p hp)⟩
structure PaI (w:World) (R X:Nat) (ao:Option Addr) (cap:Nat) (pre:List (Nat × Bs)) (W:World):Prop where
 ext:Ext w W
 size:X+3<=W.heap.size
 c0:W.heap[R]?=some (.cells #[.slice none 0 0] 37 (0,0))
 c1:W.heap[R+1]?=some (.cells #[.int .i64 0] 3 (0,0))
 c2:W.heap[R+1+1]?=some (.cells #[.int .i64 0] 39 (0,0))
 fk:W.heap[X]?=some (.cells #[.slice ao 18 cap] 60 (0,0))
 fm:zdo (fun k=>R+3<=k/\k < X) W (.slice ao 18 cap)
 lst:∃ (v:Value) (rows:List (AV × Ac)),W.heap[X+1]?=some (.cells #[v] 37 (0,0))/\Cdk.Own W (X+3) 32 36 acC v rows/\(∀ p ∈ rows,AcAt (fun k=>X+3<=k/\k < W.heap.size/\v.ownBlock ≠ some k) W p.1 p.2)/\zbe 1 [] (pre.map Prod.snd)=.ok (rows.map Prod.snd)
structure PaX (w:World) (R:Nat) (pre:List (Nat × Bs)) (W:World):Prop where
 ext:Ext w W
 c0:W.heap[R]?=some (.cells #[.slice none 0 0] 37 (0,0))
 c1:∃ p0 x,pre=p0++[x]/\W.heap[R+1]?=some (.cells #[.int .i64 (x:Nat × Bs).1] 3 (0,0))
 c2:W.heap[R+1+1]?=some (.cells #[.int .i64 280] 39 (0,0))
 bad:zbe 1 [] (pre.map Prod.snd)=.error pre.length
theorem PaI.mod {w:World} {R X:Nat} {ao:Option Addr} {cap:Nat} {pre:List (Nat × Bs)} {W W':World} (h:PaI w R X ao cap pre W) (hw:w.heap.size<=R) (hRX:R+3<=X) {S:Nat -> Prop} (hm:Mod S W W') (hS:∀ k,S k -> k=X+2):PaI w R X ao cap pre W':=by
 obtain ⟨v,rows,h1,h2,h3,h4⟩:=h.lst;have hsz:=hm.size;refine ⟨h.ext.then hm (fun k hk e=>by have:=hS k e;have:=h.ext.size;omega),by have:=h.size;omega,hm.at h.c0 (fun e=>by have:=hS _ e;omega),hm.at h.c1 (fun e=>by have:=hS _ e;omega),hm.at h.c2 (fun e=>by have:=hS _ e;omega),hm.at h.fk (fun e=>by have:=hS _ e;omega),h.fm.mod hm (fun k hk e=>by have:=hS _ e;omega),v,rows,hm.at h1 (fun e=>by have:=hS _ e;omega),h2.mod hm (fun k hk e=>by have:=hS _ e;have:=(h2.block k hk).1;omega),fun p hp=>?_,h4⟩;exact ((h3 p hp).mod hm (fun k hk e=>by have:=hS _ e;omega)).mono (fun k hk=>⟨hk.1,by omega,hk.2.2⟩)
theorem PaI.own (w:World) (R X:Nat) (ao:Option Addr) (cap:Nat) (hw:w.heap.size<=R) (hRX:R+3<=X) (B:Nat) (hB:X+3<=B):OwnFrom B (fun p W=>PaI w R X ao cap p W):=by
 intro p W W' row h hg hrow;have hr:=fun r e=>(hrow r e).2
 obtain ⟨v,rows,h1,h2,h3,h4⟩:=h.lst;have hmG:Mod (fun k=>row=some k) W W':=Mod.ofGrown hg (fun k hk=>hk);have hge:∀ k,row=some k -> B<=k:=fun k e=>(hrow k e).1
 refine ⟨zd0 h.ext hg (fun r e=>by have:=hge r e;omega),Nat.le_trans h.size hg.size,zaq hg hr h.c0,zaq hg hr h.c1,zaq hg hr h.c2,zaq hg hr h.fk,h.fm.mod hmG (fun k hk e=>by have:=hge k e;omega),v,rows,zaq hg hr h1,zcA hg hr h2,fun p hp=>?_,h4⟩;exact (zgk hg hr (h3 p hp)).mono (fun k hk=>⟨hk.1,by have:=hg.size;omega,hk.2.2⟩)
theorem PaX.own (w:World) (R:Nat) (B:Nat) (hB:w.heap.size<=B):OwnFrom B (fun p W=>PaX w R p W):=by
 intro p W W' row h hg hrow;have hr:=fun r e=>(hrow r e).2
 obtain ⟨p0,x,e1,e2⟩:=h.c1;exact ⟨zd0 h.ext hg (fun r e=>by have:=(hrow r e).1;omega),zaq hg hr h.c0,⟨p0,x,e1,zaq hg hr e2⟩,zaq hg hr h.c2,h.bad⟩
theorem zgj {L:List Bs} {acc:List Ac} (h:zbe 1 [] L=.ok acc) (t:Bs):zbe 1 [] (L++[t])=if skip t then .ok acc else if acc.length=100 then .error (L.length+1) else match zbd t with
  | none=>.error (L.length+1)
  | some a=>.ok (acc++[a]):=by
 rw [zct,h];simp only [zbe];rw [Nat.add_comm 1 L.length];split
 ·rfl
 ·split
  ·rfl
  ·cases zbd t <;> rfl
theorem zjJ:∀ (L:List Bs) (k:Nat) (p0:List (Nat × Bs)) (x:Nat × Bs) (q:List (Nat × Bs)),zin k L=p0++x::q -> x.1=k+p0.length
 | [],_,p0,x,q,h=>by cases p0 <;> cases h
 | t::r,k,[],x,q,h=>by
  simp only [zin,List.nil_append,List.cons.injEq] at h;rw [<- h.1];simp
 | t::r,k,y::p0,x,q,h=>by
  simp only [zin,List.cons_append,List.cons.injEq] at h;have:=zjJ r (k+1) p0 x q h.2;simp only [List.length_cons];omega
def PaE (w w':World) (e:Ending) (D:Except Nat (List Ac)):Prop:=match D with
 | .ok l=>∃ (ao:Option Addr) (cap:Nat),e=.returned (.tuple #[.slice ao l.length cap,.int .i64 0,.int .i64 0])/\zcg (fun k=>w.heap.size<=k/\k < w'.heap.size) w' (.slice ao l.length cap) l
 | .error n=>e=.returned (.tuple #[.slice none 0 0,.int .i64 n,.int .i64 280])
def PaP (w:World) (s:Bs) (e:Ending) (w':World):Prop:=Ext w w'/\PaE w w' e (parse s)
theorem zkQ {a1:Option Addr} {n1 c1:Nat} {a2:Option Addr} {n2 c2:Nat} {a3:Option Addr} {n3 c3:Nat} {a4:Option Addr} {n4 c4:Nat} {a5:Option Addr} {n5 c5:Nat} {a:Ac}:∀ u ∈ acC (⟨⟨.slice a1 n1 c1,.slice a2 n2 c2,.slice a3 n3 c3⟩,.slice a4 n4 c4,.slice a5 n5 c5⟩,a),u.oneCell'=true:=by
 intro u hu;have h:(acA a1 n1 c1 a2 n2 c2 a3 n3 c3 a4 n4 c4 a5 n5 c5 a).toList.all (·.oneCell')=true:=rfl;exact List.all_eq_true.1 h u hu
theorem elA:El Tryz.prog 32 (.agg zA) 36 424:=⟨by kernel_rfl,rfl,by decide,by decide⟩
attribute [local go_sem] Oper.semAt_some
theorem zdo.low {F F':Nat -> Prop} {w:World} {v:Value} (h:zdo F w v) (hF:∀ k,F k -> F' k):zdo F' w v:=by
 obtain ⟨rows,h1,h2,h3⟩:=h;exact ⟨rows,h1,zac.mono h2 hF,fun j hj=>(h3 j hj).low hF⟩
theorem parse_any (s:Bs) (hs:s.length<=1000000) (w:World) (hG:Gl w):
  Calls Tryz.prog 22 #[.string ⟨s.toArray⟩] w (PaP w s):=by
 obtain ⟨R,hR⟩:∃ R,R=w.heap.size:=⟨_,rfl⟩;have hx0:=(((Mod.refl (fun _=>False) w).alloc (.cells #[.slice none 0 0] 37)).alloc (.cells #[.int .i64 0] 3)).alloc (.cells #[.int .i64 0] 39);have hg0:∀ k,(((w.alloc (.cells #[.slice none 0 0] 37)).alloc (.cells #[.int .i64 0] 3)).alloc (.cells #[.int .i64 0] 39)).heap[k]?=if k=R+1+1 then some (.cells #[.int .i64 0] 39 (0,0)) else if k=R+1 then some (.cells #[.int .i64 0] 3 (0,0)) else if k=R then some (.cells #[.slice none 0 0] 37 (0,0)) else w.heap[k]?:=by
  intro k;simp only [zaG,World.size_alloc,<- hR]
 have hs0:(((w.alloc (.cells #[.slice none 0 0] 37)).alloc (.cells #[.int .i64 0] 3)).alloc (.cells #[.int .i64 0] 39)).heap.size=R+3:=by simp only [World.size_alloc,<- hR]
 have b0:=hg0 R;have b1:=hg0 (R+1);have b2:=hg0 (R+1+1);rw [if_neg (by omega),if_neg (by omega),if_pos rfl] at b0;rw [if_neg (by omega),if_pos rfl] at b1;rw [if_pos rfl] at b2;clear hg0;have hPa:Hid (∀ e w',PaP w s e w'=(Ext w w'/\PaE w w' e (parse s))):=Y (fun e w'=>rfl);obtain ⟨D,hD⟩:∃ D,D=parse s:=⟨_,rfl⟩;rw [<- hD] at hPa;replace hD:=Y hD;have hss:Hid ((⟨s.toArray⟩:ByteArray).size=s.length):=Y rfl;have hwR:w.heap.size<=R:=Nat.le_of_eq hR.symm;have hG0:=Y (hG.ext hx0);have hGw:=Y hG;have hR10:10<=R:=by have:=hG.size;omega
 replace hx0:=Y hx0;replace hs0:=Y hs0;replace b0:=Y b0;replace b1:=Y b1;replace b2:=Y b2;clear hG
 by_cases hbig:65536 < s.length
 ·have hbi:(65536:Int) < (s.length:Int):=by omega
  have hDe:=Y (show D=.error 0 by rw [hD.o];unfold parse;rw [if_pos hbig]);replace hbig:=Y hbig;go_enter Tryz.func22,Tryz.ntmps22;go_wp2_with fail
  try refine wp_scope_straight ?_
  go_upto_region 2 with fail
  try simp only [World.size_alloc]
  rw [<- hR];replace hR:=Y hR;generalize (((w.alloc (.cells #[.slice none 0 0] 37)).alloc (.cells #[.int .i64 0] 3)).alloc (.cells #[.int .i64 0] 39))=w0 at hx0 hs0 hG0 b0 b1 b2 ⊢;have z0:=zad b0.o;have z1:=zad b1.o;have z2:=zad b2.o;have d0:=zaa b0.o 0;have d1:=zaa b1.o 0;have d2:=zaa b2.o 0;simp at d0 d1 d2;have q0:=zdX (v:=.slice none 0 0) b0.o;have q1:=(zan _ (b:=R) 0 (.slice none 0 0) (by omega)).trans b1.o;have q2:=(zan _ (b:=R) 0 (.slice none 0 0) (by omega)).trans b2.o;have q1:=zdX (v:=.int .i64 0) q1;have q0:=(zan _ (b:=R+1) 0 (.int .i64 0) (by omega)).trans q0;have q2:=(zan _ (b:=R+1) 0 (.int .i64 0) (by omega)).trans q2;have q2:=zdX (v:=.int .i64 280) q2;have q0:=(zan _ (b:=R+1+1) 0 (.int .i64 280) (by omega)).trans q0;have q1:=(zan _ (b:=R+1+1) 0 (.int .i64 280) (by omega)).trans q1;have hm8:=(((Mod.refl (fun k=>R<=k) w0).setCell (a:=⟨R,0,none⟩) (fun _=>by show R<=R;omega) (.slice none 0 0)).setCell (a:=⟨R+1,0,none⟩) (fun _=>by show R<=R+1;omega) (.int .i64 0)).setCell (a:=⟨R+1+1,0,none⟩) (fun _=>by show R<=R+1+1;omega) (.int .i64 280);replace q0:=Y q0;replace q1:=Y q1;replace q2:=Y q2;replace hm8:=Y hm8;go_wp2_with fail
  try simp only [Exit.noGoto_normal]
  refine bodyPost_ret (zej rfl _ _ ⟨R,0,none⟩ ⟨R+1,0,none⟩ ⟨R+1+1,0,none⟩ (.slice none 0 0) (.int .i64 0) (.int .i64 280) rfl rfl rfl Tryz.underlying37 Tryz.underlying3 Tryz.underlying39 rfl rfl rfl (zaa q0.o 0) (zaa q1.o 0) (zaa q2.o 0)) rfl ?_;rw [hPa.o,hDe.o];exact ⟨zao (B:=R) hwR ((hx0.o.mono (T:=fun k=>R<=k) (fun _ h=>h.elim)).trans hm8.o),rfl⟩
 ·have hbi:¬ (65536:Int) < (s.length:Int):=by omega
  have hDe:=Y (show D=zbe 1 [] (parts 10 s) by rw [hD.o];unfold parse;rw [if_neg hbig]);replace hbig:=Y hbig;refine (callsIn_wide (n:=3)).1 ?_;refine callsIn_of_wp_marks Tryz.func22 rfl trivial ?_ rfl;simp only [Tryz.ntmps22,List.size_toArray,List.length_cons,List.length_nil,Nat.reduceAdd,Nat.reduceSub,Array.replicate_succ,Array.replicate_zero,List.push_toArray,List.append_toArray,List.nil_append,List.cons_append];refine (wpIn_wide (n:=3)).2 ?_;go_wp2_with fail
  refine wp_scope_straight ?_;try simp only [World.size_alloc]
  rw [<- hR];replace hR:=Y hR;generalize (((w.alloc (.cells #[.slice none 0 0] 37)).alloc (.cells #[.int .i64 0] 3)).alloc (.cells #[.int .i64 0] 39))=w0 at hx0 hs0 hG0 b0 b1 b2 ⊢;go_wp2_with fail
  refine (zh5 w0).mono ?_;rintro e w1 ⟨ao,cap,rfl,hF,hx1⟩;obtain ⟨X,hX⟩:∃ X,X=w1.heap.size:=⟨_,rfl⟩;have hRX:R+3<=X:=by have:=hx1.size;have:=hs0.o;omega
  have hx4:=(((Mod.refl (fun _=>False) w1).alloc (.cells #[.slice ao 18 cap] 60)).alloc (.cells #[.slice none 0 0] 37)).alloc (.cells #[.string ⟨s.toArray⟩] 9);have hg4:∀ k,(((w1.alloc (.cells #[.slice ao 18 cap] 60)).alloc (.cells #[.slice none 0 0] 37)).alloc (.cells #[.string ⟨s.toArray⟩] 9)).heap[k]?=if k=X+1+1 then some (.cells #[.string ⟨s.toArray⟩] 9 (0,0)) else if k=X+1 then some (.cells #[.slice none 0 0] 37 (0,0)) else if k=X then some (.cells #[.slice ao 18 cap] 60 (0,0)) else w1.heap[k]?:=by
   intro k;simp only [zaG,World.size_alloc,<- hX]
  have hs4:(((w1.alloc (.cells #[.slice ao 18 cap] 60)).alloc (.cells #[.slice none 0 0] 37)).alloc (.cells #[.string ⟨s.toArray⟩] 9)).heap.size=X+3:=by simp only [World.size_alloc,<- hX]
  have f0:=hg4 X;have f1:=hg4 (X+1);have f2:=hg4 (X+1+1);rw [if_neg (by omega),if_neg (by omega),if_pos rfl] at f0;rw [if_neg (by omega),if_pos rfl] at f1;rw [if_pos rfl] at f2;clear hg4;replace hF:=Y hF;replace hx1:=Y hx1;replace hx4:=Y hx4;replace hs4:=Y hs4;replace f0:=Y f0;replace f1:=Y f1;replace f2:=Y f2;go_wp2_with fail
  refine wp_label ?_;try simp only [Exit.then]
  go_wp2_with fail
  refine (lines_any s _).mono ?_;rintro e w3 ⟨rfl,rfl⟩;go_wp2_with fail
  try simp only [World.size_alloc]
  rw [<- hX];generalize (((w1.alloc (.cells #[.slice ao 18 cap] 60)).alloc (.cells #[.slice none 0 0] 37)).alloc (.cells #[.string ⟨s.toArray⟩] 9))=w4 at hx4 hs4 f0 f1 f2 ⊢;replace hX:=Y hX;have hG4:=Y ((hG0.o.ext hx1.o).ext hx4.o);have hx04:=hx1.o.trans hx4.o;have hI0:PaI w R X ao cap [] w4:=⟨zao (B:=R) hwR ((hx0.o.mono (T:=fun k=>R<=k) (fun _ h=>h.elim)).trans (hx04.mono (fun _ h=>h.elim))),by have:=hs4.o;omega,hx04.at b0.o id,hx04.at b1.o id,hx04.at b2.o id,f0.o,((hF.o.low (fun k hk=>⟨by have:=hk.1;have:=hs0.o;omega,by have:=hk.2;have:=hX.o;omega⟩)).ext hx4.o),.slice none 0 0,[],f1.o,Own.nil _ _ _ _ _,(fun p hp=>by cases hp),rfl⟩;have hs4':X+3=w4.heap.size:=hs4.o.symm;have hw0:w.heap.size<=X+3:=by omega
  have hseq:=zkX 2 (X+1+1) (by omega) s hs w4 hG4.o (by omega) (zaa f2.o 0);refine (wpIn_wide (n:=3)).1 ?_;refine zbX (F:=Fence.wide) rfl (by omega) (gf:=79) (lb:=#[.pointer (some ⟨X+1+1,0,none⟩)]) rfl trivial (enters_of Tryz.func79 (by kernel_rfl) rfl)
   hseq (fun k hk=>by omega) (by omega) (Below.refl _ _) (fun _=>rfl) (fun pre W=>PaI w R X ao cap pre W) (fun c pre W=>c=.ret/\PaX w R pre W)
   (PaI.own w R X ao cap hwR hRX _ (by omega)) (fun p A v hh=>hh.mod hwR hRX ((Mod.refl (fun k=>k=X+2) A).setCell (a:=⟨X+1+1,0,none⟩) (fun _=>rfl) v) (fun k hk=>hk)) (fun c p W W' row h hg hrow=>⟨h.1,PaX.own w R _ (by omega) p W W' row h.2 hg hrow⟩) hI0 ?aa ?assign ?body ?done ?stop
  case assign=>
   intro l x W K hK;unfold lnV
   gi_wp2
   exact hK
  case body=>
   rintro l pre ⟨k,t⟩ W hI hlen htl;simp only at htl;obtain ⟨v,rows,hl1,hO,hA,hpf⟩:=hI.lst;obtain ⟨av,cv,rfl,-,-⟩:=hO.row;obtain ⟨mm,hmm,hr100,-,-⟩:=zeb hpf (by simp);rw [List.length_map] at hr100;have hstep:=zgj hpf t;rw [List.length_map,List.length_map] at hstep;have hmapx:(pre++[(k,t)]).map Prod.snd=pre.map Prod.snd++[t]:=by simp
   have hlenx:(pre++[(k,t)]).length=pre.length+1:=by simp
   rw [<- hmapx] at hstep;obtain ⟨S,hS⟩:∃ S:ByteArray,S=⟨t.toArray⟩:=⟨_,rfl⟩;have hSe:S.toList.isEmpty=t.isEmpty:=by rw [hS];simp
   have hI2:=Y hI;have hl1z:=zaa hl1 0;have hfkz:=zaa hI.fk 0;simp at hl1z hfkz;have hszI:=hI.size;clear hmm;replace hl1:=Y hl1;replace hO:=Y hO;replace hA:=Y hA;replace hpf:=Y hpf;replace hI:=Y hI;replace hmapx:=Y hmapx;replace hlenx:=Y hlenx;simp only [<- hS];cases hb:t.isEmpty with
   | true=>
    rw [hb] at hSe;have hsk:skip t=true:=by
     have:t=[]:=by simpa using hb
     subst this;rfl
    rw [if_pos hsk] at hstep;replace hstep:=Y hstep;replace hS:=Y hS;replace hsk:=Y hsk;replace hb:=Y hb
    gi_wp2
    exact ⟨KeepsOthers.refl W,fun _ _=>rfl,hI2.o.ext,hI2.o.size,hI2.o.c0,hI2.o.c1,hI2.o.c2,hI2.o.fk,hI2.o.fm,_,rows,hl1.o,hO.o,hA.o,hstep.o⟩
   | false=>
    obtain ⟨c,rt,rfl⟩:∃ c rt,t=c::rt:=by
     cases t with
     | nil=>cases hb
     | cons c rt=>exact ⟨c,rt,rfl⟩
    rw [hb] at hSe;have hSz:0 < S.size:=by rw [hS];show 0 < (c::rt).toArray.size;simp
    have hS0:S[0]=c:=by subst hS;rfl
    have hSzi:(0:Int) < (S.size:Int):=by omega
    have hc256:=c.toNat_lt
    by_cases h35:c.toNat=35
    ·have b1:((S[0].toNat:Int)==35)=true:=by rw [hS0,beq_iff_eq];omega
     have b1i:S[0].toNat=35:=by rw [hS0];exact h35
     have hsk:skip (c::rt)=true:=decide_eq_true h35;rw [if_pos hsk] at hstep;replace hstep:=Y hstep;replace hS:=Y hS;replace hS0:=Y hS0;replace hsk:=Y hsk;replace hb:=Y hb;replace h35:=Y h35
     gi_wp2
     exact ⟨KeepsOthers.refl W,fun _ _=>rfl,hI2.o.ext,hI2.o.size,hI2.o.c0,hI2.o.c1,hI2.o.c2,hI2.o.fk,hI2.o.fm,_,rows,hl1.o,hO.o,hA.o,hstep.o⟩
    ·have b1:((S[0].toNat:Int)==35)=false:=by rw [hS0,beq_eq_false_iff_ne];omega
     have b1i:¬ S[0].toNat=35:=by rw [hS0];exact h35
     have hsk:skip (c::rt)=false:=decide_eq_false h35;rw [if_neg (by rw [hsk];decide)] at hstep;replace hS0:=Y hS0;replace hsk:=Y hsk;replace hb:=Y hb;replace h35:=Y h35;clear hc256;generalize c::rt=t at*
     by_cases h100:rows.length=100
     ·rw [if_pos h100] at hstep
      have hbad:=Y (hstep.trans (congrArg Except.error hlenx.o.symm));have b2:((rows.length:Int)==100)=true:=by rw [beq_iff_eq];omega
      have b2i:(rows.length:Int)=100:=by omega
      have hc0:=Y hI2.o.c0;have hc1:=Y hI2.o.c1;have hc2:=Y hI2.o.c2;have hext:=Y hI2.o.ext;have hkw:=Y (KeepsOthers.refl W);replace hstep:=Y hstep;replace hS:=Y hS;replace h100:=Y h100;have z0:=zad hc0.o;have z1:=zad hc1.o;have z2:=zad hc2.o;have d0:=zaa hc0.o 0;have d1:=zaa hc1.o 0;have d2:=zaa hc2.o 0;simp at d0 d1 d2;have q0:=zdX (v:=.slice none 0 0) hc0.o;have q1:=(zan _ (b:=R) 0 (.slice none 0 0) (by omega)).trans hc1.o;have q2:=(zan _ (b:=R) 0 (.slice none 0 0) (by omega)).trans hc2.o;have q1:=zdX (v:=.int .i64 k) q1;have q0:=(zan _ (b:=R+1) 0 (.int .i64 k) (by omega)).trans q0;have q2:=(zan _ (b:=R+1) 0 (.int .i64 k) (by omega)).trans q2;have q2:=zdX (v:=.int .i64 280) q2;have q0:=(zan _ (b:=R+1+1) 0 (.int .i64 280) (by omega)).trans q0;have q1:=(zan _ (b:=R+1+1) 0 (.int .i64 280) (by omega)).trans q1;have hm8:=(((Mod.refl (fun k=>R<=k) W).setCell (a:=⟨R,0,none⟩) (fun _=>by show R<=R;omega) (.slice none 0 0)).setCell (a:=⟨R+1,0,none⟩) (fun _=>by show R<=R+1;omega) (.int .i64 k)).setCell (a:=⟨R+1+1,0,none⟩) (fun _=>by show R<=R+1+1;omega) (.int .i64 280);have hk8:KeepsOthers W (((W.setCell ⟨R,0,none⟩ (.slice none 0 0)).setCell ⟨R+1,0,none⟩ (.int .i64 k)).setCell ⟨R+1+1,0,none⟩ (.int .i64 280)):=(((KeepsOthers.refl W).trans (KeepsOthers.setCell _ _ _)).trans (KeepsOthers.setCell _ _ _)).trans (KeepsOthers.setCell _ _ _);replace q0:=Y q0;replace q1:=Y q1;replace q2:=Y q2;replace hm8:=Y hm8;replace hk8:=Y hk8
      gi_wp2
      refine ⟨hkw.o.trans hk8.o,rfl,zao (B:=R) hwR ((hext.o.mono (T:=fun k=>R<=k) (fun _ h=>h.elim)).trans hm8.o),q0.o,⟨pre,(k,t),rfl,q1.o⟩,q2.o,hbad.o⟩
     ·rw [if_neg h100] at hstep
      have b2:((rows.length:Int)==100)=false:=by rw [beq_eq_false_iff_ne];omega
      have b2i:¬ (rows.length:Int)=100:=by omega
      have hGW:=hG4.o.mod (S:=fun _=>False) (w':=w4) (Mod.refl _ w4) (fun _ h=>h.elim);have hpl:=fun hGG=>zgB (F:=fun k=>R+3<=k/\k < X) (.slice ao 18 cap) t W hGG hI2.o.fm (fun k hk=>by omega) htl
      rw [<- hS] at hpl;replace hpl:=Y hpl;replace hstep:=Y hstep;replace hS:=Y hS
      gi_wp2
      refine ⟨trivial,callsIn_wide.2 ?_⟩;refine (hpl.o (hGw.o.ext hI2.o.ext)).mono ?_;rintro e W2 ⟨hx2,hPl⟩;have hst:=hstep.o;unfold PlE at hPl;replace hx2:=Y hx2;clear hpl hGW hstep;cases hL:zbd t with
      | none=>
       rw [hL] at hPl hst;simp only at hPl hst;subst hPl;have hbad:=Y (hst.trans (congrArg Except.error hlenx.o.symm));obtain ⟨V,hVd⟩:∃ V:Array Value,V=zA9:=⟨_,rfl⟩;have hVs:Hid (V.size=36):=Y (by rw [hVd];rfl);have hV1:Hid (V.toList.all (·.oneCell')=true):=Y (by rw [hVd];rfl);replace hVd:=Y hVd;replace hst:=Y hst;replace hL:=Y hL
       gi_wp2_with (refine zda rfl 32 _ _ rfl W2.heap.size _ V 32 rfl (by first | rfl | (rw [hVd.o];rfl)) (heap_alloc_new W2 _) (by rw [hVs.o];rfl) (by rw [hVs.o];kernel_rfl) hV1.o (fun WS HS=>Hid.o ?_))
       obtain ⟨zs,hzs⟩:∃ zs,Hid (Mod (Eq W2.heap.size) (W2.alloc (.cells zs 32)) WS):=⟨_,Y HS.o.2⟩;have hxT:Ext W2 WS:=(((Mod.alloc (Mod.refl (fun _=>False) W2) (.cells zs 32)).mono (T:=fun k=>W2.heap.size<=k) (fun _ h=>h.elim)).then hzs.o (fun k _ e=>by omega)).mono' (fun k h1 h2=>by omega);have hQc:=HS.o.1;obtain ⟨Q,hQe⟩:∃ Q,Q=W2.heap.size:=⟨_,rfl⟩;rw [<- hQe] at hQc ⊢;have hxWS:=hx2.o.trans hxT;have hkw:=Y (zbN hxWS (fun k o _ _ h=>h));have hQS:Q < WS.heap.size:=zas hQc;have hW2:W.heap.size<=Q:=by have:=hx2.o.size;omega
       replace hQe:=Y hQe;replace hQc:=Y hQc;have hc0:=Y (hxWS.at hI2.o.c0 id);have hc1:=Y (hxWS.at hI2.o.c1 id);have hc2:=Y (hxWS.at hI2.o.c2 id);have hext:=Y (hI2.o.ext.trans hxWS);have hkp:=Y (fun (k:Nat) (h:k < 10)=>hxWS.block k (by have:=hI2.o.size;omega) id);clear hzs hxT HS hxWS;refine Y ?_;have z0:=zad hc0.o;have z1:=zad hc1.o;have z2:=zad hc2.o;have d0:=zaa hc0.o 0;have d1:=zaa hc1.o 0;have d2:=zaa hc2.o 0;simp at d0 d1 d2;have q0:=zdX (v:=.slice none 0 0) hc0.o;have q1:=(zan _ (b:=R) 0 (.slice none 0 0) (by omega)).trans hc1.o;have q2:=(zan _ (b:=R) 0 (.slice none 0 0) (by omega)).trans hc2.o;have q1:=zdX (v:=.int .i64 k) q1;have q0:=(zan _ (b:=R+1) 0 (.int .i64 k) (by omega)).trans q0;have q2:=(zan _ (b:=R+1) 0 (.int .i64 k) (by omega)).trans q2;have q2:=zdX (v:=.int .i64 280) q2;have q0:=(zan _ (b:=R+1+1) 0 (.int .i64 280) (by omega)).trans q0;have q1:=(zan _ (b:=R+1+1) 0 (.int .i64 280) (by omega)).trans q1;have hm8:=(((Mod.refl (fun k=>R<=k) WS).setCell (a:=⟨R,0,none⟩) (fun _=>by show R<=R;omega) (.slice none 0 0)).setCell (a:=⟨R+1,0,none⟩) (fun _=>by show R<=R+1;omega) (.int .i64 k)).setCell (a:=⟨R+1+1,0,none⟩) (fun _=>by show R<=R+1+1;omega) (.int .i64 280);have hk8:KeepsOthers WS (((WS.setCell ⟨R,0,none⟩ (.slice none 0 0)).setCell ⟨R+1,0,none⟩ (.int .i64 k)).setCell ⟨R+1+1,0,none⟩ (.int .i64 280)):=(((KeepsOthers.refl WS).trans (KeepsOthers.setCell _ _ _)).trans (KeepsOthers.setCell _ _ _)).trans (KeepsOthers.setCell _ _ _);replace q0:=Y q0;replace q1:=Y q1;replace q2:=Y q2;replace hm8:=Y hm8;replace hk8:=Y hk8
       gi_wp2
       refine ⟨hkw.o.trans hk8.o,rfl,zao (B:=R) hwR ((hext.o.mono (T:=fun k=>R<=k) (fun _ h=>h.elim)).trans hm8.o),q0.o,⟨pre,(k,t),rfl,q1.o⟩,q2.o,hbad.o⟩
      | some a=>
       rw [hL] at hPl hst;simp only at hPl hst;obtain ⟨a1,n1,c1,a2,n2,c2,a3,n3,c3,a4,n4,c4,a5,n5,c5,rfl,hAa⟩:=hPl;obtain ⟨sv,hsv⟩:∃ sv:AV,sv=⟨⟨.slice a1 n1 c1,.slice a2 n2 c2,.slice a3 n3 c3⟩,.slice a4 n4 c4,.slice a5 n5 c5⟩:=⟨_,rfl⟩;rw [<- hsv] at hAa;obtain ⟨V,hV⟩:∃ V,V=acA a1 n1 c1 a2 n2 c2 a3 n3 c3 a4 n4 c4 a5 n5 c5 a:=⟨_,rfl⟩;rw [<- hV];have hVs:Hid (V.size=36):=Y (by rw [hV];rfl);have hV1:Hid (V.toList.all (·.oneCell')=true):=Y (by rw [hV];rfl);have hVc:Hid ([(sv,a)].flatMap acC=V.toList):=Y (by rw [hV,hsv];rfl);have h1c:Hid (∀ y ∈ [(sv,a)],∀ u ∈ acC y,u.oneCell'=true):=Y (fun y hy u hu=>by simp only [List.mem_singleton] at hy;subst hy;rw [hsv] at hu;exact zkQ u hu);have hVd:=Y (rfl:V=V);replace hV:=Y hV;replace hsv:=Y hsv;replace hAa:=Y hAa;replace hst:=Y hst;replace hL:=Y hL
       gi_wp2_with (refine zda rfl 32 _ _ rfl W2.heap.size _ V 32 rfl (by first | rfl | (rw [hVd.o];rfl)) (heap_alloc_new W2 _) (by rw [hVs.o];rfl) (by rw [hVs.o];kernel_rfl) hV1.o (fun WS HS=>Hid.o ?_))
       obtain ⟨zs,hzs⟩:∃ zs,Hid (Mod (Eq W2.heap.size) (W2.alloc (.cells zs 32)) WS):=⟨_,Y HS.o.2⟩;have hxT:Ext W2 WS:=(((Mod.alloc (Mod.refl (fun _=>False) W2) (.cells zs 32)).mono (T:=fun k=>W2.heap.size<=k) (fun _ h=>h.elim)).then hzs.o (fun k _ e=>by omega)).mono' (fun k h1 h2=>by omega);have hQc:=HS.o.1;obtain ⟨Q,hQe⟩:∃ Q,Q=W2.heap.size:=⟨_,rfl⟩;rw [<- hQe] at hQc ⊢;have hxWS:=hx2.o.trans hxT;have hkw:=Y (zbN hxWS (fun k o _ _ h=>h));have hQS:Q < WS.heap.size:=zas hQc;have hW2:W.heap.size<=Q:=by have:=hx2.o.size;omega
       replace hQe:=Y hQe;replace hQc:=Y hQc;have hxA:=Mod.alloc (Mod.refl (fun _=>False) WS) (.cells V 32);have hxWA:=hxWS.trans hxA;have hO2:=Y (hO.o.ext hxWA);have hrowA:Hid (zaJ (WS.alloc (.cells V 32)) (some ⟨WS.heap.size,0,none⟩) ([(sv,a)].flatMap acC)):=Y (by rw [hVc.o];have:=zaJ.new WS V.toList 32;rwa [show V.toList.toArray=V from by simp] at this);have lz:=cS (hxWS.at hl1.o id) 0;have hsWA:X+3<=(WS.alloc (.cells V 32)).heap.size:=by rw [World.size_alloc];have:=hI2.o.size;omega
       have hrl:Hid (rows.length+[(sv,a)].length<=137438953472):=Y (by simp only [List.length_singleton];omega);have hxT2:=Y (hxT.trans hxA);replace hxWA:=Y hxWA;replace hxWS:=Y hxWS;clear hzs hxT HS hxA;refine Y ?_
       gi_wp2_with (first | (refine zfP rfl 32 _ rfl Q V _ _ _ rfl hQc.o Tryz.underlying32 rfl (by rw [hVs.o];kernel_rfl) ?_) | (refine zfn rfl _ _ rfl Tryz.underlying37 elA (by decide) V rfl hVs.o ?_) | (gi_at_builtin;refine zfX rfl _ _ _ rfl Tryz.underlying37 elA rfl hO2.o _ 1 1 rfl [(sv,a)] rfl hrowA.o zi3 h1c.o hrl.o hsWA (fun v6 w6 H6=>Hid.o ?_)))
       obtain ⟨hO6,hm6,hat⟩:=H6.o;obtain ⟨av6,cv6,rfl,-,-⟩:=hO6.row;obtain ⟨n6,hn6⟩:∃ n6,n6=(rows++[(sv,a)]).length:=⟨_,rfl⟩;rw [<- hn6] at hO6 hat ⊢;replace hn6:=Y hn6;have hmW:Mod (fun k=>(Value.slice av rows.length cv).ownBlock=some k) W w6:=(hxWA.o.mono (fun _ h=>h.elim)).trans hm6;have hob:∀ k,(Value.slice av rows.length cv).ownBlock=some k -> X+3<=k/\k < W.heap.size:=fun k e=>hO.o.block k e
       have hl6:=hmW.at hl1.o (fun e=>by have:=(hob _ e).1;omega);have lz6:=zaa hl6 0;simp at lz6;have zz6:=zad hl6;have hl9:=Y (zdX (v:=.slice av6 n6 cv6) hl6);have m9:Mod (fun k=>(Value.slice av rows.length cv).ownBlock=some k \/ k=X+1) W (w6.setCell ⟨X+1,0,none⟩ (.slice av6 n6 cv6)):=(hmW.mono (fun _ h=>.inl h)).setCell (a:=⟨X+1,0,none⟩) (fun _=>.inr rfl) (.slice av6 n6 cv6)
       have k9:KeepsOthers W (w6.setCell ⟨X+1,0,none⟩ (.slice av6 n6 cv6)):=(zbN hmW (fun k o hk ho e=>by
        obtain ⟨c,hc⟩:=hO.o.cells e
        rw [hk] at hc;cases hc;cases ho)).trans (KeepsOthers.setCell _ _ _)
       have o9:=Y (hO6.mod ((Mod.refl (fun k=>k=X+1) w6).setCell (a:=⟨X+1,0,none⟩) (fun _=>rfl) (.slice av6 n6 cv6)) (fun k hk e=>by have:=(hO6.block k hk).1;omega));have hsW9:W2.heap.size<=(w6.setCell ⟨X+1,0,none⟩ (.slice av6 n6 cv6)).heap.size:=by
        have h1:=hm6.size;have h2:=hQe.o;rw [World.size_alloc] at h1;have h3:(w6.setCell ⟨X+1,0,none⟩ (.slice av6 n6 cv6)).heap.size=w6.heap.size:=by simp [World.setCell]
        omega
       have hat2:∀ k,k < WS.heap.size -> (Value.slice av rows.length cv).ownBlock ≠ some k -> (Value.slice av6 n6 cv6).ownBlock ≠ some k:=fun k hk hn e=>by
        rcases hat with h | h
        ·rw [h] at e;exact hn e
        ·rw [h,World.size_alloc] at e;injection e with e;omega
       have hA9:Hid (∀ p ∈ rows++[(sv,a)],AcAt (fun k=>X+3<=k/\k < (w6.setCell ⟨X+1,0,none⟩ (.slice av6 n6 cv6)).heap.size/\(Value.slice av6 n6 cv6).ownBlock ≠ some k) (w6.setCell ⟨X+1,0,none⟩ (.slice av6 n6 cv6)) p.1 p.2):=Y (fun p hp=>by
        have h2:=hQe.o;have h5:=hx2.o.size;rcases List.mem_append.1 hp with hp | hp
        ·refine ((hA.o p hp).mod m9 (fun k hk e=>?_)).mono (fun k hk=>⟨hk.1,by omega,hat2 k (by omega) hk.2.2⟩)
         rcases e with e | e
         ·exact hk.2.2 e
         ·omega
        ·simp only [List.mem_singleton] at hp
         subst hp;have h6:=hI2.o.size;have hnw:∀ k,W.heap.size<=k -> (Value.slice av rows.length cv).ownBlock ≠ some k:=fun k hk e=>by have:=(hob k e).2;omega
         have m29:Mod (fun k=>(Value.slice av rows.length cv).ownBlock=some k \/ k=X+1) W2 (w6.setCell ⟨X+1,0,none⟩ (.slice av6 n6 cv6)):=(((hxT2.o.mono (fun _ h=>h.elim)).trans hm6).mono (fun _ h=>.inl h)).setCell (a:=⟨X+1,0,none⟩) (fun _=>.inr rfl) (.slice av6 n6 cv6);refine (hAa.o.mod m29 (fun k hk e=>?_)).mono (fun k hk=>⟨by omega,by omega,hat2 k (by omega) (hnw k hk.1)⟩);rcases e with e | e
         ·exact hnw k hk.1 e
         ·omega)
       replace m9:=Y m9;replace k9:=Y k9;clear hO6 hm6 hat hmW hob H6 hat2;replace hl6:=Y hl6;refine Y ?_
       gi_wp2
       have hne:∀ k,k < X+3 -> k ≠ X+1 -> ¬ ((Value.slice av rows.length cv).ownBlock=some k \/ k=X+1):=fun k h1 h2 h=>by
        rcases h with h | h
        ·have:=(hO.o.block k h).1;omega
        ·exact h2 h
       have hsI:=hI2.o.size;refine ⟨k9.o,fun k hk=>m9.o.block k (by omega) (hne k (by omega) (by omega)),zao (B:=R) hwR ((hI2.o.ext.mono (T:=fun k=>R<=k) (fun _ h=>h.elim)).trans (m9.o.mono (fun k hk=>?_))),by have:=m9.o.size;omega,m9.o.at hI2.o.c0 (hne _ (by omega) (by omega)),m9.o.at hI2.o.c1 (hne _ (by omega) (by omega)),m9.o.at hI2.o.c2 (hne _ (by omega) (by omega)),m9.o.at hI2.o.fk (hne _ (by omega) (by omega)),hI2.o.fm.mod m9.o (fun k hk=>hne k (by omega) (by omega)),_,_,hl9.o,o9.o,hA9.o,by rw [hst.o,List.map_append];rfl⟩;rcases hk with hk | hk
       ·have:=(hO.o.block k hk).1;omega
       ·omega
  case done=>
   rintro Dk xs W hDk hxs hI hK;obtain ⟨v,rows,hl1,hO,hA,hpf⟩:=hI.lst;obtain ⟨av,cv,rfl,-,-⟩:=hO.row;obtain ⟨mm,hmm,hr100,-,-⟩:=zeb hpf (by simp);rw [List.length_map] at hr100;rw [hxs,zgZ] at hpf;have hDo:=Y (hDe.o.trans hpf);have hl1z:=zaa hl1 0;simp at hl1z;have z0:=zad hI.c0;have z1:=zad hI.c1;have z2:=zad hI.c2;have d0:=zaa hI.c0 0;have d1:=zaa hI.c1 0;have d2:=zaa hI.c2 0;simp at d0 d1 d2;have q0:=zdX (v:=.slice av rows.length cv) hI.c0;have q1:=(zan _ (b:=R) 0 (.slice av rows.length cv) (by omega)).trans hI.c1;have q2:=(zan _ (b:=R) 0 (.slice av rows.length cv) (by omega)).trans hI.c2;have q1:=zdX (v:=.int .i64 0) q1;have q0:=(zan _ (b:=R+1) 0 (.int .i64 0) (by omega)).trans q0;have q2:=(zan _ (b:=R+1) 0 (.int .i64 0) (by omega)).trans q2;have q2:=zdX (v:=.int .i64 0) q2;have q0:=(zan _ (b:=R+1+1) 0 (.int .i64 0) (by omega)).trans q0;have q1:=(zan _ (b:=R+1+1) 0 (.int .i64 0) (by omega)).trans q1;have hm8:Mod (fun k=>k=R \/ k=R+1 \/ k=R+1+1) W (((W.setCell ⟨R,0,none⟩ (.slice av rows.length cv)).setCell ⟨R+1,0,none⟩ (.int .i64 0)).setCell ⟨R+1+1,0,none⟩ (.int .i64 0)):=(((Mod.refl _ W).setCell (a:=⟨R,0,none⟩) (fun _=>.inl rfl) (.slice av rows.length cv)).setCell (a:=⟨R+1,0,none⟩) (fun _=>.inr (.inl rfl)) (.int .i64 0)).setCell (a:=⟨R+1+1,0,none⟩) (fun _=>.inr (.inr rfl)) (.int .i64 0);have hsI:=hI.size;have hext:=Y (hI.ext);replace hm8:=Y hm8;replace q0:=Y q0;replace q1:=Y q1;replace q2:=Y q2;replace hl1:=Y hl1;replace hO:=Y hO;replace hA:=Y hA;replace hI:=Y hI;replace hK:=Y hK;replace hxs:=Y hxs;replace hpf:=Y hpf;clear hmm;go_wp2_with fail
   generalize (((W.setCell ⟨R,0,none⟩ (.slice av rows.length cv)).setCell ⟨R+1,0,none⟩ (.int .i64 0)).setCell ⟨R+1+1,0,none⟩ (.int .i64 0))=W8 at hm8 q0 q1 q2 ⊢;have hK8:W8.heap[Dk]?=some (.deferred (some [])):=hm8.o.at hK.o (by omega);have hgD:W8.grownBy (W8.putObj Dk (.deferred none)) (some Dk):=grownBy_putObj' W8 Dk _;have hrD:∀ r,some Dk=some r -> ∃ o:Obj,W8.heap[r]?=some o/\o.isCells=false:=fun r e=>by cases e;exact ⟨_,hK8,rfl⟩
   have p0:=zaq hgD hrD q0.o;have p1:=zaq hgD hrD q1.o;have p2:=zaq hgD hrD q2.o;have hszD:(W8.putObj Dk (.deferred none)).heap.size=W8.heap.size:=by simp
   have hs8:=hm8.o.size;try simp only [Exit.noGoto_normal]
   refine ⟨by simp,.inl ⟨_,_,rfl,run_takeDeferred hK8,?_⟩⟩;refine ⟨_,zej rfl _ _ ⟨R,0,none⟩ ⟨R+1,0,none⟩ ⟨R+1+1,0,none⟩ (.slice av rows.length cv) (.int .i64 0) (.int .i64 0) rfl rfl rfl Tryz.underlying37 Tryz.underlying3 Tryz.underlying39 rfl rfl rfl (zaa p0 0) (zaa p1 0) (zaa p2 0),?_⟩;rw [hPa.o,hDo.o];refine ⟨zao (B:=R) hwR (((hext.o.mono (T:=fun k=>R<=k) (fun _ h=>h.elim)).trans (hm8.o.mono (fun k hk=>by omega))).trans (Mod.ofGrown hgD (fun k hk=>by injection hk with hk;omega))),av,cv,by rw [List.length_map],rows,rfl,?_,fun p hp=>?_⟩
   ·rw [List.length_map]
    exact zac.mono (zbV (zcA hgD hrD (hO.o.mod hm8.o (fun k hk e=>by have:=(hO.o.block k hk).1;omega))) (by omega)) (fun k hk=>⟨by omega,hk.2⟩)
   ·exact (zgk hgD hrD ((hA.o p hp).mod hm8.o (fun k hk e=>by omega))).mono (fun k hk=>⟨by omega,by omega⟩)
  case stop=>
   rintro Dk cc pre W hDk hpre ⟨rfl,hX2⟩ hK;obtain ⟨p0,x,rfl,hc1⟩:=hX2.c1;have hgD:W.grownBy (W.putObj Dk (.deferred none)) (some Dk):=grownBy_putObj' W Dk _;have hrD:∀ r,some Dk=some r -> ∃ o:Obj,W.heap[r]?=some o/\o.isCells=false:=fun r e=>by cases e;exact ⟨_,hK,rfl⟩
   have q0:=zaq hgD hrD hX2.c0;have q1:=zaq hgD hrD hc1;have q2:=zaq hgD hrD hX2.c2;obtain ⟨qq,hqq⟩:=hpre;have hx1':x.1=1+p0.length:=zjJ (parts 10 s) 1 p0 x qq (by rw [<- hqq];simp);have hDn:D=.error (p0.length+1):=by
    rw [hDe.o,<- zgZ 1 (parts 10 s),<- hqq,List.map_append,zct,hX2.bad];simp
   have hext:=Y hX2.ext;have hKh:=Y hK;replace q0:=Y q0;replace q1:=Y q1;replace q2:=Y q2;replace hDn:=Y hDn;replace hx1':=Y hx1';replace hX2:=Y hX2;replace hgD:=Y hgD;clear hK hrD hc1 hqq;refine (wpIn_wide (n:=3)).2 ?_;go_wp2_with fail
   try simp only [Exit.noGoto_normal]
   refine ⟨by simp,.inl ⟨_,_,rfl,run_takeDeferred hKh.o,?_⟩⟩;refine ⟨_,zej rfl _ _ ⟨R,0,none⟩ ⟨R+1,0,none⟩ ⟨R+1+1,0,none⟩ (.slice none 0 0) (.int .i64 x.1) (.int .i64 280) rfl rfl rfl Tryz.underlying37 Tryz.underlying3 Tryz.underlying39 rfl rfl rfl (zaa q0.o 0) (zaa q1.o 0) (zaa q2.o 0),?_⟩;rw [hPa.o,hDn.o];exact ⟨zao (B:=R) hwR ((hext.o.mono (T:=fun k=>R<=k) (fun _ h=>h.elim)).trans (Mod.ofGrown hgD.o (fun k hk=>by injection hk with hk;omega))),by rw [hx1'.o,Nat.add_comm];rfl⟩
end Go.Proofs.YtjjfphalcibjfaaGreatDoor
