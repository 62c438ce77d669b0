import Derived.Test.YtjjfphalcibjfaaGreatDoorA0
import Derived.Test.YtjjfphalcibjfaaGreatDoorD21
import Derived.Test.YtjjfphalcibjfaaGreatDoorRegIn
import Derived.Test.YtjjfphalcibjfaaGreatDoorWhole
import Derived.Test.YtjjfphalcibjfaaGreatDoorD5
import Derived.Test.YtjjfphalcibjfaaGreatDoorMaps
set_option maxRecDepth 100000
set_option maxHeartbeats 16000000
namespace Cdk
open Go Go.RowKit
theorem zlw {α:Type} {P:Program} {f:α -> List Value} {base:Nat} {e:TypeId} {z:Value} {size bytes:Nat} {w:World} {v:Value} {xs:List α} {o:Oper} {a:Act} {K:Act -> World -> Prop} {Q:Exit -> Act -> World -> Prop} (s x:Operand) (t:TypeId)
  (ho:o.op=.call { callee:=.builtin .append,args:=#[s,x],argTypes:=#[t,t] }) (ht:P.underlying t=some (.slice e)) (el:El P e z size bytes)
  (hs:a.eval s=v) (hown:Own w base e size f v xs) (ad:Addr) (m c:Nat) (hx:a.eval x=.slice (some ad) m c) (ys:List α) (hm:ys.length=m) (hrow:zaR w (some ad) (ys.flatMap f))
  (hf:∀ y,(f y).length=size) (h1:∀ y ∈ ys,∀ u ∈ f y,u.oneCell'=true) (hlen:xs.length+ys.length<=137438953472) (hbase:base<=w.heap.size)
  (hK:∀ v' w',Hid (Own w' base e size f v' (xs++ys)/\Mod (fun k=>v.ownBlock=some k) w w'/\(v'.ownBlock=v.ownBlock \/ v'.ownBlock=some w.heap.size)) -> K (a.put o.dst v') w'):o.wp P a w K Q:=by
 obtain ⟨i0,hi,hz0,hz1,hz2⟩:=info_parts el.row;have hflat:=fun l:List α=>flat_length f size hf l
 have hcells:∀ j u,(ys.flatMap f)[j]?=some u -> w.cell? (ad.add j)=some u:=by
  intro j u hu;obtain ⟨b,off,he,hcc⟩:=hrow j u hu;simp only [Option.some.injEq] at he;subst he;rw [Addr.add_lit];exact hcc
 have hb:(xs.length+m)*bytes<=140737488355328:=by
  have h1:=el.small;have:(xs.length+m)*bytes<=137438953472*1024:=Nat.mul_le_mul (by omega) h1;omega
 obtain ⟨v',w',hrun,h2,h3,-,h4⟩:=run_append_own_at w base t o.type e i0 z size bytes ht hi hz0 hz1 hz2 el.cells el.pos v xs.length (xs.flatMap f) hown ad m c (ys.flatMap f) (by rw [hflat,hm]) hcells
  (fun u hu=>by obtain ⟨y,hy,hu⟩:=List.mem_flatMap.1 hu;exact h1 y hy u hu) (by simp only [maxLen];omega) hb hbase
 have hfin:=hK v' w' ⟨by subst hm;unfold Own;rw [List.length_append,List.flatMap_append];exact h2,Mod.ofGrown h3 (fun k hk=>hk),h4⟩;unfold Oper.wp;simp [execOp,ho,resolve,invoke,builtin,hs,hx,hrun,Result.andThen];exact hfin
end Cdk
namespace Go.Proofs.YtjjfphalcibjfaaGreatDoor
open Go.Shelf Go.RowKit Cdk Scr
attribute [local go_sem] Oper.semAt_some
def zgN:Nat -> List Bs -> List (Nat × Bs)
 | _,[]=>[]
 | k,t::r=>(k,t)::zgN (k+1) r
theorem zfO:∀ (k:Nat) (l:List Bs),(zgN k l).length=l.length
 | _,[]=>rfl
 | k,_::r=>by simp [zgN,zfO (k+1) r]
theorem zfq:∀ (k:Nat) (l:List Bs),(zgN k l).map Prod.snd=l
 | _,[]=>rfl
 | k,_::r=>by simp [zgN,zfq (k+1) r]
def lnV (x:Nat × Bs):Array Value:=#[.int .i64 x.1,.string ⟨x.2.toArray⟩]
theorem znG (k:Nat) (t:Bs):lnV (k,t)=#[.int .i64 k,.string ⟨t.toArray⟩]:=rfl
theorem grown_drew (w:World) (n:Nat):w.grownBy (w.drewN n) none:=⟨rfl,rfl,rfl,Nat.le_refl _,fun _ _ _=>rfl⟩
theorem zlJ (s:Bs) (c:UInt8) (hs:s.length<=1000000) (w:World) (hmx:∃ m:Int,w.cell? ⟨2,0,none⟩=some (.int .i64 m)):Calls Tryz.prog 80 #[.string ⟨s.toArray⟩,.string ⟨#[c]⟩] w fun e w'=>
  e=.returned (.tuple #[.string ⟨(zbY c s).1.toArray⟩,.string ⟨(zbY c s).2.1.toArray⟩,.bool (zbY c s).2.2])/\∃ n,w'=w.drewN n:=by
 obtain ⟨m,hm⟩:=hmx;have h:=Tryz.strings_Cut ⟨s.toArray⟩ ⟨#[c]⟩ m w (by show s.toArray.size < 4294967281;simp;omega) hm;have e:Lib.cut (⟨s.toArray⟩:ByteArray).data.toList (⟨#[c]⟩:ByteArray).data.toList=zbY c s:=zd7 c s;rw [e] at h;refine h.mono ?_;rintro e w' ⟨rfl,n,rfl⟩;exact ⟨rfl,n,rfl⟩
theorem zli (n l Bz:Nat) (hn:1<=n) (s:Bs) (hs:s.length<=1000000) (J Jx:List (Nat × Bs) -> World -> Prop) (hJ:∀ p A B,J p A -> A.grownBy B none -> J p B)
  (hY:∀ pre x W,J pre W -> pre.length < 1000002 -> x.2.length<=1000000 -> YieldAt Fence.wide (n - 1) Tryz.prog l (lnV x) W fun e W'=>
   (e=.returned (.bool true)/\J (pre++[x]) W'/\(W.heap.size<=W'.heap.size/\∀ k,k < 10 -> W'.heap[k]?=W.heap[k]?)) \/ (e=.returned (.bool false)/\Jx (pre++[x]) W'))
  (W:World) (hmx:∃ m:Int,W.cell? ⟨2,0,none⟩=some (.int .i64 m)) (hz:W.cell? ⟨Bz,0,none⟩=some (.string ⟨s.toArray⟩)) (h0:J [] W):
  CallsIn Fence.wide n Tryz.prog 79 #[.func (.yield l) #[] #[],.pointer (some ⟨Bz,0,none⟩)] W fun e W'=>(∃ v,e=.returned v) ∧
   ((∃ ys,ys=zgN 1 (parts 10 s)/\J ys W') \/ (∃ pre,pre <+:zgN 1 (parts 10 s)/\Jx pre W')):=by
 refine callsIn_wide.2 ?_;have hplen:=zcg 10 s;go_enter Tryz.func79,Tryz.ntmps79;obtain ⟨SC,hSC⟩:∃ SC,SC=zgN 1 (parts 10 s):=⟨_,rfl⟩;have hSl:Hid (SC.length<=1000001):=hid (by rw [hSC,zfO];omega);rw [<- hSC];replace hY:=hid hY;replace hJ:=hid hJ;replace hmx:=hid hmx;replace hplen:=hid hplen;go_wp2_with fail
 go_loopg [3,4,5] (s.length+2) (fun g rv mv nv wr=>∃ (pre:List (Nat × Bs)) (rest:Bs) (more:Bool) (k:Nat),rv=.string ⟨rest.toArray⟩/\mv=.bool more/\nv=.int .i64 k/\k=pre.length+1/\(if more then SC=pre++zgN k (parts 10 rest) else SC=pre)/\J pre wr/\(∀ k,k < 10 -> wr.heap[k]?=W.heap[k]?)/\(if more then rest.length+1 < g else 0 < g)/\rest.length<=1000000)
 case atStart=>exact ⟨[],s,true,1,rfl,rfl,rfl,rfl,by simpa using hSC,h0,fun _ _=>rfl,by simp,hs⟩
 case round=>
  clear h0 hz hSC;obtain ⟨pre,rest,more,k,rfl,rfl,rfl,hk,hsc,hJp,hkp,hg,hrl⟩:=hrel;replace hkp:=hid hkp;cases more with
  | false=>
   simp only [Bool.false_eq_true,if_false] at hsc;replace hsc:=hid hsc;replace hJp:=hid hJp;replace hk:=hid hk;go_wp2_with fail
   go_end0
   exact ⟨⟨_,rfl⟩,.inl ⟨_,hsc.out.symm ▸ rfl,hJp.out⟩⟩
  | true=>
   simp only [if_true] at hsc hg;have hpl:pre.length+(parts 10 rest).length<=1000001:=by
    have:=hSl.out;rw [hsc,List.length_append,zfO] at this;exact this
   have hpne:0 < (parts 10 rest).length:=List.length_pos_iff.2 (zhR 10 rest);have hcut:=hid (zlJ rest 10 hrl wr (by obtain ⟨m,hm⟩:=hmx.out;exact ⟨m,by rw [<- hm];unfold World.cell?;rw [hkp.out _ (by decide)]⟩));have hpc:=zb8 10 rest;have hcl:=zjg 10 rest;have hsp:=zdk (c:=10) rest;have hlt:(zbY 10 rest).2.2=true -> (zbY 10 rest).2.1.length < rest.length:=fun e=>by
    rcases hsp with ⟨-,h1,-⟩ | ⟨h0,-⟩
    ·have:=congrArg List.length h1
     simp only [List.length_append,List.length_cons] at this;omega
    ·rw [e] at h0;cases h0
   have hno:(zbY 10 rest).2.2=false -> (zbY 10 rest).1=rest:=fun e=>by
    rcases hsp with ⟨h0,-⟩ | ⟨-,h1,-⟩
    ·rw [e] at h0;cases h0
    ·exact h1
   generalize zbY 10 rest=q at hcut hpc hcl hlt hno;clear hsp;obtain ⟨q1,q2,q3⟩:=q;simp only at hcut hpc hcl hlt hno;have hy:=fun W hJW=>hY.out pre (k,q1) W hJW (by omega) (Nat.le_trans hcl.1 hrl)
   simp only [znG] at hy;replace hy:=hid hy;have hkw:IntKind.i64.wrap ((k:Int)+1)=(k:Int)+1:=IntWalk.i64_in _ (by omega);have hkl:Hid (k<=1000001):=hid (by omega);have hq2:Hid (q2.length<=1000000):=hid (by omega)
   have hnext:Hid (if q3 then SC=(pre++[(k,q1)])++zgN (k+1) (parts 10 q2) else SC=pre++[(k,q1)]):=hid (by
    cases q3 with
    | true=>simp only [if_true] at hpc ⊢;rw [hsc,hpc];simp [zgN]
    | false=>simp only [Bool.false_eq_true,if_false] at hpc ⊢;rw [hsc,hpc,hno rfl];rfl)
   have hmeas:Hid (if q3 then q2.length+1 < gk - 1 else 0 < gk - 1):=hid (by
    cases q3 with
    | true=>have:=hlt rfl;simp only [if_true];omega
    | false=>simp only [Bool.false_eq_true,if_false];omega)
   have hpre:Hid (pre++[(k,q1)] <+:SC):=hid (by
    have:=hnext.out;cases q3 with
    | true=>simp only [if_true] at this;exact ⟨_,this.symm⟩
    | false=>simp only [Bool.false_eq_true,if_false] at this;rw [this];exact List.prefix_refl _)
   have hgp:Hid (0 < gk):=hid (by omega);replace hJp:=hid hJp;replace hk:=hid hk;replace hsc:=hid hsc;clear hpc hcl hlt hno hpl hpne hg;go_wp2_with fail
   refine hcut.out.mono ?_;rintro e w1 ⟨rfl,nn,rfl⟩;have hJ1:=hJ.out _ _ _ hJp.out (grown_drew wr nn);obtain ⟨yfn,ytmps,yassign,ybody,hyr,hyR⟩:=hy.out _ hJ1;replace hyR:=hid hyR;clear hJ1 hy hcut hJp;go_upto_region 6 with fail
   refine (wpIn_wide (n:=n)).1 ?_
   gi_wp2
   refine hyR.out.mono ?_;rintro e' W3 (⟨rfl,hJ3,-,hk3⟩ | ⟨rfl,hJx3⟩)
   ·replace hJ3:=hid hJ3
    have hkk:=hid (fun (k:Nat) (h:k < 10)=>(hk3 k h).trans (hkp.out k h));clear hk3
    gi_wp2
    go_wp2_with fail
    go_roundg (gk - 1)
    case measure=>have:=hgp.out;omega
    case rel=>exact ⟨pre++[(k,q1)],q2,q3,k+1,rfl,rfl,by go_num,by rw [hk.out];simp,hnext.out,hJ3.out,hkk.out,hmeas.out,hq2.out⟩
   ·replace hJx3:=hid hJx3
    gi_wp2
    go_wp2_with fail
    try simp only [Exit.noGoto_normal]
    refine bodyPost_ret (results_none rfl _ _ _) rfl ?_;exact ⟨⟨_,rfl⟩,.inr ⟨_,hpre.out,hJx3.out⟩⟩
theorem zji (n Bz:Nat) (hn:1<=n) (s:Bs) (hs:s.length<=1000000) (w:World) (hG:Gl w) (hB:Bz < w.heap.size) (hc:w.cell? ⟨Bz,0,none⟩=some (.string ⟨s.toArray⟩)):
  znT Fence.wide n Tryz.prog 79 #[.pointer (some ⟨Bz,0,none⟩)] lnV (fun k=>k < 10) Bz (fun x=>x.2.length<=1000000) (fun ys=>ys=zgN 1 (parts 10 s)) (fun pre=>pre <+:zgN 1 (parts 10 s)) 1000002 w:=fun l J Jx W hW hJ _ hY h0=>
 zli n l Bz hn s hs J Jx hJ hY W (by obtain ⟨m,hm⟩:=hG.mx;exact ⟨m,(hW.cell (p:=⟨2,0,none⟩) (by have:=hG.size;show (_:Nat) < _;exact Nat.lt_of_lt_of_le (by decide) hG.size)).trans hm⟩) ((hW.cell (p:=⟨Bz,0,none⟩) hB).trans hc) h0
theorem lines_any (s:Bs) (w:World):Calls Tryz.prog 49 #[.string ⟨s.toArray⟩] w fun e w'=>e=.returned (.func (.func 79) #[] #[.pointer (some ⟨w.heap.size,0,none⟩)])/\w'=w.alloc (.cells #[.string ⟨s.toArray⟩] 9):=by
 go_enter Tryz.func49,Tryz.ntmps49;go_wp2_with fail
 go_ret;exact ⟨rfl,rfl⟩
end Go.Proofs.YtjjfphalcibjfaaGreatDoor
namespace Cdk
open Go Go.RowKit
section
variable {P:Program} {Q:Exit -> Act -> World -> Prop} {l₀ n:Nat}
theorem zhX {o:Oper} (hd:∀ c,o.op ≠ .defer c) {a:Act} {w:World} {K:Act -> World -> Prop} (h:o.wp P a w K Q):o.wpIn (Fence.wide.inRound l₀) n P a w K Q:=by
 refine ⟨fun _ _=>trivial,?_⟩;rw [Oper.semAt_eq _ _ _ hd];exact zgr h
variable {ops:Array Oper} {rest:List Oper} {o:Oper} {a:Act} {w:World}
theorem zbq (hg:o.guard=none) (hd:∀ c,o.op ≠ .defer c) (h:∀ K:Act -> World -> Prop,(∀ a w,wpListIn (Fence.wide.inRound l₀) n P ops Q rest a w -> K a w) -> o.wp P a w K Q):
  wpListIn (Fence.wide.inRound l₀) n P ops Q (o::rest) a w:=wpListIn_plain hg fun K hK=>zhX hd (h K hK)
theorem zcA (hg:o.guard=none) (ty:TypeId) (x y:Operand) (ho:o.op=.store ty x y) (b:Nat) (old vs:Array Value) (t:TypeId) (hx:a.eval x=.pointer (some ⟨b,0,none⟩)) (hy:a.eval y=.agg vs)
  (hold:w.heap[b]?=some (.cells old t (0,0))) (hl:vs.size=old.size) (hi:(P.info? ty).map (·.size)=some vs.size) (h1:vs.toList.all (·.oneCell')=true)
  (h:∀ w',Hid (w'.heap[b]?=some (.cells vs t (0,0))/\Mod (Eq b) w w') -> wpListIn (Fence.wide.inRound l₀) n P ops Q rest (a.put o.dst undef) w'):wpListIn (Fence.wide.inRound l₀) n P ops Q (o::rest) a w:=
 zbq hg (fun c hc=>by rw [ho] at hc;cases hc) fun _ hK=>za1 ty x y ho b old vs t hx hy hold hl hi h1 (fun w' H=>hK _ _ (h w' H))
theorem zey {e:TypeId} {z:Value} {size bytes:Nat} (hg:o.guard=none) (t:TypeId) (x:Operand) (ho:o.op=.buildSlice t 1 #[(0,x)])
  (hu:P.underlying t=some (.slice e)) (el:El P e z size bytes) (hsm:size<=1000) (VB:Array Value) (hx:a.eval x=.agg VB) (hV:VB.size=size)
  (h:wpListIn (Fence.wide.inRound l₀) n P ops Q rest (a.put o.dst (.slice (some ⟨w.heap.size,0,none⟩) 1 1)) (w.alloc (.cells VB e))):wpListIn (Fence.wide.inRound l₀) n P ops Q (o::rest) a w:=
 zbq hg (fun c hc=>by rw [ho] at hc;cases hc) fun _ hK=>zgo t x ho hu el hsm VB hx hV (hK _ _ h)
theorem zeM {α:Type} {f:α -> List Value} {base:Nat} {e:TypeId} {z:Value} {size bytes:Nat} {v:Value} {xs:List α} (hg:o.guard=none) (s x:Operand) (t:TypeId)
  (ho:o.op=.call { callee:=.builtin .append,args:=#[s,x],argTypes:=#[t,t] }) (ht:P.underlying t=some (.slice e)) (el:El P e z size bytes)
  (hs:a.eval s=v) (hown:Own w base e size f v xs) (ad:Addr) (m c:Nat) (hx:a.eval x=.slice (some ad) m c) (ys:List α) (hm:ys.length=m) (hrow:zaR w (some ad) (ys.flatMap f))
  (hf:∀ y,(f y).length=size) (h1:∀ y ∈ ys,∀ u ∈ f y,u.oneCell'=true) (hlen:xs.length+ys.length<=137438953472) (hbase:base<=w.heap.size)
  (hK:∀ v' w',Hid (Own w' base e size f v' (xs++ys)/\Mod (fun k=>v.ownBlock=some k) w w'/\(v'.ownBlock=v.ownBlock \/ v'.ownBlock=some w.heap.size)) -> wpListIn (Fence.wide.inRound l₀) n P ops Q rest (a.put o.dst v') w'):
  wpListIn (Fence.wide.inRound l₀) n P ops Q (o::rest) a w:=
 zbq hg (fun c hc=>by rw [ho] at hc;cases hc) fun _ hK'=>zlw s x t ho ht el hs hown ad m c hx ys hm hrow hf h1 hlen hbase (fun v' w' H=>hK' _ _ (hK v' w' H))
theorem zkR {K:Act -> World -> Prop} (ty:TypeId) (x:Operand) (ho:o.op=.load ty x) (b:Nat) (cs:Array Value) (t:TypeId) (fr:Nat × Nat) (d:TypeDesc) (hx:a.eval x=.pointer (some ⟨b,0,none⟩))
  (hold:w.heap[b]?=some (.cells cs t fr)) (hu:P.underlying ty=some d) (hd:d.isRow=true) (hi:(P.info? ty).map (·.size)=some cs.size)
  (h:K (a.put o.dst (.agg cs)) w):o.wp P a w K Q:=by
 obtain ⟨cs⟩:=cs;exact wp_load_mid ty x ho b 0 hx cs d (zbp (pre:=[]) (post:=[]) (by simpa using hold)) hu hd (by simpa using hi) h
theorem zeO (hg:o.guard=none) (ty:TypeId) (x:Operand) (ho:o.op=.load ty x) (b:Nat) (cs:Array Value) (t:TypeId) (fr:Nat × Nat) (d:TypeDesc) (hx:a.eval x=.pointer (some ⟨b,0,none⟩))
  (hold:w.heap[b]?=some (.cells cs t fr)) (hu:P.underlying ty=some d) (hd:d.isRow=true) (hi:(P.info? ty).map (·.size)=some cs.size)
  (h:wpListIn (Fence.wide.inRound l₀) n P ops Q rest (a.put o.dst (.agg cs)) w):wpListIn (Fence.wide.inRound l₀) n P ops Q (o::rest) a w:=
 zbq hg (fun c hc=>by rw [ho] at hc;cases hc) fun _ hK=>zkR ty x ho b cs t fr d hx hold hu hd hi (hK _ _ h)
end
end Cdk
namespace Scr
theorem zdc:∀ {L:List Bs} {k:Nat} {acc l:List Ac},zbL k acc L=.ok l -> acc.length<=100 -> ∃ m,l=acc++m/\l.length<=100/\(∀ a ∈ m,vAc a=true)/\m.map line=L.filter (fun t=>!skip t)
 | [],k,acc,l,h,ha=>by
  simp only [zbL] at h;injection h with h
  subst h;exact ⟨[],by simp,ha,by simp,rfl⟩
 | t::L,k,acc,l,h,ha=>by
  simp only [zbL] at h
  by_cases hs:skip t=true
  ·rw [if_pos hs] at h
   obtain ⟨m,h1,h2,h3,h4⟩:=zdc h ha;exact ⟨m,h1,h2,h3,by rw [h4,List.filter_cons,if_neg (by simp [hs])]⟩
  ·rw [if_neg hs] at h
   split at h
   ·cases h
   ·rename_i hl
    split at h
    ·cases h
    ·rename_i a ho
     obtain ⟨m,h1,h2,h3,h4⟩:=zdc h (by simp;omega);obtain ⟨hv,he⟩:=zgT ho;refine ⟨a::m,by rw [h1];simp,h2,fun b hb=>?_,?_⟩
     ·rcases List.mem_cons.1 hb with rfl | hb
      ·exact hv
      ·exact h3 b hb
     ·rw [List.map_cons,h4,List.filter_cons,if_pos (by simp [hs]),he]
theorem zcO:∀ (L:List Bs) (k:Nat) (acc:List Ac) (M:List Bs),zbL k acc (L++M)=match zbL k acc L with | .error n=>.error n | .ok l=>zbL (k+L.length) l M
 | [],k,acc,M=>by simp [zbL]
 | t::L,k,acc,M=>by
  simp only [List.cons_append,zbL,List.length_cons];rw [show k+(L.length+1)=k+1+L.length by omega];split
  ·exact zcO L (k+1) acc M
  ·split
   ·rfl
   ·cases zb0 t with
    | none=>rfl
    | some a=>exact zcO L (k+1) (acc++[a]) M
end Scr
namespace Go.Proofs.YtjjfphalcibjfaaGreatDoor
open Go.Shelf Go.RowKit Cdk Scr
attribute [local go_sem] Oper.semAt_some
theorem zbW {P:Program} {t:TypeId} {d:TypeDesc} {w:World} {a:Addr} {v:Value} (hu:P.underlying t=some d) (hd:(match d with | .struct _ | .array _ _=>true | _=>false)=false) (hc:w.cell? a=some v):(loadVar t a).run P w=.ok v w:=by
 have:(isAgg t).run P w=.ok false w:=by
  simp only [isAgg,Sem.run_bind,run_underlying hu,Result.andThen_ok];cases d <;> simp_all
 simp only [loadVar,Sem.run_bind,this,Result.andThen_ok];simp [load,Sem.run,hc]
theorem zdB {P:Program} {fn:Func} {p q u:Tmp} {tp tq tu:TypeId} {dp dq du:TypeDesc} (h:fn.results=#[.cell p tp,.cell q tq,.cell u tu]) (tmps:Array Value) (w:World) (a b c:Addr) (va vb vc:Value)
  (hp:tmps.getD p undef=.pointer (some a)) (hq:tmps.getD q undef=.pointer (some b)) (hr:tmps.getD u undef=.pointer (some c))
  (up:P.underlying tp=some dp) (uq:P.underlying tq=some dq) (uu:P.underlying tu=some du)
  (kp:(match dp with | .struct _ | .array _ _=>true | _=>false)=false) (kq:(match dq with | .struct _ | .array _ _=>true | _=>false)=false) (ku:(match du with | .struct _ | .array _ _=>true | _=>false)=false)
  (ha:w.cell? a=some va) (hb:w.cell? b=some vb) (hc:w.cell? c=some vc):
  (results fn tmps).run P w=.ok (.tuple #[va,vb,vc]) w:=by
 have hp':tmps[p]?.getD undef=.pointer (some a):=by simpa using hp
 have hq':tmps[q]?.getD undef=.pointer (some b):=by simpa using hq
 have hr':tmps[u]?.getD undef=.pointer (some c):=by simpa using hr
 simp [results,h,asAddr,hp',hq',hr',zbW up kp ha,zbW uq kq hb,zbW uu ku hc,Result.andThen]
theorem zbI {α:Type} {F:Nat -> Prop} {W W':World} {row:Option Nat} (hg:W.grownBy W' row) (hrow:∀ r,row=some r -> ∃ o:Obj,W.heap[r]?=some o/\o.isCells=false) {f:α -> List Value} {v:Value} {l:List α} (h:zai F W f v l):zai F W' f v l:=by
 obtain ⟨ao,cap,rfl,hr,hb,hc⟩:=h;refine ⟨ao,cap,rfl,fun j u hu=>?_,hb,hc⟩;obtain ⟨b,off,e,hcell⟩:=hr j u hu;refine ⟨b,off,e,?_⟩;cases hh:W.heap[b]? with
 | none=>simp [World.cell?,hh] at hcell
 | some o=>
  have hlt:b < W.heap.size:=(Array.getElem?_eq_some_iff.1 hh).1;have hne:row ≠ some b:=fun e=>by
   obtain ⟨o',h1,h2⟩:=hrow b e;rw [hh] at h1;injection h1 with h1
   subst h1;cases o <;> simp [Obj.isCells] at h2 <;> simp [World.cell?,hh] at hcell
  have e2:=hg.block b hlt (fun e=>hne e.symm);unfold World.cell? at hcell ⊢;rw [e2];exact hcell
theorem ze9 {F:Nat -> Prop} {W W':World} {row:Option Nat} (hg:W.grownBy W' row) (hrow:∀ r,row=some r -> ∃ o:Obj,W.heap[r]?=some o/\o.isCells=false) {s:AV} {a:Ac} (h:AcAt F W s a):AcAt F W' s a:=by
 refine ⟨⟨zbI hg hrow h.fc.tp,?_,zbI hg hrow h.fc.af⟩,zbI hg hrow h.fa,zbI hg hrow h.ke⟩;obtain ⟨r,e,h1,h2⟩:=h.fc.bl;exact ⟨r,e,zbI hg hrow h1,fun p hp=>zbI hg hrow (h2 p hp)⟩
structure PaI (w:World) (R X:Nat) (ao:Option Addr) (cap:Nat) (pre:List (Nat × Bs)) (W:World):Prop where
 ext:Ext w W
 size:X+3<=W.heap.size
 c0:W.heap[R]?=some (.cells #[.slice none 0 0] 37 (0,0))
 c1:W.heap[R+1]?=some (.cells #[.int .i64 0] 3 (0,0))
 c2:W.heap[R+1+1]?=some (.cells #[.int .i64 0] 39 (0,0))
 fk:W.heap[X]?=some (.cells #[.slice ao 18 cap] 60 (0,0))
 fm:zcP (fun k=>R+3<=k/\k < X) W (.slice ao 18 cap)
 lst:∃ (v:Value) (rows:List (AV × Ac)),W.heap[X+1]?=some (.cells #[v] 37 (0,0))/\Cdk.Own W (X+3) 32 36 acC v rows/\(∀ p ∈ rows,AcAt (fun k=>X+3<=k/\k < W.heap.size/\v.ownBlock ≠ some k) W p.1 p.2)/\zbL 1 [] (pre.map Prod.snd)=.ok (rows.map Prod.snd)
structure PaX (w:World) (R:Nat) (pre:List (Nat × Bs)) (W:World):Prop where
 ext:Ext w W
 c0:W.heap[R]?=some (.cells #[.slice none 0 0] 37 (0,0))
 c1:∃ p0 x,pre=p0++[x]/\W.heap[R+1]?=some (.cells #[.int .i64 (x:Nat × Bs).1] 3 (0,0))
 c2:W.heap[R+1+1]?=some (.cells #[.int .i64 280] 39 (0,0))
 bad:zbL 1 [] (pre.map Prod.snd)=.error pre.length
theorem PaI.mod {w:World} {R X:Nat} {ao:Option Addr} {cap:Nat} {pre:List (Nat × Bs)} {W W':World} (h:PaI w R X ao cap pre W) (hw:w.heap.size<=R) (hRX:R+3<=X) {S:Nat -> Prop} (hm:Mod S W W') (hS:∀ k,S k -> k=X+2):PaI w R X ao cap pre W':=by
 obtain ⟨v,rows,h1,h2,h3,h4⟩:=h.lst;have hsz:=hm.size;refine ⟨h.ext.then hm (fun k hk e=>by have:=hS k e;have:=h.ext.size;omega),by have:=h.size;omega,hm.at h.c0 (fun e=>by have:=hS _ e;omega),hm.at h.c1 (fun e=>by have:=hS _ e;omega),hm.at h.c2 (fun e=>by have:=hS _ e;omega),hm.at h.fk (fun e=>by have:=hS _ e;omega),h.fm.mod hm (fun k hk e=>by have:=hS _ e;omega),v,rows,hm.at h1 (fun e=>by have:=hS _ e;omega),h2.mod hm (fun k hk e=>by have:=hS _ e;have:=(h2.block k hk).1;omega),fun p hp=>?_,h4⟩;exact ((h3 p hp).mod hm (fun k hk e=>by have:=hS _ e;omega)).mono (fun k hk=>⟨hk.1,by omega,hk.2.2⟩)
theorem PaI.own (w:World) (R X:Nat) (ao:Option Addr) (cap:Nat) (hw:w.heap.size<=R) (hRX:R+3<=X) (B:Nat) (hB:X+3<=B):OwnFrom B (fun p W=>PaI w R X ao cap p W):=by
 intro p W W' row h hg hrow;have hr:=fun r e=>(hrow r e).2
 obtain ⟨v,rows,h1,h2,h3,h4⟩:=h.lst;have hmG:Mod (fun k=>row=some k) W W':=Mod.ofGrown hg (fun k hk=>hk);have hge:∀ k,row=some k -> B<=k:=fun k e=>(hrow k e).1
 refine ⟨zdi h.ext hg (fun r e=>by have:=hge r e;omega),Nat.le_trans h.size hg.size,zao hg hr h.c0,zao hg hr h.c1,zao hg hr h.c2,zao hg hr h.fk,h.fm.mod hmG (fun k hk e=>by have:=hge k e;omega),v,rows,zao hg hr h1,zcb hg hr h2,fun p hp=>?_,h4⟩;exact (ze9 hg hr (h3 p hp)).mono (fun k hk=>⟨hk.1,by have:=hg.size;omega,hk.2.2⟩)
theorem PaX.own (w:World) (R:Nat) (B:Nat) (hB:w.heap.size<=B):OwnFrom B (fun p W=>PaX w R p W):=by
 intro p W W' row h hg hrow;have hr:=fun r e=>(hrow r e).2
 obtain ⟨p0,x,e1,e2⟩:=h.c1;exact ⟨zdi h.ext hg (fun r e=>by have:=(hrow r e).1;omega),zao hg hr h.c0,⟨p0,x,e1,zao hg hr e2⟩,zao hg hr h.c2,h.bad⟩
theorem zh6 {L:List Bs} {acc:List Ac} (h:zbL 1 [] L=.ok acc) (t:Bs):zbL 1 [] (L++[t])=if skip t then .ok acc else if acc.length=100 then .error (L.length+1) else match zb0 t with
  | none=>.error (L.length+1)
  | some a=>.ok (acc++[a]):=by
 rw [zcO,h];simp only [zbL];rw [Nat.add_comm 1 L.length];split
 ·rfl
 ·split
  ·rfl
  ·cases zb0 t <;> rfl
theorem zhP:∀ (L:List Bs) (k:Nat) (p0:List (Nat × Bs)) (x:Nat × Bs) (q:List (Nat × Bs)),zgN k L=p0++x::q -> x.1=k+p0.length
 | [],_,p0,x,q,h=>by cases p0 <;> cases h
 | t::r,k,[],x,q,h=>by
  simp only [zgN,List.nil_append,List.cons.injEq] at h;rw [<- h.1];simp
 | t::r,k,y::p0,x,q,h=>by
  simp only [zgN,List.cons_append,List.cons.injEq] at h;have:=zhP r (k+1) p0 x q h.2;simp only [List.length_cons];omega
def PaE (w w':World) (e:Ending) (D:Except Nat (List Ac)):Prop:=match D with
 | .ok l=>∃ (ao:Option Addr) (cap:Nat),e=.returned (.tuple #[.slice ao l.length cap,.int .i64 0,.int .i64 0])/\zbK (fun k=>w.heap.size<=k/\k < w'.heap.size) w' (.slice ao l.length cap) l
 | .error n=>e=.returned (.tuple #[.slice none 0 0,.int .i64 n,.int .i64 280])
def PaP (w:World) (s:Bs) (e:Ending) (w':World):Prop:=Ext w w'/\PaE w w' e (parse s)
theorem zjV {a1:Option Addr} {n1 c1:Nat} {a2:Option Addr} {n2 c2:Nat} {a3:Option Addr} {n3 c3:Nat} {a4:Option Addr} {n4 c4:Nat} {a5:Option Addr} {n5 c5:Nat} {a:Ac}:∀ u ∈ acC (⟨⟨.slice a1 n1 c1,.slice a2 n2 c2,.slice a3 n3 c3⟩,.slice a4 n4 c4,.slice a5 n5 c5⟩,a),u.oneCell'=true:=by
 intro u hu;have h:(acA a1 n1 c1 a2 n2 c2 a3 n3 c3 a4 n4 c4 a5 n5 c5 a).toList.all (·.oneCell')=true:=rfl;exact List.all_eq_true.1 h u hu
theorem elA:El Tryz.prog 32 (.agg zA) 36 424:=⟨by kernel_rfl,rfl,by decide,by decide⟩
attribute [local go_sem] Oper.semAt_some
theorem zcP.low {F F':Nat -> Prop} {w:World} {v:Value} (h:zcP F w v) (hF:∀ k,F k -> F' k):zcP F' w v:=by
 obtain ⟨rows,h1,h2,h3⟩:=h;exact ⟨rows,h1,zai.mono h2 hF,fun j hj=>(h3 j hj).low hF⟩
theorem parse_any (s:Bs) (hs:s.length<=1000000) (w:World) (hG:Gl w):
  Calls Tryz.prog 22 #[.string ⟨s.toArray⟩] w (PaP w s):=by
 obtain ⟨R,hR⟩:∃ R,R=w.heap.size:=⟨_,rfl⟩;have hx0:=(((Mod.refl (fun _=>False) w).alloc (.cells #[.slice none 0 0] 37)).alloc (.cells #[.int .i64 0] 3)).alloc (.cells #[.int .i64 0] 39);have hg0:∀ k,(((w.alloc (.cells #[.slice none 0 0] 37)).alloc (.cells #[.int .i64 0] 3)).alloc (.cells #[.int .i64 0] 39)).heap[k]?=if k=R+1+1 then some (.cells #[.int .i64 0] 39 (0,0)) else if k=R+1 then some (.cells #[.int .i64 0] 3 (0,0)) else if k=R then some (.cells #[.slice none 0 0] 37 (0,0)) else w.heap[k]?:=by
  intro k;simp only [zaA,World.size_alloc,<- hR]
 have hs0:(((w.alloc (.cells #[.slice none 0 0] 37)).alloc (.cells #[.int .i64 0] 3)).alloc (.cells #[.int .i64 0] 39)).heap.size=R+3:=by simp only [World.size_alloc,<- hR]
 have b0:=hg0 R;have b1:=hg0 (R+1);have b2:=hg0 (R+1+1);rw [if_neg (by omega),if_neg (by omega),if_pos rfl] at b0;rw [if_neg (by omega),if_pos rfl] at b1;rw [if_pos rfl] at b2;clear hg0;have hPa:Hid (∀ e w',PaP w s e w'=(Ext w w'/\PaE w w' e (parse s))):=hid (fun e w'=>rfl);obtain ⟨D,hD⟩:∃ D,D=parse s:=⟨_,rfl⟩;rw [<- hD] at hPa;replace hD:=hid hD;have hss:Hid ((⟨s.toArray⟩:ByteArray).size=s.length):=hid rfl;have hwR:w.heap.size<=R:=Nat.le_of_eq hR.symm;have hG0:=hid (hG.ext hx0);have hGw:=hid hG;have hR10:10<=R:=by have:=hG.size;omega
 replace hx0:=hid hx0;replace hs0:=hid hs0;replace b0:=hid b0;replace b1:=hid b1;replace b2:=hid b2;clear hG
 by_cases hbig:65536 < s.length
 ·have hbi:(65536:Int) < (s.length:Int):=by omega
  have hDe:=hid (show D=.error 0 by rw [hD.out];unfold parse;rw [if_pos hbig]);replace hbig:=hid hbig;go_enter Tryz.func22,Tryz.ntmps22;go_wp2_with fail
  try refine wp_scope_straight ?_
  go_upto_region 2 with fail
  try simp only [World.size_alloc]
  rw [<- hR];replace hR:=hid hR;generalize (((w.alloc (.cells #[.slice none 0 0] 37)).alloc (.cells #[.int .i64 0] 3)).alloc (.cells #[.int .i64 0] 39))=w0 at hx0 hs0 hG0 b0 b1 b2 ⊢;have z0:=zac b0.out;have z1:=zac b1.out;have z2:=zac b2.out;have d0:=zaa b0.out 0;have d1:=zaa b1.out 0;have d2:=zaa b2.out 0;simp at d0 d1 d2;have q0:=zc1 (v:=.slice none 0 0) b0.out;have q1:=(zar _ (b:=R) 0 (.slice none 0 0) (by omega)).trans b1.out;have q2:=(zar _ (b:=R) 0 (.slice none 0 0) (by omega)).trans b2.out;have q1:=zc1 (v:=.int .i64 0) q1;have q0:=(zar _ (b:=R+1) 0 (.int .i64 0) (by omega)).trans q0;have q2:=(zar _ (b:=R+1) 0 (.int .i64 0) (by omega)).trans q2;have q2:=zc1 (v:=.int .i64 280) q2;have q0:=(zar _ (b:=R+1+1) 0 (.int .i64 280) (by omega)).trans q0;have q1:=(zar _ (b:=R+1+1) 0 (.int .i64 280) (by omega)).trans q1;have hm8:=(((Mod.refl (fun k=>R<=k) w0).setCell (a:=⟨R,0,none⟩) (fun _=>by show R<=R;omega) (.slice none 0 0)).setCell (a:=⟨R+1,0,none⟩) (fun _=>by show R<=R+1;omega) (.int .i64 0)).setCell (a:=⟨R+1+1,0,none⟩) (fun _=>by show R<=R+1+1;omega) (.int .i64 280);replace q0:=hid q0;replace q1:=hid q1;replace q2:=hid q2;replace hm8:=hid hm8;go_wp2_with fail
  try simp only [Exit.noGoto_normal]
  refine bodyPost_ret (zdB rfl _ _ ⟨R,0,none⟩ ⟨R+1,0,none⟩ ⟨R+1+1,0,none⟩ (.slice none 0 0) (.int .i64 0) (.int .i64 280) rfl rfl rfl Tryz.underlying37 Tryz.underlying3 Tryz.underlying39 rfl rfl rfl (zaa q0.out 0) (zaa q1.out 0) (zaa q2.out 0)) rfl ?_;rw [hPa.out,hDe.out];exact ⟨zaG (B:=R) hwR ((hx0.out.mono (T:=fun k=>R<=k) (fun _ h=>h.elim)).trans hm8.out),rfl⟩
 ·have hbi:¬ (65536:Int) < (s.length:Int):=by omega
  have hDe:=hid (show D=zbL 1 [] (parts 10 s) by rw [hD.out];unfold parse;rw [if_neg hbig]);replace hbig:=hid hbig;refine (callsIn_wide (n:=3)).1 ?_;refine callsIn_of_wp_marks Tryz.func22 rfl trivial ?_ rfl;simp only [Tryz.ntmps22,List.size_toArray,List.length_cons,List.length_nil,Nat.reduceAdd,Nat.reduceSub,Array.replicate_succ,Array.replicate_zero,List.push_toArray,List.append_toArray,List.nil_append,List.cons_append];refine (wpIn_wide (n:=3)).2 ?_;go_wp2_with fail
  refine wp_scope_straight ?_;try simp only [World.size_alloc]
  rw [<- hR];replace hR:=hid hR;generalize (((w.alloc (.cells #[.slice none 0 0] 37)).alloc (.cells #[.int .i64 0] 3)).alloc (.cells #[.int .i64 0] 39))=w0 at hx0 hs0 hG0 b0 b1 b2 ⊢;go_wp2_with fail
  refine (zfY w0).mono ?_;rintro e w1 ⟨ao,cap,rfl,hF,hx1⟩;obtain ⟨X,hX⟩:∃ X,X=w1.heap.size:=⟨_,rfl⟩;have hRX:R+3<=X:=by have:=hx1.size;have:=hs0.out;omega
  have hx4:=(((Mod.refl (fun _=>False) w1).alloc (.cells #[.slice ao 18 cap] 60)).alloc (.cells #[.slice none 0 0] 37)).alloc (.cells #[.string ⟨s.toArray⟩] 9);have hg4:∀ k,(((w1.alloc (.cells #[.slice ao 18 cap] 60)).alloc (.cells #[.slice none 0 0] 37)).alloc (.cells #[.string ⟨s.toArray⟩] 9)).heap[k]?=if k=X+1+1 then some (.cells #[.string ⟨s.toArray⟩] 9 (0,0)) else if k=X+1 then some (.cells #[.slice none 0 0] 37 (0,0)) else if k=X then some (.cells #[.slice ao 18 cap] 60 (0,0)) else w1.heap[k]?:=by
   intro k;simp only [zaA,World.size_alloc,<- hX]
  have hs4:(((w1.alloc (.cells #[.slice ao 18 cap] 60)).alloc (.cells #[.slice none 0 0] 37)).alloc (.cells #[.string ⟨s.toArray⟩] 9)).heap.size=X+3:=by simp only [World.size_alloc,<- hX]
  have f0:=hg4 X;have f1:=hg4 (X+1);have f2:=hg4 (X+1+1);rw [if_neg (by omega),if_neg (by omega),if_pos rfl] at f0;rw [if_neg (by omega),if_pos rfl] at f1;rw [if_pos rfl] at f2;clear hg4;replace hF:=hid hF;replace hx1:=hid hx1;replace hx4:=hid hx4;replace hs4:=hid hs4;replace f0:=hid f0;replace f1:=hid f1;replace f2:=hid f2;go_wp2_with fail
  refine wp_label ?_;try simp only [Exit.then]
  go_wp2_with fail
  refine (lines_any s _).mono ?_;rintro e w3 ⟨rfl,rfl⟩;go_wp2_with fail
  try simp only [World.size_alloc]
  rw [<- hX];generalize (((w1.alloc (.cells #[.slice ao 18 cap] 60)).alloc (.cells #[.slice none 0 0] 37)).alloc (.cells #[.string ⟨s.toArray⟩] 9))=w4 at hx4 hs4 f0 f1 f2 ⊢;replace hX:=hid hX;have hG4:=hid ((hG0.out.ext hx1.out).ext hx4.out);have hx04:=hx1.out.trans hx4.out;have hI0:PaI w R X ao cap [] w4:=⟨zaG (B:=R) hwR ((hx0.out.mono (T:=fun k=>R<=k) (fun _ h=>h.elim)).trans (hx04.mono (fun _ h=>h.elim))),by have:=hs4.out;omega,hx04.at b0.out (fun h=>h),hx04.at b1.out (fun h=>h),hx04.at b2.out (fun h=>h),f0.out,((hF.out.low (fun k hk=>⟨by have:=hk.1;have:=hs0.out;omega,by have:=hk.2;have:=hX.out;omega⟩)).ext hx4.out),.slice none 0 0,[],f1.out,Own.nil _ _ _ _ _,(fun p hp=>by cases hp),rfl⟩;have hs4':X+3=w4.heap.size:=hs4.out.symm;have hw0:w.heap.size<=X+3:=by omega
  have hseq:=zji 2 (X+1+1) (by omega) s hs w4 hG4.out (by omega) (zaa f2.out 0);refine (wpIn_wide (n:=3)).1 ?_;refine zbN (F:=Fence.wide) rfl (by omega) (gf:=79) (lb:=#[.pointer (some ⟨X+1+1,0,none⟩)]) rfl trivial (enters_of Tryz.func79 (by kernel_rfl) rfl)
   hseq (fun k hk=>by omega) (by omega) (Below.refl _ _) (fun _=>rfl) (fun pre W=>PaI w R X ao cap pre W) (fun c pre W=>c=.ret/\PaX w R pre W)
   (PaI.own w R X ao cap hwR hRX _ (by omega)) (fun p A v hh=>hh.mod hwR hRX ((Mod.refl (fun k=>k=X+2) A).setCell (a:=⟨X+1+1,0,none⟩) (fun _=>rfl) v) (fun k hk=>hk)) (fun c p W W' row h hg hrow=>⟨h.1,PaX.own w R _ (by omega) p W W' row h.2 hg hrow⟩) hI0 ?aa ?assign ?body ?done ?stop
  case assign=>
   intro l x W K hK;unfold lnV
   gi_wp2
   exact hK
  case body=>
   rintro l pre ⟨k,t⟩ W hI hlen htl;simp only at htl;obtain ⟨v,rows,hl1,hO,hA,hpf⟩:=hI.lst;obtain ⟨av,cv,rfl,-,-⟩:=hO.row;obtain ⟨mm,hmm,hr100,-,-⟩:=zdc hpf (by simp);rw [List.length_map] at hr100;have hstep:=zh6 hpf t;rw [List.length_map,List.length_map] at hstep;have hmapx:(pre++[(k,t)]).map Prod.snd=pre.map Prod.snd++[t]:=by simp
   have hlenx:(pre++[(k,t)]).length=pre.length+1:=by simp
   rw [<- hmapx] at hstep;obtain ⟨S,hS⟩:∃ S:ByteArray,S=⟨t.toArray⟩:=⟨_,rfl⟩;have hSe:S.toList.isEmpty=t.isEmpty:=by rw [hS];simp
   have hI2:=hid hI;have hl1z:=zaa hl1 0;have hfkz:=zaa hI.fk 0;simp at hl1z hfkz;have hszI:=hI.size;clear hmm;replace hl1:=hid hl1;replace hO:=hid hO;replace hA:=hid hA;replace hpf:=hid hpf;replace hI:=hid hI;replace hmapx:=hid hmapx;replace hlenx:=hid hlenx;simp only [<- hS];cases hb:t.isEmpty with
   | true=>
    rw [hb] at hSe;have hsk:skip t=true:=by
     have:t=[]:=by simpa using hb
     subst this;rfl
    rw [if_pos hsk] at hstep;replace hstep:=hid hstep;replace hS:=hid hS;replace hsk:=hid hsk;replace hb:=hid hb
    gi_wp2
    exact ⟨KeepsOthers.refl W,fun _ _=>rfl,hI2.out.ext,hI2.out.size,hI2.out.c0,hI2.out.c1,hI2.out.c2,hI2.out.fk,hI2.out.fm,_,rows,hl1.out,hO.out,hA.out,hstep.out⟩
   | false=>
    obtain ⟨c,rt,rfl⟩:∃ c rt,t=c::rt:=by
     cases t with
     | nil=>cases hb
     | cons c rt=>exact ⟨c,rt,rfl⟩
    rw [hb] at hSe;have hSz:0 < S.size:=by rw [hS];show 0 < (c::rt).toArray.size;simp
    have hS0:S[0]=c:=by subst hS;rfl
    have hSzi:(0:Int) < (S.size:Int):=by omega
    have hc256:=c.toNat_lt
    by_cases h35:c.toNat=35
    ·have b1:((S[0].toNat:Int)==35)=true:=by rw [hS0,beq_iff_eq];omega
     have b1i:S[0].toNat=35:=by rw [hS0];exact h35
     have hsk:skip (c::rt)=true:=decide_eq_true h35;rw [if_pos hsk] at hstep;replace hstep:=hid hstep;replace hS:=hid hS;replace hS0:=hid hS0;replace hsk:=hid hsk;replace hb:=hid hb;replace h35:=hid h35
     gi_wp2
     exact ⟨KeepsOthers.refl W,fun _ _=>rfl,hI2.out.ext,hI2.out.size,hI2.out.c0,hI2.out.c1,hI2.out.c2,hI2.out.fk,hI2.out.fm,_,rows,hl1.out,hO.out,hA.out,hstep.out⟩
    ·have b1:((S[0].toNat:Int)==35)=false:=by rw [hS0,beq_eq_false_iff_ne];omega
     have b1i:¬ S[0].toNat=35:=by rw [hS0];exact h35
     have hsk:skip (c::rt)=false:=decide_eq_false h35;rw [if_neg (by rw [hsk];decide)] at hstep;replace hS0:=hid hS0;replace hsk:=hid hsk;replace hb:=hid hb;replace h35:=hid h35;clear hc256;generalize c::rt=t at*
     by_cases h100:rows.length=100
     ·rw [if_pos h100] at hstep
      have hbad:=hid (hstep.trans (congrArg Except.error hlenx.out.symm));have b2:((rows.length:Int)==100)=true:=by rw [beq_iff_eq];omega
      have b2i:(rows.length:Int)=100:=by omega
      have hc0:=hid hI2.out.c0;have hc1:=hid hI2.out.c1;have hc2:=hid hI2.out.c2;have hext:=hid hI2.out.ext;have hkw:=hid (KeepsOthers.refl W);replace hstep:=hid hstep;replace hS:=hid hS;replace h100:=hid h100;have z0:=zac hc0.out;have z1:=zac hc1.out;have z2:=zac hc2.out;have d0:=zaa hc0.out 0;have d1:=zaa hc1.out 0;have d2:=zaa hc2.out 0;simp at d0 d1 d2;have q0:=zc1 (v:=.slice none 0 0) hc0.out;have q1:=(zar _ (b:=R) 0 (.slice none 0 0) (by omega)).trans hc1.out;have q2:=(zar _ (b:=R) 0 (.slice none 0 0) (by omega)).trans hc2.out;have q1:=zc1 (v:=.int .i64 k) q1;have q0:=(zar _ (b:=R+1) 0 (.int .i64 k) (by omega)).trans q0;have q2:=(zar _ (b:=R+1) 0 (.int .i64 k) (by omega)).trans q2;have q2:=zc1 (v:=.int .i64 280) q2;have q0:=(zar _ (b:=R+1+1) 0 (.int .i64 280) (by omega)).trans q0;have q1:=(zar _ (b:=R+1+1) 0 (.int .i64 280) (by omega)).trans q1;have hm8:=(((Mod.refl (fun k=>R<=k) W).setCell (a:=⟨R,0,none⟩) (fun _=>by show R<=R;omega) (.slice none 0 0)).setCell (a:=⟨R+1,0,none⟩) (fun _=>by show R<=R+1;omega) (.int .i64 k)).setCell (a:=⟨R+1+1,0,none⟩) (fun _=>by show R<=R+1+1;omega) (.int .i64 280);have hk8:KeepsOthers W (((W.setCell ⟨R,0,none⟩ (.slice none 0 0)).setCell ⟨R+1,0,none⟩ (.int .i64 k)).setCell ⟨R+1+1,0,none⟩ (.int .i64 280)):=(((KeepsOthers.refl W).trans (KeepsOthers.setCell _ _ _)).trans (KeepsOthers.setCell _ _ _)).trans (KeepsOthers.setCell _ _ _);replace q0:=hid q0;replace q1:=hid q1;replace q2:=hid q2;replace hm8:=hid hm8;replace hk8:=hid hk8
      gi_wp2
      refine ⟨hkw.out.trans hk8.out,rfl,zaG (B:=R) hwR ((hext.out.mono (T:=fun k=>R<=k) (fun _ h=>h.elim)).trans hm8.out),q0.out,⟨pre,(k,t),rfl,q1.out⟩,q2.out,hbad.out⟩
     ·rw [if_neg h100] at hstep
      have b2:((rows.length:Int)==100)=false:=by rw [beq_eq_false_iff_ne];omega
      have b2i:¬ (rows.length:Int)=100:=by omega
      have hGW:=hG4.out.mod (S:=fun _=>False) (w':=w4) (Mod.refl _ w4) (fun _ h=>h.elim);have hpl:=fun hGG=>zft (F:=fun k=>R+3<=k/\k < X) (.slice ao 18 cap) t W hGG hI2.out.fm (fun k hk=>by omega) htl
      rw [<- hS] at hpl;replace hpl:=hid hpl;replace hstep:=hid hstep;replace hS:=hid hS
      gi_wp2
      refine ⟨trivial,callsIn_wide.2 ?_⟩;refine (hpl.out (hGw.out.ext hI2.out.ext)).mono ?_;rintro e W2 ⟨hx2,hPl⟩;have hst:=hstep.out;unfold PlE at hPl;replace hx2:=hid hx2;clear hpl hGW hstep;cases hL:zb0 t with
      | none=>
       rw [hL] at hPl hst;simp only at hPl hst;subst hPl;have hbad:=hid (hst.trans (congrArg Except.error hlenx.out.symm));obtain ⟨V,hVd⟩:∃ V:Array Value,V=zA9:=⟨_,rfl⟩;have hVs:Hid (V.size=36):=hid (by rw [hVd];rfl);have hV1:Hid (V.toList.all (·.oneCell')=true):=hid (by rw [hVd];rfl);replace hVd:=hid hVd;replace hst:=hid hst;replace hL:=hid hL
       gi_wp2_with (refine zcA rfl 32 _ _ rfl W2.heap.size _ V 32 rfl (by first | rfl | (rw [hVd.out];rfl)) (heap_alloc_new W2 _) (by rw [hVs.out];rfl) (by rw [hVs.out];kernel_rfl) hV1.out (fun WS HS=>Hid.out ?_))
       obtain ⟨zs,hzs⟩:∃ zs,Hid (Mod (Eq W2.heap.size) (W2.alloc (.cells zs 32)) WS):=⟨_,hid HS.out.2⟩;have hxT:Ext W2 WS:=(((Mod.alloc (Mod.refl (fun _=>False) W2) (.cells zs 32)).mono (T:=fun k=>W2.heap.size<=k) (fun _ h=>h.elim)).then hzs.out (fun k _ e=>by omega)).mono' (fun k h1 h2=>by omega);have hQc:=HS.out.1;obtain ⟨Q,hQe⟩:∃ Q,Q=W2.heap.size:=⟨_,rfl⟩;rw [<- hQe] at hQc ⊢;have hxWS:=hx2.out.trans hxT;have hkw:=hid (zbH hxWS (fun k o _ _ h=>h));have hQS:Q < WS.heap.size:=zat hQc;have hW2:W.heap.size<=Q:=by have:=hx2.out.size;omega
       replace hQe:=hid hQe;replace hQc:=hid hQc;have hc0:=hid (hxWS.at hI2.out.c0 (fun h=>h));have hc1:=hid (hxWS.at hI2.out.c1 (fun h=>h));have hc2:=hid (hxWS.at hI2.out.c2 (fun h=>h));have hext:=hid (hI2.out.ext.trans hxWS);have hkp:=hid (fun (k:Nat) (h:k < 10)=>hxWS.block k (by have:=hI2.out.size;omega) (fun h=>h));clear hzs hxT HS hxWS;refine hid ?_;have z0:=zac hc0.out;have z1:=zac hc1.out;have z2:=zac hc2.out;have d0:=zaa hc0.out 0;have d1:=zaa hc1.out 0;have d2:=zaa hc2.out 0;simp at d0 d1 d2;have q0:=zc1 (v:=.slice none 0 0) hc0.out;have q1:=(zar _ (b:=R) 0 (.slice none 0 0) (by omega)).trans hc1.out;have q2:=(zar _ (b:=R) 0 (.slice none 0 0) (by omega)).trans hc2.out;have q1:=zc1 (v:=.int .i64 k) q1;have q0:=(zar _ (b:=R+1) 0 (.int .i64 k) (by omega)).trans q0;have q2:=(zar _ (b:=R+1) 0 (.int .i64 k) (by omega)).trans q2;have q2:=zc1 (v:=.int .i64 280) q2;have q0:=(zar _ (b:=R+1+1) 0 (.int .i64 280) (by omega)).trans q0;have q1:=(zar _ (b:=R+1+1) 0 (.int .i64 280) (by omega)).trans q1;have hm8:=(((Mod.refl (fun k=>R<=k) WS).setCell (a:=⟨R,0,none⟩) (fun _=>by show R<=R;omega) (.slice none 0 0)).setCell (a:=⟨R+1,0,none⟩) (fun _=>by show R<=R+1;omega) (.int .i64 k)).setCell (a:=⟨R+1+1,0,none⟩) (fun _=>by show R<=R+1+1;omega) (.int .i64 280);have hk8:KeepsOthers WS (((WS.setCell ⟨R,0,none⟩ (.slice none 0 0)).setCell ⟨R+1,0,none⟩ (.int .i64 k)).setCell ⟨R+1+1,0,none⟩ (.int .i64 280)):=(((KeepsOthers.refl WS).trans (KeepsOthers.setCell _ _ _)).trans (KeepsOthers.setCell _ _ _)).trans (KeepsOthers.setCell _ _ _);replace q0:=hid q0;replace q1:=hid q1;replace q2:=hid q2;replace hm8:=hid hm8;replace hk8:=hid hk8
       gi_wp2
       refine ⟨hkw.out.trans hk8.out,rfl,zaG (B:=R) hwR ((hext.out.mono (T:=fun k=>R<=k) (fun _ h=>h.elim)).trans hm8.out),q0.out,⟨pre,(k,t),rfl,q1.out⟩,q2.out,hbad.out⟩
      | some a=>
       rw [hL] at hPl hst;simp only at hPl hst;obtain ⟨a1,n1,c1,a2,n2,c2,a3,n3,c3,a4,n4,c4,a5,n5,c5,rfl,hAa⟩:=hPl;obtain ⟨sv,hsv⟩:∃ sv:AV,sv=⟨⟨.slice a1 n1 c1,.slice a2 n2 c2,.slice a3 n3 c3⟩,.slice a4 n4 c4,.slice a5 n5 c5⟩:=⟨_,rfl⟩;rw [<- hsv] at hAa;obtain ⟨V,hV⟩:∃ V,V=acA a1 n1 c1 a2 n2 c2 a3 n3 c3 a4 n4 c4 a5 n5 c5 a:=⟨_,rfl⟩;rw [<- hV];have hVs:Hid (V.size=36):=hid (by rw [hV];rfl);have hV1:Hid (V.toList.all (·.oneCell')=true):=hid (by rw [hV];rfl);have hVc:Hid ([(sv,a)].flatMap acC=V.toList):=hid (by rw [hV,hsv];rfl);have h1c:Hid (∀ y ∈ [(sv,a)],∀ u ∈ acC y,u.oneCell'=true):=hid (fun y hy u hu=>by simp only [List.mem_singleton] at hy;subst hy;rw [hsv] at hu;exact zjV u hu);have hVd:=hid (rfl:V=V);replace hV:=hid hV;replace hsv:=hid hsv;replace hAa:=hid hAa;replace hst:=hid hst;replace hL:=hid hL
       gi_wp2_with (refine zcA rfl 32 _ _ rfl W2.heap.size _ V 32 rfl (by first | rfl | (rw [hVd.out];rfl)) (heap_alloc_new W2 _) (by rw [hVs.out];rfl) (by rw [hVs.out];kernel_rfl) hV1.out (fun WS HS=>Hid.out ?_))
       obtain ⟨zs,hzs⟩:∃ zs,Hid (Mod (Eq W2.heap.size) (W2.alloc (.cells zs 32)) WS):=⟨_,hid HS.out.2⟩;have hxT:Ext W2 WS:=(((Mod.alloc (Mod.refl (fun _=>False) W2) (.cells zs 32)).mono (T:=fun k=>W2.heap.size<=k) (fun _ h=>h.elim)).then hzs.out (fun k _ e=>by omega)).mono' (fun k h1 h2=>by omega);have hQc:=HS.out.1;obtain ⟨Q,hQe⟩:∃ Q,Q=W2.heap.size:=⟨_,rfl⟩;rw [<- hQe] at hQc ⊢;have hxWS:=hx2.out.trans hxT;have hkw:=hid (zbH hxWS (fun k o _ _ h=>h));have hQS:Q < WS.heap.size:=zat hQc;have hW2:W.heap.size<=Q:=by have:=hx2.out.size;omega
       replace hQe:=hid hQe;replace hQc:=hid hQc;have hxA:=Mod.alloc (Mod.refl (fun _=>False) WS) (.cells V 32);have hxWA:=hxWS.trans hxA;have hO2:=hid (hO.out.ext hxWA);have hrowA:Hid (zaR (WS.alloc (.cells V 32)) (some ⟨WS.heap.size,0,none⟩) ([(sv,a)].flatMap acC)):=hid (by rw [hVc.out];have:=zaR.new WS V.toList 32;rwa [show V.toList.toArray=V from by simp] at this);have lz:WS.cell? ⟨X+1,0,none⟩=some (.slice av rows.length cv):=zaa (hxWS.at hl1.out (fun h=>h)) 0;have hsWA:X+3<=(WS.alloc (.cells V 32)).heap.size:=by rw [World.size_alloc];have:=hI2.out.size;omega
       have hrl:Hid (rows.length+[(sv,a)].length<=137438953472):=hid (by simp only [List.length_singleton];omega);have hxT2:=hid (hxT.trans hxA);replace hxWA:=hid hxWA;replace hxWS:=hid hxWS;clear hzs hxT HS hxA;refine hid ?_
       gi_wp2_with (first | (refine zeO rfl 32 _ rfl Q V _ _ _ rfl hQc.out Tryz.underlying32 rfl (by rw [hVs.out];kernel_rfl) ?_) | (refine zey rfl _ _ rfl Tryz.underlying37 elA (by decide) V rfl hVs.out ?_) | (gi_at_builtin;refine zeM rfl _ _ _ rfl Tryz.underlying37 elA rfl hO2.out _ 1 1 rfl [(sv,a)] rfl hrowA.out zej h1c.out hrl.out hsWA (fun v6 w6 H6=>Hid.out ?_)))
       obtain ⟨hO6,hm6,hat⟩:=H6.out;obtain ⟨av6,cv6,rfl,-,-⟩:=hO6.row;obtain ⟨n6,hn6⟩:∃ n6,n6=(rows++[(sv,a)]).length:=⟨_,rfl⟩;rw [<- hn6] at hO6 hat ⊢;replace hn6:=hid hn6;have hmW:Mod (fun k=>(Value.slice av rows.length cv).ownBlock=some k) W w6:=(hxWA.out.mono (fun _ h=>h.elim)).trans hm6;have hob:∀ k,(Value.slice av rows.length cv).ownBlock=some k -> X+3<=k/\k < W.heap.size:=fun k e=>hO.out.block k e
       have hl6:=hmW.at hl1.out (fun e=>by have:=(hob _ e).1;omega);have lz6:=zaa hl6 0;simp at lz6;have zz6:=zac hl6;have hl9:=hid (zc1 (v:=.slice av6 n6 cv6) hl6);have m9:Mod (fun k=>(Value.slice av rows.length cv).ownBlock=some k \/ k=X+1) W (w6.setCell ⟨X+1,0,none⟩ (.slice av6 n6 cv6)):=(hmW.mono (fun _ h=>.inl h)).setCell (a:=⟨X+1,0,none⟩) (fun _=>.inr rfl) (.slice av6 n6 cv6)
       have k9:KeepsOthers W (w6.setCell ⟨X+1,0,none⟩ (.slice av6 n6 cv6)):=(zbH hmW (fun k o hk ho e=>by
        obtain ⟨c,hc⟩:=hO.out.cells e
        rw [hk] at hc;cases hc;cases ho)).trans (KeepsOthers.setCell _ _ _)
       have o9:=hid (hO6.mod ((Mod.refl (fun k=>k=X+1) w6).setCell (a:=⟨X+1,0,none⟩) (fun _=>rfl) (.slice av6 n6 cv6)) (fun k hk e=>by have:=(hO6.block k hk).1;omega));have hsW9:W2.heap.size<=(w6.setCell ⟨X+1,0,none⟩ (.slice av6 n6 cv6)).heap.size:=by
        have h1:=hm6.size;have h2:=hQe.out;rw [World.size_alloc] at h1;have h3:(w6.setCell ⟨X+1,0,none⟩ (.slice av6 n6 cv6)).heap.size=w6.heap.size:=by simp [World.setCell]
        omega
       have hat2:∀ k,k < WS.heap.size -> (Value.slice av rows.length cv).ownBlock ≠ some k -> (Value.slice av6 n6 cv6).ownBlock ≠ some k:=fun k hk hn e=>by
        rcases hat with h | h
        ·rw [h] at e;exact hn e
        ·rw [h,World.size_alloc] at e;injection e with e;omega
       have hA9:Hid (∀ p ∈ rows++[(sv,a)],AcAt (fun k=>X+3<=k/\k < (w6.setCell ⟨X+1,0,none⟩ (.slice av6 n6 cv6)).heap.size/\(Value.slice av6 n6 cv6).ownBlock ≠ some k) (w6.setCell ⟨X+1,0,none⟩ (.slice av6 n6 cv6)) p.1 p.2):=hid (fun p hp=>by
        have h2:=hQe.out;have h5:=hx2.out.size;rcases List.mem_append.1 hp with hp | hp
        ·refine ((hA.out p hp).mod m9 (fun k hk e=>?_)).mono (fun k hk=>⟨hk.1,by omega,hat2 k (by omega) hk.2.2⟩)
         rcases e with e | e
         ·exact hk.2.2 e
         ·omega
        ·simp only [List.mem_singleton] at hp
         subst hp;have h6:=hI2.out.size;have hnw:∀ k,W.heap.size<=k -> (Value.slice av rows.length cv).ownBlock ≠ some k:=fun k hk e=>by have:=(hob k e).2;omega
         have m29:Mod (fun k=>(Value.slice av rows.length cv).ownBlock=some k \/ k=X+1) W2 (w6.setCell ⟨X+1,0,none⟩ (.slice av6 n6 cv6)):=(((hxT2.out.mono (fun _ h=>h.elim)).trans hm6).mono (fun _ h=>.inl h)).setCell (a:=⟨X+1,0,none⟩) (fun _=>.inr rfl) (.slice av6 n6 cv6);refine (hAa.out.mod m29 (fun k hk e=>?_)).mono (fun k hk=>⟨by omega,by omega,hat2 k (by omega) (hnw k hk.1)⟩);rcases e with e | e
         ·exact hnw k hk.1 e
         ·omega)
       replace m9:=hid m9;replace k9:=hid k9;clear hO6 hm6 hat hmW hob H6 hat2;replace hl6:=hid hl6;refine hid ?_
       gi_wp2
       have hne:∀ k,k < X+3 -> k ≠ X+1 -> ¬ ((Value.slice av rows.length cv).ownBlock=some k \/ k=X+1):=fun k h1 h2 h=>by
        rcases h with h | h
        ·have:=(hO.out.block k h).1;omega
        ·exact h2 h
       have hsI:=hI2.out.size;refine ⟨k9.out,fun k hk=>m9.out.block k (by omega) (hne k (by omega) (by omega)),zaG (B:=R) hwR ((hI2.out.ext.mono (T:=fun k=>R<=k) (fun _ h=>h.elim)).trans (m9.out.mono (fun k hk=>?_))),by have:=m9.out.size;omega,m9.out.at hI2.out.c0 (hne _ (by omega) (by omega)),m9.out.at hI2.out.c1 (hne _ (by omega) (by omega)),m9.out.at hI2.out.c2 (hne _ (by omega) (by omega)),m9.out.at hI2.out.fk (hne _ (by omega) (by omega)),hI2.out.fm.mod m9.out (fun k hk=>hne k (by omega) (by omega)),_,_,hl9.out,o9.out,hA9.out,by rw [hst.out,List.map_append];rfl⟩;rcases hk with hk | hk
       ·have:=(hO.out.block k hk).1;omega
       ·omega
  case done=>
   rintro Dk xs W hDk hxs hI hK;obtain ⟨v,rows,hl1,hO,hA,hpf⟩:=hI.lst;obtain ⟨av,cv,rfl,-,-⟩:=hO.row;obtain ⟨mm,hmm,hr100,-,-⟩:=zdc hpf (by simp);rw [List.length_map] at hr100;rw [hxs,zfq] at hpf;have hDo:=hid (hDe.out.trans hpf);have hl1z:=zaa hl1 0;simp at hl1z;have z0:=zac hI.c0;have z1:=zac hI.c1;have z2:=zac hI.c2;have d0:=zaa hI.c0 0;have d1:=zaa hI.c1 0;have d2:=zaa hI.c2 0;simp at d0 d1 d2;have q0:=zc1 (v:=.slice av rows.length cv) hI.c0;have q1:=(zar _ (b:=R) 0 (.slice av rows.length cv) (by omega)).trans hI.c1;have q2:=(zar _ (b:=R) 0 (.slice av rows.length cv) (by omega)).trans hI.c2;have q1:=zc1 (v:=.int .i64 0) q1;have q0:=(zar _ (b:=R+1) 0 (.int .i64 0) (by omega)).trans q0;have q2:=(zar _ (b:=R+1) 0 (.int .i64 0) (by omega)).trans q2;have q2:=zc1 (v:=.int .i64 0) q2;have q0:=(zar _ (b:=R+1+1) 0 (.int .i64 0) (by omega)).trans q0;have q1:=(zar _ (b:=R+1+1) 0 (.int .i64 0) (by omega)).trans q1;have hm8:Mod (fun k=>k=R \/ k=R+1 \/ k=R+1+1) W (((W.setCell ⟨R,0,none⟩ (.slice av rows.length cv)).setCell ⟨R+1,0,none⟩ (.int .i64 0)).setCell ⟨R+1+1,0,none⟩ (.int .i64 0)):=(((Mod.refl _ W).setCell (a:=⟨R,0,none⟩) (fun _=>.inl rfl) (.slice av rows.length cv)).setCell (a:=⟨R+1,0,none⟩) (fun _=>.inr (.inl rfl)) (.int .i64 0)).setCell (a:=⟨R+1+1,0,none⟩) (fun _=>.inr (.inr rfl)) (.int .i64 0);have hsI:=hI.size;have hext:=hid (hI.ext);replace hm8:=hid hm8;replace q0:=hid q0;replace q1:=hid q1;replace q2:=hid q2;replace hl1:=hid hl1;replace hO:=hid hO;replace hA:=hid hA;replace hI:=hid hI;replace hK:=hid hK;replace hxs:=hid hxs;replace hpf:=hid hpf;clear hmm;go_wp2_with fail
   generalize (((W.setCell ⟨R,0,none⟩ (.slice av rows.length cv)).setCell ⟨R+1,0,none⟩ (.int .i64 0)).setCell ⟨R+1+1,0,none⟩ (.int .i64 0))=W8 at hm8 q0 q1 q2 ⊢;have hK8:W8.heap[Dk]?=some (.deferred (some [])):=hm8.out.at hK.out (by omega);have hgD:W8.grownBy (W8.putObj Dk (.deferred none)) (some Dk):=grownBy_putObj' W8 Dk _;have hrD:∀ r,some Dk=some r -> ∃ o:Obj,W8.heap[r]?=some o/\o.isCells=false:=fun r e=>by cases e;exact ⟨_,hK8,rfl⟩
   have p0:=zao hgD hrD q0.out;have p1:=zao hgD hrD q1.out;have p2:=zao hgD hrD q2.out;have hszD:(W8.putObj Dk (.deferred none)).heap.size=W8.heap.size:=by simp
   have hs8:=hm8.out.size;try simp only [Exit.noGoto_normal]
   refine ⟨by simp,.inl ⟨_,_,rfl,run_takeDeferred hK8,?_⟩⟩;refine ⟨_,zdB rfl _ _ ⟨R,0,none⟩ ⟨R+1,0,none⟩ ⟨R+1+1,0,none⟩ (.slice av rows.length cv) (.int .i64 0) (.int .i64 0) rfl rfl rfl Tryz.underlying37 Tryz.underlying3 Tryz.underlying39 rfl rfl rfl (zaa p0 0) (zaa p1 0) (zaa p2 0),?_⟩;rw [hPa.out,hDo.out];refine ⟨zaG (B:=R) hwR (((hext.out.mono (T:=fun k=>R<=k) (fun _ h=>h.elim)).trans (hm8.out.mono (fun k hk=>by omega))).trans (Mod.ofGrown hgD (fun k hk=>by injection hk with hk;omega))),av,cv,by rw [List.length_map],rows,rfl,?_,fun p hp=>?_⟩
   ·rw [List.length_map]
    exact zai.mono (zbM (zcb hgD hrD (hO.out.mod hm8.out (fun k hk e=>by have:=(hO.out.block k hk).1;omega))) (by omega)) (fun k hk=>⟨by omega,hk.2⟩)
   ·exact (ze9 hgD hrD ((hA.out p hp).mod hm8.out (fun k hk e=>by omega))).mono (fun k hk=>⟨by omega,by omega⟩)
  case stop=>
   rintro Dk cc pre W hDk hpre ⟨rfl,hX2⟩ hK;obtain ⟨p0,x,rfl,hc1⟩:=hX2.c1;have hgD:W.grownBy (W.putObj Dk (.deferred none)) (some Dk):=grownBy_putObj' W Dk _;have hrD:∀ r,some Dk=some r -> ∃ o:Obj,W.heap[r]?=some o/\o.isCells=false:=fun r e=>by cases e;exact ⟨_,hK,rfl⟩
   have q0:=zao hgD hrD hX2.c0;have q1:=zao hgD hrD hc1;have q2:=zao hgD hrD hX2.c2;obtain ⟨qq,hqq⟩:=hpre;have hx1':x.1=1+p0.length:=zhP (parts 10 s) 1 p0 x qq (by rw [<- hqq];simp);have hDn:D=.error (p0.length+1):=by
    rw [hDe.out,<- zfq 1 (parts 10 s),<- hqq,List.map_append,zcO,hX2.bad];simp
   have hext:=hid hX2.ext;have hKh:=hid hK;replace q0:=hid q0;replace q1:=hid q1;replace q2:=hid q2;replace hDn:=hid hDn;replace hx1':=hid hx1';replace hX2:=hid hX2;replace hgD:=hid hgD;clear hK hrD hc1 hqq;refine (wpIn_wide (n:=3)).2 ?_;go_wp2_with fail
   try simp only [Exit.noGoto_normal]
   refine ⟨by simp,.inl ⟨_,_,rfl,run_takeDeferred hKh.out,?_⟩⟩;refine ⟨_,zdB rfl _ _ ⟨R,0,none⟩ ⟨R+1,0,none⟩ ⟨R+1+1,0,none⟩ (.slice none 0 0) (.int .i64 x.1) (.int .i64 280) rfl rfl rfl Tryz.underlying37 Tryz.underlying3 Tryz.underlying39 rfl rfl rfl (zaa q0.out 0) (zaa q1.out 0) (zaa q2.out 0),?_⟩;rw [hPa.out,hDn.out];exact ⟨zaG (B:=R) hwR ((hext.out.mono (T:=fun k=>R<=k) (fun _ h=>h.elim)).trans (Mod.ofGrown hgD.out (fun k hk=>by injection hk with hk;omega))),by rw [hx1'.out,Nat.add_comm];rfl⟩
end Go.Proofs.YtjjfphalcibjfaaGreatDoor
