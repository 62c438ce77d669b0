import Derived.Test.YtcopgcdhkgenkaaGreatDoorBigArr
import Derived.Test.YtcopgcdhkgenkaaGreatDoorE5
import Derived.RangeFuncNested
import Derived.RangeFuncBound
import Derived.RangeFuncCalls
import Derived.RangeFuncLeaves
import Derived.RangeFuncBox
import Derived.Shelf.RegionOpen
import Derived.OwnWalkIn
import Derived.TacticsInMore
import Derived.LoopNIn
import Derived.LoopIn
import Derived.WalkMore
import Derived.Deep.CutBlock
import Derived.Test.YtcopgcdhkgenkaaGreatDoorSC0
import Derived.Test.YtcopgcdhkgenkaaGreatDoorShelf
import Derived.Test.YtcopgcdhkgenkaaGreatDoorMapIter
import Derived.Laws.EntriesVeiled
set_option linter.all false
set_option maxRecDepth 100000
set_option maxHeartbeats 16000000
namespace Go.Proofs.YtcopgcdhkgenkaaGreatDoor
open Go.Shelf Go.RowKit Cdk Scr
attribute [local go_sem] Oper.semAt_some
def byteV (c:UInt8):Value:=.int .u8 c.toNat
theorem grp_small {f z:Nat} (h:z < 128):grpF (f+1) z=[UInt8.ofNat z]:=by rw [grpF,if_pos h]
theorem grp_big {f z:Nat} (h:¬ z < 128):grpF (f+1) z=UInt8.ofNat (z % 128+128)::grpF f (z / 128):=by rw [grpF,if_neg h]
theorem grp_len:∀ (f z:Nat),(grpF f z).length<=f
 | 0,_=>by simp [grpF]
 | f+1,z=>by
  by_cases h:z < 128
  ·rw [grp_small h];simp
  ·rw [grp_big h];have:=grp_len f (z / 128);simp;omega
theorem byteV_nat {n:Nat} (h:n < 256):byteV (UInt8.ofNat n)=.int .u8 n:=by
 unfold byteV
 rw [UInt8.toNat_ofNat_of_lt' (by simpa using h)]
theorem groups_in (n l Bn:Nat) (hn:1<=n) (z:Nat) (hz:z < 18446744073709551616) (J Jx:List UInt8 -> World -> Prop)
  (hY:∀ pre x W,J pre W -> pre.length < 10 -> YieldAt Fence.wide (n - 1) Tryz.prog l #[byteV x] W fun e W'=>
   (e=.returned (.bool true)/\J (pre++[x]) W'/\True) \/ (e=.returned (.bool false)/\Jx (pre++[x]) W'))
  (W:World) (hc:W.cell? ⟨Bn,0,none⟩=some (.int .u64 z)) (h0:J [] W):
  CallsIn Fence.wide n Tryz.prog 133 #[.func (.yield l) #[] #[],.pointer (some ⟨Bn,0,none⟩)] W fun e W'=>(∃ v,e=.returned v) ∧
   ((∃ ys,ys=grpF 10 z/\J ys W') \/ (∃ pre,pre <+:grpF 10 z/\Jx pre W')):=by
 refine callsIn_wide.2 ?_
 go_enter Tryz.func133,Tryz.ntmps133
 obtain ⟨SC,hSC⟩:∃ SC,SC=grpF 10 z:=⟨_,rfl⟩
 rw [<- hSC]
 replace hY:=hid hY
 go_wp2_with fail
 go_loopg [3] 10 (fun g r wr=>∃ (pre:List UInt8) (q:Nat),r=.int .u64 q/\q < 18446744073709551616/\q < 128 ^ g/\1<=g/\SC=pre++grpF g q/\J pre wr/\pre.length+g=10)
 case atStart=>exact ⟨[],z,rfl,hz,Nat.lt_of_lt_of_le hz (by decide),by omega,by rw [hSC];rfl,h0,rfl⟩
 case round=>
  clear h0 hc hSC
  obtain ⟨pre,q,rfl,hq64,hq,hg,hsc,hJp,hlen⟩:=hrel
  obtain ⟨g,rfl⟩:∃ g,gk=g+1:=⟨gk - 1,by omega⟩
  replace hq:=hid hq
  replace hsc:=hid hsc
  replace hlen:=hid hlen
  replace hJp:=hid hJp
  by_cases hlt:q < 128
  ·have hd:decide ((128:Int)<=(q:Int))=false:=decide_eq_false (by omega)
   have hdi:¬ (128:Int)<=(q:Int):=by omega
   have e1:=hid (grp_small (f:=g) hlt)
   have hy:=hY.out pre (UInt8.ofNat q) wr hJp.out (by have:=hlen.out;omega)
   rw [byteV_nat (by omega)] at hy
   obtain ⟨yfn,ytmps,yassign,ybody,hyr,hyR⟩:=hy
   replace hyR:=hid hyR
   go_upto_region 4 with fail
   refine (wpIn_wide (n:=n)).1 ?_
   gi_wp2
   refine hyR.out.mono ?_
   have hfull:pre++[UInt8.ofNat q]=SC:=by rw [hsc.out,e1.out]
   replace hfull:=hid hfull
   rintro e' W3 (⟨rfl,hJ3,-⟩ | ⟨rfl,hJx3⟩)
   ·replace hJ3:=hid hJ3
    gi_wp2
    go_end0
    exact ⟨⟨_,rfl⟩,.inl ⟨_,hfull.out,hJ3.out⟩⟩
   ·replace hJx3:=hid hJx3
    gi_wp2
    go_end0
    exact ⟨⟨_,rfl⟩,.inr ⟨_,by rw [hfull.out];exact List.prefix_refl _,hJx3.out⟩⟩
  ·have hd:decide ((128:Int)<=(q:Int))=true:=decide_eq_true (by omega)
   have hdi:(128:Int)<=(q:Int):=by omega
   have e1:=hid (grp_big (f:=g) hlt)
   have hg1:1<=g:=by
    rcases Nat.eq_zero_or_pos g with h0 | h0
    ·have:=hq.out
     rw [h0] at this;simp at this;omega
    ·exact h0
   have hy:=hY.out pre (UInt8.ofNat (q % 128+128)) wr hJp.out (by have:=hlen.out;omega)
   rw [byteV_nat (by omega),show ((q % 128+128:Nat):Int)=(q:Int) % 128+128 from by omega] at hy
   obtain ⟨yfn,ytmps,yassign,ybody,hyr,hyR⟩:=hy
   replace hyR:=hid hyR
   go_upto_region 2 with fail
   refine (wpIn_wide (n:=n)).1 ?_
   gi_wp2
   refine hyR.out.mono ?_
   rintro e' W3 (⟨rfl,hJ3,-⟩ | ⟨rfl,hJx3⟩)
   ·replace hJ3:=hid hJ3
    gi_wp2
    go_wp2_with fail
    go_roundg g
    case measure=>omega
    case rel=>exact ⟨pre++[UInt8.ofNat (q % 128+128)],q / 128,by go_num,by omega,by have:=hq.out;rw [Nat.pow_succ] at this;exact Nat.div_lt_of_lt_mul (by omega),hg1,by rw [hsc.out,e1.out];simp,hJ3.out,by have:=hlen.out;simp;omega⟩
   ·replace hJx3:=hid hJx3
    gi_wp2
    go_wp2_with fail
    try simp only [Exit.noGoto_normal]
    refine bodyPost_ret (results_none rfl _ _ _) rfl ?_
    exact ⟨⟨_,rfl⟩,.inr ⟨pre++[UInt8.ofNat (q % 128+128)],⟨grpF g (q / 128),by rw [hsc.out,e1.out];simp⟩,hJx3.out⟩⟩
theorem groups_seq (n Bn:Nat) (hn:1<=n) (z:Nat) (hz:z < 18446744073709551616) (w:World) (hB:Bn < w.heap.size) (hc:w.cell? ⟨Bn,0,none⟩=some (.int .u64 z)):
  SeqStopsK Fence.wide n Tryz.prog 133 #[.pointer (some ⟨Bn,0,none⟩)] (fun x=>#[byteV x]) (fun _ _=>True) (fun ys=>ys=grpF 10 z) (fun pre=>pre <+:grpF 10 z) 10 w:=fun l J Jx W hW _ _ hY h0=>
 groups_in n l Bn hn z hz J Jx hY W ((hW.cell (p:=⟨Bn,0,none⟩) hB).trans hc) h0
theorem groups_any (z:Nat) (w:World):Calls Tryz.prog 85 #[.int .u64 z] w fun e w'=>e=.returned (.func (.func 133) #[] #[.pointer (some ⟨w.heap.size,0,none⟩)])/\w'=w.alloc (.cells #[.int .u64 z] 175):=by
 go_enter Tryz.func85,Tryz.ntmps85
 go_wp2_with fail
 go_ret
 exact ⟨rfl,rfl⟩
theorem ext_grown {w W W':World} {row:Option Nat} (h:Ext w W) (hg:W.grownBy W' row) (hr:∀ r,row=some r -> w.heap.size<=r):Ext w W':=
 ⟨hg.os.trans h.os,hg.tape.trans h.tape,hg.output.trans h.output,Nat.le_trans h.size hg.size,fun k hk _=>(hg.block k (Nat.lt_of_lt_of_le hk h.size) (fun e=>by have:=hr k e.symm;omega)).trans (h.block k hk (fun h=>h))⟩
theorem grown_cells {W W':World} {row:Option Nat} (hg:W.grownBy W' row) (hrow:∀ r,row=some r -> ∃ o:Obj,W.heap[r]?=some o/\o.isCells=false) {k:Nat} {c:Array Value} {t:TypeId} {fr:Nat × Nat}
  (hk:W.heap[k]?=some (.cells c t fr)):W'.heap[k]?=some (.cells c t fr):=(grownBy_keeps_cells hg hrow hk rfl).trans hk
theorem put_ne (w:World) {b k:Nat} (j:Nat) (v:Value) (h:k ≠ b):(w.setCell ⟨b,j,none⟩ v).heap[k]?=w.heap[k]?:=Below.heap_setCell w ⟨b,j,none⟩ v k h
theorem put1 {w:World} {b:Nat} {x v:Value} {t:TypeId} {fr:Nat × Nat} (h:w.heap[b]?=some (.cells #[x] t fr)):(w.setCell ⟨b,0,none⟩ v).heap[b]?=some (.cells #[v] t fr):=by
 simp only [World.setCell,Array.getElem?_modify,if_true]
 rw [h]
 simp
structure PutI (w:World) (R:Nat) (pre:List UInt8) (W:World):Prop where
 ext:Ext w W
 len:pre.length<=10
 bytes:∃ rest:List Value,rest.length=10 - pre.length/\W.heap[R]?=some (.cells (pre.map byteV++rest).toArray 176 (0,0))
 size:W.heap[R+1]?=some (.cells #[.int .i64 pre.length] 3 (0,0))
theorem putI_round {w W:World} {R m:Nat} {pre:List UInt8} {x:UInt8} {r0:Value} {rest:List Value} (hRw:w.heap.size<=R) (h:PutI w R pre W) (hm:m=pre.length) (hrl:(r0::rest).length=10 - pre.length)
  (hb:W.heap[R]?=some (.cells (pre.map byteV++r0::rest).toArray 176 (0,0))):
  KeepsOthers W ((W.setCell ⟨R,m,none⟩ (.int .u8 x.toNat)).setCell ⟨R+1,0,none⟩ (.int .i64 ((m:Int)+1)))/\True/\PutI w R (pre++[x]) ((W.setCell ⟨R,m,none⟩ (.int .u8 x.toNat)).setCell ⟨R+1,0,none⟩ (.int .i64 ((m:Int)+1))):=by
 refine ⟨(KeepsOthers.setCell _ _ _).trans (KeepsOthers.setCell _ _ _),trivial,?_,?_,⟨rest,?_,?_⟩,?_⟩
 ·exact (h.ext.setCell (fun e=>by have:R < w.heap.size:=e;omega) _).setCell (fun e=>by have:R+1 < w.heap.size:=e;omega) _
 ·simp only [List.length_cons,List.length_append,List.length_nil] at hrl ⊢;omega
 ·simp only [List.length_cons,List.length_append,List.length_nil] at hrl ⊢;omega
 ·rw [put_ne _ 0 _ (by omega),put_at' hb m]
  subst hm
  simp [byteV]
 ·have h1:=(put_ne W (b:=R) (k:=R+1) m (.int .u8 x.toNat) (by omega)).trans h.size
  rw [put1 h1,hm]
  simp
theorem bytes_slice (W:World) (R m:Nat) (hm:m<=10):(Instr.sliceAt 176 (.pointer (some ⟨R,0,none⟩)) none (some (.int .i64 m)) none).run Tryz.prog W=.ok (.slice (some ⟨R,0,none⟩) m 10) W:=by
 have h10:Tryz.prog.arrayLen 176=10:=by kernel_rfl
 rw [run_sliceAt_array_h W 176 ⟨R,0,none⟩ (by kernel_rfl) .i64 m (by omega) (by rw [h10];omega),h10]
 have hs:(sizeOf (Tryz.prog.elem 176)).run Tryz.prog W=.ok 1 W:=by kernel_rfl
 rw [hs]
 simp [Result.andThen,slicedAt,Addr.add]
theorem bytes_text (W:World) (R:Nat) (xs:List UInt8) (rest:List Value) (hb:W.heap[R]?=some (.cells (xs.map byteV++rest).toArray 176 (0,0))):
  (convert 38 9 (.slice (some ⟨R,0,none⟩) xs.length 10)).run Tryz.prog W=.ok (.string ⟨xs.toArray⟩) W:=by
 refine run_convert_bytes_back W _ _ _ ⟨R,0,none⟩ 10 xs Tryz.underlying38 Tryz.underlying5 Tryz.underlying9 (fun j hj=>?_)
 rw [show (⟨R,0,none⟩:Addr).add j=⟨R,j,none⟩ by rw [Addr.add_lit,Nat.zero_add],cell_of' hb j]
 simp [List.getElem?_append_left,hj,byteV]
theorem putI_own (w:World) (R B:Nat) (hB:w.heap.size<=B):OwnFrom B (fun p W=>PutI w R p W):=by
 intro p W W' row h hg hrow
 have hr:=fun r e=>(hrow r e).2
 obtain ⟨rest,hl,hb⟩:=h.bytes
 exact ⟨ext_grown h.ext hg (fun r e=>by have:=(hrow r e).1;omega),h.len,⟨rest,hl,grown_cells hg hr hb⟩,grown_cells hg hr h.size⟩
theorem putInt_any (n:Int) (h1:-4611686018427387903<=n) (h2:n<=4611686018427387903) (w:World):
  Calls Tryz.prog 45 #[.int .i64 n] w fun e w'=>e=.returned (.tuple #[.string ⟨(putI n).toArray⟩,.int .i64 0])/\Ext w w':=by
 by_cases hneg:n < 0
 ·have hz:(2*-n - 1:Int)=((zz n:Nat):Int):=by unfold zz;split <;> omega
  have hz64:zz n < 18446744073709551616:=by unfold zz;split <;> omega
  have hput:Hid (putI n=grpF 10 (zz n)):=hid (by unfold putI;rw [if_neg (by omega)])
  refine (callsIn_wide (n:=3)).1 ?_
  refine callsIn_of_wp_marks Tryz.func45 rfl trivial ?_ rfl
  simp only [Tryz.ntmps45,List.size_toArray,List.length_cons,List.length_nil,Nat.reduceAdd,Nat.reduceSub,Array.replicate_succ,Array.replicate_zero,List.push_toArray,List.append_toArray,List.nil_append,List.cons_append]
  refine (wpIn_wide (n:=3)).2 ?_
  go_wp2_with fail
  try rw [hz]
  refine (groups_any _ _).mono ?_;rintro e w' ⟨rfl,rfl⟩
  go_wp2_with fail
  try simp only [World.size_alloc]
  obtain ⟨R,hR⟩:∃ R,R=w.heap.size:=⟨_,rfl⟩
  simp only [<- hR]
  generalize zz n=Z at hz64 hput ⊢
  clear hz
  have hx4:=(((Mod.refl (fun _=>False) w).alloc (.cells #[.int .u8 0,.int .u8 0,.int .u8 0,.int .u8 0,.int .u8 0,.int .u8 0,.int .u8 0,.int .u8 0,.int .u8 0,.int .u8 0] 176)).alloc (.cells #[.int .i64 0] 3)).alloc (.cells #[.int .u64 Z] 175)
  have hg4:∀ k,(((w.alloc (.cells #[.int .u8 0,.int .u8 0,.int .u8 0,.int .u8 0,.int .u8 0,.int .u8 0,.int .u8 0,.int .u8 0,.int .u8 0,.int .u8 0] 176)).alloc (.cells #[.int .i64 0] 3)).alloc (.cells #[.int .u64 Z] 175)).heap[k]?=
    if k=R+1+1 then some (.cells #[.int .u64 Z] 175 (0,0)) else if k=R+1 then some (.cells #[.int .i64 0] 3 (0,0)) else if k=R then some (.cells #[.int .u8 0,.int .u8 0,.int .u8 0,.int .u8 0,.int .u8 0,.int .u8 0,.int .u8 0,.int .u8 0,.int .u8 0,.int .u8 0] 176 (0,0)) else w.heap[k]?:=by
   intro k
   simp only [alloc_get,World.size_alloc,<- hR]
  have hs4:(((w.alloc (.cells #[.int .u8 0,.int .u8 0,.int .u8 0,.int .u8 0,.int .u8 0,.int .u8 0,.int .u8 0,.int .u8 0,.int .u8 0,.int .u8 0] 176)).alloc (.cells #[.int .i64 0] 3)).alloc (.cells #[.int .u64 Z] 175)).heap.size=R+3:=by simp only [World.size_alloc,<- hR]
  generalize (((w.alloc (.cells #[.int .u8 0,.int .u8 0,.int .u8 0,.int .u8 0,.int .u8 0,.int .u8 0,.int .u8 0,.int .u8 0,.int .u8 0,.int .u8 0] 176)).alloc (.cells #[.int .i64 0] 3)).alloc (.cells #[.int .u64 Z] 175))=w4 at hx4 hg4 hs4 ⊢
  have k0:=hg4 R
  have k1:=hg4 (R+1)
  have k2:=hg4 (R+1+1)
  rw [if_neg (by omega),if_neg (by omega),if_pos rfl] at k0
  rw [if_neg (by omega),if_pos rfl] at k1
  rw [if_pos rfl] at k2
  have hcz:w4.cell? ⟨R+1+1,0,none⟩=some (.int .u64 Z):=by rw [cell_of' k2];rfl
  have hI0:PutI w R [] w4:=⟨hx4,by simp,⟨_,by rfl,k0⟩,k1⟩
  clear hg4
  have hwR:w.heap.size<=R:=Nat.le_of_eq hR.symm
  replace hR:=hid hR
  have hseq:=groups_seq 2 (R+1+1) (by omega) Z hz64 w4 (by omega) hcz
  refine (wpIn_wide (n:=3)).1 ?_
  refine wpIn_rangeFunc_ownF (F:=Fence.wide) rfl (by omega) (gf:=133) (lb:=#[.pointer (some ⟨R+1+1,0,none⟩)]) rfl trivial (enters_of Tryz.func133 (by kernel_rfl) rfl)
   hseq (fun _ _=>trivial) (fun _ _ _ _ _ _ _ _=>trivial) (Below.refl _ _) (fun _=>rfl) (fun pre W=>PutI w R pre W) (fun _ _ _=>False)
   (putI_own w R w4.heap.size (by omega)) (fun c s W W' row h _ _=>h) hI0 ?aa1 ?assign1 ?body1 ?done1 (fun D c pre W _ _ h=>h.elim)
  case assign1=>
   intro l x W K hK
   unfold byteV
   gi_wp2
   exact hK
  case body1=>
   rintro l pre x W hI hlen
   obtain ⟨rest,hrl,hb⟩:=hI.bytes
   obtain ⟨r0,rest,rfl⟩:∃ r0 r,rest=r0::r:=by
    cases rest with
    | nil=>simp at hrl;omega
    | cons a b=>exact ⟨a,b,rfl⟩
   obtain ⟨m,hm⟩:∃ m,m=pre.length:=⟨_,rfl⟩
   have c0:W.cell? ⟨R+1,0,none⟩=some (.int .i64 m):=by rw [cell_of' hI.size,hm];rfl
   have z0:=free_of' hI.size
   have c1:W.cell? ⟨R,m,none⟩=some r0:=by rw [cell_of' hb,hm];simp
   have z1:=free_of' hb
   have hm10:m < 10:=by omega
   have hmi:(m:Int) < 10:=by omega
   replace hm:=hid hm
   replace hI:=hid hI
   replace hb:=hid hb
   replace hrl:=hid hrl
   gi_wp2
   exact putI_round hwR hI.out hm.out hrl.out hb.out
  case done1=>
   rintro D xs W hD hxs hI hK
   obtain ⟨rest,hrl,hb⟩:=hI.bytes
   obtain ⟨m,hm⟩:∃ m,m=xs.length:=⟨_,rfl⟩
   have c0:W.cell? ⟨R+1,0,none⟩=some (.int .i64 m):=by rw [cell_of' hI.size,hm];rfl
   have hm10:m<=10:=by have:=hI.len;omega
   have hsl:=bytes_slice W R m hm10
   have hcv:=bytes_text W R xs rest hb
   rw [<- hm] at hcv
   replace hm:=hid hm
   replace hI:=hid hI
   replace hb:=hid hb
   replace hrl:=hid hrl
   replace hxs:=hid hxs
   replace hK:=hid hK
   go_wp2_with fail
   have hgD:W.grownBy (W.putObj D (.deferred none)) (some D):=grownBy_putObj' W D _
   refine ⟨by simp,.inl ⟨_,_,rfl,run_takeDeferred hK.out,?_⟩⟩
   refine ⟨_,by simp [results,Tryz.func45,go_sem];rfl,?_⟩
   exact ⟨by rw [hput.out,<- hxs.out],ext_grown hI.out.ext hgD (fun r e=>by cases e;omega)⟩
 ·have hz:(2*n:Int)=((zz n:Nat):Int):=by unfold zz;split <;> omega
  have hz64:zz n < 18446744073709551616:=by unfold zz;split <;> omega
  have hput:Hid (putI n=grpF 10 (zz n)):=hid (by unfold putI;rw [if_neg (by omega)])
  refine (callsIn_wide (n:=3)).1 ?_
  refine callsIn_of_wp_marks Tryz.func45 rfl trivial ?_ rfl
  simp only [Tryz.ntmps45,List.size_toArray,List.length_cons,List.length_nil,Nat.reduceAdd,Nat.reduceSub,Array.replicate_succ,Array.replicate_zero,List.push_toArray,List.append_toArray,List.nil_append,List.cons_append]
  refine (wpIn_wide (n:=3)).2 ?_
  go_wp2_with fail
  try rw [hz]
  refine (groups_any _ _).mono ?_;rintro e w' ⟨rfl,rfl⟩
  go_wp2_with fail
  try simp only [World.size_alloc]
  obtain ⟨R,hR⟩:∃ R,R=w.heap.size:=⟨_,rfl⟩
  simp only [<- hR]
  generalize zz n=Z at hz64 hput ⊢
  clear hz
  have hx4:=(((Mod.refl (fun _=>False) w).alloc (.cells #[.int .u8 0,.int .u8 0,.int .u8 0,.int .u8 0,.int .u8 0,.int .u8 0,.int .u8 0,.int .u8 0,.int .u8 0,.int .u8 0] 176)).alloc (.cells #[.int .i64 0] 3)).alloc (.cells #[.int .u64 Z] 175)
  have hg4:∀ k,(((w.alloc (.cells #[.int .u8 0,.int .u8 0,.int .u8 0,.int .u8 0,.int .u8 0,.int .u8 0,.int .u8 0,.int .u8 0,.int .u8 0,.int .u8 0] 176)).alloc (.cells #[.int .i64 0] 3)).alloc (.cells #[.int .u64 Z] 175)).heap[k]?=
    if k=R+1+1 then some (.cells #[.int .u64 Z] 175 (0,0)) else if k=R+1 then some (.cells #[.int .i64 0] 3 (0,0)) else if k=R then some (.cells #[.int .u8 0,.int .u8 0,.int .u8 0,.int .u8 0,.int .u8 0,.int .u8 0,.int .u8 0,.int .u8 0,.int .u8 0,.int .u8 0] 176 (0,0)) else w.heap[k]?:=by
   intro k
   simp only [alloc_get,World.size_alloc,<- hR]
  have hs4:(((w.alloc (.cells #[.int .u8 0,.int .u8 0,.int .u8 0,.int .u8 0,.int .u8 0,.int .u8 0,.int .u8 0,.int .u8 0,.int .u8 0,.int .u8 0] 176)).alloc (.cells #[.int .i64 0] 3)).alloc (.cells #[.int .u64 Z] 175)).heap.size=R+3:=by simp only [World.size_alloc,<- hR]
  generalize (((w.alloc (.cells #[.int .u8 0,.int .u8 0,.int .u8 0,.int .u8 0,.int .u8 0,.int .u8 0,.int .u8 0,.int .u8 0,.int .u8 0,.int .u8 0] 176)).alloc (.cells #[.int .i64 0] 3)).alloc (.cells #[.int .u64 Z] 175))=w4 at hx4 hg4 hs4 ⊢
  have k0:=hg4 R
  have k1:=hg4 (R+1)
  have k2:=hg4 (R+1+1)
  rw [if_neg (by omega),if_neg (by omega),if_pos rfl] at k0
  rw [if_neg (by omega),if_pos rfl] at k1
  rw [if_pos rfl] at k2
  have hcz:w4.cell? ⟨R+1+1,0,none⟩=some (.int .u64 Z):=by rw [cell_of' k2];rfl
  have hI0:PutI w R [] w4:=⟨hx4,by simp,⟨_,by rfl,k0⟩,k1⟩
  clear hg4
  have hwR:w.heap.size<=R:=Nat.le_of_eq hR.symm
  replace hR:=hid hR
  have hseq:=groups_seq 2 (R+1+1) (by omega) Z hz64 w4 (by omega) hcz
  refine (wpIn_wide (n:=3)).1 ?_
  refine wpIn_rangeFunc_ownF (F:=Fence.wide) rfl (by omega) (gf:=133) (lb:=#[.pointer (some ⟨R+1+1,0,none⟩)]) rfl trivial (enters_of Tryz.func133 (by kernel_rfl) rfl)
   hseq (fun _ _=>trivial) (fun _ _ _ _ _ _ _ _=>trivial) (Below.refl _ _) (fun _=>rfl) (fun pre W=>PutI w R pre W) (fun _ _ _=>False)
   (putI_own w R w4.heap.size (by omega)) (fun c s W W' row h _ _=>h) hI0 ?aa2 ?assign2 ?body2 ?done2 (fun D c pre W _ _ h=>h.elim)
  case assign2=>
   intro l x W K hK
   unfold byteV
   gi_wp2
   exact hK
  case body2=>
   rintro l pre x W hI hlen
   obtain ⟨rest,hrl,hb⟩:=hI.bytes
   obtain ⟨r0,rest,rfl⟩:∃ r0 r,rest=r0::r:=by
    cases rest with
    | nil=>simp at hrl;omega
    | cons a b=>exact ⟨a,b,rfl⟩
   obtain ⟨m,hm⟩:∃ m,m=pre.length:=⟨_,rfl⟩
   have c0:W.cell? ⟨R+1,0,none⟩=some (.int .i64 m):=by rw [cell_of' hI.size,hm];rfl
   have z0:=free_of' hI.size
   have c1:W.cell? ⟨R,m,none⟩=some r0:=by rw [cell_of' hb,hm];simp
   have z1:=free_of' hb
   have hm10:m < 10:=by omega
   have hmi:(m:Int) < 10:=by omega
   replace hm:=hid hm
   replace hI:=hid hI
   replace hb:=hid hb
   replace hrl:=hid hrl
   gi_wp2
   exact putI_round hwR hI.out hm.out hrl.out hb.out
  case done2=>
   rintro D xs W hD hxs hI hK
   obtain ⟨rest,hrl,hb⟩:=hI.bytes
   obtain ⟨m,hm⟩:∃ m,m=xs.length:=⟨_,rfl⟩
   have c0:W.cell? ⟨R+1,0,none⟩=some (.int .i64 m):=by rw [cell_of' hI.size,hm];rfl
   have hm10:m<=10:=by have:=hI.len;omega
   have hsl:=bytes_slice W R m hm10
   have hcv:=bytes_text W R xs rest hb
   rw [<- hm] at hcv
   replace hm:=hid hm
   replace hI:=hid hI
   replace hb:=hid hb
   replace hrl:=hid hrl
   replace hxs:=hid hxs
   replace hK:=hid hK
   go_wp2_with fail
   have hgD:W.grownBy (W.putObj D (.deferred none)) (some D):=grownBy_putObj' W D _
   refine ⟨by simp,.inl ⟨_,_,rfl,run_takeDeferred hK.out,?_⟩⟩
   refine ⟨_,by simp [results,Tryz.func45,go_sem];rfl,?_⟩
   exact ⟨by rw [hput.out,<- hxs.out],ext_grown hI.out.ext hgD (fun r e=>by cases e;omega)⟩
end Go.Proofs.YtcopgcdhkgenkaaGreatDoor
namespace Go.Proofs.YtcopgcdhkgenkaaGreatDoor
open Go.RowKit Cdk Scr
theorem int_beq (a b:Int):(a==b)=decide (a=b):=by rw [Bool.eq_iff_iff,beq_iff_eq,decide_eq_true_eq]
theorem drop_at (s:ByteArray) {k:Nat} (hk:k < s.size):s.data.toList.drop k=s[k]::s.data.toList.drop (k+1):=by
 have:k < s.data.toList.length:=by rw [Array.length_toList];exact hk
 rw [List.drop_eq_getElem_cons this]
 rfl
theorem size_of (s:ByteArray):s.size=s.data.toList.length:=by rw [Array.length_toList];rfl
end Go.Proofs.YtcopgcdhkgenkaaGreatDoor
namespace Cdk
open Go Go.RowKit
section
variable {P:Program} {Q:Exit -> Act -> World -> Prop}
end
end Cdk
namespace Go.Proofs.YtcopgcdhkgenkaaGreatDoor
open Go.RowKit Cdk Scr
theorem isSum_any (n:Int) (w:World):Calls Tryz.prog 84 #[.int .i64 n] w fun e w'=>e=.returned (.bool (isSum n))/\w=w':=by
 obtain ⟨r,hr⟩:∃ r,r=isSum n:=⟨_,rfl⟩
 rw [<- hr]
 unfold isSum rng at hr
 by_cases h1:0<=n <;> by_cases h2:n<=4294967295
 all_goals
  replace hr:=hid hr
  go_enter Tryz.func84,Tryz.ntmps84
  go_wp2
  go_ret
  exact ⟨by rw [hr.out];simp [*],rfl⟩
theorem msgValid_any (m:Ms) (w:World):Calls Tryz.prog 44 #[.agg (msC m).toArray] w fun e w'=>e=.returned (.bool (vMs m))/\Ext w w':=by
 obtain ⟨r,hr⟩:∃ r,r=vMs m:=⟨_,rfl⟩
 rw [<- hr]
 obtain ⟨kd,pa,sq,st,ba,ve,da⟩:=m
 unfold vMs at hr
 simp only at hr
 have k1:=hid (fun W=>isSum_any ba W)
 have k2:=hid (fun W=>isSum_any ve W)
 generalize isSum ba=sb at k1 hr
 generalize isSum ve=sv at k2 hr
 have hx:=hid (Mod.alloc (Mod.refl (fun _=>False) w) (.cells #[.int .i64 kd,.int .i64 pa,.int .i64 sq,.int .i64 st,.int .i64 ba,.int .i64 ve,.string ⟨da.toArray⟩] 45))
 have c1:=int_beq ba 0
 have c2:=int_beq ve 0
 have c3:(da.isEmpty)=da.isEmpty:=rfl
 clear c3
 generalize decide (ba=0)=d1 at c1 hr
 generalize decide (ve=0)=d2 at c2 hr
 generalize hda:decide (da.length<=16384)=d4 at hr
 replace hda:Hid (decide ((da.length:Int)<=16384)=d4):=hid (by rw [<- hda,Bool.eq_iff_iff];simp;omega)
 have hde:Hid ((da.isEmpty)=da.isEmpty):=hid rfl
 clear hde
 unfold msC strV
 simp only
 by_cases g1:pa < 1
 ·have hf:Hid (r=false):=hid (by rw [hr];simp [rng];omega)
  clear hr
  go_enter Tryz.func44,Tryz.ntmps44
  go_wp2_with fail
  go_ret
  exact ⟨by rw [hf.out];rfl,hx.out⟩
 by_cases g2:8 < pa
 ·have hf:Hid (r=false):=hid (by rw [hr];simp [rng];omega)
  clear hr
  go_enter Tryz.func44,Tryz.ntmps44
  go_wp2_with fail
  go_ret
  exact ⟨by rw [hf.out];rfl,hx.out⟩
 by_cases g3:sq < 1
 ·have hf:Hid (r=false):=hid (by rw [hr];simp [rng];omega)
  clear hr
  go_enter Tryz.func44,Tryz.ntmps44
  go_wp2_with fail
  go_ret
  exact ⟨by rw [hf.out];rfl,hx.out⟩
 by_cases g4:4611686018427387903 < sq
 ·have hf:Hid (r=false):=hid (by rw [hr];simp [rng];omega)
  clear hr
  go_enter Tryz.func44,Tryz.ntmps44
  go_wp2_with fail
  go_ret
  exact ⟨by rw [hf.out];rfl,hx.out⟩
 by_cases g5:st < 1
 ·have hf:Hid (r=false):=hid (by rw [hr];simp [rng];omega)
  clear hr
  go_enter Tryz.func44,Tryz.ntmps44
  go_wp2_with fail
  go_ret
  exact ⟨by rw [hf.out];rfl,hx.out⟩
 by_cases g6:64 < st
 ·have hf:Hid (r=false):=hid (by rw [hr];simp [rng];omega)
  clear hr
  go_enter Tryz.func44,Tryz.ntmps44
  go_wp2_with fail
  go_ret
  exact ⟨by rw [hf.out];rfl,hx.out⟩
 rw [rng_iff.2 (show 1<=pa/\pa<=8 by omega),rng_iff.2 (show 1<=sq/\sq<=4611686018427387903 by omega),rng_iff.2 (show 1<=st/\st<=64 by omega),Bool.true_and,Bool.true_and,Bool.true_and] at hr
 cases sb with
 | false=>
  replace hr:=hid hr
  go_enter Tryz.func44,Tryz.ntmps44
  go_wp2_with fail
  refine (k1.out _).mono ?_;rintro e w' ⟨rfl,rfl⟩
  go_wp2_with fail
  go_ret
  exact ⟨by rw [hr.out];rfl,hx.out⟩
 | true=>
  cases sv with
  | false=>
   replace hr:=hid hr
   go_enter Tryz.func44,Tryz.ntmps44
   go_wp2_with fail
   refine (k1.out _).mono ?_;rintro e w' ⟨rfl,rfl⟩
   go_wp2_with fail
   refine (k2.out _).mono ?_;rintro e w' ⟨rfl,rfl⟩
   go_wp2_with fail
   go_ret
   exact ⟨by rw [hr.out];rfl,hx.out⟩
  | true=>
   rw [Bool.true_and,Bool.true_and] at hr
   by_cases n1:kd=1
   ·rw [if_pos n1] at hr
    subst n1
    replace hr:=hid (hr.trans hda.out.symm)
    go_enter Tryz.func44,Tryz.ntmps44
    go_wp2_with fail
    refine (k1.out _).mono ?_;rintro e w' ⟨rfl,rfl⟩
    go_wp2_with fail
    refine (k2.out _).mono ?_;rintro e w' ⟨rfl,rfl⟩
    go_wp2_with fail
    go_ret
    exact ⟨by rw [hr.out];rfl,hx.out⟩
   rw [if_neg n1] at hr
   by_cases n2:kd=2
   ·rw [if_pos n2] at hr
    subst n2
    replace hr:=hid hr
    go_enter Tryz.func44,Tryz.ntmps44
    go_wp2_with fail
    refine (k1.out _).mono ?_;rintro e w' ⟨rfl,rfl⟩
    go_wp2_with fail
    refine (k2.out _).mono ?_;rintro e w' ⟨rfl,rfl⟩
    go_wp2_with fail
    all_goals
     go_ret
     exact ⟨by rw [hr.out];simp [*],hx.out⟩
   rw [if_neg n2] at hr
   by_cases n3:kd=3
   ·rw [if_pos n3] at hr
    subst n3
    replace hr:=hid hr
    go_enter Tryz.func44,Tryz.ntmps44
    go_wp2_with fail
    refine (k1.out _).mono ?_;rintro e w' ⟨rfl,rfl⟩
    go_wp2_with fail
    refine (k2.out _).mono ?_;rintro e w' ⟨rfl,rfl⟩
    go_wp2_with fail
    all_goals
     go_ret
     exact ⟨by rw [hr.out];simp [*],hx.out⟩
   rw [if_neg n3] at hr
   by_cases n4:kd=4
   ·rw [if_pos n4] at hr
    subst n4
    replace hr:=hid hr
    go_enter Tryz.func44,Tryz.ntmps44
    go_wp2_with fail
    refine (k1.out _).mono ?_;rintro e w' ⟨rfl,rfl⟩
    go_wp2_with fail
    refine (k2.out _).mono ?_;rintro e w' ⟨rfl,rfl⟩
    go_wp2_with fail
    all_goals
     go_ret
     exact ⟨by rw [hr.out];simp [*],hx.out⟩
   ·rw [if_neg n4] at hr
    have e1:(kd==1)=false:=by rw [beq_eq_false_iff_ne];exact n1
    have e2:(kd==2)=false:=by rw [beq_eq_false_iff_ne];exact n2
    have e3:(kd==3)=false:=by rw [beq_eq_false_iff_ne];exact n3
    have e4:(kd==4)=false:=by rw [beq_eq_false_iff_ne];exact n4
    replace hr:=hid hr
    go_enter Tryz.func44,Tryz.ntmps44
    go_wp2_with fail
    refine (k1.out _).mono ?_;rintro e w' ⟨rfl,rfl⟩
    go_wp2_with fail
    refine (k2.out _).mono ?_;rintro e w' ⟨rfl,rfl⟩
    go_wp2_with fail
    go_ret
    exact ⟨by rw [hr.out];rfl,hx.out⟩
open Go.Shelf Go.RowKit Cdk Scr
theorem putI_len (n:Int):(putI n).length<=10:=by
 unfold putI
 split
 ·simp
 ·exact grp_len 10 _
theorem putS_len (s:Bs):(putS s).length<=10+s.length:=by
 unfold putS
 split
 ·simp
 ·have:=putI_len s.length;simp;omega
theorem app_bs (a b:Bs):(⟨a.toArray⟩:ByteArray)++⟨b.toArray⟩=⟨(a++b).toArray⟩:=by
 apply ByteArray.ext
 simp [ByteArray.data_append]
theorem size_bs (a:Bs):(⟨a.toArray⟩:ByteArray).size=a.length:=rfl
theorem putString_any (s:Bs) (hs:s.length<=65536) (w:World):
  Calls Tryz.prog 46 #[.string ⟨s.toArray⟩] w fun e w'=>e=.returned (.tuple #[.string ⟨(putS s).toArray⟩,.int .i64 0])/\Ext w w':=by
 obtain ⟨S,hS⟩:∃ S:ByteArray,S=⟨s.toArray⟩:=⟨_,rfl⟩
 have hSs:S.size=s.length:=by rw [hS];rfl
 rw [<- hS]
 have hp:=hid (putInt_any (S.size:Int) (by omega) (by omega))
 have hput:Hid (putS s=putI S.size++s):=hid (by unfold putS;rw [if_neg (by omega),hSs])
 have h1:¬ (65536:Int) < (S.size:Int):=by omega
 have h2:=putI_len (S.size:Int)
 obtain ⟨T,hT⟩:∃ T,T=putI (S.size:Int):=⟨_,rfl⟩
 rw [<- hT] at h2
 have hsum:(⟨T.toArray⟩:ByteArray).size+S.size<=1000000:=by rw [size_bs];omega
 replace hT:=hid hT
 replace h2:=hid h2
 replace hSs:=hid hSs
 replace hS:=hid hS
 go_enter Tryz.func46,Tryz.ntmps46
 go_wp2_with fail
 refine (hp.out _).mono ?_;rintro e w' ⟨rfl,hx⟩
 rw [<- hT.out]
 replace hx:=hid hx
 go_wp2_with fail
 go_ret2
 refine ⟨?_,hx.out⟩
 rw [hput.out,<- hT.out,<- app_bs,<- hS.out]
 rfl
theorem wraps_u32 (n:Int) (h₀:0<=n) (h₁:n < 2 ^ 32):IntKind.u32.wrap n=n:=by rw [IntKind.wrap_u32];omega
theorem xor32 (x y:UInt32):bits .xor .u32 (x.toNat:Int) (y.toNat:Int)=((x ^^^ y).toNat:Int):=by
 have hx:=x.toNat_lt
 have hy:=y.toNat_lt
 have ha:x.toNat % 2 ^ IntKind.u32.bits=x.toNat:=Nat.mod_eq_of_lt hx
 have hb:y.toNat % 2 ^ IntKind.u32.bits=y.toNat:=Nat.mod_eq_of_lt hy
 rw [UInt32.toNat_xor]
 simp only [bits,BitVec.ofInt_natCast,BitVec.toNat_xor,BitVec.toNat_ofNat,ha,hb]
 have:=Nat.xor_lt_two_pow hx hy
 exact wraps_u32 _ (Int.natCast_nonneg _) (by exact_mod_cast this)
theorem shift_at {w:World} (h:Gl w) (r:UInt32):w.cell? ⟨0,r.toNat % 16,none⟩=some (.int .u32 ((shiftsT.getD (r.toNat % 16) 0).toNat:Int)):=by
 have hk:r.toNat % 16 < 16:=Nat.mod_lt _ (by decide)
 have hc:=h.sh.cell shifts_named (r.toNat % 16) hk
 rw [hc]
 generalize r.toNat % 16=k at hk
 congr 2
 have:∀ k:Fin 16,shiftsL.getD k.val 0=((shiftsT.getD k.val 0).toNat:Int):=by decide+kernel
 exact this ⟨k,hk⟩
theorem nib_step {w:World} (h:Gl w) (r:UInt32):∃ v:UInt32,w.cell? ⟨0,r.toNat % 16,none⟩=some (.int .u32 v.toNat)/\bits .xor .u32 ((r.toNat:Int) / 16) v.toNat=((nib r).toNat:Int):=by
 refine ⟨_,shift_at h r,?_⟩
 have h2:=xor32 (r >>> 4) (shiftsT.getD (r.toNat % 16) 0)
 have h3:(r >>> 4).toNat=r.toNat / 16:=by
  rw [UInt32.toNat_shiftRight]
  simp [Nat.shiftRight_eq_div_pow]
 rw [h3] at h2
 exact h2
theorem sum_any (t:Bs) (w:World) (h:Gl w) (hsz:t.length<=1000000):
  Calls Tryz.prog 19 #[.string ⟨t.toArray⟩] w fun e w'=>e=.returned (.int .i64 (crc t))/\w=w':=by
 obtain ⟨C,hC⟩:∃ C,C=crcF 0xFFFFFFFF t:=⟨_,rfl⟩
 have hcr:Hid (crc t=((C ^^^ 0xFFFFFFFF).toNat:Int)):=hid (by rw [hC];rfl)
 obtain ⟨s,hs⟩:∃ s:ByteArray,s=⟨t.toArray⟩:=⟨_,rfl⟩
 have hst:s.data.toList=t:=by rw [hs]
 have hsl:s.size<=1000000:=by rw [hs];exact hsz
 rw [<- hs]
 rw [<- hst] at hC
 replace hst:=hid hst
 replace hs:=hid hs
 replace h:=hid h
 go_enter Tryz.func19,Tryz.ntmps19
 go_wp2_with fail
 go_loopg [3,4] s.size (fun g rv i wr=>∃ (j:Nat) (r:UInt32),j+g=s.size/\i=.int .i64 j/\rv=.int .u32 r.toNat/\wr=w/\C=crcF r (s.data.toList.drop j))
 case atStart=>exact ⟨0,0xFFFFFFFF,by omega,rfl,rfl,rfl,by rw [hC];rfl⟩
 case round=>
  clear hC
  obtain ⟨j,r,hj,rfl,rfl,rfl,hCj⟩:=hrel
  replace hj:=hid hj
  by_cases hlt:j < s.size
  ·have hd:decide ((j:Int) < (s.size:Int))=true:=decide_eq_true (by omega)
   have hdi:(j:Int) < (s.size:Int):=by omega
   rw [drop_at s hlt] at hCj
   obtain ⟨r1,hr1⟩:∃ r1,r1=r ^^^ s[j].toUInt32:=⟨_,rfl⟩
   have e1:(s[j].toNat:Int) % 4294967296=s[j].toNat:=by have:=s[j].toNat_lt;omega
   have e2:bits .xor .u32 (r.toNat:Int) (s[j].toNat:Int)=(r1.toNat:Int):=by
    rw [hr1,<- xor32];simp
   simp only [crcF] at hCj
   rw [<- hr1] at hCj
   have e3:(r1.toNat:Int).tmod 16=((r1.toNat % 16:Nat):Int):=by rw [Int.tmod_eq_emod_of_nonneg (by omega)];omega
   have e5:r1.toNat % 16 < 16:=by omega
   obtain ⟨v1,c1,e6⟩:=nib_step h.out r1
   generalize nib r1=r2 at*
   have f3:(r2.toNat:Int).tmod 16=((r2.toNat % 16:Nat):Int):=by rw [Int.tmod_eq_emod_of_nonneg (by omega)];omega
   have f5:r2.toNat % 16 < 16:=by omega
   obtain ⟨v2,c2,f6⟩:=nib_step h.out r2
   generalize nib r2=r3 at*
   replace hCj:=hid hCj
   replace hr1:=hid hr1
   go_wp2_with fail
   go_roundg (gk - 1)
   case measure=>have:=hj.out;omega
   case rel=>exact ⟨j+1,r3,by have:=hj.out;omega,by go_num,rfl,rfl,hCj.out⟩
  ·obtain rfl:j=s.size:=by have:=hj.out;omega
   have hdi:¬ (s.size:Int) < (s.size:Int):=by omega
   have hd:decide ((s.size:Int) < (s.size:Int))=false:=decide_eq_false hdi
   rw [List.drop_eq_nil_of_le (Nat.le_of_eq (size_of s).symm)] at hCj
   simp only [crcF] at hCj
   have e9:bits .xor .u32 IntKind.u32.max (r.toNat:Int)=((C ^^^ 0xFFFFFFFF).toNat:Int):=by
    rw [hCj,UInt32.xor_comm]
    exact xor32 0xFFFFFFFF r
   have e10:wrap64 ((C ^^^ 0xFFFFFFFF).toNat:Int)=((C ^^^ 0xFFFFFFFF).toNat:Int):=by
    have:=(C ^^^ 0xFFFFFFFF).toNat_lt
    exact IntWalk.wrap64_in _ (by omega)
   generalize (C ^^^ 0xFFFFFFFF).toNat=Z at e9 e10 hcr
   replace hCj:=hid hCj
   go_wp2_with fail
   go_ret
   exact ⟨by rw [hcr.out];rfl,rfl⟩
theorem RowIs.block {W:World} {k:Nat} {cs:List Value} {t:TypeId} (h:W.heap[k]?=some (.cells cs.toArray t (0,0))):RowIs W (some ⟨k,0,none⟩) cs:=fun j u hu=>by
 refine ⟨k,0,rfl,?_⟩
 rw [Nat.zero_add,cell_of' h j]
 simpa using hu
theorem mod_ext {B:Nat} {w w':World} (hB:w.heap.size<=B) (h:Mod (fun k=>B<=k) w w'):Ext w w':=h.mono' (fun k h1 h2=>by omega)
theorem putIs_len:∀ l:List Int,(putIs l).length<=10*l.length
 | []=>by simp [putIs]
 | x::r=>by
  have h1:=putIs_len r
  have h2:=putI_len x
  have:putIs (x::r)=putI x++putIs r:=by simp [putIs]
  rw [this];simp;omega
end Go.Proofs.YtcopgcdhkgenkaaGreatDoor
