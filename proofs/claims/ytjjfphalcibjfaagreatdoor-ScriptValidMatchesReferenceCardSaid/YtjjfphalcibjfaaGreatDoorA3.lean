import Derived.Test.YtjjfphalcibjfaaGreatDoorWhole
import Derived.RangeFuncNested
import Derived.RangeFuncBound
import Derived.Shelf.RegionOpen
import Derived.OwnWalkIn
import Derived.LoopNIn
import Derived.LoopIn
import Derived.Test.YtjjfphalcibjfaaGreatDoorC0
import Derived.Test.YtjjfphalcibjfaaGreatDoorShelf
set_option maxRecDepth 100000
set_option maxHeartbeats 16000000
namespace Go.Proofs.YtjjfphalcibjfaaGreatDoor
open Go.Shelf Go.RowKit Cdk Scr
attribute [local go_sem] Oper.semAt_some
def zee (c:UInt8):Value:=.int .u8 c.toNat
theorem zd5 {f z:Nat} (h:z < 128):ze1 (f+1) z=[UInt8.ofNat z]:=by rw [ze1,if_pos h]
theorem zhe {f z:Nat} (h:¬ z < 128):ze1 (f+1) z=UInt8.ofNat (z % 128+128)::ze1 f (z / 128):=by rw [ze1,if_neg h]
theorem zjE:∀ (f z:Nat),(ze1 f z).length<=f
 | 0,_=>by simp [ze1]
 | f+1,z=>by
  by_cases h:z < 128
  ·rw [zd5 h];simp
  ·rw [zhe h];have:=zjE f (z / 128);simp;omega
theorem zfX {n:Nat} (h:n < 256):zee (UInt8.ofNat n)=.int .u8 n:=by
 unfold zee;rw [UInt8.toNat_ofNat_of_lt' (by simpa using h)]
theorem AbidesFrom.drew {β:Type} {B:Nat} {J:β -> World -> Prop} (h:AbidesFrom B J) {s:β} {W:World} (hs:J s W):J s W.drew:=
 h s W W.drew none hs ⟨rfl,rfl,rfl,Nat.le_refl _,fun _ _ _=>rfl⟩ (fun _ e=>nomatch e)
theorem zkj (n l Bn:Nat) (hn:1<=n) (z:Nat) (hz:z < 18446744073709551616) (J Jx:List UInt8 -> World -> Prop)
  (hY:∀ pre x W,J pre W -> pre.length < 10 -> YieldAt Fence.wide (n - 1) Tryz.prog l #[zee x] W fun e W'=>
   (e=.returned (.bool true)/\J (pre++[x]) W'/\True) \/ (e=.returned (.bool false)/\Jx (pre++[x]) W'))
  (W:World) (hc:W.cell? ⟨Bn,0,none⟩=some (.int .u64 z)) (h0:J [] W):
  CallsIn Fence.wide n Tryz.prog 247 #[.func (.yield l) #[] #[],.pointer (some ⟨Bn,0,none⟩)] W fun e W'=>(∃ v,e=.returned v) ∧
   ((∃ ys,ys=ze1 10 z/\J ys W') \/ (∃ pre,pre <+:ze1 10 z/\Jx pre W')):=by
 refine callsIn_wide.2 ?_;go_enter Tryz.func247,Tryz.ntmps247;obtain ⟨SC,hSC⟩:∃ SC,SC=ze1 10 z:=⟨_,rfl⟩;rw [<- hSC];replace hY:=hid hY;go_wp2_with fail
 go_loopg [3] 10 (fun g r wr=>∃ (pre:List UInt8) (q:Nat),r=.int .u64 q/\q < 18446744073709551616/\q < 128 ^ g/\1<=g/\SC=pre++ze1 g q/\J pre wr/\pre.length+g=10)
 case atStart=>exact ⟨[],z,rfl,hz,Nat.lt_of_lt_of_le hz (by decide),by omega,by rw [hSC];rfl,h0,rfl⟩
 case round=>
  clear h0 hc hSC;obtain ⟨pre,q,rfl,hq64,hq,hg,hsc,hJp,hlen⟩:=hrel;obtain ⟨g,rfl⟩:∃ g,gk=g+1:=⟨gk - 1,by omega⟩;replace hq:=hid hq;replace hsc:=hid hsc;replace hlen:=hid hlen;replace hJp:=hid hJp
  by_cases hlt:q < 128
  ·have hd:decide ((128:Int)<=(q:Int))=false:=decide_eq_false (by omega)
   have hdi:¬ (128:Int)<=(q:Int):=by omega
   have e1:=hid (zd5 (f:=g) hlt);have hy:=hY.out pre (UInt8.ofNat q) wr hJp.out (by have:=hlen.out;omega);rw [zfX (by omega)] at hy;obtain ⟨yfn,ytmps,yassign,ybody,hyr,hyR⟩:=hy;replace hyR:=hid hyR;go_upto_region 4 with fail
   refine (wpIn_wide (n:=n)).1 ?_
   gi_wp2
   refine hyR.out.mono ?_;have hfull:pre++[UInt8.ofNat q]=SC:=by rw [hsc.out,e1.out]
   replace hfull:=hid hfull;rintro e' W3 (⟨rfl,hJ3,-⟩ | ⟨rfl,hJx3⟩)
   ·replace hJ3:=hid hJ3
    gi_wp2
    go_end0
    exact ⟨⟨_,rfl⟩,.inl ⟨_,hfull.out,hJ3.out⟩⟩
   ·replace hJx3:=hid hJx3
    gi_wp2
    go_end0
    exact ⟨⟨_,rfl⟩,.inr ⟨_,by rw [hfull.out];exact List.prefix_refl _,hJx3.out⟩⟩
  ·have hd:decide ((128:Int)<=(q:Int))=true:=decide_eq_true (by omega)
   have hdi:(128:Int)<=(q:Int):=by omega
   have e1:=hid (zhe (f:=g) hlt);have hg1:1<=g:=by
    rcases Nat.eq_zero_or_pos g with h0 | h0
    ·have:=hq.out
     rw [h0] at this;simp at this;omega
    ·exact h0
   have hy:=hY.out pre (UInt8.ofNat (q % 128+128)) wr hJp.out (by have:=hlen.out;omega);rw [zfX (by omega),show ((q % 128+128:Nat):Int)=(q:Int) % 128+128 from by omega] at hy;obtain ⟨yfn,ytmps,yassign,ybody,hyr,hyR⟩:=hy;replace hyR:=hid hyR;go_upto_region 2 with fail
   refine (wpIn_wide (n:=n)).1 ?_
   gi_wp2
   refine hyR.out.mono ?_;rintro e' W3 (⟨rfl,hJ3,-⟩ | ⟨rfl,hJx3⟩)
   ·replace hJ3:=hid hJ3
    gi_wp2
    go_wp2_with fail
    go_roundg g
    case measure=>omega
    case rel=>exact ⟨pre++[UInt8.ofNat (q % 128+128)],q / 128,by go_num,by omega,by have:=hq.out;rw [Nat.pow_succ] at this;exact Nat.div_lt_of_lt_mul (by omega),hg1,by rw [hsc.out,e1.out];simp,hJ3.out,by have:=hlen.out;simp;omega⟩
   ·replace hJx3:=hid hJx3
    gi_wp2
    go_wp2_with fail
    try simp only [Exit.noGoto_normal]
    refine bodyPost_ret (results_none rfl _ _ _) rfl ?_;exact ⟨⟨_,rfl⟩,.inr ⟨pre++[UInt8.ofNat (q % 128+128)],⟨ze1 g (q / 128),by rw [hsc.out,e1.out];simp⟩,hJx3.out⟩⟩
theorem zfi (n Bn:Nat) (hn:1<=n) (z:Nat) (hz:z < 18446744073709551616) (w:World) (hB:Bn < w.heap.size) (hc:w.cell? ⟨Bn,0,none⟩=some (.int .u64 z)):
  SeqStopsK Fence.wide n Tryz.prog 247 #[.pointer (some ⟨Bn,0,none⟩)] (fun x=>#[zee x]) (fun _ _=>True) (fun ys=>ys=ze1 10 z) (fun pre=>pre <+:ze1 10 z) 10 w:=fun l J Jx W hW _ _ hY h0=>
 zkj n l Bn hn z hz J Jx hY W ((hW.cell (p:=⟨Bn,0,none⟩) hB).trans hc) h0
theorem ze3 (z:Nat) (w:World):Calls Tryz.prog 212 #[.int .u64 z] w fun e w'=>e=.returned (.func (.func 247) #[] #[.pointer (some ⟨w.heap.size,0,none⟩)])/\w'=w.alloc (.cells #[.int .u64 z] 164):=by
 go_enter Tryz.func212,Tryz.ntmps212;go_wp2_with fail
 go_ret;exact ⟨rfl,rfl⟩
theorem zez {w W W':World} {row:Option Nat} (h:Ext w W) (hg:W.grownBy W' row) (hr:∀ r,row=some r -> w.heap.size<=r):Ext w W':=
 ⟨hg.os.trans h.os,hg.tape.trans h.tape,hg.output.trans h.output,Nat.le_trans h.size hg.size,fun k hk _=>(hg.block k (Nat.lt_of_lt_of_le hk h.size) (fun e=>by have:=hr k e.symm;omega)).trans (h.block k hk (fun h=>h))⟩
theorem zao {W W':World} {row:Option Nat} (hg:W.grownBy W' row) (hrow:∀ r,row=some r -> ∃ o:Obj,W.heap[r]?=some o/\o.isCells=false) {k:Nat} {c:Array Value} {t:TypeId} {fr:Nat × Nat}
  (hk:W.heap[k]?=some (.cells c t fr)):W'.heap[k]?=some (.cells c t fr):=(grownBy_keeps_cells hg hrow hk rfl).trans hk
theorem zar (w:World) {b k:Nat} (j:Nat) (v:Value) (h:k ≠ b):(w.setCell ⟨b,j,none⟩ v).heap[k]?=w.heap[k]?:=Below.heap_setCell w ⟨b,j,none⟩ v k h
theorem zc1 {w:World} {b:Nat} {x v:Value} {t:TypeId} {fr:Nat × Nat} (h:w.heap[b]?=some (.cells #[x] t fr)):(w.setCell ⟨b,0,none⟩ v).heap[b]?=some (.cells #[v] t fr):=by
 simp only [World.setCell,Array.getElem?_modify,if_true];rw [h];simp
structure PutI (w:World) (R:Nat) (pre:List UInt8) (W:World):Prop where
 ext:Ext w W
 len:pre.length<=10
 bytes:∃ rest:List Value,rest.length=10 - pre.length/\W.heap[R]?=some (.cells (pre.map zee++rest).toArray 188 (0,0))
 size:W.heap[R+1]?=some (.cells #[.int .i64 pre.length] 3 (0,0))
theorem zfk {w W:World} {R m:Nat} {pre:List UInt8} {x:UInt8} {r0:Value} {rest:List Value} (hRw:w.heap.size<=R) (h:PutI w R pre W) (hm:m=pre.length) (hrl:(r0::rest).length=10 - pre.length)
  (hb:W.heap[R]?=some (.cells (pre.map zee++r0::rest).toArray 188 (0,0))):
  KeepsOthers W ((W.setCell ⟨R,m,none⟩ (.int .u8 x.toNat)).setCell ⟨R+1,0,none⟩ (.int .i64 ((m:Int)+1)))/\True/\PutI w R (pre++[x]) ((W.setCell ⟨R,m,none⟩ (.int .u8 x.toNat)).setCell ⟨R+1,0,none⟩ (.int .i64 ((m:Int)+1))):=by
 refine ⟨(KeepsOthers.setCell _ _ _).trans (KeepsOthers.setCell _ _ _),trivial,?_,?_,⟨rest,?_,?_⟩,?_⟩
 ·exact (h.ext.setCell (fun e=>by have:R < w.heap.size:=e;omega) _).setCell (fun e=>by have:R+1 < w.heap.size:=e;omega) _
 ·simp only [List.length_cons,List.length_append,List.length_nil] at hrl ⊢;omega
 ·simp only [List.length_cons,List.length_append,List.length_nil] at hrl ⊢;omega
 ·rw [zar _ 0 _ (by omega),zae hb m]
  subst hm;simp [zee]
 ·have h1:=(zar W (b:=R) (k:=R+1) m (.int .u8 x.toNat) (by omega)).trans h.size
  rw [zc1 h1,hm];simp
theorem zes (W:World) (R m:Nat) (hm:m<=10):(Instr.sliceAt 188 (.pointer (some ⟨R,0,none⟩)) none (some (.int .i64 m)) none).run Tryz.prog W=.ok (.slice (some ⟨R,0,none⟩) m 10) W:=by
 have h10:Tryz.prog.arrayLen 188=10:=by kernel_rfl
 rw [run_sliceAt_array_h W 188 ⟨R,0,none⟩ (by kernel_rfl) .i64 m (by omega) (by rw [h10];omega),h10];have hs:(sizeOf (Tryz.prog.elem 188)).run Tryz.prog W=.ok 1 W:=by kernel_rfl
 rw [hs];simp [Result.andThen,slicedAt,Addr.add]
theorem zfd (W:World) (R:Nat) (xs:List UInt8) (rest:List Value) (hb:W.heap[R]?=some (.cells (xs.map zee++rest).toArray 188 (0,0))):
  (convert 63 9 (.slice (some ⟨R,0,none⟩) xs.length 10)).run Tryz.prog W=.ok (.string ⟨xs.toArray⟩) W:=by
 refine run_convert_bytes_back W _ _ _ ⟨R,0,none⟩ 10 xs Tryz.underlying63 Tryz.underlying5 Tryz.underlying9 (fun j hj=>?_);rw [show (⟨R,0,none⟩:Addr).add j=⟨R,j,none⟩ by rw [Addr.add_lit,Nat.zero_add],zaa hb j];simp [List.getElem?_append_left,hj,zee]
theorem zhO (w:World) (R B:Nat) (hB:w.heap.size<=B):OwnFrom B (fun p W=>PutI w R p W):=by
 intro p W W' row h hg hrow;have hr:=fun r e=>(hrow r e).2
 obtain ⟨rest,hl,hb⟩:=h.bytes;exact ⟨zez h.ext hg (fun r e=>by have:=(hrow r e).1;omega),h.len,⟨rest,hl,zao hg hr hb⟩,zao hg hr h.size⟩
theorem zbn (n:Int) (h1:-4611686018427387903<=n) (h2:n<=4611686018427387903) (w:World):
  Calls Tryz.prog 187 #[.int .i64 n] w fun e w'=>e=.returned (.tuple #[.string ⟨(zbs n).toArray⟩,.int .i64 0])/\Ext w w':=by
 by_cases hneg:n < 0
 ·have hz:(2*-n - 1:Int)=((zz n:Nat):Int):=by unfold zz;split <;> omega
  have hz64:zz n < 18446744073709551616:=by unfold zz;split <;> omega
  have hput:Hid (zbs n=ze1 10 (zz n)):=hid (by unfold zbs;rw [if_neg (by omega)]);refine (callsIn_wide (n:=3)).1 ?_;refine callsIn_of_wp_marks Tryz.func187 rfl trivial ?_ rfl;simp only [Tryz.ntmps187,List.size_toArray,List.length_cons,List.length_nil,Nat.reduceAdd,Nat.reduceSub,Array.replicate_succ,Array.replicate_zero,List.push_toArray,List.append_toArray,List.nil_append,List.cons_append];refine (wpIn_wide (n:=3)).2 ?_;go_wp2_with fail
  try rw [hz]
  refine (ze3 _ _).mono ?_;rintro e w' ⟨rfl,rfl⟩;go_wp2_with fail
  try simp only [World.size_alloc]
  obtain ⟨R,hR⟩:∃ R,R=w.heap.size:=⟨_,rfl⟩;simp only [<- hR];generalize zz n=Z at hz64 hput ⊢;clear hz;have hx4:=(((Mod.refl (fun _=>False) w).alloc (.cells #[.int .u8 0,.int .u8 0,.int .u8 0,.int .u8 0,.int .u8 0,.int .u8 0,.int .u8 0,.int .u8 0,.int .u8 0,.int .u8 0] 188)).alloc (.cells #[.int .i64 0] 3)).alloc (.cells #[.int .u64 Z] 164);have hg4:∀ k,(((w.alloc (.cells #[.int .u8 0,.int .u8 0,.int .u8 0,.int .u8 0,.int .u8 0,.int .u8 0,.int .u8 0,.int .u8 0,.int .u8 0,.int .u8 0] 188)).alloc (.cells #[.int .i64 0] 3)).alloc (.cells #[.int .u64 Z] 164)).heap[k]?=
    if k=R+1+1 then some (.cells #[.int .u64 Z] 164 (0,0)) else if k=R+1 then some (.cells #[.int .i64 0] 3 (0,0)) else if k=R then some (.cells #[.int .u8 0,.int .u8 0,.int .u8 0,.int .u8 0,.int .u8 0,.int .u8 0,.int .u8 0,.int .u8 0,.int .u8 0,.int .u8 0] 188 (0,0)) else w.heap[k]?:=by
   intro k;simp only [zaA,World.size_alloc,<- hR]
  have hs4:(((w.alloc (.cells #[.int .u8 0,.int .u8 0,.int .u8 0,.int .u8 0,.int .u8 0,.int .u8 0,.int .u8 0,.int .u8 0,.int .u8 0,.int .u8 0] 188)).alloc (.cells #[.int .i64 0] 3)).alloc (.cells #[.int .u64 Z] 164)).heap.size=R+3:=by simp only [World.size_alloc,<- hR]
  generalize (((w.alloc (.cells #[.int .u8 0,.int .u8 0,.int .u8 0,.int .u8 0,.int .u8 0,.int .u8 0,.int .u8 0,.int .u8 0,.int .u8 0,.int .u8 0] 188)).alloc (.cells #[.int .i64 0] 3)).alloc (.cells #[.int .u64 Z] 164))=w4 at hx4 hg4 hs4 ⊢;have k0:=hg4 R;have k1:=hg4 (R+1);have k2:=hg4 (R+1+1);rw [if_neg (by omega),if_neg (by omega),if_pos rfl] at k0;rw [if_neg (by omega),if_pos rfl] at k1;rw [if_pos rfl] at k2;have hcz:w4.cell? ⟨R+1+1,0,none⟩=some (.int .u64 Z):=by rw [zaa k2];rfl
  have hI0:PutI w R [] w4:=⟨hx4,by simp,⟨_,by rfl,k0⟩,k1⟩;clear hg4;have hwR:w.heap.size<=R:=Nat.le_of_eq hR.symm;replace hR:=hid hR;have hseq:=zfi 2 (R+1+1) (by omega) Z hz64 w4 (by omega) hcz;refine (wpIn_wide (n:=3)).1 ?_;refine wpIn_rangeFunc_ownF (F:=Fence.wide) rfl (by omega) (gf:=247) (lb:=#[.pointer (some ⟨R+1+1,0,none⟩)]) rfl trivial (enters_of Tryz.func247 (by kernel_rfl) rfl)
   hseq (fun _ _=>trivial) (fun _ _ _ _ _ _ _ _=>trivial) (Below.refl _ _) (fun _=>rfl) (fun pre W=>PutI w R pre W) (fun _ _ _=>False)
   (zhO w R w4.heap.size (by omega)) (fun c s W W' row h _ _=>h) hI0 ?aa1 ?assign1 ?body1 ?done1 (fun D c pre W _ _ h=>h.elim)
  case assign1=>
   intro l x W K hK;unfold zee
   gi_wp2
   exact hK
  case body1=>
   rintro l pre x W hI hlen;obtain ⟨rest,hrl,hb⟩:=hI.bytes;obtain ⟨r0,rest,rfl⟩:∃ r0 r,rest=r0::r:=by
    cases rest with
    | nil=>simp at hrl;omega
    | cons a b=>exact ⟨a,b,rfl⟩
   obtain ⟨m,hm⟩:∃ m,m=pre.length:=⟨_,rfl⟩;have c0:W.cell? ⟨R+1,0,none⟩=some (.int .i64 m):=by rw [zaa hI.size,hm];rfl
   have z0:=zac hI.size;have c1:W.cell? ⟨R,m,none⟩=some r0:=by rw [zaa hb,hm];simp
   have z1:=zac hb;have hm10:m < 10:=by omega
   have hmi:(m:Int) < 10:=by omega
   replace hm:=hid hm;replace hI:=hid hI;replace hb:=hid hb;replace hrl:=hid hrl
   gi_wp2
   exact zfk hwR hI.out hm.out hrl.out hb.out
  case done1=>
   rintro D xs W hD hxs hI hK;obtain ⟨rest,hrl,hb⟩:=hI.bytes;obtain ⟨m,hm⟩:∃ m,m=xs.length:=⟨_,rfl⟩;have c0:W.cell? ⟨R+1,0,none⟩=some (.int .i64 m):=by rw [zaa hI.size,hm];rfl
   have hm10:m<=10:=by have:=hI.len;omega
   have hsl:=zes W R m hm10;have hcv:=zfd W R xs rest hb;rw [<- hm] at hcv;replace hm:=hid hm;replace hI:=hid hI;replace hb:=hid hb;replace hrl:=hid hrl;replace hxs:=hid hxs;replace hK:=hid hK;go_wp2_with fail
   have hgD:W.grownBy (W.putObj D (.deferred none)) (some D):=grownBy_putObj' W D _;refine ⟨by simp,.inl ⟨_,_,rfl,run_takeDeferred hK.out,?_⟩⟩;refine ⟨_,by simp [results,go_sem];rfl,?_⟩;exact ⟨by rw [hput.out,<- hxs.out],zez hI.out.ext hgD (fun r e=>by cases e;omega)⟩
 ·have hz:(2*n:Int)=((zz n:Nat):Int):=by unfold zz;split <;> omega
  have hz64:zz n < 18446744073709551616:=by unfold zz;split <;> omega
  have hput:Hid (zbs n=ze1 10 (zz n)):=hid (by unfold zbs;rw [if_neg (by omega)]);refine (callsIn_wide (n:=3)).1 ?_;refine callsIn_of_wp_marks Tryz.func187 rfl trivial ?_ rfl;simp only [Tryz.ntmps187,List.size_toArray,List.length_cons,List.length_nil,Nat.reduceAdd,Nat.reduceSub,Array.replicate_succ,Array.replicate_zero,List.push_toArray,List.append_toArray,List.nil_append,List.cons_append];refine (wpIn_wide (n:=3)).2 ?_;go_wp2_with fail
  try rw [hz]
  refine (ze3 _ _).mono ?_;rintro e w' ⟨rfl,rfl⟩;go_wp2_with fail
  try simp only [World.size_alloc]
  obtain ⟨R,hR⟩:∃ R,R=w.heap.size:=⟨_,rfl⟩;simp only [<- hR];generalize zz n=Z at hz64 hput ⊢;clear hz;have hx4:=(((Mod.refl (fun _=>False) w).alloc (.cells #[.int .u8 0,.int .u8 0,.int .u8 0,.int .u8 0,.int .u8 0,.int .u8 0,.int .u8 0,.int .u8 0,.int .u8 0,.int .u8 0] 188)).alloc (.cells #[.int .i64 0] 3)).alloc (.cells #[.int .u64 Z] 164);have hg4:∀ k,(((w.alloc (.cells #[.int .u8 0,.int .u8 0,.int .u8 0,.int .u8 0,.int .u8 0,.int .u8 0,.int .u8 0,.int .u8 0,.int .u8 0,.int .u8 0] 188)).alloc (.cells #[.int .i64 0] 3)).alloc (.cells #[.int .u64 Z] 164)).heap[k]?=
    if k=R+1+1 then some (.cells #[.int .u64 Z] 164 (0,0)) else if k=R+1 then some (.cells #[.int .i64 0] 3 (0,0)) else if k=R then some (.cells #[.int .u8 0,.int .u8 0,.int .u8 0,.int .u8 0,.int .u8 0,.int .u8 0,.int .u8 0,.int .u8 0,.int .u8 0,.int .u8 0] 188 (0,0)) else w.heap[k]?:=by
   intro k;simp only [zaA,World.size_alloc,<- hR]
  have hs4:(((w.alloc (.cells #[.int .u8 0,.int .u8 0,.int .u8 0,.int .u8 0,.int .u8 0,.int .u8 0,.int .u8 0,.int .u8 0,.int .u8 0,.int .u8 0] 188)).alloc (.cells #[.int .i64 0] 3)).alloc (.cells #[.int .u64 Z] 164)).heap.size=R+3:=by simp only [World.size_alloc,<- hR]
  generalize (((w.alloc (.cells #[.int .u8 0,.int .u8 0,.int .u8 0,.int .u8 0,.int .u8 0,.int .u8 0,.int .u8 0,.int .u8 0,.int .u8 0,.int .u8 0] 188)).alloc (.cells #[.int .i64 0] 3)).alloc (.cells #[.int .u64 Z] 164))=w4 at hx4 hg4 hs4 ⊢;have k0:=hg4 R;have k1:=hg4 (R+1);have k2:=hg4 (R+1+1);rw [if_neg (by omega),if_neg (by omega),if_pos rfl] at k0;rw [if_neg (by omega),if_pos rfl] at k1;rw [if_pos rfl] at k2;have hcz:w4.cell? ⟨R+1+1,0,none⟩=some (.int .u64 Z):=by rw [zaa k2];rfl
  have hI0:PutI w R [] w4:=⟨hx4,by simp,⟨_,by rfl,k0⟩,k1⟩;clear hg4;have hwR:w.heap.size<=R:=Nat.le_of_eq hR.symm;replace hR:=hid hR;have hseq:=zfi 2 (R+1+1) (by omega) Z hz64 w4 (by omega) hcz;refine (wpIn_wide (n:=3)).1 ?_;refine wpIn_rangeFunc_ownF (F:=Fence.wide) rfl (by omega) (gf:=247) (lb:=#[.pointer (some ⟨R+1+1,0,none⟩)]) rfl trivial (enters_of Tryz.func247 (by kernel_rfl) rfl)
   hseq (fun _ _=>trivial) (fun _ _ _ _ _ _ _ _=>trivial) (Below.refl _ _) (fun _=>rfl) (fun pre W=>PutI w R pre W) (fun _ _ _=>False)
   (zhO w R w4.heap.size (by omega)) (fun c s W W' row h _ _=>h) hI0 ?aa2 ?assign2 ?body2 ?done2 (fun D c pre W _ _ h=>h.elim)
  case assign2=>
   intro l x W K hK;unfold zee
   gi_wp2
   exact hK
  case body2=>
   rintro l pre x W hI hlen;obtain ⟨rest,hrl,hb⟩:=hI.bytes;obtain ⟨r0,rest,rfl⟩:∃ r0 r,rest=r0::r:=by
    cases rest with
    | nil=>simp at hrl;omega
    | cons a b=>exact ⟨a,b,rfl⟩
   obtain ⟨m,hm⟩:∃ m,m=pre.length:=⟨_,rfl⟩;have c0:W.cell? ⟨R+1,0,none⟩=some (.int .i64 m):=by rw [zaa hI.size,hm];rfl
   have z0:=zac hI.size;have c1:W.cell? ⟨R,m,none⟩=some r0:=by rw [zaa hb,hm];simp
   have z1:=zac hb;have hm10:m < 10:=by omega
   have hmi:(m:Int) < 10:=by omega
   replace hm:=hid hm;replace hI:=hid hI;replace hb:=hid hb;replace hrl:=hid hrl
   gi_wp2
   exact zfk hwR hI.out hm.out hrl.out hb.out
  case done2=>
   rintro D xs W hD hxs hI hK;obtain ⟨rest,hrl,hb⟩:=hI.bytes;obtain ⟨m,hm⟩:∃ m,m=xs.length:=⟨_,rfl⟩;have c0:W.cell? ⟨R+1,0,none⟩=some (.int .i64 m):=by rw [zaa hI.size,hm];rfl
   have hm10:m<=10:=by have:=hI.len;omega
   have hsl:=zes W R m hm10;have hcv:=zfd W R xs rest hb;rw [<- hm] at hcv;replace hm:=hid hm;replace hI:=hid hI;replace hb:=hid hb;replace hrl:=hid hrl;replace hxs:=hid hxs;replace hK:=hid hK;go_wp2_with fail
   have hgD:W.grownBy (W.putObj D (.deferred none)) (some D):=grownBy_putObj' W D _;refine ⟨by simp,.inl ⟨_,_,rfl,run_takeDeferred hK.out,?_⟩⟩;refine ⟨_,by simp [results,go_sem];rfl,?_⟩;exact ⟨by rw [hput.out,<- hxs.out],zez hI.out.ext hgD (fun r e=>by cases e;omega)⟩
open Go.RowKit Cdk Scr
theorem zgJ (w:World) (n:Nat):Ext w (w.drewN n):=(Mod.refl (fun _=>False) w).ofDrewN n
theorem zdA {F:Nat -> Prop} (v1 v2:Value) (l1 l2:List Int) (w:World) (h1:zaF F w v1 l1) (h2:zaF F w v2 l2):
  Calls Tryz.prog 38 #[v1,v2] w fun e w'=>e=.returned (.bool (decide (l1=l2)))/\Ext w w':=by
 have n1:=h1.len;have n2:=h2.len
 by_cases hl:l1.length=l2.length
 ·by_cases h0:l1.length=0
  ·obtain ⟨a1,c1,rfl⟩:=h1.slice
   obtain ⟨a2,c2,rfl⟩:=h2.slice;have e1:l1=[]:=List.eq_nil_of_length_eq_zero h0;have e2:l2=[]:=List.eq_nil_of_length_eq_zero (by omega);subst e1;subst e2;exact (Tryz.slices_Equal_int_empty a1 a2 c1 0 c2 w (by decide)).mono fun e w' ⟨a,b⟩=>⟨by rw [a];rfl,b ▸ Mod.refl _ _⟩
  ·obtain ⟨b1,o1,c1,e1,-,-⟩:=h1.get 1 zbb (by decide) (j:=0) (by omega)
   obtain ⟨b2,o2,c2,e2,-,-⟩:=h2.get 1 zbb (by decide) (j:=0) (by omega);subst e1;subst e2;have k1:∀ j,j < l1.length -> w.cell? ⟨b1,o1+j,none⟩=some (.int .i64 (l1.getD j 0)):=fun j hj=>by
    obtain ⟨b,o,c,e,-,hc⟩:=h1.get 1 zbb (by decide) hj;injection e with e;injection e with e;injection e with e3 e4 _
    subst e3;subst e4;have:=hc 0 _ (by decide) rfl;simp only [Nat.mul_one,Nat.add_zero] at this;rw [this];simp [List.getD,hj]
   have k2:∀ j,j < l2.length -> w.cell? ⟨b2,o2+j,none⟩=some (.int .i64 (l2.getD j 0)):=fun j hj=>by
    obtain ⟨b,o,c,e,-,hc⟩:=h2.get 1 zbb (by decide) hj;injection e with e;injection e with e;injection e with e3 e4 _
    subst e3;subst e4;have:=hc 0 _ (by decide) rfl;simp only [Nat.mul_one,Nat.add_zero] at this;rw [this];simp [List.getD,hj]
   refine (Tryz.slices_Equal_int b1 o1 l1.length c1 b2 o2 l2.length c2 l1 l2 w (Nat.le_refl _) (Nat.le_refl _) (by omega) (by omega) k1 k2).mono fun e w' ⟨a,q,b⟩=>⟨?_,b ▸ zgJ w q⟩
   rw [a,List.take_length,List.take_length];congr 2;rw [Bool.eq_iff_iff,beq_iff_eq,decide_eq_true_eq]
 ·obtain ⟨a1,c1,rfl⟩:=h1.slice
  obtain ⟨a2,c2,rfl⟩:=h2.slice;refine (Tryz.slices_Equal_int_lens a1 a2 l1.length c1 l2.length c2 w hl).mono fun e w' ⟨a,b⟩=>⟨?_,b ▸ Mod.refl _ _⟩
  rw [a,decide_eq_false (fun h=>hl (by rw [h]))]
theorem zh0 {F:Nat -> Prop} (v1 v2:Value) (l1 l2:List Bs) (w:World) (h1:zbw F w v1 l1) (h2:zbw F w v2 l2):
  Calls Tryz.prog 61 #[v1,v2] w fun e w'=>e=.returned (.bool (decide (l1=l2)))/\Ext w w':=by
 have n1:=h1.len;have n2:=h2.len
 by_cases hl:l1.length=l2.length
 ·by_cases h0:l1.length=0
  ·obtain ⟨a1,c1,rfl⟩:=h1.slice
   obtain ⟨a2,c2,rfl⟩:=h2.slice;have e1:l1=[]:=List.eq_nil_of_length_eq_zero h0;have e2:l2=[]:=List.eq_nil_of_length_eq_zero (by omega);subst e1;subst e2;exact (Tryz.slices_Equal_string_empty a1 a2 c1 0 c2 w (by decide)).mono fun e w' ⟨a,b⟩=>⟨by rw [a];rfl,b ▸ Mod.refl _ _⟩
  ·obtain ⟨b1,o1,c1,e1,-,-⟩:=h1.get 1 za5 (by decide) (j:=0) (by omega)
   obtain ⟨b2,o2,c2,e2,-,-⟩:=h2.get 1 za5 (by decide) (j:=0) (by omega);subst e1;subst e2;have k1:∀ j,j < (l1.map (fun s=>(⟨s.toArray⟩:ByteArray))).length -> w.cell? ⟨b1,o1+j,none⟩=some (.string ((l1.map (fun s=>(⟨s.toArray⟩:ByteArray))).getD j ByteArray.empty)):=fun j hj=>by
    have hj':j < l1.length:=by simpa using hj
    obtain ⟨b,o,c,e,-,hc⟩:=h1.get 1 za5 (by decide) hj';injection e with e;injection e with e;injection e with e3 e4 _
    subst e3;subst e4;have:=hc 0 _ (by decide) rfl;simp only [Nat.mul_one,Nat.add_zero] at this;rw [this];simp only [List.getD,List.getElem?_map,List.getElem?_eq_getElem hj',Option.map_some,Option.getD_some];rfl
   have k2:∀ j,j < (l2.map (fun s=>(⟨s.toArray⟩:ByteArray))).length -> w.cell? ⟨b2,o2+j,none⟩=some (.string ((l2.map (fun s=>(⟨s.toArray⟩:ByteArray))).getD j ByteArray.empty)):=fun j hj=>by
    have hj':j < l2.length:=by simpa using hj
    obtain ⟨b,o,c,e,-,hc⟩:=h2.get 1 za5 (by decide) hj';injection e with e;injection e with e;injection e with e3 e4 _
    subst e3;subst e4;have:=hc 0 _ (by decide) rfl;simp only [Nat.mul_one,Nat.add_zero] at this;rw [this];simp only [List.getD,List.getElem?_map,List.getElem?_eq_getElem hj',Option.map_some,Option.getD_some];rfl
   refine (Tryz.slices_Equal_string b1 o1 l1.length c1 b2 o2 l2.length c2 (l1.map fun s=>(⟨s.toArray⟩:ByteArray)) (l2.map fun s=>(⟨s.toArray⟩:ByteArray)) w (by simp) (by simp) (by omega) (by omega) k1 k2).mono fun e w' ⟨a,q,b⟩=>⟨?_,b ▸ zgJ w q⟩
   rw [a];congr 2;rw [Bool.eq_iff_iff,decide_eq_true_eq,decide_eq_true_eq,List.take_of_length_le (by simp),List.take_of_length_le (by simp)];constructor
   ·intro h
    have:=congrArg (List.map (fun s:ByteArray=>s.data.toList)) h;simpa [List.map_map,Function.comp_def] using this
   ·intro h;rw [h]
 ·obtain ⟨a1,c1,rfl⟩:=h1.slice
  obtain ⟨a2,c2,rfl⟩:=h2.slice;refine (Tryz.slices_Equal_string_lens a1 a2 l1.length c1 l2.length c2 w hl).mono fun e w' ⟨a,b⟩=>⟨?_,b ▸ Mod.refl _ _⟩
  rw [a,decide_eq_false (fun h=>hl (by rw [h]))]
theorem zam (a b:Int):(a==b)=decide (a=b):=by rw [Bool.eq_iff_iff,beq_iff_eq,decide_eq_true_eq]
theorem zcV (a b:Int):(a !=b)=!decide (a=b):=by rw [Bool.eq_iff_iff,bne_iff_ne];simp
theorem zbO (a b:Bs):(a==b)=decide (a=b):=by rw [Bool.eq_iff_iff,beq_iff_eq,decide_eq_true_eq]
theorem zdp {F:Nat -> Prop} (v1 v2:Value) (l1 l2:Lb) (w:World) (h1:zaF F w v1 l1.aft) (h2:zaF F w v2 l2.aft):
  Calls Tryz.prog 63 #[.agg (lbC v1 l1).toArray,.agg (lbC v2 l2).toArray] w fun e w'=>e=.returned (.bool (decide (l1=l2)))/\Ext w w':=by
 obtain ⟨t1,a1,p1,d1⟩:=l1;obtain ⟨t2,a2,p2,d2⟩:=l2;simp only at h1 h2
 have hr:Hid (decide ((⟨t1,a1,p1,d1⟩:Lb)=⟨t2,a2,p2,d2⟩)=(decide (t1=t2) && (decide (a1=a2) && (decide (p1=p2) && decide (d1=d2))))):=hid (by
  rw [Bool.eq_iff_iff];simp [Lb.mk.injEq])
 rw [hr.out];clear hr;have e1:=zam t1 t2;have e3:=zam p1 p2;have e4:=zam d1 d2;have hx:=hid (((Mod.refl (fun _=>False) w).alloc (.cells (lbC v1 ⟨t1,a1,p1,d1⟩).toArray 26)).alloc (.cells (lbC v2 ⟨t2,a2,p2,d2⟩).toArray 26));have hE:=hid (zdA v1 v2 a1 a2 _ (h1.ext hx.out) (h2.ext hx.out));obtain ⟨ao1,c1,rfl⟩:=h1.slice;obtain ⟨ao2,c2,rfl⟩:=h2.slice;clear h1 h2;have hx':Hid (Ext w ((w.alloc (.cells #[.int .i64 t1,.slice ao1 a1.length c1,.int .i64 p1,.int .i64 d1] 26)).alloc (.cells #[.int .i64 t2,.slice ao2 a2.length c2,.int .i64 p2,.int .i64 d2] 26))):=hid hx.out;have hE':Hid (Calls Tryz.prog 38 #[.slice ao1 a1.length c1,.slice ao2 a2.length c2] ((w.alloc (.cells #[.int .i64 t1,.slice ao1 a1.length c1,.int .i64 p1,.int .i64 d1] 26)).alloc (.cells #[.int .i64 t2,.slice ao2 a2.length c2,.int .i64 p2,.int .i64 d2] 26)) _):=hid hE.out;clear hx hE;unfold lbC;simp only;generalize a1.length=n1 at hx' hE' ⊢;generalize a2.length=n2 at hx' hE' ⊢;generalize decide (a1=a2)=b2 at hE' ⊢;generalize decide (t1=t2)=b1 at e1 ⊢;generalize decide (p1=p2)=b3 at e3 ⊢;generalize decide (d1=d2)=b4 at e4 ⊢
 have hR1:=fun (w0:World) (hx:Ext ((w.alloc (.cells #[.int .i64 t1,.slice ao1 n1 c1,.int .i64 p1,.int .i64 d1] 26)).alloc (.cells #[.int .i64 t2,.slice ao2 n2 c2,.int .i64 p2,.int .i64 d2] 26)) w0)=>hx.at (show ((w.alloc (.cells #[.int .i64 t1,.slice ao1 n1 c1,.int .i64 p1,.int .i64 d1] 26)).alloc (.cells #[.int .i64 t2,.slice ao2 n2 c2,.int .i64 p2,.int .i64 d2] 26)).heap[w.heap.size]?=some (.cells #[.int .i64 t1,.slice ao1 n1 c1,.int .i64 p1,.int .i64 d1] 26 (0,0)) by
  rw [zaA,World.size_alloc,if_neg (by omega)];exact heap_alloc_new _ _) (fun h=>h)
 have hR2:=fun (w0:World) (hx:Ext ((w.alloc (.cells #[.int .i64 t1,.slice ao1 n1 c1,.int .i64 p1,.int .i64 d1] 26)).alloc (.cells #[.int .i64 t2,.slice ao2 n2 c2,.int .i64 p2,.int .i64 d2] 26)) w0)=>hx.at (show ((w.alloc (.cells #[.int .i64 t1,.slice ao1 n1 c1,.int .i64 p1,.int .i64 d1] 26)).alloc (.cells #[.int .i64 t2,.slice ao2 n2 c2,.int .i64 p2,.int .i64 d2] 26)).heap[w.heap.size+1]?=some (.cells #[.int .i64 t2,.slice ao2 n2 c2,.int .i64 p2,.int .i64 d2] 26 (0,0)) by
  rw [zaA,World.size_alloc,if_pos rfl]) (fun h=>h)
 replace hR1:=hid hR1;replace hR2:=hid hR2;cases b1 with
 | false=>
  go_enter Tryz.func63,Tryz.ntmps63;go_wp2_with fail
  go_ret;exact ⟨rfl,hx'.out⟩
 | true=>
  go_enter Tryz.func63,Tryz.ntmps63;go_wp2_with fail
  refine hE'.out.mono ?_;rintro e w2 ⟨rfl,hx2⟩;have k1:=hR1.out w2 hx2;have k2:=hR2.out w2 hx2;have hx2:=hid (hx'.out.trans hx2);have q1:w2.cell? ⟨w.heap.size,2,none⟩=some (.int .i64 p1):=zaa k1 2;have q2:w2.cell? ⟨w.heap.size,3,none⟩=some (.int .i64 d1):=zaa k1 3;have q3:w2.cell? ⟨w.heap.size+1,2,none⟩=some (.int .i64 p2):=zaa k2 2;have q4:w2.cell? ⟨w.heap.size+1,3,none⟩=some (.int .i64 d2):=zaa k2 3;clear hR1 hR2 k1 k2 hE' hx';cases b2 with
  | false=>
   go_wp2_with fail
   go_ret;exact ⟨rfl,hx2.out⟩
  | true=>
   cases b3 with
   | false=>
    go_wp2_with fail
    go_ret;exact ⟨rfl,hx2.out⟩
   | true=>
    cases b4 with
    | false=>
     go_wp2_with fail
     go_ret;exact ⟨rfl,hx2.out⟩
    | true=>
     go_wp2_with fail
     go_ret;exact ⟨rfl,hx2.out⟩
theorem drop_at (s:ByteArray) {k:Nat} (hk:k < s.size):s.data.toList.drop k=s[k]::s.data.toList.drop (k+1):=by
 have:k < s.data.toList.length:=by rw [Array.length_toList];exact hk
 rw [List.drop_eq_getElem_cons this]
 rfl
theorem zaO (s:ByteArray):s.size=s.data.toList.length:=by rw [Array.length_toList];rfl
theorem zaY (w:World) (c1 c2:Array Value) (t1 t2:TypeId):Ext w ((w.alloc (.cells c1 t1)).alloc (.cells c2 t2))/\((w.alloc (.cells c1 t1)).alloc (.cells c2 t2)).heap[w.heap.size]?=some (.cells c1 t1 (0,0))/\((w.alloc (.cells c1 t1)).alloc (.cells c2 t2)).heap[w.heap.size+1]?=some (.cells c2 t2 (0,0))/\((w.alloc (.cells c1 t1)).alloc (.cells c2 t2)).heap.size=w.heap.size+2:=by
 refine ⟨((Mod.refl (fun _=>False) w).alloc _).alloc _,?_,?_,by simp only [World.size_alloc]⟩
 ·rw [zaA,World.size_alloc,if_neg (by omega)];exact heap_alloc_new _ _
 ·rw [zaA,World.size_alloc,if_pos rfl]
theorem zfD {F:Nat -> Prop} (v1 v2:Value) (b1 b2:Bk) (w:World) (h1:zaF F w v1 b1.lb.aft) (h2:zaF F w v2 b2.lb.aft):
  Calls Tryz.prog 102 #[.agg (bkC (v1,b1)).toArray,.agg (bkC (v2,b2)).toArray] w fun e w'=>e=.returned (.bool (decide (b1=b2)))/\Ext w w':=by
 obtain ⟨i1,k1,x1,s1,r1,l1⟩:=b1;obtain ⟨i2,k2,x2,s2,r2,l2⟩:=b2;simp only at h1 h2
 have hr:Hid (decide ((⟨i1,k1,x1,s1,r1,l1⟩:Bk)=⟨i2,k2,x2,s2,r2,l2⟩)=(decide (i1=i2) && (decide (k1=k2) && (decide (x1=x2) && (decide (s1=s2) && (decide (r1=r2) && decide (l1=l2))))))):=hid (by
  rw [Bool.eq_iff_iff];simp [Bk.mk.injEq])
 rw [hr.out];clear hr;have e1:=zam i1 i2;have e2:=zam k1 k2;have e3:=zbO x1 x2;have e4:=zam s1 s2;have e5:=zam r1 r2;generalize decide (i1=i2)=d1 at e1 ⊢;generalize decide (k1=k2)=d2 at e2 ⊢;generalize decide (x1=x2)=d3 at e3 ⊢;generalize decide (s1=s2)=d4 at e4 ⊢;generalize decide (r1=r2)=d5 at e5 ⊢;have hx:=hid (zaY w (bkC (v1,⟨i1,k1,x1,s1,r1,l1⟩)).toArray (bkC (v2,⟨i2,k2,x2,s2,r2,l2⟩)).toArray 118 118).1;have hL:=zdp v1 v2 l1 l2 _ (h1.ext hx.out) (h2.ext hx.out);obtain ⟨ao1,c1,rfl⟩:=h1.slice;obtain ⟨ao2,c2,rfl⟩:=h2.slice;clear h1 h2;obtain ⟨t1,a1,p1,q1⟩:=l1;obtain ⟨t2,a2,p2,q2⟩:=l2;unfold bkC lbC zbR at*;simp only at*;generalize a1.length=n1 at*;generalize a2.length=n2 at*;generalize decide ((⟨t1,a1,p1,q1⟩:Lb)=⟨t2,a2,p2,q2⟩)=d6 at hL ⊢;replace hL:=hid hL;go_enter Tryz.func102,Tryz.ntmps102;go_wp2_with fail
 ·refine hL.out.mono ?_
  rintro e w2 ⟨rfl,hx2⟩;have hx2:=hid (hx.out.trans hx2);go_wp2_with fail
  go_ret;exact ⟨by simp [*],hx2.out⟩
 all_goals
  go_ret;exact ⟨by simp [*],hx.out⟩
theorem zg2 {α:Type} [DecidableEq α] {a b:List α} {j:Nat} (h1:j < a.length) (h2:j < b.length):decide (a.drop j=b.drop j)=(decide (a[j]=b[j]) && decide (a.drop (j+1)=b.drop (j+1))):=by
 rw [List.drop_eq_getElem_cons h1,List.drop_eq_getElem_cons h2,Bool.eq_iff_iff];simp only [decide_eq_true_eq,Bool.and_eq_true,List.cons.injEq]
theorem zf6 {F:Nat -> Prop} (v1 v2:Value) (l1 l2:List Bk) (w:World) (h1:zaD F w v1 l1) (h2:zaD F w v2 l2):
  Calls Tryz.prog 101 #[v1,v2,.func (.func 102) #[] #[]] w fun e w'=>e=.returned (.bool (decide (l1=l2)))/\Ext w w':=by
 obtain ⟨r,hr⟩:∃ r,r=decide (l1=l2):=⟨_,rfl⟩;rw [<- hr];have hn1:=h1.len;obtain ⟨ao1,c1,rfl⟩:=h1.slice;obtain ⟨ao2,c2,rfl⟩:=h2.slice;obtain ⟨n1,hl1⟩:∃ n1,n1=l1.length:=⟨_,rfl⟩;obtain ⟨n2,hl2⟩:∃ n2,n2=l2.length:=⟨_,rfl⟩;rw [<- hl1] at h1 hn1 ⊢;rw [<- hl2] at h2 ⊢;replace hl1:=hid hl1;replace hl2:=hid hl2;replace h1:=hid h1;replace h2:=hid h2
 by_cases hab:n1=n2
 rotate_left
 ·have hq:((n1:Int) !=(n2:Int))=true:=by rw [bne_iff_ne];omega
  have hrf:Hid (r=false):=hid (by rw [hr,decide_eq_false_iff_not];intro e;exact hab (by rw [hl1.out,hl2.out,e]));clear hr;replace hab:=hid hab;go_enter Tryz.func101,Tryz.ntmps101;go_wp2_with fail
  go_ret;exact ⟨by rw [hrf.out];rfl,Mod.refl _ _⟩
 ·have hq:((n1:Int) !=(n2:Int))=false:=by rw [bne_eq_false_iff_eq];omega
  replace hab:=hid hab;replace hr:=hid hr;go_enter Tryz.func101,Tryz.ntmps101;go_wp2_with fail
  go_loopg [17] n1 (fun g i wr=>∃ j:Nat,j+g=n1/\i=.int .i64 j/\Ext w wr/\r=decide (l1.drop j=l2.drop j))
  case atStart=>exact ⟨0,by omega,rfl,Mod.refl _ _,hr.out⟩
  case round=>
   clear hr;obtain ⟨j,hj,rfl,hx,hrj⟩:=hrel;replace hj:=hid hj
   by_cases hlt:j < n1
   ·have hd:decide ((j:Int) < (n1:Int))=true:=decide_eq_true (by omega)
    have hdi:(j:Int) < (n1:Int):=by omega
    have hdi2:(j:Int) < (n2:Int):=by have:=hab.out;omega
    have hj1:j < l1.length:=by have:=hl1.out;omega
    have hj2:j < l2.length:=by have:=hl2.out;have:=hab.out;omega
    obtain ⟨b1,o1,a1,m1,c3,rfl,-,hF1,hI1,g0,g1,g2,g3,g4,g5,g6,g7,g8⟩:=(h1.out.ext hx).cells hj1;obtain ⟨b2,o2,a2,m2,c4,rfl,-,hF2,hI2,f0,f1,f2,f3,f4,f5,f6,f7,f8⟩:=(h2.out.ext hx).cells hj2;rw [zg2 hj1 hj2] at hrj;have hB:=fun W (hX:Ext wr W)=>zfD (F:=F) (.slice a1 m1 c3) (.slice a2 m2 c4) l1[j] l2[j] W (hI1.ext hX) (hI2.ext hX)
    clear hI1 hI2 hF1 hF2;generalize hrest:decide (l1.drop (j+1)=l2.drop (j+1))=rest at hrj;replace hrest:=hid hrest;generalize l1[j]=x at*;generalize l2[j]=y at*;obtain ⟨i1,k1,x1,s1,r1,t1,y1,p1,q1⟩:=x;obtain ⟨i2,k2,x2,s2,r2,t2,y2,p2,q2⟩:=y;simp only at*;have up2:∀ {o:Nat} {v:Value},wr.cell? ⟨b2,o,none⟩=some v -> ∀ ob,(wr.alloc ob).cell? ⟨b2,o,none⟩=some v:=fun h ob=>(Mod.alloc (Mod.refl (fun _=>False) wr) ob).cell h (fun h=>h)
    replace f0:=up2 f0;replace f1:=up2 f1;replace f2:=up2 f2;replace f3:=up2 f3;replace f4:=up2 f4;replace f5:=up2 f5;replace f6:=up2 f6;replace f7:=up2 f7;replace f8:=up2 f8;clear up2;generalize hdec:decide ((⟨i1,k1,x1,s1,r1,⟨t1,y1,p1,q1⟩⟩:Bk)=⟨i2,k2,x2,s2,r2,⟨t2,y2,p2,q2⟩⟩)=bb at hrj hB;clear hdec;unfold bkC zbR at hB;simp only at hB;replace hB:=hid hB;replace hrj:=hid hrj;have hxx:=hid (hx.trans (zaY wr #[.int .i64 i1,.int .i64 k1,.string ⟨x1.toArray⟩,.int .i64 s1,.int .i64 r1,.int .i64 t1,.slice a1 m1 c3,.int .i64 p1,.int .i64 q1] #[.int .i64 i2,.int .i64 k2,.string ⟨x2.toArray⟩,.int .i64 s2,.int .i64 r2,.int .i64 t2,.slice a2 m2 c4,.int .i64 p2,.int .i64 q2] 118 118).1);have hBB:=hid (hB.out _ (zaY wr #[.int .i64 i1,.int .i64 k1,.string ⟨x1.toArray⟩,.int .i64 s1,.int .i64 r1,.int .i64 t1,.slice a1 m1 c3,.int .i64 p1,.int .i64 q1] #[.int .i64 i2,.int .i64 k2,.string ⟨x2.toArray⟩,.int .i64 s2,.int .i64 r2,.int .i64 t2,.slice a2 m2 c4,.int .i64 p2,.int .i64 q2] 118 118).1);clear hB;replace hx:=hid hx;go_wp2_with fail
    refine hBB.out.mono ?_;rintro e w4 ⟨rfl,hx4⟩;have hx4:=hid (hxx.out.trans hx4);clear hBB;cases bb with
    | false=>
     go_wp2_with fail
     go_ret;exact ⟨by rw [hrj.out];rfl,hx4.out⟩
    | true=>
     go_wp2_with fail
     go_roundg (gk - 1)
     case measure=>have:=hj.out;omega
     case rel=>exact ⟨j+1,by have:=hj.out;omega,by go_num,hx4.out,by rw [hrj.out,Bool.true_and];exact hrest.out.symm⟩
   ·have hdi:¬ (j:Int) < (n1:Int):=by omega
    have hd:decide ((j:Int) < (n1:Int))=false:=decide_eq_false hdi;rw [List.drop_eq_nil_of_le (by have:=hl1.out;omega),List.drop_eq_nil_of_le (by have:=hl2.out;have:=hab.out;omega)] at hrj;replace hrj:=hid hrj;replace hx:=hid hx;go_wp2_with fail
    go_ret;exact ⟨by rw [hrj.out];rfl,hx.out⟩
theorem zdu {F:Nat -> Prop} (v1 v2:Value) (l1 l2:List Bk) (w:World) (h1:zaD F w v1 l1) (h2:zaD F w v2 l2):
  Calls Tryz.prog 62 #[v1,v2] w fun e w'=>e=.returned (.bool (decide (l1=l2)))/\Ext w w':=by
 have hE:=hid (zf6 v1 v2 l1 l2 w h1 h2);clear h1 h2;generalize decide (l1=l2)=r at hE ⊢;go_enter Tryz.func62,Tryz.ntmps62;go_wp2_with fail
 refine hE.out.mono ?_;rintro e w2 ⟨rfl,hx2⟩;replace hx2:=hid hx2;go_wp2_with fail
 go_ret;exact ⟨rfl,hx2.out⟩
theorem zcq (s:ByteArray) (p:UInt8 -> Bool) {k:Nat} (hk:k < s.size):(s.data.toList.drop k).all p=(p s[k] && (s.data.toList.drop (k+1)).all p):=by
 rw [drop_at s hk,List.all_cons]
theorem ze4 (s:ByteArray) (w:World):Calls Tryz.prog 224 #[.string s] w fun e w'=>e=.returned (.bool (zcp s.data.toList))/\w=w':=by
 obtain ⟨r,hr⟩:∃ r,r=zcp s.data.toList:=⟨_,rfl⟩;rw [<- hr];unfold zcp at hr;rw [<- zaO] at hr
 by_cases hl:s.size<=300
 rotate_left
 ·have hq:(300:Int) < (s.size:Int):=by omega
  rw [decide_eq_false hl,Bool.false_and] at hr;replace hr:=hid hr;go_enter Tryz.func224,Tryz.ntmps224;go_wp2_with fail
  go_ret;exact ⟨by rw [hr.out];rfl,rfl⟩
 ·have hq:¬ (300:Int) < (s.size:Int):=by omega
  rw [decide_eq_true hl,Bool.true_and] at hr;replace hr:=hid hr;go_enter Tryz.func224,Tryz.ntmps224;go_wp2_with fail
  go_loopg [3] s.size (fun g i wr=>∃ j:Nat,j+g=s.size/\i=.int .i64 j/\wr=w/\r=(s.data.toList.drop j).all zc0)
  case atStart=>exact ⟨0,by omega,rfl,rfl,hr.out⟩
  case round=>
   obtain ⟨j,hj,rfl,rfl,hrj⟩:=hrel;replace hj:=hid hj
   by_cases hlt:j < s.size
   ·rw [zcq s zc0 hlt] at hrj
    have hc:Hid (zc0 s[j]=(decide (32<=s[j].toNat) && decide (s[j].toNat<=126))):=hid rfl;generalize hrest:(s.data.toList.drop (j+1)).all zc0=rest at hrj;generalize zc0 s[j]=p at hc hrj;replace hrj:=hid hrj;replace hrest:=hid hrest
    by_cases h1:((s[j].toNat:Nat):Int) < 32
    ·have hp:Hid (p=false):=hid (by rw [hc.out];simp;omega)
     replace hc:=hid hc;go_wp2_with fail
     go_ret;exact ⟨by rw [hrj.out,hp.out];rfl,rfl⟩
    ·by_cases h2:(126:Int) < ((s[j].toNat:Nat):Int)
     ·have hp:Hid (p=false):=hid (by rw [hc.out];simp;omega)
      go_wp2_with fail
      go_ret;exact ⟨by rw [hrj.out,hp.out];rfl,rfl⟩
     ·have hp:Hid (p=true):=hid (by rw [hc.out];simp;omega)
      go_wp2_with fail
      go_roundg (gk - 1)
      case measure=>have:=hj.out;omega
      case rel=>exact ⟨j+1,by have:=hj.out;omega,by go_num,rfl,by rw [hrj.out,hp.out,Bool.true_and];exact hrest.out.symm⟩
   ·obtain rfl:j=s.size:=by have:=hj.out;omega
    rw [List.drop_eq_nil_of_le (by rw [<- zaO];exact Nat.le_refl _)] at hrj;replace hrj:=hid hrj;go_wp2_with fail
    go_ret;exact ⟨by rw [hrj.out];rfl,rfl⟩
theorem zl6 (c:UInt8):zdV c=((decide (97<=c.toNat) && decide (c.toNat<=122)) || (decide (48<=c.toNat) && decide (c.toNat<=57)) || decide (c.toNat=45)):=rfl
theorem ziI (s:ByteArray) (w:World):Calls Tryz.prog 230 #[.string s] w fun e w'=>e=.returned (.bool (zbv s.data.toList))/\w=w':=by
 obtain ⟨r,hr⟩:∃ r,r=zbv s.data.toList:=⟨_,rfl⟩;rw [<- hr];unfold zbv at hr;rw [<- zaO] at hr
 by_cases hl:1<=s.size/\s.size<=20
 rotate_left
 ·have hrf:Hid (r=false):=hid (by
   rw [hr]
   by_cases h1:1<=s.size
   ·rw [decide_eq_false (show ¬ s.size<=20 by omega)];simp
   ·rw [decide_eq_false h1];rfl)
  clear hr
  by_cases h1:s.size < 1
  ·have hq:(s.size:Int) < 1:=by omega
   go_enter Tryz.func230,Tryz.ntmps230;go_wp2_with fail
   go_ret;exact ⟨by rw [hrf.out];rfl,rfl⟩
  ·have hq:¬ (s.size:Int) < 1:=by omega
   have hq2:(20:Int) < (s.size:Int):=by omega
   go_enter Tryz.func230,Tryz.ntmps230;go_wp2_with fail
   go_ret;exact ⟨by rw [hrf.out];rfl,rfl⟩
 ·have hq:¬ (s.size:Int) < 1:=by omega
  have hq2:¬ (20:Int) < (s.size:Int):=by omega
  rw [decide_eq_true hl.1,decide_eq_true hl.2,Bool.true_and,Bool.true_and] at hr;replace hr:=hid hr;go_enter Tryz.func230,Tryz.ntmps230;go_wp2_with fail
  go_loopg [3] s.size (fun g i wr=>∃ j:Nat,j+g=s.size/\i=.int .i64 j/\wr=w/\r=(s.data.toList.drop j).all zdV)
  case atStart=>exact ⟨0,by omega,rfl,rfl,hr.out⟩
  case round=>
   obtain ⟨j,hj,rfl,rfl,hrj⟩:=hrel;replace hj:=hid hj
   by_cases hlt:j < s.size
   ·rw [zcq s zdV hlt] at hrj
    have hc:=hid (zl6 s[j]);generalize hrest:(s.data.toList.drop (j+1)).all zdV=rest at hrj;generalize zdV s[j]=p at hc hrj;replace hrj:=hid hrj;replace hrest:=hid hrest;have hx8:(s[j].toNat:Int)<=255:=by have:=s[j].toNat_lt;omega
    by_cases h1:(97:Int)<=(s[j].toNat:Int) <;> by_cases h2:(s[j].toNat:Int)<=122 <;> by_cases h3:(48:Int)<=(s[j].toNat:Int) <;> by_cases h4:(s[j].toNat:Int)<=57 <;> cases h5:((s[j].toNat:Int) !=45)
    all_goals
     have h5':=h5;simp only [bne_iff_ne,bne_eq_false_iff_eq,ne_eq] at h5';replace h5':=hid h5'
    all_goals try (exfalso;have:=h5'.out;omega)
    all_goals try
     have hp:Hid (p=true):=hid (by rw [hc.out];have:=h5'.out;simp;omega);go_wp2_with fail
     go_roundg (gk - 1)
     case measure=>have:=hj.out;omega
     case rel=>exact ⟨j+1,by have:=hj.out;omega,by go_num,rfl,by rw [hrj.out,hp.out,Bool.true_and];exact hrest.out.symm⟩
    all_goals
     have hp:Hid (p=false):=hid (by rw [hc.out];have:=h5'.out;simp;omega);go_wp2_with fail
     go_ret;exact ⟨by rw [hrj.out,hp.out];rfl,rfl⟩
   ·obtain rfl:j=s.size:=by have:=hj.out;omega
    rw [List.drop_eq_nil_of_le (by rw [<- zaO];exact Nat.le_refl _)] at hrj;replace hrj:=hid hrj;go_wp2_with fail
    go_ret;exact ⟨by rw [hrj.out];rfl,rfl⟩
end Go.Proofs.YtjjfphalcibjfaaGreatDoor
