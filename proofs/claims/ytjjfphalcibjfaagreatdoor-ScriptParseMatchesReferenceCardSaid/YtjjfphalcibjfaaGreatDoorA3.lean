import Derived.Test.YtjjfphalcibjfaaGreatDoorWhole
import Derived.RangeFuncNested
import Derived.RangeFuncBound
import Derived.Shelf.RegionOpen
import Derived.OwnWalkIn
import Derived.LoopNIn
import Derived.LoopIn
import Derived.Test.YtjjfphalcibjfaaGreatDoorC0
import Derived.Test.YtjjfphalcibjfaaGreatDoorShelf
set_option maxRecDepth 100000
set_option maxHeartbeats 16000000
namespace Go.Proofs.YtjjfphalcibjfaaGreatDoor
open Go.Shelf Go.RowKit Cdk Scr
attribute [local go_sem] Oper.semAt_some
def zfk (c:UInt8):Value:=.int .u8 c.toNat
theorem zfD {f z:Nat} (h:z < 128):zdJ (f+1) z=[UInt8.ofNat z]:=by rw [zdJ,if_pos h]
theorem ziX {f z:Nat} (h:¬ z < 128):zdJ (f+1) z=UInt8.ofNat (z % 128+128)::zdJ f (z / 128):=by rw [zdJ,if_neg h]
theorem zl8:∀ (f z:Nat),(zdJ f z).length<=f
 | 0,_=>by simp [zdJ]
 | f+1,z=>by
  by_cases h:z < 128
  ·rw [zfD h];simp
  ·rw [ziX h];have:=zl8 f (z / 128);simp;omega
theorem zh8 {n:Nat} (h:n < 256):zfk (UInt8.ofNat n)=.int .u8 n:=by
 unfold zfk;rw [UInt8.toNat_ofNat_of_lt' (by simpa using h)]
theorem AbidesFrom.drew {β:Type} {B:Nat} {J:β -> World -> Prop} (h:AbidesFrom B J) {s:β} {W:World} (hs:J s W):J s W.drew:=
 h s W W.drew none hs ⟨rfl,rfl,rfl,Nat.le_refl _,fun _ _ _=>rfl⟩ (fun _ e=>nomatch e)
theorem zl5 (n l Bn:Nat) (hn:1<=n) (z:Nat) (hz:z < 18446744073709551616) (J Jx:List UInt8 -> World -> Prop)
  (hY:∀ pre x W,J pre W -> pre.length < 10 -> YieldAt Fence.wide (n - 1) Tryz.prog l #[zfk x] W fun e W'=>
   (e=.returned (.bool true)/\J (pre++[x]) W'/\True) \/ (e=.returned (.bool false)/\Jx (pre++[x]) W'))
  (W:World) (hc:W.cell? ⟨Bn,0,none⟩=some (.int .u64 z)) (h0:J [] W):
  CallsIn Fence.wide n Tryz.prog 247 #[.func (.yield l) #[] #[],.pointer (some ⟨Bn,0,none⟩)] W fun e W'=>(∃ v,e=.returned v) ∧
   ((∃ ys,ys=zdJ 10 z/\J ys W') \/ (∃ pre,pre <+:zdJ 10 z/\Jx pre W')):=by
 refine callsIn_wide.2 ?_;go_enter Tryz.func247,Tryz.ntmps247;obtain ⟨SC,hSC⟩:∃ SC,SC=zdJ 10 z:=⟨_,rfl⟩;rw [<- hSC];replace hY:=Y hY;go_wp2_with fail
 go_loopg [3] 10 (fun g r wr=>∃ (pre:List UInt8) (q:Nat),r=.int .u64 q/\q < 18446744073709551616/\q < 128 ^ g/\1<=g/\SC=pre++zdJ g q/\J pre wr/\pre.length+g=10)
 case atStart=>exact ⟨[],z,rfl,hz,Nat.lt_of_lt_of_le hz (by decide),by omega,by rw [hSC];rfl,h0,rfl⟩
 case round=>
  clear h0 hc hSC;obtain ⟨pre,q,rfl,hq64,hq,hg,hsc,hJp,hlen⟩:=hrel;obtain ⟨g,rfl⟩:∃ g,gk=g+1:=⟨gk - 1,by omega⟩;replace hq:=Y hq;replace hsc:=Y hsc;replace hlen:=Y hlen;replace hJp:=Y hJp
  by_cases hlt:q < 128
  ·have hd:decide ((128:Int)<=(q:Int))=false:=decide_eq_false (by omega)
   have hdi:¬ (128:Int)<=(q:Int):=by omega
   have e1:=Y (zfD (f:=g) hlt);have hy:=hY.o pre (UInt8.ofNat q) wr hJp.o (by have:=hlen.o;omega);rw [zh8 (by omega)] at hy;obtain ⟨yfn,ytmps,yassign,ybody,hyr,hyR⟩:=hy;replace hyR:=Y hyR;go_upto_region 4 with fail
   refine (wpIn_wide (n:=n)).1 ?_
   gi_wp2
   refine hyR.o.mono ?_;have hfull:pre++[UInt8.ofNat q]=SC:=by rw [hsc.o,e1.o]
   replace hfull:=Y hfull;rintro e' W3 (⟨rfl,hJ3,-⟩ | ⟨rfl,hJx3⟩)
   ·replace hJ3:=Y hJ3
    gi_wp2
    go_end0
    exact ⟨⟨_,rfl⟩,.inl ⟨_,hfull.o,hJ3.o⟩⟩
   ·replace hJx3:=Y hJx3
    gi_wp2
    go_end0
    exact ⟨⟨_,rfl⟩,.inr ⟨_,by rw [hfull.o];exact List.prefix_refl _,hJx3.o⟩⟩
  ·have hd:decide ((128:Int)<=(q:Int))=true:=decide_eq_true (by omega)
   have hdi:(128:Int)<=(q:Int):=by omega
   have e1:=Y (ziX (f:=g) hlt);have hg1:1<=g:=by
    rcases Nat.eq_zero_or_pos g with h0 | h0
    ·have:=hq.o
     rw [h0] at this;simp at this;omega
    ·exact h0
   have hy:=hY.o pre (UInt8.ofNat (q % 128+128)) wr hJp.o (by have:=hlen.o;omega);rw [zh8 (by omega),show ((q % 128+128:Nat):Int)=(q:Int) % 128+128 from by omega] at hy;obtain ⟨yfn,ytmps,yassign,ybody,hyr,hyR⟩:=hy;replace hyR:=Y hyR;go_upto_region 2 with fail
   refine (wpIn_wide (n:=n)).1 ?_
   gi_wp2
   refine hyR.o.mono ?_;rintro e' W3 (⟨rfl,hJ3,-⟩ | ⟨rfl,hJx3⟩)
   ·replace hJ3:=Y hJ3
    gi_wp2
    go_wp2_with fail
    go_roundg g
    case measure=>omega
    case rel=>exact ⟨pre++[UInt8.ofNat (q % 128+128)],q / 128,by go_num,by omega,by have:=hq.o;rw [Nat.pow_succ] at this;exact Nat.div_lt_of_lt_mul (by omega),hg1,by rw [hsc.o,e1.o];simp,hJ3.o,by have:=hlen.o;simp;omega⟩
   ·replace hJx3:=Y hJx3
    gi_wp2
    go_wp2_with fail
    try simp only [Exit.noGoto_normal]
    refine bodyPost_ret (results_none rfl _ _ _) rfl ?_;exact ⟨⟨_,rfl⟩,.inr ⟨pre++[UInt8.ofNat (q % 128+128)],⟨zdJ g (q / 128),by rw [hsc.o,e1.o];simp⟩,hJx3.o⟩⟩
theorem zgg (n Bn:Nat) (hn:1<=n) (z:Nat) (hz:z < 18446744073709551616) (w:World) (hB:Bn < w.heap.size) (hc:w.cell? ⟨Bn,0,none⟩=some (.int .u64 z)):
  SeqStopsK Fence.wide n Tryz.prog 247 #[.pointer (some ⟨Bn,0,none⟩)] (fun x=>#[zfk x]) (fun _ _=>True) (fun ys=>ys=zdJ 10 z) (fun pre=>pre <+:zdJ 10 z) 10 w:=fun l J Jx W hW _ _ hY h0=>
 zl5 n l Bn hn z hz J Jx hY W ((hW.cell (p:=⟨Bn,0,none⟩) hB).trans hc) h0
theorem zgi (z:Nat) (w:World):Calls Tryz.prog 212 #[.int .u64 z] w fun e w'=>e=.returned (.func (.func 247) #[] #[.pointer (some ⟨w.heap.size,0,none⟩)])/\w'=w.alloc (.cells #[.int .u64 z] 164):=by
 go_enter Tryz.func212,Tryz.ntmps212;go_wp2_with fail
 go_ret;exact ⟨rfl,rfl⟩
theorem ze1 {w W W':World} {row:Option Nat} (h:Ext w W) (hg:W.grownBy W' row) (hr:∀ r,row=some r -> w.heap.size<=r):Ext w W':=
 ⟨hg.os.trans h.os,hg.tape.trans h.tape,hg.output.trans h.output,Nat.le_trans h.size hg.size,fun k hk _=>(hg.block k (Nat.lt_of_lt_of_le hk h.size) (fun e=>by have:=hr k e.symm;omega)).trans (h.block k hk id)⟩
theorem zaq {W W':World} {row:Option Nat} (hg:W.grownBy W' row) (hrow:∀ r,row=some r -> ∃ o:Obj,W.heap[r]?=some o/\o.isCells=false) {k:Nat} {c:Array Value} {t:TypeId} {fr:Nat × Nat}
  (hk:W.heap[k]?=some (.cells c t fr)):W'.heap[k]?=some (.cells c t fr):=(grownBy_keeps_cells hg hrow hk rfl).trans hk
theorem zan (w:World) {b k:Nat} (j:Nat) (v:Value) (h:k ≠ b):(w.setCell ⟨b,j,none⟩ v).heap[k]?=w.heap[k]?:=Below.heap_setCell w ⟨b,j,none⟩ v k h
theorem zdX {w:World} {b:Nat} {x v:Value} {t:TypeId} {fr:Nat × Nat} (h:w.heap[b]?=some (.cells #[x] t fr)):(w.setCell ⟨b,0,none⟩ v).heap[b]?=some (.cells #[v] t fr):=by
 simp only [World.setCell,Array.getElem?_modify,if_true];rw [h];simp
structure PutI (w:World) (R:Nat) (pre:List UInt8) (W:World):Prop where
 ext:Ext w W
 len:pre.length<=10
 bytes:∃ rest:List Value,rest.length=10 - pre.length/\W.heap[R]?=some (.cells (pre.map zfk++rest).toArray 188 (0,0))
 size:W.heap[R+1]?=some (.cells #[.int .i64 pre.length] 3 (0,0))
theorem zgn {w W:World} {R m:Nat} {pre:List UInt8} {x:UInt8} {r0:Value} {rest:List Value} (hRw:w.heap.size<=R) (h:PutI w R pre W) (hm:m=pre.length) (hrl:(r0::rest).length=10 - pre.length)
  (hb:W.heap[R]?=some (.cells (pre.map zfk++r0::rest).toArray 188 (0,0))):
  KeepsOthers W ((W.setCell ⟨R,m,none⟩ (.int .u8 x.toNat)).setCell ⟨R+1,0,none⟩ (.int .i64 ((m:Int)+1)))/\True/\PutI w R (pre++[x]) ((W.setCell ⟨R,m,none⟩ (.int .u8 x.toNat)).setCell ⟨R+1,0,none⟩ (.int .i64 ((m:Int)+1))):=by
 refine ⟨(KeepsOthers.setCell _ _ _).trans (KeepsOthers.setCell _ _ _),trivial,?_,?_,⟨rest,?_,?_⟩,?_⟩
 ·exact (h.ext.setCell (fun e=>by have:R < w.heap.size:=e;omega) _).setCell (fun e=>by have:R+1 < w.heap.size:=e;omega) _
 ·simp only [List.length_cons,List.length_append,List.length_nil] at hrl ⊢;omega
 ·simp only [List.length_cons,List.length_append,List.length_nil] at hrl ⊢;omega
 ·rw [zan _ 0 _ (by omega),zai hb m]
  subst hm;simp [zfk]
 ·have h1:=(zan W (b:=R) (k:=R+1) m (.int .u8 x.toNat) (by omega)).trans h.size
  rw [zdX h1,hm];simp
theorem zfa (W:World) (R m:Nat) (hm:m<=10):(Instr.sliceAt 188 (.pointer (some ⟨R,0,none⟩)) none (some (.int .i64 m)) none).run Tryz.prog W=.ok (.slice (some ⟨R,0,none⟩) m 10) W:=by
 have h10:Tryz.prog.arrayLen 188=10:=by kernel_rfl
 rw [run_sliceAt_array_h W 188 ⟨R,0,none⟩ (by kernel_rfl) .i64 m (by omega) (by rw [h10];omega),h10];have hs:(sizeOf (Tryz.prog.elem 188)).run Tryz.prog W=.ok 1 W:=by kernel_rfl
 rw [hs];simp [Result.andThen,slicedAt,Addr.add]
theorem zgh (W:World) (R:Nat) (xs:List UInt8) (rest:List Value) (hb:W.heap[R]?=some (.cells (xs.map zfk++rest).toArray 188 (0,0))):
  (convert 63 9 (.slice (some ⟨R,0,none⟩) xs.length 10)).run Tryz.prog W=.ok (.string ⟨xs.toArray⟩) W:=by
 refine run_convert_bytes_back W _ _ _ ⟨R,0,none⟩ 10 xs Tryz.underlying63 Tryz.underlying5 Tryz.underlying9 (fun j hj=>?_);rw [show (⟨R,0,none⟩:Addr).add j=⟨R,j,none⟩ by rw [Addr.add_lit,Nat.zero_add],zaa hb j];simp [List.getElem?_append_left,hj,zfk]
theorem zju (w:World) (R B:Nat) (hB:w.heap.size<=B):OwnFrom B (fun p W=>PutI w R p W):=by
 intro p W W' row h hg hrow;have hr:=fun r e=>(hrow r e).2
 obtain ⟨rest,hl,hb⟩:=h.bytes;exact ⟨ze1 h.ext hg (fun r e=>by have:=(hrow r e).1;omega),h.len,⟨rest,hl,zaq hg hr hb⟩,zaq hg hr h.size⟩
theorem zbr (n:Int) (h1:-4611686018427387903<=n) (h2:n<=4611686018427387903) (w:World):
  Calls Tryz.prog 187 #[.int .i64 n] w fun e w'=>e=.returned (.tuple #[.string ⟨(zbc n).toArray⟩,.int .i64 0])/\Ext w w':=by
 by_cases hneg:n < 0
 ·have hz:(2*-n - 1:Int)=((zz n:Nat):Int):=by unfold zz;split <;> omega
  have hz64:zz n < 18446744073709551616:=by unfold zz;split <;> omega
  have hput:Hid (zbc n=zdJ 10 (zz n)):=Y (by unfold zbc;rw [if_neg (by omega)]);refine (callsIn_wide (n:=3)).1 ?_;refine callsIn_of_wp_marks Tryz.func187 rfl trivial ?_ rfl;simp only [Tryz.ntmps187,List.size_toArray,List.length_cons,List.length_nil,Nat.reduceAdd,Nat.reduceSub,Array.replicate_succ,Array.replicate_zero,List.push_toArray,List.append_toArray,List.nil_append,List.cons_append];refine (wpIn_wide (n:=3)).2 ?_;go_wp2_with fail
  try rw [hz]
  refine (zgi _ _).mono ?_;rintro e w' ⟨rfl,rfl⟩;go_wp2_with fail
  try simp only [World.size_alloc]
  obtain ⟨R,hR⟩:∃ R,R=w.heap.size:=⟨_,rfl⟩;simp only [<- hR];generalize zz n=Z at hz64 hput ⊢;clear hz;have hx4:=(((Mod.refl (fun _=>False) w).alloc (.cells #[.int .u8 0,.int .u8 0,.int .u8 0,.int .u8 0,.int .u8 0,.int .u8 0,.int .u8 0,.int .u8 0,.int .u8 0,.int .u8 0] 188)).alloc (.cells #[.int .i64 0] 3)).alloc (.cells #[.int .u64 Z] 164);have hg4:∀ k,(((w.alloc (.cells #[.int .u8 0,.int .u8 0,.int .u8 0,.int .u8 0,.int .u8 0,.int .u8 0,.int .u8 0,.int .u8 0,.int .u8 0,.int .u8 0] 188)).alloc (.cells #[.int .i64 0] 3)).alloc (.cells #[.int .u64 Z] 164)).heap[k]?=
    if k=R+1+1 then some (.cells #[.int .u64 Z] 164 (0,0)) else if k=R+1 then some (.cells #[.int .i64 0] 3 (0,0)) else if k=R then some (.cells #[.int .u8 0,.int .u8 0,.int .u8 0,.int .u8 0,.int .u8 0,.int .u8 0,.int .u8 0,.int .u8 0,.int .u8 0,.int .u8 0] 188 (0,0)) else w.heap[k]?:=by
   intro k;simp only [zaG,World.size_alloc,<- hR]
  have hs4:(((w.alloc (.cells #[.int .u8 0,.int .u8 0,.int .u8 0,.int .u8 0,.int .u8 0,.int .u8 0,.int .u8 0,.int .u8 0,.int .u8 0,.int .u8 0] 188)).alloc (.cells #[.int .i64 0] 3)).alloc (.cells #[.int .u64 Z] 164)).heap.size=R+3:=by simp only [World.size_alloc,<- hR]
  generalize (((w.alloc (.cells #[.int .u8 0,.int .u8 0,.int .u8 0,.int .u8 0,.int .u8 0,.int .u8 0,.int .u8 0,.int .u8 0,.int .u8 0,.int .u8 0] 188)).alloc (.cells #[.int .i64 0] 3)).alloc (.cells #[.int .u64 Z] 164))=w4 at hx4 hg4 hs4 ⊢;have k0:=hg4 R;have k1:=hg4 (R+1);have k2:=hg4 (R+1+1);rw [if_neg (by omega),if_neg (by omega),if_pos rfl] at k0;rw [if_neg (by omega),if_pos rfl] at k1;rw [if_pos rfl] at k2;have hcz:w4.cell? ⟨R+1+1,0,none⟩=some (.int .u64 Z):=by rw [zaa k2];rfl
  have hI0:PutI w R [] w4:=⟨hx4,by simp,⟨_,by rfl,k0⟩,k1⟩;clear hg4;have hwR:w.heap.size<=R:=Nat.le_of_eq hR.symm;replace hR:=Y hR;have hseq:=zgg 2 (R+1+1) (by omega) Z hz64 w4 (by omega) hcz;refine (wpIn_wide (n:=3)).1 ?_;refine wpIn_rangeFunc_ownF (F:=Fence.wide) rfl (by omega) (gf:=247) (lb:=#[.pointer (some ⟨R+1+1,0,none⟩)]) rfl trivial (enters_of Tryz.func247 (by kernel_rfl) rfl)
   hseq (fun _ _=>trivial) (fun _ _ _ _ _ _ _ _=>trivial) (Below.refl _ _) (fun _=>rfl) (fun pre W=>PutI w R pre W) (fun _ _ _=>False)
   (zju w R w4.heap.size (by omega)) (fun c s W W' row h _ _=>h) hI0 ?aa1 ?assign1 ?body1 ?done1 (fun D c pre W _ _ h=>h.elim)
  case assign1=>
   intro l x W K hK;unfold zfk
   gi_wp2
   exact hK
  case body1=>
   rintro l pre x W hI hlen;obtain ⟨rest,hrl,hb⟩:=hI.bytes;obtain ⟨r0,rest,rfl⟩:∃ r0 r,rest=r0::r:=by
    cases rest with
    | nil=>simp at hrl;omega
    | cons a b=>exact ⟨a,b,rfl⟩
   obtain ⟨m,hm⟩:∃ m,m=pre.length:=⟨_,rfl⟩;have c0:W.cell? ⟨R+1,0,none⟩=some (.int .i64 m):=by rw [zaa hI.size,hm];rfl
   have z0:=zad hI.size;have c1:W.cell? ⟨R,m,none⟩=some r0:=by rw [zaa hb,hm];simp
   have z1:=zad hb;have hm10:m < 10:=by omega
   have hmi:(m:Int) < 10:=by omega
   replace hm:=Y hm;replace hI:=Y hI;replace hb:=Y hb;replace hrl:=Y hrl
   gi_wp2
   exact zgn hwR hI.o hm.o hrl.o hb.o
  case done1=>
   rintro D xs W hD hxs hI hK;obtain ⟨rest,hrl,hb⟩:=hI.bytes;obtain ⟨m,hm⟩:∃ m,m=xs.length:=⟨_,rfl⟩;have c0:W.cell? ⟨R+1,0,none⟩=some (.int .i64 m):=by rw [zaa hI.size,hm];rfl
   have hm10:m<=10:=by have:=hI.len;omega
   have hsl:=zfa W R m hm10;have hcv:=zgh W R xs rest hb;rw [<- hm] at hcv;replace hm:=Y hm;replace hI:=Y hI;replace hb:=Y hb;replace hrl:=Y hrl;replace hxs:=Y hxs;replace hK:=Y hK;go_wp2_with fail
   have hgD:W.grownBy (W.putObj D (.deferred none)) (some D):=grownBy_putObj' W D _;refine ⟨by simp,.inl ⟨_,_,rfl,run_takeDeferred hK.o,?_⟩⟩;refine ⟨_,by simp [results,go_sem];rfl,?_⟩;exact ⟨by rw [hput.o,<- hxs.o],ze1 hI.o.ext hgD (fun r e=>by cases e;omega)⟩
 ·have hz:(2*n:Int)=((zz n:Nat):Int):=by unfold zz;split <;> omega
  have hz64:zz n < 18446744073709551616:=by unfold zz;split <;> omega
  have hput:Hid (zbc n=zdJ 10 (zz n)):=Y (by unfold zbc;rw [if_neg (by omega)]);refine (callsIn_wide (n:=3)).1 ?_;refine callsIn_of_wp_marks Tryz.func187 rfl trivial ?_ rfl;simp only [Tryz.ntmps187,List.size_toArray,List.length_cons,List.length_nil,Nat.reduceAdd,Nat.reduceSub,Array.replicate_succ,Array.replicate_zero,List.push_toArray,List.append_toArray,List.nil_append,List.cons_append];refine (wpIn_wide (n:=3)).2 ?_;go_wp2_with fail
  try rw [hz]
  refine (zgi _ _).mono ?_;rintro e w' ⟨rfl,rfl⟩;go_wp2_with fail
  try simp only [World.size_alloc]
  obtain ⟨R,hR⟩:∃ R,R=w.heap.size:=⟨_,rfl⟩;simp only [<- hR];generalize zz n=Z at hz64 hput ⊢;clear hz;have hx4:=(((Mod.refl (fun _=>False) w).alloc (.cells #[.int .u8 0,.int .u8 0,.int .u8 0,.int .u8 0,.int .u8 0,.int .u8 0,.int .u8 0,.int .u8 0,.int .u8 0,.int .u8 0] 188)).alloc (.cells #[.int .i64 0] 3)).alloc (.cells #[.int .u64 Z] 164);have hg4:∀ k,(((w.alloc (.cells #[.int .u8 0,.int .u8 0,.int .u8 0,.int .u8 0,.int .u8 0,.int .u8 0,.int .u8 0,.int .u8 0,.int .u8 0,.int .u8 0] 188)).alloc (.cells #[.int .i64 0] 3)).alloc (.cells #[.int .u64 Z] 164)).heap[k]?=
    if k=R+1+1 then some (.cells #[.int .u64 Z] 164 (0,0)) else if k=R+1 then some (.cells #[.int .i64 0] 3 (0,0)) else if k=R then some (.cells #[.int .u8 0,.int .u8 0,.int .u8 0,.int .u8 0,.int .u8 0,.int .u8 0,.int .u8 0,.int .u8 0,.int .u8 0,.int .u8 0] 188 (0,0)) else w.heap[k]?:=by
   intro k;simp only [zaG,World.size_alloc,<- hR]
  have hs4:(((w.alloc (.cells #[.int .u8 0,.int .u8 0,.int .u8 0,.int .u8 0,.int .u8 0,.int .u8 0,.int .u8 0,.int .u8 0,.int .u8 0,.int .u8 0] 188)).alloc (.cells #[.int .i64 0] 3)).alloc (.cells #[.int .u64 Z] 164)).heap.size=R+3:=by simp only [World.size_alloc,<- hR]
  generalize (((w.alloc (.cells #[.int .u8 0,.int .u8 0,.int .u8 0,.int .u8 0,.int .u8 0,.int .u8 0,.int .u8 0,.int .u8 0,.int .u8 0,.int .u8 0] 188)).alloc (.cells #[.int .i64 0] 3)).alloc (.cells #[.int .u64 Z] 164))=w4 at hx4 hg4 hs4 ⊢;have k0:=hg4 R;have k1:=hg4 (R+1);have k2:=hg4 (R+1+1);rw [if_neg (by omega),if_neg (by omega),if_pos rfl] at k0;rw [if_neg (by omega),if_pos rfl] at k1;rw [if_pos rfl] at k2;have hcz:w4.cell? ⟨R+1+1,0,none⟩=some (.int .u64 Z):=by rw [zaa k2];rfl
  have hI0:PutI w R [] w4:=⟨hx4,by simp,⟨_,by rfl,k0⟩,k1⟩;clear hg4;have hwR:w.heap.size<=R:=Nat.le_of_eq hR.symm;replace hR:=Y hR;have hseq:=zgg 2 (R+1+1) (by omega) Z hz64 w4 (by omega) hcz;refine (wpIn_wide (n:=3)).1 ?_;refine wpIn_rangeFunc_ownF (F:=Fence.wide) rfl (by omega) (gf:=247) (lb:=#[.pointer (some ⟨R+1+1,0,none⟩)]) rfl trivial (enters_of Tryz.func247 (by kernel_rfl) rfl)
   hseq (fun _ _=>trivial) (fun _ _ _ _ _ _ _ _=>trivial) (Below.refl _ _) (fun _=>rfl) (fun pre W=>PutI w R pre W) (fun _ _ _=>False)
   (zju w R w4.heap.size (by omega)) (fun c s W W' row h _ _=>h) hI0 ?aa2 ?assign2 ?body2 ?done2 (fun D c pre W _ _ h=>h.elim)
  case assign2=>
   intro l x W K hK;unfold zfk
   gi_wp2
   exact hK
  case body2=>
   rintro l pre x W hI hlen;obtain ⟨rest,hrl,hb⟩:=hI.bytes;obtain ⟨r0,rest,rfl⟩:∃ r0 r,rest=r0::r:=by
    cases rest with
    | nil=>simp at hrl;omega
    | cons a b=>exact ⟨a,b,rfl⟩
   obtain ⟨m,hm⟩:∃ m,m=pre.length:=⟨_,rfl⟩;have c0:W.cell? ⟨R+1,0,none⟩=some (.int .i64 m):=by rw [zaa hI.size,hm];rfl
   have z0:=zad hI.size;have c1:W.cell? ⟨R,m,none⟩=some r0:=by rw [zaa hb,hm];simp
   have z1:=zad hb;have hm10:m < 10:=by omega
   have hmi:(m:Int) < 10:=by omega
   replace hm:=Y hm;replace hI:=Y hI;replace hb:=Y hb;replace hrl:=Y hrl
   gi_wp2
   exact zgn hwR hI.o hm.o hrl.o hb.o
  case done2=>
   rintro D xs W hD hxs hI hK;obtain ⟨rest,hrl,hb⟩:=hI.bytes;obtain ⟨m,hm⟩:∃ m,m=xs.length:=⟨_,rfl⟩;have c0:W.cell? ⟨R+1,0,none⟩=some (.int .i64 m):=by rw [zaa hI.size,hm];rfl
   have hm10:m<=10:=by have:=hI.len;omega
   have hsl:=zfa W R m hm10;have hcv:=zgh W R xs rest hb;rw [<- hm] at hcv;replace hm:=Y hm;replace hI:=Y hI;replace hb:=Y hb;replace hrl:=Y hrl;replace hxs:=Y hxs;replace hK:=Y hK;go_wp2_with fail
   have hgD:W.grownBy (W.putObj D (.deferred none)) (some D):=grownBy_putObj' W D _;refine ⟨by simp,.inl ⟨_,_,rfl,run_takeDeferred hK.o,?_⟩⟩;refine ⟨_,by simp [results,go_sem];rfl,?_⟩;exact ⟨by rw [hput.o,<- hxs.o],ze1 hI.o.ext hgD (fun r e=>by cases e;omega)⟩
open Go.RowKit Cdk Scr
theorem zhB (w:World) (n:Nat):Ext w (w.drewN n):=(Mod.refl (fun _=>False) w).ofDrewN n
theorem zer {F:Nat -> Prop} (v1 v2:Value) (l1 l2:List Int) (w:World) (h1:zaF F w v1 l1) (h2:zaF F w v2 l2):
  Calls Tryz.prog 38 #[v1,v2] w fun e w'=>e=.returned (.bool (decide (l1=l2)))/\Ext w w':=by
 have n1:=h1.len;have n2:=h2.len
 by_cases hl:l1.length=l2.length
 ·by_cases h0:l1.length=0
  ·obtain ⟨a1,c1,rfl⟩:=h1.slice
   obtain ⟨a2,c2,rfl⟩:=h2.slice;have e1:l1=[]:=List.eq_nil_of_length_eq_zero h0;have e2:l2=[]:=List.eq_nil_of_length_eq_zero (by omega);subst e1;subst e2;exact (Tryz.slices_Equal_int_empty a1 a2 c1 0 c2 w (by decide)).mono fun e w' ⟨a,b⟩=>⟨by rw [a];rfl,b ▸ Mod.refl _ _⟩
  ·obtain ⟨b1,o1,c1,e1,-,-⟩:=h1.get 1 zbv (by decide) (j:=0) (by omega)
   obtain ⟨b2,o2,c2,e2,-,-⟩:=h2.get 1 zbv (by decide) (j:=0) (by omega);subst e1;subst e2;have k1:∀ j,j < l1.length -> w.cell? ⟨b1,o1+j,none⟩=some (.int .i64 (l1.getD j 0)):=fun j hj=>by
    obtain ⟨b,o,c,e,-,hc⟩:=h1.get 1 zbv (by decide) hj;injection e with e;injection e with e;injection e with e3 e4 _
    subst e3;subst e4;have:=hc 0 _ (by decide) rfl;simp only [Nat.mul_one,Nat.add_zero] at this;rw [this];simp [List.getD,hj]
   have k2:∀ j,j < l2.length -> w.cell? ⟨b2,o2+j,none⟩=some (.int .i64 (l2.getD j 0)):=fun j hj=>by
    obtain ⟨b,o,c,e,-,hc⟩:=h2.get 1 zbv (by decide) hj;injection e with e;injection e with e;injection e with e3 e4 _
    subst e3;subst e4;have:=hc 0 _ (by decide) rfl;simp only [Nat.mul_one,Nat.add_zero] at this;rw [this];simp [List.getD,hj]
   refine (Tryz.slices_Equal_int b1 o1 l1.length c1 b2 o2 l2.length c2 l1 l2 w (Nat.le_refl _) (Nat.le_refl _) (by omega) (by omega) k1 k2).mono fun e w' ⟨a,q,b⟩=>⟨?_,b ▸ zhB w q⟩
   rw [a,List.take_length,List.take_length];congr 2;rw [Bool.eq_iff_iff,beq_iff_eq,decide_eq_true_eq]
 ·obtain ⟨a1,c1,rfl⟩:=h1.slice
  obtain ⟨a2,c2,rfl⟩:=h2.slice;refine (Tryz.slices_Equal_int_lens a1 a2 l1.length c1 l2.length c2 w hl).mono fun e w' ⟨a,b⟩=>⟨?_,b ▸ Mod.refl _ _⟩
  rw [a,decide_eq_false (fun h=>hl (by rw [h]))]
theorem zjW {F:Nat -> Prop} (v1 v2:Value) (l1 l2:List Bs) (w:World) (h1:zbC F w v1 l1) (h2:zbC F w v2 l2):
  Calls Tryz.prog 61 #[v1,v2] w fun e w'=>e=.returned (.bool (decide (l1=l2)))/\Ext w w':=by
 have n1:=h1.len;have n2:=h2.len
 by_cases hl:l1.length=l2.length
 ·by_cases h0:l1.length=0
  ·obtain ⟨a1,c1,rfl⟩:=h1.slice
   obtain ⟨a2,c2,rfl⟩:=h2.slice;have e1:l1=[]:=List.eq_nil_of_length_eq_zero h0;have e2:l2=[]:=List.eq_nil_of_length_eq_zero (by omega);subst e1;subst e2;exact (Tryz.slices_Equal_string_empty a1 a2 c1 0 c2 w (by decide)).mono fun e w' ⟨a,b⟩=>⟨by rw [a];rfl,b ▸ Mod.refl _ _⟩
  ·obtain ⟨b1,o1,c1,e1,-,-⟩:=h1.get 1 zaC (by decide) (j:=0) (by omega)
   obtain ⟨b2,o2,c2,e2,-,-⟩:=h2.get 1 zaC (by decide) (j:=0) (by omega);subst e1;subst e2;have k1:∀ j,j < (l1.map (fun s=>(⟨s.toArray⟩:ByteArray))).length -> w.cell? ⟨b1,o1+j,none⟩=some (.string ((l1.map (fun s=>(⟨s.toArray⟩:ByteArray))).getD j ByteArray.empty)):=fun j hj=>by
    have hj':j < l1.length:=by simpa using hj
    obtain ⟨b,o,c,e,-,hc⟩:=h1.get 1 zaC (by decide) hj';injection e with e;injection e with e;injection e with e3 e4 _
    subst e3;subst e4;have:=hc 0 _ (by decide) rfl;simp only [Nat.mul_one,Nat.add_zero] at this;rw [this];simp only [List.getD,List.getElem?_map,List.getElem?_eq_getElem hj',Option.map_some,Option.getD_some];rfl
   have k2:∀ j,j < (l2.map (fun s=>(⟨s.toArray⟩:ByteArray))).length -> w.cell? ⟨b2,o2+j,none⟩=some (.string ((l2.map (fun s=>(⟨s.toArray⟩:ByteArray))).getD j ByteArray.empty)):=fun j hj=>by
    have hj':j < l2.length:=by simpa using hj
    obtain ⟨b,o,c,e,-,hc⟩:=h2.get 1 zaC (by decide) hj';injection e with e;injection e with e;injection e with e3 e4 _
    subst e3;subst e4;have:=hc 0 _ (by decide) rfl;simp only [Nat.mul_one,Nat.add_zero] at this;rw [this];simp only [List.getD,List.getElem?_map,List.getElem?_eq_getElem hj',Option.map_some,Option.getD_some];rfl
   refine (Tryz.slices_Equal_string b1 o1 l1.length c1 b2 o2 l2.length c2 (l1.map fun s=>(⟨s.toArray⟩:ByteArray)) (l2.map fun s=>(⟨s.toArray⟩:ByteArray)) w (by simp) (by simp) (by omega) (by omega) k1 k2).mono fun e w' ⟨a,q,b⟩=>⟨?_,b ▸ zhB w q⟩
   rw [a];congr 2;rw [Bool.eq_iff_iff,decide_eq_true_eq,decide_eq_true_eq,List.take_of_length_le (by simp),List.take_of_length_le (by simp)];constructor
   ·intro h
    have:=congrArg (List.map (fun s:ByteArray=>s.data.toList)) h;simpa [List.map_map,Function.comp_def] using this
   ·intro h;rw [h]
 ·obtain ⟨a1,c1,rfl⟩:=h1.slice
  obtain ⟨a2,c2,rfl⟩:=h2.slice;refine (Tryz.slices_Equal_string_lens a1 a2 l1.length c1 l2.length c2 w hl).mono fun e w' ⟨a,b⟩=>⟨?_,b ▸ Mod.refl _ _⟩
  rw [a,decide_eq_false (fun h=>hl (by rw [h]))]
theorem zaj (a b:Int):(a==b)=decide (a=b):=by rw [Bool.eq_iff_iff,beq_iff_eq,decide_eq_true_eq]
theorem zdu (a b:Int):(a !=b)=!decide (a=b):=by rw [Bool.eq_iff_iff,bne_iff_ne];simp
theorem zbZ (a b:Bs):(a==b)=decide (a=b):=by rw [Bool.eq_iff_iff,beq_iff_eq,decide_eq_true_eq]
theorem zdZ {F:Nat -> Prop} (v1 v2:Value) (l1 l2:Lb) (w:World) (h1:zaF F w v1 l1.aft) (h2:zaF F w v2 l2.aft):
  Calls Tryz.prog 63 #[.agg (lbC v1 l1).toArray,.agg (lbC v2 l2).toArray] w fun e w'=>e=.returned (.bool (decide (l1=l2)))/\Ext w w':=by
 obtain ⟨t1,a1,p1,d1⟩:=l1;obtain ⟨t2,a2,p2,d2⟩:=l2;simp only at h1 h2
 have hr:Hid (decide ((⟨t1,a1,p1,d1⟩:Lb)=⟨t2,a2,p2,d2⟩)=(decide (t1=t2) && (decide (a1=a2) && (decide (p1=p2) && decide (d1=d2))))):=Y (by
  rw [Bool.eq_iff_iff];simp [Lb.mk.injEq])
 rw [hr.o];clear hr;have e1:=zaj t1 t2;have e3:=zaj p1 p2;have e4:=zaj d1 d2;have hx:=Y (((Mod.refl (fun _=>False) w).alloc (.cells (lbC v1 ⟨t1,a1,p1,d1⟩).toArray 26)).alloc (.cells (lbC v2 ⟨t2,a2,p2,d2⟩).toArray 26));have hE:=Y (zer v1 v2 a1 a2 _ (h1.ext hx.o) (h2.ext hx.o));obtain ⟨ao1,c1,rfl⟩:=h1.slice;obtain ⟨ao2,c2,rfl⟩:=h2.slice;clear h1 h2;have hx':Hid (Ext w ((w.alloc (.cells #[.int .i64 t1,.slice ao1 a1.length c1,.int .i64 p1,.int .i64 d1] 26)).alloc (.cells #[.int .i64 t2,.slice ao2 a2.length c2,.int .i64 p2,.int .i64 d2] 26))):=Y hx.o;have hE':Hid (Calls Tryz.prog 38 #[.slice ao1 a1.length c1,.slice ao2 a2.length c2] ((w.alloc (.cells #[.int .i64 t1,.slice ao1 a1.length c1,.int .i64 p1,.int .i64 d1] 26)).alloc (.cells #[.int .i64 t2,.slice ao2 a2.length c2,.int .i64 p2,.int .i64 d2] 26)) _):=Y hE.o;clear hx hE;unfold lbC;simp only;generalize a1.length=n1 at hx' hE' ⊢;generalize a2.length=n2 at hx' hE' ⊢;generalize decide (a1=a2)=b2 at hE' ⊢;generalize decide (t1=t2)=b1 at e1 ⊢;generalize decide (p1=p2)=b3 at e3 ⊢;generalize decide (d1=d2)=b4 at e4 ⊢
 have hR1:=fun (w0:World) (hx:Ext ((w.alloc (.cells #[.int .i64 t1,.slice ao1 n1 c1,.int .i64 p1,.int .i64 d1] 26)).alloc (.cells #[.int .i64 t2,.slice ao2 n2 c2,.int .i64 p2,.int .i64 d2] 26)) w0)=>hx.at (show ((w.alloc (.cells #[.int .i64 t1,.slice ao1 n1 c1,.int .i64 p1,.int .i64 d1] 26)).alloc (.cells #[.int .i64 t2,.slice ao2 n2 c2,.int .i64 p2,.int .i64 d2] 26)).heap[w.heap.size]?=some (.cells #[.int .i64 t1,.slice ao1 n1 c1,.int .i64 p1,.int .i64 d1] 26 (0,0)) by
  rw [zaG,World.size_alloc,if_neg (by omega)];exact heap_alloc_new _ _) id
 have hR2:=fun (w0:World) (hx:Ext ((w.alloc (.cells #[.int .i64 t1,.slice ao1 n1 c1,.int .i64 p1,.int .i64 d1] 26)).alloc (.cells #[.int .i64 t2,.slice ao2 n2 c2,.int .i64 p2,.int .i64 d2] 26)) w0)=>hx.at (show ((w.alloc (.cells #[.int .i64 t1,.slice ao1 n1 c1,.int .i64 p1,.int .i64 d1] 26)).alloc (.cells #[.int .i64 t2,.slice ao2 n2 c2,.int .i64 p2,.int .i64 d2] 26)).heap[w.heap.size+1]?=some (.cells #[.int .i64 t2,.slice ao2 n2 c2,.int .i64 p2,.int .i64 d2] 26 (0,0)) by
  rw [zaG,World.size_alloc,if_pos rfl]) id
 replace hR1:=Y hR1;replace hR2:=Y hR2;cases b1 with
 | false=>
  go_enter Tryz.func63,Tryz.ntmps63;go_wp2_with fail
  go_ret;exact ⟨rfl,hx'.o⟩
 | true=>
  go_enter Tryz.func63,Tryz.ntmps63;go_wp2_with fail
  refine hE'.o.mono ?_;rintro e w2 ⟨rfl,hx2⟩;have k1:=hR1.o w2 hx2;have k2:=hR2.o w2 hx2;have hx2:=Y (hx'.o.trans hx2);have q1:=cS k1 2;have q2:=cS k1 3;have q3:=cS k2 2;have q4:=cS k2 3;clear hR1 hR2 k1 k2 hE' hx';cases b2 with
  | false=>
   go_wp2_with fail
   go_ret;exact ⟨rfl,hx2.o⟩
  | true=>
   cases b3 with
   | false=>
    go_wp2_with fail
    go_ret;exact ⟨rfl,hx2.o⟩
   | true=>
    cases b4 with
    | false=>
     go_wp2_with fail
     go_ret;exact ⟨rfl,hx2.o⟩
    | true=>
     go_wp2_with fail
     go_ret;exact ⟨rfl,hx2.o⟩
theorem drop_at (s:ByteArray) {k:Nat} (hk:k < s.size):s.data.toList.drop k=s[k]::s.data.toList.drop (k+1):=by
 have:k < s.data.toList.length:=by rw [Array.length_toList];exact hk
 rw [List.drop_eq_getElem_cons this]
 rfl
theorem zaN (s:ByteArray):s.size=s.data.toList.length:=by rw [Array.length_toList];rfl
theorem zaV (w:World) (c1 c2:Array Value) (t1 t2:TypeId):Ext w ((w.alloc (.cells c1 t1)).alloc (.cells c2 t2))/\((w.alloc (.cells c1 t1)).alloc (.cells c2 t2)).heap[w.heap.size]?=some (.cells c1 t1 (0,0))/\((w.alloc (.cells c1 t1)).alloc (.cells c2 t2)).heap[w.heap.size+1]?=some (.cells c2 t2 (0,0))/\((w.alloc (.cells c1 t1)).alloc (.cells c2 t2)).heap.size=w.heap.size+2:=by
 refine ⟨((Mod.refl (fun _=>False) w).alloc _).alloc _,?_,?_,by simp only [World.size_alloc]⟩
 ·rw [zaG,World.size_alloc,if_neg (by omega)];exact heap_alloc_new _ _
 ·rw [zaG,World.size_alloc,if_pos rfl]
theorem zhc {F:Nat -> Prop} (v1 v2:Value) (b1 b2:Bk) (w:World) (h1:zaF F w v1 b1.lb.aft) (h2:zaF F w v2 b2.lb.aft):
  Calls Tryz.prog 102 #[.agg (bkC (v1,b1)).toArray,.agg (bkC (v2,b2)).toArray] w fun e w'=>e=.returned (.bool (decide (b1=b2)))/\Ext w w':=by
 obtain ⟨i1,k1,x1,s1,r1,l1⟩:=b1;obtain ⟨i2,k2,x2,s2,r2,l2⟩:=b2;simp only at h1 h2
 have hr:Hid (decide ((⟨i1,k1,x1,s1,r1,l1⟩:Bk)=⟨i2,k2,x2,s2,r2,l2⟩)=(decide (i1=i2) && (decide (k1=k2) && (decide (x1=x2) && (decide (s1=s2) && (decide (r1=r2) && decide (l1=l2))))))):=Y (by
  rw [Bool.eq_iff_iff];simp [Bk.mk.injEq])
 rw [hr.o];clear hr;have e1:=zaj i1 i2;have e2:=zaj k1 k2;have e3:=zbZ x1 x2;have e4:=zaj s1 s2;have e5:=zaj r1 r2;generalize decide (i1=i2)=d1 at e1 ⊢;generalize decide (k1=k2)=d2 at e2 ⊢;generalize decide (x1=x2)=d3 at e3 ⊢;generalize decide (s1=s2)=d4 at e4 ⊢;generalize decide (r1=r2)=d5 at e5 ⊢;have hx:=Y (zaV w (bkC (v1,⟨i1,k1,x1,s1,r1,l1⟩)).toArray (bkC (v2,⟨i2,k2,x2,s2,r2,l2⟩)).toArray 118 118).1;have hL:=zdZ v1 v2 l1 l2 _ (h1.ext hx.o) (h2.ext hx.o);obtain ⟨ao1,c1,rfl⟩:=h1.slice;obtain ⟨ao2,c2,rfl⟩:=h2.slice;clear h1 h2;obtain ⟨t1,a1,p1,q1⟩:=l1;obtain ⟨t2,a2,p2,q2⟩:=l2;unfold bkC lbC zb0 at*;simp only at*;generalize a1.length=n1 at*;generalize a2.length=n2 at*;generalize decide ((⟨t1,a1,p1,q1⟩:Lb)=⟨t2,a2,p2,q2⟩)=d6 at hL ⊢;replace hL:=Y hL;go_enter Tryz.func102,Tryz.ntmps102;go_wp2_with fail
 ·refine hL.o.mono ?_
  rintro e w2 ⟨rfl,hx2⟩;have hx2:=Y (hx.o.trans hx2);go_wp2_with fail
  go_ret;exact ⟨by simp [*],hx2.o⟩
 all_goals
  go_ret;exact ⟨by simp [*],hx.o⟩
theorem ziS {α:Type} [DecidableEq α] {a b:List α} {j:Nat} (h1:j < a.length) (h2:j < b.length):decide (a.drop j=b.drop j)=(decide (a[j]=b[j]) && decide (a.drop (j+1)=b.drop (j+1))):=by
 rw [List.drop_eq_getElem_cons h1,List.drop_eq_getElem_cons h2,Bool.eq_iff_iff];simp only [decide_eq_true_eq,Bool.and_eq_true,List.cons.injEq]
theorem zii {F:Nat -> Prop} (v1 v2:Value) (l1 l2:List Bk) (w:World) (h1:zaE F w v1 l1) (h2:zaE F w v2 l2):
  Calls Tryz.prog 101 #[v1,v2,.func (.func 102) #[] #[]] w fun e w'=>e=.returned (.bool (decide (l1=l2)))/\Ext w w':=by
 obtain ⟨r,hr⟩:∃ r,r=decide (l1=l2):=⟨_,rfl⟩;rw [<- hr];have hn1:=h1.len;obtain ⟨ao1,c1,rfl⟩:=h1.slice;obtain ⟨ao2,c2,rfl⟩:=h2.slice;obtain ⟨n1,hl1⟩:∃ n1,n1=l1.length:=⟨_,rfl⟩;obtain ⟨n2,hl2⟩:∃ n2,n2=l2.length:=⟨_,rfl⟩;rw [<- hl1] at h1 hn1 ⊢;rw [<- hl2] at h2 ⊢;replace hl1:=Y hl1;replace hl2:=Y hl2;replace h1:=Y h1;replace h2:=Y h2
 by_cases hab:n1=n2
 rotate_left
 ·have hq:((n1:Int) !=(n2:Int))=true:=by rw [bne_iff_ne];omega
  have hrf:Hid (r=false):=Y (by rw [hr,decide_eq_false_iff_not];intro e;exact hab (by rw [hl1.o,hl2.o,e]));clear hr;replace hab:=Y hab;go_enter Tryz.func101,Tryz.ntmps101;go_wp2_with fail
  go_ret;exact ⟨by rw [hrf.o];rfl,Mod.refl _ _⟩
 ·have hq:((n1:Int) !=(n2:Int))=false:=by rw [bne_eq_false_iff_eq];omega
  replace hab:=Y hab;replace hr:=Y hr;go_enter Tryz.func101,Tryz.ntmps101;go_wp2_with fail
  go_loopg [17] n1 (fun g i wr=>∃ j:Nat,j+g=n1/\i=.int .i64 j/\Ext w wr/\r=decide (l1.drop j=l2.drop j))
  case atStart=>exact ⟨0,by omega,rfl,Mod.refl _ _,hr.o⟩
  case round=>
   clear hr;obtain ⟨j,hj,rfl,hx,hrj⟩:=hrel;replace hj:=Y hj
   by_cases hlt:j < n1
   ·have hd:decide ((j:Int) < (n1:Int))=true:=decide_eq_true (by omega)
    have hdi:(j:Int) < (n1:Int):=by omega
    have hdi2:(j:Int) < (n2:Int):=by have:=hab.o;omega
    have hj1:j < l1.length:=by have:=hl1.o;omega
    have hj2:j < l2.length:=by have:=hl2.o;have:=hab.o;omega
    obtain ⟨b1,o1,a1,m1,c3,rfl,-,hF1,hI1,g0,g1,g2,g3,g4,g5,g6,g7,g8⟩:=(h1.o.ext hx).cells hj1;obtain ⟨b2,o2,a2,m2,c4,rfl,-,hF2,hI2,f0,f1,f2,f3,f4,f5,f6,f7,f8⟩:=(h2.o.ext hx).cells hj2;rw [ziS hj1 hj2] at hrj;have hB:=fun W (hX:Ext wr W)=>zhc (F:=F) (.slice a1 m1 c3) (.slice a2 m2 c4) l1[j] l2[j] W (hI1.ext hX) (hI2.ext hX)
    clear hI1 hI2 hF1 hF2;generalize hrest:decide (l1.drop (j+1)=l2.drop (j+1))=rest at hrj;replace hrest:=Y hrest;generalize l1[j]=x at*;generalize l2[j]=y at*;obtain ⟨i1,k1,x1,s1,r1,t1,y1,p1,q1⟩:=x;obtain ⟨i2,k2,x2,s2,r2,t2,y2,p2,q2⟩:=y;simp only at*;have up2:∀ {o:Nat} {v:Value},wr.cell? ⟨b2,o,none⟩=some v -> ∀ ob,(wr.alloc ob).cell? ⟨b2,o,none⟩=some v:=fun h ob=>(Mod.alloc (Mod.refl (fun _=>False) wr) ob).cell h id
    replace f0:=up2 f0;replace f1:=up2 f1;replace f2:=up2 f2;replace f3:=up2 f3;replace f4:=up2 f4;replace f5:=up2 f5;replace f6:=up2 f6;replace f7:=up2 f7;replace f8:=up2 f8;clear up2;generalize hdec:decide ((⟨i1,k1,x1,s1,r1,⟨t1,y1,p1,q1⟩⟩:Bk)=⟨i2,k2,x2,s2,r2,⟨t2,y2,p2,q2⟩⟩)=bb at hrj hB;clear hdec;unfold bkC zb0 at hB;simp only at hB;replace hB:=Y hB;replace hrj:=Y hrj;have hxx:=Y (hx.trans (zaV wr #[.int .i64 i1,.int .i64 k1,.string ⟨x1.toArray⟩,.int .i64 s1,.int .i64 r1,.int .i64 t1,.slice a1 m1 c3,.int .i64 p1,.int .i64 q1] #[.int .i64 i2,.int .i64 k2,.string ⟨x2.toArray⟩,.int .i64 s2,.int .i64 r2,.int .i64 t2,.slice a2 m2 c4,.int .i64 p2,.int .i64 q2] 118 118).1);have hBB:=Y (hB.o _ (zaV wr #[.int .i64 i1,.int .i64 k1,.string ⟨x1.toArray⟩,.int .i64 s1,.int .i64 r1,.int .i64 t1,.slice a1 m1 c3,.int .i64 p1,.int .i64 q1] #[.int .i64 i2,.int .i64 k2,.string ⟨x2.toArray⟩,.int .i64 s2,.int .i64 r2,.int .i64 t2,.slice a2 m2 c4,.int .i64 p2,.int .i64 q2] 118 118).1);clear hB;replace hx:=Y hx;go_wp2_with fail
    refine hBB.o.mono ?_;rintro e w4 ⟨rfl,hx4⟩;have hx4:=Y (hxx.o.trans hx4);clear hBB;cases bb with
    | false=>
     go_wp2_with fail
     go_ret;exact ⟨by rw [hrj.o];rfl,hx4.o⟩
    | true=>
     go_wp2_with fail
     go_roundg (gk - 1)
     case measure=>have:=hj.o;omega
     case rel=>exact ⟨j+1,by have:=hj.o;omega,by go_num,hx4.o,by rw [hrj.o,Bool.true_and];exact hrest.o.symm⟩
   ·have hdi:¬ (j:Int) < (n1:Int):=by omega
    have hd:decide ((j:Int) < (n1:Int))=false:=decide_eq_false hdi;rw [List.drop_eq_nil_of_le (by have:=hl1.o;omega),List.drop_eq_nil_of_le (by have:=hl2.o;have:=hab.o;omega)] at hrj;replace hrj:=Y hrj;replace hx:=Y hx;go_wp2_with fail
    go_ret;exact ⟨by rw [hrj.o];rfl,hx.o⟩
theorem zee {F:Nat -> Prop} (v1 v2:Value) (l1 l2:List Bk) (w:World) (h1:zaE F w v1 l1) (h2:zaE F w v2 l2):
  Calls Tryz.prog 62 #[v1,v2] w fun e w'=>e=.returned (.bool (decide (l1=l2)))/\Ext w w':=by
 have hE:=Y (zii v1 v2 l1 l2 w h1 h2);clear h1 h2;generalize decide (l1=l2)=r at hE ⊢;go_enter Tryz.func62,Tryz.ntmps62;go_wp2_with fail
 refine hE.o.mono ?_;rintro e w2 ⟨rfl,hx2⟩;replace hx2:=Y hx2;go_wp2_with fail
 go_ret;exact ⟨rfl,hx2.o⟩
theorem zcS (s:ByteArray) (p:UInt8 -> Bool) {k:Nat} (hk:k < s.size):(s.data.toList.drop k).all p=(p s[k] && (s.data.toList.drop (k+1)).all p):=by
 rw [drop_at s hk,List.all_cons]
theorem zf0 (s:ByteArray) (w:World):Calls Tryz.prog 224 #[.string s] w fun e w'=>e=.returned (.bool (zcF s.data.toList))/\w=w':=by
 obtain ⟨r,hr⟩:∃ r,r=zcF s.data.toList:=⟨_,rfl⟩;rw [<- hr];unfold zcF at hr;rw [<- zaN] at hr
 by_cases hl:s.size<=300
 rotate_left
 ·have hq:(300:Int) < (s.size:Int):=by omega
  rw [decide_eq_false hl,Bool.false_and] at hr;replace hr:=Y hr;go_enter Tryz.func224,Tryz.ntmps224;go_wp2_with fail
  go_ret;exact ⟨by rw [hr.o];rfl,rfl⟩
 ·have hq:¬ (300:Int) < (s.size:Int):=by omega
  rw [decide_eq_true hl,Bool.true_and] at hr;replace hr:=Y hr;go_enter Tryz.func224,Tryz.ntmps224;go_wp2_with fail
  go_loopg [3] s.size (fun g i wr=>∃ j:Nat,j+g=s.size/\i=.int .i64 j/\wr=w/\r=(s.data.toList.drop j).all zdK)
  case atStart=>exact ⟨0,by omega,rfl,rfl,hr.o⟩
  case round=>
   obtain ⟨j,hj,rfl,rfl,hrj⟩:=hrel;replace hj:=Y hj
   by_cases hlt:j < s.size
   ·rw [zcS s zdK hlt] at hrj
    have hc:Hid (zdK s[j]=(decide (32<=s[j].toNat) && decide (s[j].toNat<=126))):=Y rfl;generalize hrest:(s.data.toList.drop (j+1)).all zdK=rest at hrj;generalize zdK s[j]=p at hc hrj;replace hrj:=Y hrj;replace hrest:=Y hrest
    by_cases h1:((s[j].toNat:Nat):Int) < 32
    ·have hp:Hid (p=false):=Y (by rw [hc.o];simp;omega)
     replace hc:=Y hc;go_wp2_with fail
     go_ret;exact ⟨by rw [hrj.o,hp.o];rfl,rfl⟩
    ·by_cases h2:(126:Int) < ((s[j].toNat:Nat):Int)
     ·have hp:Hid (p=false):=Y (by rw [hc.o];simp;omega)
      go_wp2_with fail
      go_ret;exact ⟨by rw [hrj.o,hp.o];rfl,rfl⟩
     ·have hp:Hid (p=true):=Y (by rw [hc.o];simp;omega)
      go_wp2_with fail
      go_roundg (gk - 1)
      case measure=>have:=hj.o;omega
      case rel=>exact ⟨j+1,by have:=hj.o;omega,by go_num,rfl,by rw [hrj.o,hp.o,Bool.true_and];exact hrest.o.symm⟩
   ·obtain rfl:j=s.size:=by have:=hj.o;omega
    rw [List.drop_eq_nil_of_le (by rw [<- zaN];exact Nat.le_refl _)] at hrj;replace hrj:=Y hrj;go_wp2_with fail
    go_ret;exact ⟨by rw [hrj.o];rfl,rfl⟩
theorem znm (c:UInt8):zd8 c=((decide (97<=c.toNat) && decide (c.toNat<=122)) || (decide (48<=c.toNat) && decide (c.toNat<=57)) || decide (c.toNat=45)):=rfl
theorem zj4 (s:ByteArray) (w:World):Calls Tryz.prog 230 #[.string s] w fun e w'=>e=.returned (.bool (zbT s.data.toList))/\w=w':=by
 obtain ⟨r,hr⟩:∃ r,r=zbT s.data.toList:=⟨_,rfl⟩;rw [<- hr];unfold zbT at hr;rw [<- zaN] at hr
 by_cases hl:1<=s.size/\s.size<=20
 rotate_left
 ·have hrf:Hid (r=false):=Y (by
   rw [hr]
   by_cases h1:1<=s.size
   ·rw [decide_eq_false (show ¬ s.size<=20 by omega)];simp
   ·rw [decide_eq_false h1];rfl)
  clear hr
  by_cases h1:s.size < 1
  ·have hq:(s.size:Int) < 1:=by omega
   go_enter Tryz.func230,Tryz.ntmps230;go_wp2_with fail
   go_ret;exact ⟨by rw [hrf.o];rfl,rfl⟩
  ·have hq:¬ (s.size:Int) < 1:=by omega
   have hq2:(20:Int) < (s.size:Int):=by omega
   go_enter Tryz.func230,Tryz.ntmps230;go_wp2_with fail
   go_ret;exact ⟨by rw [hrf.o];rfl,rfl⟩
 ·have hq:¬ (s.size:Int) < 1:=by omega
  have hq2:¬ (20:Int) < (s.size:Int):=by omega
  rw [decide_eq_true hl.1,decide_eq_true hl.2,Bool.true_and,Bool.true_and] at hr;replace hr:=Y hr;go_enter Tryz.func230,Tryz.ntmps230;go_wp2_with fail
  go_loopg [3] s.size (fun g i wr=>∃ j:Nat,j+g=s.size/\i=.int .i64 j/\wr=w/\r=(s.data.toList.drop j).all zd8)
  case atStart=>exact ⟨0,by omega,rfl,rfl,hr.o⟩
  case round=>
   obtain ⟨j,hj,rfl,rfl,hrj⟩:=hrel;replace hj:=Y hj
   by_cases hlt:j < s.size
   ·rw [zcS s zd8 hlt] at hrj
    have hc:=Y (znm s[j]);generalize hrest:(s.data.toList.drop (j+1)).all zd8=rest at hrj;generalize zd8 s[j]=p at hc hrj;replace hrj:=Y hrj;replace hrest:=Y hrest;have hx8:(s[j].toNat:Int)<=255:=by have:=s[j].toNat_lt;omega
    by_cases h1:(97:Int)<=(s[j].toNat:Int) <;> by_cases h2:(s[j].toNat:Int)<=122 <;> by_cases h3:(48:Int)<=(s[j].toNat:Int) <;> by_cases h4:(s[j].toNat:Int)<=57 <;> cases h5:((s[j].toNat:Int) !=45)
    all_goals
     have h5':=h5;simp only [bne_iff_ne,bne_eq_false_iff_eq,ne_eq] at h5';replace h5':=Y h5'
    all_goals try (exfalso;have:=h5'.o;omega)
    all_goals try
     have hp:Hid (p=true):=Y (by rw [hc.o];have:=h5'.o;simp;omega);go_wp2_with fail
     go_roundg (gk - 1)
     case measure=>have:=hj.o;omega
     case rel=>exact ⟨j+1,by have:=hj.o;omega,by go_num,rfl,by rw [hrj.o,hp.o,Bool.true_and];exact hrest.o.symm⟩
    all_goals
     have hp:Hid (p=false):=Y (by rw [hc.o];have:=h5'.o;simp;omega);go_wp2_with fail
     go_ret;exact ⟨by rw [hrj.o,hp.o];rfl,rfl⟩
   ·obtain rfl:j=s.size:=by have:=hj.o;omega
    rw [List.drop_eq_nil_of_le (by rw [<- zaN];exact Nat.le_refl _)] at hrj;replace hrj:=Y hrj;go_wp2_with fail
    go_ret;exact ⟨by rw [hrj.o];rfl,rfl⟩
end Go.Proofs.YtjjfphalcibjfaaGreatDoor
