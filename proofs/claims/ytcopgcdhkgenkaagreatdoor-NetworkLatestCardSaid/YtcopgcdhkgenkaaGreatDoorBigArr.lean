import Derived.Test.YtcopgcdhkgenkaaGreatDoorMapIter
import Derived.Test.YtcopgcdhkgenkaaGreatDoorSC0
import Derived.Test.YtcopgcdhkgenkaaGreatDoorShelf
import Derived.Test.YtcopgcdhkgenkaaGreatDoorProg
import Derived.Laws.Strings
import Derived.RangeFuncNested
import Derived.RangeFuncBound
import Derived.RangeFuncCalls
import Derived.RangeFuncLeaves
import Derived.RangeFuncBox
import Derived.OwnWalkIn
import Derived.TacticsInMore
import Derived.Laws.EntriesVeiled
import Derived.Laws.Rows
import Derived.ChangeKeysEq
import Derived.Laws.IdiomCopy
import Derived.Laws.Tables
set_option linter.all false
set_option maxRecDepth 100000
set_option maxHeartbeats 16000000
namespace Scr
def I64 (n:Int):Prop:=-9223372036854775808<=n/\n<=9223372036854775807
end Scr
namespace Go.Proofs.YtcopgcdhkgenkaaGreatDoor
open Go.RowKit Cdk Scr
def shiftsL:List Int:=shiftsT.map fun x=>(x.toNat:Int)
structure Gl (w:World):Prop where
 tab : Lib.TabIs Tryz.prog w "internal/strconv.uint64pow10" .u64 Lib.pow10Tab
 sh : Lib.TabIs Tryz.prog w "copydesk/wire.shifts" .u32 shiftsL
 mx:∃ m:Int,w.cell? ⟨4,0,none⟩=some (.int .i64 m)
 es : ∃ (tp : TypeId) (p : Value), w.var? Tryz.prog "strconv.ErrSyntax" = some #[.iface tp p]
 er : ∃ (tp : TypeId) (p : Value), w.var? Tryz.prog "strconv.ErrRange" = some #[.iface tp p]
 et:w.cell? ⟨1,0,none⟩=some (.iface 288 (.agg #[.pointer (some ⟨12,101,none⟩)]))
 size:12<=w.heap.size
theorem pow_named : Tryz.prog.globalNamed "internal/strconv.uint64pow10" = some 7 := by kernel_rfl
theorem shifts_named : Tryz.prog.globalNamed "copydesk/wire.shifts" = some 0 := by kernel_rfl
theorem syn_named : Tryz.prog.globalNamed "strconv.ErrSyntax" = some 5 := by kernel_rfl
theorem range_named : Tryz.prog.globalNamed "strconv.ErrRange" = some 6 := by kernel_rfl
theorem var_mod {S:Nat -> Prop} {w w':World} (hm:Mod S w w') (hS:∀ k,S k -> 12<=k) (hz:12<=w.heap.size) {name:String} {g:Nat} (hg:Tryz.prog.globalNamed name=some g) (h10:g < 12):w'.var? Tryz.prog name=w.var? Tryz.prog name:=by
 unfold World.var?
 rw [hg]
 simp only [Option.bind_some]
 rw [hm.block g (by omega) (fun e=>by have:=hS _ e;omega)]
theorem Gl.mod {S:Nat -> Prop} {w w':World} (h:Gl w) (hm:Mod S w w') (hS:∀ k,S k -> 12<=k):Gl w' where
 tab:=by unfold Lib.TabIs;rw [var_mod hm hS h.size pow_named (by decide)];exact h.tab
 sh:=by unfold Lib.TabIs;rw [var_mod hm hS h.size shifts_named (by decide)];exact h.sh
 mx:=by obtain ⟨m,hc⟩:=h.mx;exact ⟨m,hm.cell hc (fun e=>by have:=hS _ e;simp only at this;omega)⟩
 es:=by rw [var_mod hm hS h.size syn_named (by decide)];exact h.es
 er:=by rw [var_mod hm hS h.size range_named (by decide)];exact h.er
 et:=hm.cell h.et (fun e=>by have:=hS _ e;simp only at this;omega)
 size:=by have:=hm.size;have:=h.size;omega
theorem Gl.ext {w w':World} (h:Gl w) (hm:Ext w w'):Gl w':=h.mod hm (fun _ h=>h.elim)
theorem ext_grow (w:World) (k:Nat) (os:Array Obj):Ext w (Go.Sort.grow (w.drewN k) os):=
 ⟨rfl,rfl,rfl,by simp [Go.Sort.grow],fun j hj _=>Go.Sort.heap_grow_old (w.drewN k) os hj⟩
theorem itoa_any (n:Int) (hn:I64 n) (w:World) (h:Gl w):Calls Tryz.prog 315 #[.int .i64 n] w fun e w'=>e=.returned (.string ⟨(itoa n).toArray⟩)/\Ext w w':=by
 rw [itoa_eq hn.1 hn.2]
 refine (Tryz.strconv_Itoa n hn.1 hn.2 w h.tab).mono ?_
 rintro e w' ⟨rfl,k,os,rfl⟩
 exact ⟨rfl,ext_grow _ _ _⟩
theorem blen_any (B b:Nat) (tx:Bs) (w:World) (h:Bld B b tx w):Calls Tryz.prog 190 #[.pointer (some ⟨b,0,none⟩)] w fun e w'=>e=.returned (.int .i64 tx.length)/\w'=w:=by
 have:=Tryz.Builder_Len B b (Lib.byteCells tx) w h
 rw [Lib.byteCells_length] at this
 exact this
theorem bstr_any (B b:Nat) (tx:Bs) (w:World) (h:Bld B b tx w):Calls Tryz.prog 83 #[.pointer (some ⟨b,0,none⟩)] w fun e w'=>e=.returned (.string ⟨tx.toArray⟩)/\Mod (fun k=>B<=k) w w':=by
 refine (Tryz.Builder_String_any B b tx w h (by have:=h.lt;omega)).mono ?_
 rintro e w' ⟨rfl,hb⟩
 exact ⟨rfl,hb.os,hb.tape,hb.output,hb.size,fun k _ hk=>hb.block k (by omega)⟩
end Go.Proofs.YtcopgcdhkgenkaaGreatDoor
namespace Cdk
open Go Go.RowKit
theorem put_at' {w:World} {b:Nat} {cs:Array Value} {t:TypeId} {fr:Nat × Nat} (h:w.heap[b]?=some (.cells cs t fr)) (j:Nat) (v:Value):(w.setCell ⟨b,j,none⟩ v).heap[b]?=some (.cells (cs.setIfInBounds j v) t fr):=by
 simp only [World.setCell,Array.getElem?_modify,if_true]
 rw [h]
 simp
theorem put_ne' {b b':Nat} (w:World) (j:Nat) (v:Value) (h:b' ≠ b):(w.setCell ⟨b',j,none⟩ v).heap[b]?=w.heap[b]?:=Below.heap_setCell w ⟨b',j,none⟩ v b (fun e=>h e.symm)
end Cdk
namespace Go.Proofs.YtcopgcdhkgenkaaGreatDoor
open Go.RowKit Cdk
def netC (t c:Int) (d r:Value) (m:Nat) (fa qa:Value) (s:Int):Array Value:=#[.int .i64 t,.int .i64 c,d,r,.map (some m),fa,qa,.int .i64 s]
def NetB (w:World) (b:Nat) (t c:Int) (d r:Value) (m:Nat) (fa qa:Value) (s:Int):Prop:=w.heap[b]?=some (.cells (netC t c d r m fa qa s) 78 (0,0))
theorem cellN {w:World} {b:Nat} {cs:Array Value} {t:TypeId} {fr:Nat × Nat} (h:w.heap[b]?=some (.cells cs t fr)) (j:Nat):w.cell? ⟨b,j,none⟩=cs[j]?:=by
 unfold World.cell?;simp [h]
theorem freeN {w:World} {b:Nat} {cs:Array Value} {t:TypeId} (h:w.heap[b]?=some (.cells cs t (0,0))) (j:Nat):w.frozen? ⟨b,j,none⟩=false:=by
 unfold World.frozen?;simp [h]
theorem missing_nil (w:World):Calls Tryz.prog 34 #[.pointer none] w fun e w'=>e=.returned (.bool true)/\w=w':=by
 go_enter Tryz.func34,Tryz.ntmps34
 go_wp2_with fail
 go_ret
 exact ⟨rfl,rfl⟩
theorem missing_any {b:Nat} {t c:Int} {da:Addr} {r:Value} {m:Nat} {fa qa:Value} {s:Int} (w:World) (hB:NetB w b t c (.pointer (some da)) r m fa qa s):
  Calls Tryz.prog 34 #[.pointer (some ⟨b,0,none⟩)] w fun e w'=>e=.returned (.bool false)/\w=w':=by
 have c2:w.cell? ⟨b,2,none⟩=some (.pointer (some da)):=cellN hB 2
 go_enter Tryz.func34,Tryz.ntmps34
 go_wp2_with fail
 go_ret
 exact ⟨rfl,rfl⟩
def clampT (x:Int):Int:=min (max x 0) 1000000000
theorem set_any {b:Nat} {t c:Int} {d r:Value} {m:Nat} {fa qa:Value} {s:Int} (x:Int) (w:World) (hB:NetB w b t c d r m fa qa s):
  Calls Tryz.prog 47 #[.pointer (some ⟨b,0,none⟩),.int .i64 x] w fun e w'=>e=.returned (.tuple #[])/\NetB w' b t (clampT x) d r m fa qa s/\Mod (Eq b) w w':=by
 have c1:w.cell? ⟨b,1,none⟩=some (.int .i64 c):=cellN hB 1
 have f1:=freeN hB 1
 go_enter Tryz.func47,Tryz.ntmps47
 go_wp2_with fail
 all_goals
  go_end0
  refine ⟨rfl,?_,(Mod.refl (Eq b) w).setCell (a:=⟨b,1,none⟩) (fun _=>rfl) _⟩
  first | exact put_at' hB 1 _ | (rw [show clampT x=0 by unfold clampT;omega];exact put_at' hB 1 _) | (rw [show clampT x=1000000000 by unfold clampT;omega];exact put_at' hB 1 _) | (rw [show clampT x=x by unfold clampT;omega];exact put_at' hB 1 _)
theorem advance_any {b:Nat} {t c:Int} {d r:Value} {m:Nat} {fa qa:Value} {s:Int} (w:World) (hB:NetB w b t c d r m fa qa s) (ht:0<=t/\t<=1000000) (hc:0<=c/\c<=1000000000):
  Calls Tryz.prog 35 #[.pointer (some ⟨b,0,none⟩)] w fun e w'=>e=.returned (.tuple #[])/\NetB w' b (t+1) (min (c+1) 1000000000) d r m fa qa s/\Mod (Eq b) w w':=by
 have c0:w.cell? ⟨b,0,none⟩=some (.int .i64 t):=cellN hB 0
 have c1:w.cell? ⟨b,1,none⟩=some (.int .i64 c):=cellN hB 1
 have f0:=freeN hB 0
 have f1:=freeN hB 1
 have h1:IntKind.i64.wrap (t+1)=t+1:=IntWalk.i64_in _ (by omega)
 have h2:IntKind.i64.wrap (c+1)=c+1:=IntWalk.i64_in _ (by omega)
 go_enter Tryz.func35,Tryz.ntmps35
 go_wp2_with fail
 all_goals
  go_end0
  refine ⟨rfl,?_,((Mod.refl (Eq b) w).setCell (a:=⟨b,0,none⟩) (fun _=>rfl) _).setCell (a:=⟨b,1,none⟩) (fun _=>rfl) _⟩
  first | exact put_at' (put_at' hB 0 _) 1 _ | (rw [show min (c+1) 1000000000=1000000000 by omega];exact put_at' (put_at' hB 0 _) 1 _) | (rw [show min (c+1) 1000000000=c+1 by omega];exact put_at' (put_at' hB 0 _) 1 _)
theorem clock_any {b:Nat} {t c:Int} {da:Addr} {r:Value} {m:Nat} {fa qa:Value} {s:Int} (x:Int) (w:World) (hB:NetB w b t c (.pointer (some da)) r m fa qa s):
  Calls Tryz.prog 22 #[.pointer (some ⟨b,0,none⟩),.int .i64 x] w fun e w'=>e=.returned (.tuple #[])/\NetB w' b t (clampT x) (.pointer (some da)) r m fa qa s/\Mod (Eq b) w w':=by
 have hm:=hid (missing_any w hB)
 have hs:=hid (set_any x w hB)
 go_enter Tryz.func22,Tryz.ntmps22
 go_wp2_with fail
 refine hm.out.mono ?_;rintro e w1 ⟨rfl,rfl⟩
 go_wp2_with fail
 refine hs.out.mono ?_;rintro e w1 ⟨rfl,h1,h2⟩
 replace h1:=hid h1
 go_wp2_with fail
 go_end0
 exact ⟨rfl,h1.out,h2⟩
theorem now_any {b:Nat} {t c:Int} {da:Addr} {r:Value} {m:Nat} {fa qa:Value} {s:Int} (w:World) (hB:NetB w b t c (.pointer (some da)) r m fa qa s):
  Calls Tryz.prog 23 #[.pointer (some ⟨b,0,none⟩)] w fun e w'=>e=.returned (.int .i64 c)/\w=w':=by
 have hm:=hid (missing_any w hB)
 have c1:w.cell? ⟨b,1,none⟩=some (.int .i64 c):=cellN hB 1
 go_enter Tryz.func23,Tryz.ntmps23
 go_wp2_with fail
 refine hm.out.mono ?_;rintro e w1 ⟨rfl,rfl⟩
 go_wp2_with fail
 go_ret
 exact ⟨rfl,rfl⟩
theorem time_any {b:Nat} {t c:Int} {da:Addr} {r:Value} {m:Nat} {fa qa:Value} {s:Int} (w:World) (hB:NetB w b t c (.pointer (some da)) r m fa qa s):
  Calls Tryz.prog 24 #[.pointer (some ⟨b,0,none⟩)] w fun e w'=>e=.returned (.int .i64 t)/\w=w':=by
 have hm:=hid (missing_any w hB)
 have c1:w.cell? ⟨b,0,none⟩=some (.int .i64 t):=cellN hB 0
 go_enter Tryz.func24,Tryz.ntmps24
 go_wp2_with fail
 refine hm.out.mono ?_;rintro e w1 ⟨rfl,rfl⟩
 go_wp2_with fail
 go_ret
 exact ⟨rfl,rfl⟩
end Go.Proofs.YtcopgcdhkgenkaaGreatDoor
namespace Cdk
open Go Go.RowKit
variable {F:Fence} {n:Nat} {P:Program}
theorem Ext.ofGrown {w W W':World} {row:Option Nat} (h:Ext w W) (hg:W.grownBy W' row) (hr:∀ r,row=some r -> w.heap.size<=r):Ext w W':=
 ⟨hg.os.trans h.os,hg.tape.trans h.tape,hg.output.trans h.output,Nat.le_trans h.size hg.size,fun k hk hs=>(hg.block k (Nat.lt_of_lt_of_le hk h.size) (fun e=>by have:=hr k e.symm;omega)).trans (h.block k hk hs)⟩
theorem wpIn_rangeFunc_none {g:Operand} {ps:Array Tmp} {assign body:Code} {Q:Exit -> Act -> World -> Prop} {a:Act} {w:World}
  (hro:F.round=none) (h1:1<=n) {gf:Nat} {lb:Array Value} (hg:a.eval g=.func (.func gf) #[] lb) (hFg:F.fn gf) (eg:∀ args w,(callFunc gf args).run P w=.ok (.enter gf args) w)
  (hc:∀ (l:Nat) (W:World),Below w.heap.size w W -> CallsIn F (n - 1) P gf (#[.func (.yield l) #[] #[]]++lb) W fun e W'=>(∃ v,e=.returned v)/\Ext W W')
  (hdone:∀ (D:Nat) (W:World),w.heap.size<=D -> Ext w W -> W.heap[D]?=some (.deferred (some [])) -> Q .normal { a with defers:={ target:=.collected D,args:=#[] }::a.defers } W):
  (Code.rangeFunc g ps assign body).wpIn F n P Q a w:=by
 refine wpIn_rangeFunc_ownF (α:=Empty) hro h1 hg hFg eg (encs:=fun x=>nomatch x) (Kp:=fun _ _=>True) (S:=fun _=>True) (Sp:=fun _=>False) (N:=0) (w0:=w) (fun l J Jx W hW hJ _ _ h0=>?_)
  (fun _ _=>trivial) (fun _ _ _ _ _ _ _ _=>trivial) (Below.refl _ _) (fun x=>nomatch x) (fun _ W=>Ext w W) (fun _ _ _=>False) (fun p W W' row h hg hr=>Ext.ofGrown h hg (fun r e=>(hr r e).1)) (fun _ _ _ _ _ h _ _=>h) (Mod.refl _ _) (fun x=>nomatch x)
  (fun _ x=>nomatch x) (fun _ _ x=>nomatch x) (fun D _ W hD _ hI hd=>hdone D W hD hI hd) (fun _ _ _ _ _ h=>h.elim)
 refine (hc l W hW).mono ?_
 rintro e W' ⟨hv,hx⟩
 exact ⟨hv,.inl ⟨[],trivial,hJ _ _ _ none h0 ⟨hx.os,hx.tape,hx.output,hx.size,fun k hk _=>hx.block k hk (fun h=>h)⟩ (fun _ e=>nomatch e)⟩⟩
end Cdk
namespace Go.Proofs.YtcopgcdhkgenkaaGreatDoor
open Go.Shelf Go.RowKit Cdk
def SeqNone (gf:Nat) (lb:Array Value) (w:World):Prop:=
 ∀ (n l:Nat) (W:World),Below w.heap.size w W -> CallsIn Fence.wide n Tryz.prog gf (#[.func (.yield l) #[] #[]]++lb) W fun e W'=>(∃ v,e=.returned v)/\Ext W W'
theorem SeqNone.ext {gf:Nat} {lb:Array Value} {w w':World} (h:SeqNone gf lb w) (hx:Ext w w'):SeqNone gf lb w':=
 fun n l W hW=>h n l W ((hx.below (Nat.le_refl _) (fun _ h=>h.elim)).trans (hW.mono hx.size))
def Enters (gf:Nat):Prop:=∀ args w,(callFunc gf args).run Tryz.prog w=.ok (.enter gf args) w
theorem appendNone_int (gf:Nat) (lb:Array Value) (eg:Enters gf) (w:World) (h:SeqNone gf lb w):Calls Tryz.prog 366 #[.slice none 0 0,.func (.func gf) #[] lb] w fun e w'=>e=.returned (.slice none 0 0)/\Ext w w':=by
 refine (callsIn_wide (n:=3)).1 ?_
 refine callsIn_of_wp_marks Tryz.func366 rfl trivial ?_ rfl
 simp only [Tryz.ntmps366,List.size_toArray,List.length_cons,List.length_nil,Nat.reduceAdd,Nat.reduceSub,Array.replicate_succ,Array.replicate_zero,List.push_toArray,List.append_toArray,List.nil_append,List.cons_append]
 refine (wpIn_wide (n:=3)).2 ?_
 have hx:=Mod.alloc (Mod.refl (fun _=>False) w) (.cells #[.slice none 0 0] 31)
 have b0:=heap_alloc_new w (.cells #[.slice none 0 0] 31)
 go_wp2_with fail
 generalize (w.alloc (.cells #[.slice none 0 0] 31))=w1 at hx b0 ⊢
 replace hx:=hid hx
 refine (wpIn_wide (n:=3)).1 ?_
 refine wpIn_rangeFunc_none (F:=Fence.wide) rfl (by omega) (gf:=gf) (lb:=lb) rfl trivial eg (fun l W hW=>h.ext hx.out 2 l W hW) (fun D W hD hX hd=>?_)
 have d0:=hX.at b0 (fun h=>h)
 have hx2:=hid (hx.out.trans hX)
 have hsz:w.heap.size<=w1.heap.size:=hx.out.size
 replace hd:=hid hd
 clear b0 hx hX
 have c0:W.cell? ⟨w.heap.size,0,none⟩=some (.slice none 0 0):=cellN d0 0
 go_wp2_with fail
 have hgD:W.grownBy (W.putObj D (.deferred none)) (some D):=grownBy_putObj' W D _
 refine ⟨by simp,.inl ⟨_,_,rfl,run_takeDeferred hd.out,?_⟩⟩
 refine ⟨_,by simp [results,Tryz.func366,go_sem];rfl,?_⟩
 exact ⟨rfl,Ext.ofGrown hx2.out hgD (fun r e=>by cases e;omega)⟩
theorem collectNone_int (gf:Nat) (lb:Array Value) (eg:Enters gf) (w:World) (h:SeqNone gf lb w):Calls Tryz.prog 297 #[.func (.func gf) #[] lb] w fun e w'=>e=.returned (.slice none 0 0)/\Ext w w':=by
 have ha:=hid (appendNone_int gf lb eg w h)
 go_enter Tryz.func297,Tryz.ntmps297
 go_wp2_with fail
 refine ha.out.mono ?_;rintro e w1 ⟨rfl,hx⟩
 replace hx:=hid hx
 go_wp2_with fail
 go_ret
 exact ⟨rfl,hx.out⟩
theorem sortedNone_int (gf:Nat) (lb:Array Value) (eg:Enters gf) (w:World) (h:SeqNone gf lb w):Calls Tryz.prog 231 #[.func (.func gf) #[] lb] w fun e w'=>e=.returned (.slice none 0 0)/\Ext w w':=by
 have ha:=hid (collectNone_int gf lb eg w h)
 go_enter Tryz.func231,Tryz.ntmps231
 go_wp2_with fail
 refine ha.out.mono ?_;rintro e w1 ⟨rfl,hx⟩
 replace hx:=hid hx
 go_wp2_with fail
 refine (Tryz.slices_Sort_int_none none 0 w1).mono ?_;rintro e w2 ⟨rfl,rfl⟩
 go_wp2_with fail
 go_ret
 exact ⟨rfl,hx.out⟩
theorem appendNone_str (gf:Nat) (lb:Array Value) (eg:Enters gf) (w:World) (h:SeqNone gf lb w):Calls Tryz.prog 379 #[.slice none 0 0,.func (.func gf) #[] lb] w fun e w'=>e=.returned (.slice none 0 0)/\Ext w w':=by
 refine (callsIn_wide (n:=3)).1 ?_
 refine callsIn_of_wp_marks Tryz.func379 rfl trivial ?_ rfl
 simp only [Tryz.ntmps379,List.size_toArray,List.length_cons,List.length_nil,Nat.reduceAdd,Nat.reduceSub,Array.replicate_succ,Array.replicate_zero,List.push_toArray,List.append_toArray,List.nil_append,List.cons_append]
 refine (wpIn_wide (n:=3)).2 ?_
 have hx:=Mod.alloc (Mod.refl (fun _=>False) w) (.cells #[.slice none 0 0] 40)
 have b0:=heap_alloc_new w (.cells #[.slice none 0 0] 40)
 go_wp2_with fail
 generalize (w.alloc (.cells #[.slice none 0 0] 40))=w1 at hx b0 ⊢
 replace hx:=hid hx
 refine (wpIn_wide (n:=3)).1 ?_
 refine wpIn_rangeFunc_none (F:=Fence.wide) rfl (by omega) (gf:=gf) (lb:=lb) rfl trivial eg (fun l W hW=>h.ext hx.out 2 l W hW) (fun D W hD hX hd=>?_)
 have d0:=hX.at b0 (fun h=>h)
 have hx2:=hid (hx.out.trans hX)
 have hsz:w.heap.size<=w1.heap.size:=hx.out.size
 replace hd:=hid hd
 clear b0 hx hX
 have c0:W.cell? ⟨w.heap.size,0,none⟩=some (.slice none 0 0):=cellN d0 0
 go_wp2_with fail
 have hgD:W.grownBy (W.putObj D (.deferred none)) (some D):=grownBy_putObj' W D _
 refine ⟨by simp,.inl ⟨_,_,rfl,run_takeDeferred hd.out,?_⟩⟩
 refine ⟨_,by simp [results,Tryz.func379,go_sem];rfl,?_⟩
 exact ⟨rfl,Ext.ofGrown hx2.out hgD (fun r e=>by cases e;omega)⟩
theorem collectNone_str (gf:Nat) (lb:Array Value) (eg:Enters gf) (w:World) (h:SeqNone gf lb w):Calls Tryz.prog 303 #[.func (.func gf) #[] lb] w fun e w'=>e=.returned (.slice none 0 0)/\Ext w w':=by
 have ha:=hid (appendNone_str gf lb eg w h)
 go_enter Tryz.func303,Tryz.ntmps303
 go_wp2_with fail
 refine ha.out.mono ?_;rintro e w1 ⟨rfl,hx⟩
 replace hx:=hid hx
 go_wp2_with fail
 go_ret
 exact ⟨rfl,hx.out⟩
theorem sortedNone_str (gf:Nat) (lb:Array Value) (eg:Enters gf) (w:World) (h:SeqNone gf lb w):Calls Tryz.prog 235 #[.func (.func gf) #[] lb] w fun e w'=>e=.returned (.slice none 0 0)/\Ext w w':=by
 have ha:=hid (collectNone_str gf lb eg w h)
 go_enter Tryz.func235,Tryz.ntmps235
 go_wp2_with fail
 refine ha.out.mono ?_;rintro e w1 ⟨rfl,hx⟩
 replace hx:=hid hx
 go_wp2_with fail
 refine (Tryz.slices_Sort_string_none none 0 w1).mono ?_;rintro e w2 ⟨rfl,rfl⟩
 go_wp2_with fail
 go_ret
 exact ⟨rfl,hx.out⟩
theorem appendNone_st (gf:Nat) (lb:Array Value) (eg:Enters gf) (w:World) (h:SeqNone gf lb w):Calls Tryz.prog 616 #[.slice none 0 0,.func (.func gf) #[] lb] w fun e w'=>e=.returned (.slice none 0 0)/\Ext w w':=by
 refine (callsIn_wide (n:=3)).1 ?_
 refine callsIn_of_wp_marks Tryz.func616 rfl trivial ?_ rfl
 simp only [Tryz.ntmps616,List.size_toArray,List.length_cons,List.length_nil,Nat.reduceAdd,Nat.reduceSub,Array.replicate_succ,Array.replicate_zero,List.push_toArray,List.append_toArray,List.nil_append,List.cons_append]
 refine (wpIn_wide (n:=3)).2 ?_
 have hx:=Mod.alloc (Mod.refl (fun _=>False) w) (.cells #[.slice none 0 0] 706)
 have b0:=heap_alloc_new w (.cells #[.slice none 0 0] 706)
 go_wp2_with fail
 generalize (w.alloc (.cells #[.slice none 0 0] 706))=w1 at hx b0 ⊢
 replace hx:=hid hx
 refine (wpIn_wide (n:=3)).1 ?_
 refine wpIn_rangeFunc_none (F:=Fence.wide) rfl (by omega) (gf:=gf) (lb:=lb) rfl trivial eg (fun l W hW=>h.ext hx.out 2 l W hW) (fun D W hD hX hd=>?_)
 have d0:=hX.at b0 (fun h=>h)
 have hx2:=hid (hx.out.trans hX)
 have hsz:w.heap.size<=w1.heap.size:=hx.out.size
 replace hd:=hid hd
 clear b0 hx hX
 have c0:W.cell? ⟨w.heap.size,0,none⟩=some (.slice none 0 0):=cellN d0 0
 go_wp2_with fail
 have hgD:W.grownBy (W.putObj D (.deferred none)) (some D):=grownBy_putObj' W D _
 refine ⟨by simp,.inl ⟨_,_,rfl,run_takeDeferred hd.out,?_⟩⟩
 refine ⟨_,by simp [results,Tryz.func616,go_sem];rfl,?_⟩
 exact ⟨rfl,Ext.ofGrown hx2.out hgD (fun r e=>by cases e;omega)⟩
theorem collectNone_st (gf:Nat) (lb:Array Value) (eg:Enters gf) (w:World) (h:SeqNone gf lb w):Calls Tryz.prog 580 #[.func (.func gf) #[] lb] w fun e w'=>e=.returned (.slice none 0 0)/\Ext w w':=by
 have ha:=hid (appendNone_st gf lb eg w h)
 go_enter Tryz.func580,Tryz.ntmps580
 go_wp2_with fail
 refine ha.out.mono ?_;rintro e w1 ⟨rfl,hx⟩
 replace hx:=hid hx
 go_wp2_with fail
 go_ret
 exact ⟨rfl,hx.out⟩
theorem keys_story (m:Option Nat) (w:World):Calls Tryz.prog 232 #[.map m] w fun e w'=>e=.returned (.func (.func 298) #[] #[.pointer (some ⟨w.heap.size,0,none⟩)])/\w'=w.alloc (.cells #[.map m] 343):=by
 go_enter Tryz.func232,Tryz.ntmps232
 go_wp2_with fail
 go_ret
 exact ⟨rfl,rfl⟩
theorem keysNone_story (Bz m:Nat) (w:World) (hz:w.cell? ⟨Bz,0,none⟩=some (.map (some m))) (hm:MapAt w (Value.int .i64) m ([]:List (Int × Value))):SeqNone 298 #[.pointer (some ⟨Bz,0,none⟩)] w:=fun n l W hW=>by
 refine callsIn_wide.2 ?_
 have hz2:W.cell? ⟨Bz,0,none⟩=some (.map (some m)):=(hW.cell (p:=⟨Bz,0,none⟩) (World.block_lt_of_cell? _ _ hz)).trans hz
 have hm2:MapAt W (Value.int .i64) m ([]:List (Int × Value)):=by
  obtain ⟨es,c,hh,he⟩:=hm
  exact ⟨es,c,(hW.block m (lt_of_at hh)).trans hh,he⟩
 replace hm2:=hid hm2
 have hx0:=hid (Mod.refl (fun _=>False) W)
 go_enter Tryz.func298,Tryz.ntmps298
 go_wp2_with (refine wpList_range rfl _ 343 _ rfl Tryz.underlying343 hm2.out rfl ?_)
 intro w1 H
 go_wp2_with fail
 refine wp_loop_rounds 1 ?_
 rw [rounds_succ]
 go_wp2_with (at_next;refine wpList_next rfl _ rfl (keyOk_int (P:=Tryz.prog) Tryz.underlying3).inj H.out.1 rfl (fun hall=>?_) (fun k v w2 H2=>absurd H2.out.1 (by simp)))
 go_wp2_with fail
 go_end0
 exact ⟨⟨_,rfl⟩,hx0.out.trans H.out.2.1⟩
theorem keys_tmpl (m:Option Nat) (w:World):Calls Tryz.prog 236 #[.map m] w fun e w'=>e=.returned (.func (.func 305) #[] #[.pointer (some ⟨w.heap.size,0,none⟩)])/\w'=w.alloc (.cells #[.map m] 344):=by
 go_enter Tryz.func236,Tryz.ntmps236
 go_wp2_with fail
 go_ret
 exact ⟨rfl,rfl⟩
theorem keysNone_tmpl (Bz m:Nat) (w:World) (hz:w.cell? ⟨Bz,0,none⟩=some (.map (some m))) (hm:MapAt w (Value.string) m ([]:List (ByteArray × Value))):SeqNone 305 #[.pointer (some ⟨Bz,0,none⟩)] w:=fun n l W hW=>by
 refine callsIn_wide.2 ?_
 have hz2:W.cell? ⟨Bz,0,none⟩=some (.map (some m)):=(hW.cell (p:=⟨Bz,0,none⟩) (World.block_lt_of_cell? _ _ hz)).trans hz
 have hm2:MapAt W (Value.string) m ([]:List (ByteArray × Value)):=by
  obtain ⟨es,c,hh,he⟩:=hm
  exact ⟨es,c,(hW.block m (lt_of_at hh)).trans hh,he⟩
 replace hm2:=hid hm2
 have hx0:=hid (Mod.refl (fun _=>False) W)
 go_enter Tryz.func305,Tryz.ntmps305
 go_wp2_with (refine wpList_range rfl _ 344 _ rfl Tryz.underlying344 hm2.out rfl ?_)
 intro w1 H
 go_wp2_with fail
 refine wp_loop_rounds 1 ?_
 rw [rounds_succ]
 go_wp2_with (at_next;refine wpList_next rfl _ rfl (keyOk_string (P:=Tryz.prog) Tryz.underlying9).inj H.out.1 rfl (fun hall=>?_) (fun k v w2 H2=>absurd H2.out.1 (by simp)))
 go_wp2_with fail
 go_end0
 exact ⟨⟨_,rfl⟩,hx0.out.trans H.out.2.1⟩
theorem keys_page (m:Option Nat) (w:World):Calls Tryz.prog 250 #[.map m] w fun e w'=>e=.returned (.func (.func 318) #[] #[.pointer (some ⟨w.heap.size,0,none⟩)])/\w'=w.alloc (.cells #[.map m] 243):=by
 go_enter Tryz.func250,Tryz.ntmps250
 go_wp2_with fail
 go_ret
 exact ⟨rfl,rfl⟩
theorem keysNone_page (Bz m:Nat) (w:World) (hz:w.cell? ⟨Bz,0,none⟩=some (.map (some m))) (hm:MapAt w (Value.string) m ([]:List (ByteArray × Value))):SeqNone 318 #[.pointer (some ⟨Bz,0,none⟩)] w:=fun n l W hW=>by
 refine callsIn_wide.2 ?_
 have hz2:W.cell? ⟨Bz,0,none⟩=some (.map (some m)):=(hW.cell (p:=⟨Bz,0,none⟩) (World.block_lt_of_cell? _ _ hz)).trans hz
 have hm2:MapAt W (Value.string) m ([]:List (ByteArray × Value)):=by
  obtain ⟨es,c,hh,he⟩:=hm
  exact ⟨es,c,(hW.block m (lt_of_at hh)).trans hh,he⟩
 replace hm2:=hid hm2
 have hx0:=hid (Mod.refl (fun _=>False) W)
 go_enter Tryz.func318,Tryz.ntmps318
 go_wp2_with (refine wpList_range rfl _ 243 _ rfl Tryz.underlying243 hm2.out rfl ?_)
 intro w1 H
 go_wp2_with fail
 refine wp_loop_rounds 1 ?_
 rw [rounds_succ]
 go_wp2_with (at_next;refine wpList_next rfl _ rfl (keyOk_string (P:=Tryz.prog) Tryz.underlying9).inj H.out.1 rfl (fun hall=>?_) (fun k v w2 H2=>absurd H2.out.1 (by simp)))
 go_wp2_with fail
 go_end0
 exact ⟨⟨_,rfl⟩,hx0.out.trans H.out.2.1⟩
theorem new_map (w:World) (cs:Array Value) (t:TypeId) {K:Type} [DecidableEq K] {mk:K -> Value} {m:Nat} {d:List (K × Value)} (h:MapAt w mk m d):MapAt (w.alloc (.cells cs t)) mk m d:=h.mod (Mod.alloc (Mod.refl (fun _=>False) w) _) (fun h=>h)
theorem ordStory_any (m:Nat) (w:World) (hm:MapAt w (Value.int .i64) m ([]:List (Int × Value))):Calls Tryz.prog 162 #[.map (some m)] w fun e w'=>e=.returned (.slice none 0 0)/\Ext w w':=by
 have hx:=Mod.alloc (Mod.refl (fun _=>False) w) (.cells #[.map (some m)] 343)
 have hs:=hid (sortedNone_int _ _ (enters_of Tryz.func298 (by kernel_rfl) rfl) _ (keysNone_story w.heap.size m _ (cellN (heap_alloc_new w (.cells #[.map (some m)] 343)) 0) (new_map w _ _ hm)))
 replace hx:=hid hx
 go_enter Tryz.func162,Tryz.ntmps162
 go_wp2_with fail
 refine (keys_story (some m) _).mono ?_;rintro e w1 ⟨rfl,rfl⟩
 go_wp2_with fail
 refine hs.out.mono ?_;rintro e w1 ⟨rfl,hx1⟩
 replace hx1:=hid hx1
 go_wp2_with fail
 refine wp_loop_rounds 1 ?_
 rw [rounds_succ]
 go_wp2_with fail
 go_ret
 exact ⟨rfl,hx.out.trans hx1.out⟩
theorem ordTmpl_any (m:Nat) (w:World) (hm:MapAt w Value.string m ([]:List (ByteArray × Value))):Calls Tryz.prog 164 #[.map (some m)] w fun e w'=>e=.returned (.slice none 0 0)/\Ext w w':=by
 have hx:=Mod.alloc (Mod.refl (fun _=>False) w) (.cells #[.map (some m)] 344)
 have hs:=hid (sortedNone_str _ _ (enters_of Tryz.func305 (by kernel_rfl) rfl) _ (keysNone_tmpl w.heap.size m _ (cellN (heap_alloc_new w (.cells #[.map (some m)] 344)) 0) (new_map w _ _ hm)))
 replace hx:=hid hx
 go_enter Tryz.func164,Tryz.ntmps164
 go_wp2_with fail
 refine (keys_tmpl (some m) _).mono ?_;rintro e w1 ⟨rfl,rfl⟩
 go_wp2_with fail
 refine hs.out.mono ?_;rintro e w1 ⟨rfl,hx1⟩
 replace hx1:=hid hx1
 go_wp2_with fail
 refine wp_loop_rounds 1 ?_
 rw [rounds_succ]
 go_wp2_with fail
 go_ret
 exact ⟨rfl,hx.out.trans hx1.out⟩
section
variable {K:Type} [DecidableEq K] {P:Program} {kt:TypeId} {mk:K -> Value} {ops:Array Oper} {rest:List Oper} {o:Oper} {a:Act} {Q:Exit -> Act -> World -> Prop} {w:World} {mb:Nat} {d:List (K × Value)}
theorem wpList_insert (hg:o.guard=none) (m x v:Operand) (t e:TypeId) (hop:o.op=Op.insert t m x v) (ok:KeyOk P kt mk) (ht:P.underlying t=some (.map kt e))
  (h:MapAt w mk mb d) (k:K) (val:Value) (hm:a.eval m=.map (some mb)) (hx:a.eval x=mk k) (hv:a.eval v=val)
  (hK:∀ w',Hid (MapAt w' mk mb (upd d k val)/\Mod (Eq mb) w w'/\w'.heap.size=w.heap.size) -> wpList P ops Q rest (a.put o.dst undef) w'):wpList P ops Q (o::rest) a w:=by
 refine wpList_plain hg fun K' hK'=>?_
 obtain ⟨w',hrun,r1,r2,r3⟩:=run_updateM ok ht h k val
 unfold Oper.wp
 simp [execOp,hop,hm,hx,hv,hrun,Result.andThen]
 exact hK' _ _ (hK w' ⟨r1,r2,r3⟩)
end
theorem effects_any (w:World):Calls Tryz.prog 161 #[] w fun e w'=>(∃ m,e=.returned (.map (some m)))/\Ext w w':=by
 have hmm:=@run_makeMap Tryz.prog
 have h0:Hid (MapAt (w.alloc (.map #[] 0)) (Value.int .i64) w.heap.size ([]:List (Int × Value))/\Mod (Eq w.heap.size) w (w.alloc (.map #[] 0))):=hid ⟨MapAt.made w _,(Mod.refl _ w).alloc _⟩
 go_enter Tryz.func161,Tryz.ntmps161
 go_wp2_with (first
  | (refine wpList_insert rfl _ _ _ 347 349 rfl (keyOk_int Tryz.underlying3) Tryz.underlying347 H3.out.1 _ _ rfl rfl rfl (fun w3 H4=>?_);replace H3:=hid (⟨H4.out.1,H3.out.2.trans H4.out.2.1⟩:_/\_);clear H4)
  | (refine wpList_insert rfl _ _ _ 347 349 rfl (keyOk_int Tryz.underlying3) Tryz.underlying347 h0.out.1 _ _ rfl rfl rfl (fun w3 H4=>?_);have H3:=hid (⟨H4.out.1,h0.out.2.trans H4.out.2.1⟩:_/\_);clear H4))
 go_ret
 exact ⟨⟨_,rfl⟩,H3.out.2.mono' (fun k hk e=>by omega)⟩
theorem Fold_any (ao:Option Addr) (cap:Nat) (w:World):Calls Tryz.prog 113 #[.slice ao 0 cap] w fun e w'=>e=.returned (.agg #[.slice none 0 0,.slice none 0 0])/\Ext w w':=by
 have hmm:=@run_makeMap Tryz.prog
 obtain ⟨N,hN⟩:∃ N,N=w.heap.size:=⟨_,rfl⟩
 have hx:=allocs_ext (S:=fun _=>False) [.cells #[.slice none 0 0,.slice none 0 0] 235,.map #[] 0,.map #[] 0,.cells #[.map (some (N+1)),.map (some (N+1+1))] 346] w
 have hg:=allocs_get [.cells #[.slice none 0 0,.slice none 0 0] 235,.map #[] 0,.map #[] 0,.cells #[.map (some (N+1)),.map (some (N+1+1))] 346] w
 have k0:=hg 0 (by simp)
 have k1:=hg 1 (by simp)
 have k2:=hg 2 (by simp)
 have k3:=hg 3 (by simp)
 have hz:=allocs_size [.cells #[.slice none 0 0,.slice none 0 0] 235,.map #[] 0,.map #[] 0,.cells #[.map (some (N+1)),.map (some (N+1+1))] 346] w
 simp only [allocs,<- hN,Nat.add_zero,List.length_cons,List.length_nil] at hx k0 k1 k2 k3 hz
 clear hg
 replace hx:=hid hx
 replace k0:=hid k0
 replace k1:=hid k1
 replace k2:=hid k2
 replace k3:=hid k3
 go_enter Tryz.func113,Tryz.ntmps113
 go_wp2_with fail
 simp only [<- hN]
 refine (effects_any _).mono ?_;rintro e w1 ⟨⟨m,rfl⟩,hx1⟩
 have j0:=hx1.at k0.out (fun h=>h)
 have j1:MapAt w1 (Value.int .i64) (N+1) ([]:List (Int × Value)):=⟨_,_,hx1.at k1.out (fun h=>h),by simp,by simp,by simp,by simp⟩
 have j2:MapAt w1 Value.string (N+1+1) ([]:List (ByteArray × Value)):=⟨_,_,hx1.at k2.out (fun h=>h),by simp,by simp,by simp,by simp⟩
 have j3:=hx1.at k3.out (fun h=>h)
 have hX:=hid (hx.out.trans hx1)
 clear hx1 k0 k1 k2 k3 hx
 replace hN:=hid hN
 replace j0:=hid j0
 replace j1:=hid j1
 replace j2:=hid j2
 replace j3:=hid j3
 go_wp2_with fail
 refine wp_loop_rounds 1 ?_
 rw [rounds_succ]
 have hxA:=Mod.alloc (Mod.refl (fun _=>False) w1) (.cells #[.slice none 0 0,.slice none 0 0] 235)
 have i3:=hxA.at j3.out (fun h=>h)
 have c0:(w1.alloc (.cells #[.slice none 0 0,.slice none 0 0] 235)).cell? ⟨N+1+1+1,0,none⟩=some (.map (some (N+1))):=cellN i3 0
 have s0:=hid (heap_alloc_new w1 (.cells #[.slice none 0 0,.slice none 0 0] 235))
 go_wp2_with fail
 refine (ordStory_any (N+1) _ (j1.out.mod hxA (fun h=>h))).mono ?_;rintro e w2 ⟨rfl,hx2⟩
 have hxB:=hxA.trans hx2
 have s1:=hid (hx2.at s0.out (fun h=>h))
 have t3:=hxB.at j3.out (fun h=>h)
 have m2:=hid (j2.out.mod hxB (fun h=>h))
 have t0:=hid (hxB.at j0.out (fun h=>h))
 replace hxB:=hid hxB
 have c1:w2.cell? ⟨N+1+1+1,1,none⟩=some (.map (some (N+1+1))):=cellN t3 1
 clear hxA i3 c0 s0 hx2
 go_wp2_with fail
 refine wp_loop_rounds 1 ?_
 rw [rounds_succ]
 go_wp2_with fail
 refine (ordTmpl_any (N+1+1) _ m2.out).mono ?_;rintro e w3 ⟨rfl,hx3⟩
 have u8:=hx3.at s1.out (fun h=>h)
 have uN:=hx3.at t0.out (fun h=>h)
 have hX3:=hid ((hX.out.trans hxB.out).trans hx3)
 have hsz:w1.heap.size<=w3.heap.size:=hid (hxB.out.trans hx3).size |>.out
 have hN1:N < w1.heap.size:=lt_of_at j0.out
 generalize w1.heap.size=S8 at u8 hN1 ⊢
 have g0:w3.cell? ⟨S8,0,none⟩=some (.slice none 0 0):=cellN u8 0
 have g1:w3.cell? ⟨S8,1,none⟩=some (.slice none 0 0):=cellN u8 1
 have f1:=freeN u8 1
 have n0:w3.cell? ⟨N,0,none⟩=some (.slice none 0 0):=cellN uN 0
 have n1:w3.cell? ⟨N,1,none⟩=some (.slice none 0 0):=cellN uN 1
 have h0:=freeN uN 0
 have h1:=freeN uN 1
 clear hx3 hX hxB s1 m2 t0 c1 t3
 go_wp2_with fail
 have hn0:=hN.out
 have vN:=(put_ne' (b:=N) w3 1 (.slice none 0 0) (by omega:S8 ≠ N)).trans uN
 have v1:=put_at' vN 0 (.slice none 0 0)
 have v2:=put_at' v1 1 (.slice none 0 0)
 refine bodyPost_ret (results_cell_row rfl _ _ N _ _ _ _ rfl v2 Tryz.underlying235 rfl (by kernel_rfl)) rfl ⟨rfl,?_⟩
 exact ((hX3.out.setCell (a:=⟨S8,1,none⟩) (fun h=>absurd h (by show ¬ S8 < w.heap.size;omega)) _).setCell (a:=⟨N,0,none⟩) (fun h=>absurd h (by show ¬ N < w.heap.size;omega)) _).setCell (a:=⟨N,1,none⟩) (fun h=>absurd h (by show ¬ N < w.heap.size;omega)) _
end Go.Proofs.YtcopgcdhkgenkaaGreatDoor
namespace Cdk
open Go Go.RowKit
theorem run_index_one {P:Program} {t e:TypeId} {n:Nat} {cs:Array Value} {k:IntKind} {i:Nat} {v:Value} {de:TypeDesc} {ie:TypeInfo} (h:P.underlying t=some (.array n e)) (he:P.underlying e=some de) (hd:(match de with | .struct _=>false | .array _ _=>false | _=>true)=true)
  (hie:P.info? e=some ie) (hs:ie.size=1) (hi:i < n) (hx:cs[i]?=some v) (W:World):(Instr.index t (.agg cs) (.int k i)).run P W=.ok v W:=by
 have h1:(Go.sizeOf e).run P W=.ok 1 W:=by rw [run_sizeOf W hie];simp [Program.cellsOf,hie,hs]
 have h2:(isAgg e).run P W=.ok false W:=by
  simp only [isAgg,Sem.run_bind,run_underlying he,Result.andThen_ok]
  cases de <;> simp_all
 have h3:(part e cs (i*1)).run P W=.ok v W:=by
  simp [part,h2,hx]
 simp [Instr.index,asIntOf,run_underlying h,hi,h1]
 simpa using h3
theorem run_copy_zero {P:Program} (w:World) (dT sT ty elem:TypeId) (d a:Option Addr) (dLen dCap sLen sCap:Nat) {i:TypeInfo} (hu:P.underlying dT=some (.slice elem)) (hq:P.info? elem=some i) (hn:Nat.min sLen dLen=0):
  (Builtin.copy_ #[dT,sT] ty #[.slice d dLen dCap,.slice a sLen sCap]).run P w=.ok (goInt 0) w:=by
 have hl:∀ (x:Addr),(loadCells x 0).run P w=.ok #[] w:=fun x=>by simpa using run_loadCells_list (P:=P) w x [] (by simp)
 cases d <;> cases a <;> simp [Builtin.copy_,run_underlying hu,Builtin.lenOf,Builtin.firstCells,Go.sizeOf,typeInfo,hq,hn,storeCells,hl]
theorem wp_buildW {P:Program} {o:Oper} {a:Act} {w:World} {K:Act -> World -> Prop} {Q:Exit -> Act -> World -> Prop} (t:TypeId) (parts:Array (Nat × Operand)) (ho:o.op=.build t parts) (V:Array Value)
  (hV:P.built t (parts.map fun (i,x)=>(i,a.eval x)).toList=some V) (h:K (a.put o.dst (.agg V)) w):o.wp P a w K Q:=by
 refine wp_build t parts ho (by rw [hV];rfl) ?_
 rw [hV];exact h
theorem wpList_buildW {P:Program} {ops:Array Oper} {rest:List Oper} {o:Oper} {a:Act} {w:World} {Q:Exit -> Act -> World -> Prop} (hg:o.guard=none) (t:TypeId) (parts:Array (Nat × Operand)) (ho:o.op=.build t parts) (V:Array Value)
  (hV:P.built t (parts.map fun (i,x)=>(i,a.eval x)).toList=some V) (h:wpList P ops Q rest (a.put o.dst (.agg V)) w):wpList P ops Q (o::rest) a w:=
 wpList_plain hg fun _ hK=>wp_buildW t parts ho V hV (hK _ _ h)
end Cdk
