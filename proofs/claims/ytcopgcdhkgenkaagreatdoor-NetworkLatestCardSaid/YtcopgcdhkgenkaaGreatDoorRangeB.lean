import Derived.Test.YtcopgcdhkgenkaaGreatDoorE5
import Derived.Laws.Tables
import Derived.Test.YtcopgcdhkgenkaaGreatDoorBigArr
import Derived.Laws.StructEq
import Derived.WalkMore
import Derived.Test.YtcopgcdhkgenkaaGreatDoorMapIter
import Derived.RangeFuncNested
import Derived.RangeFuncBound
import Derived.RangeFuncCalls
import Derived.RangeFuncLeaves
import Derived.RangeFuncBox
import Derived.Shelf.Abstract
import Derived.Shelf.RegionOpen
import Derived.WalkKit
import Derived.OwnWalkIn
import Derived.TacticsInMore
import Derived.Test.YtcopgcdhkgenkaaGreatDoorSC0
import Derived.OrdersIn
set_option linter.all false
set_option maxRecDepth 100000
set_option maxHeartbeats 16000000
namespace Go.Proofs.YtcopgcdhkgenkaaGreatDoor
open Go.RowKit Cdk
def roomV (b x:Value):Array Value:=#[b,x,.slice none 0 0,.bool false,.bool false]++Array.replicate 65 (.bool false)
def classV (b x:Value) (n:Int):Array Value:=(roomV b x).push (.int .i64 n)
theorem newClass_any (n:Int) (w:World):Calls Tryz.prog 61 #[.int .i64 n] w fun e w'=>(∃ b x m,e=.returned (.agg (classV (.pointer (some ⟨b,0,none⟩)) (.pointer (some ⟨x,0,none⟩)) n))/\w.heap.size<=m/\m < b/\BldrAt w' b m (.pointer none) (.pointer none)/\MapAt w' Value.string m ([]:List (ByteArray × Value)))/\Ext w w':=by
 obtain ⟨N,hN⟩:∃ N,N=w.heap.size:=⟨_,rfl⟩
 have hx0:=allocs_ext (S:=fun _=>False) [.cells Tryz.zeroCells129 129,.map #[] 0,.cells #[.pointer none,.map (some (N+1)),.pointer none] 246] w
 have hg:=allocs_get [.cells Tryz.zeroCells129 129,.map #[] 0,.cells #[.pointer none,.map (some (N+1)),.pointer none] 246] w
 have k0:=hg 0 (by simp)
 have k1:=hg 1 (by simp)
 have k2:=hg 2 (by simp)
 simp only [allocs,<- hN,Nat.add_zero] at hx0 k0 k1 k2
 clear hg
 go_enter Tryz.func61,Tryz.ntmps61
 go_wp2_with fail
 refine (buildNew_any _).mono ?_;rintro e w1 ⟨rfl,rfl⟩
 go_wp2_with fail
 simp only [<- hN]
 generalize (((w.alloc (.cells Tryz.zeroCells129 129)).alloc (.map #[] 0)).alloc (.cells #[.pointer none,.map (some (N+1)),.pointer none] 246))=wb at hx0 k0 k1 k2 ⊢
 refine (indexNew_any _).mono ?_;rintro e w2 ⟨⟨x,rfl⟩,hx⟩
 have j0:=hid (hx.at k0 (fun h=>h))
 have j1:=hid (hx.at k1 (fun h=>h))
 have j2:=hid (hx.at k2 (fun h=>h))
 have hX:=hid (hx0.trans hx)
 clear hx0 k0 k1 k2 hx
 replace hN:=hid hN
 go_wp2_with (first
  | (refine wpList_buildW rfl 129 _ rfl (classV (.pointer (some ⟨N+1+1,0,none⟩)) (.pointer (some ⟨x,0,none⟩)) n) (by kernel_rfl) ?_)
  | (refine wpList_buildW rfl 127 _ rfl (roomV (.pointer (some ⟨N+1+1,0,none⟩)) (.pointer (some ⟨x,0,none⟩))) (by kernel_rfl) ?_)
  | (refine wpList_storeW rfl 129 _ _ rfl N _ _ _ rfl rfl j0.out (by kernel_rfl) (by kernel_rfl) (by kernel_rfl) (fun WS HS=>Hid.out ?_)))
 obtain ⟨hS,hM⟩:=HS.out
 have i1:MapAt WS Value.string (N+1) ([]:List (ByteArray × Value)):=⟨_,_,hM.at j1.out (by omega),by simp,by simp,by simp,by simp⟩
 have i2:BldrAt WS (N+1+1) (N+1) (.pointer none) (.pointer none):=hM.at j2.out (by omega)
 have hF:=hid (hX.out.then hM (fun k hk e=>by have:=hN.out;omega))
 replace hS:=hid hS
 replace i1:=hid i1
 replace i2:=hid i2
 clear hM HS j0 j1 j2 hX
 refine hid ?_
 go_wp2_with fail
 refine bodyPost_ret (results_cell_row rfl _ _ N _ _ _ _ rfl hS.out Tryz.underlying129 rfl (by kernel_rfl)) rfl ?_
 exact ⟨⟨N+1+1,x,N+1,rfl,by have:=hN.out;omega,by omega,i2.out,i1.out⟩,hF.out⟩
open Go.Shelf Go.RowKit Cdk Scr
def adrV (k:Int):Value:=.agg #[.int .i64 k,.string ⟨#[]⟩,.int .i64 0,.string ⟨#[]⟩]
def adrB (k:Int):Bs:=if k=1 then [47] else [47,109,97,112]
def adrS (k:Int):ByteArray:=⟨(adrB k).toArray⟩
def adrF (k:Int):Nat:=if k=1 then 462 else 463
def adrU (k:Int):Int:=if k=1 then 1 else 5
theorem adrValid_any (k:Int) (hk:k=1 \/ k=6) (w:World):Calls Tryz.prog 393 #[adrV k] w fun e w'=>e=.returned (.bool true)/\Ext w w':=by
 unfold adrV
 rcases hk with rfl | rfl
 all_goals
  go_enter Tryz.func393,Tryz.ntmps393
  go_wp2_with fail
  go_ret
  exact ⟨rfl,((Mod.refl _ w).alloc _).alloc _⟩
def shpV (k:Int):Value:=.agg #[.int .i64 (adrU k),.func (.func (adrF k)) #[] #[]]
theorem shapeOf_any (k:Int) (hk:k=1 \/ k=6) (w:World) (hG:Gl w):Calls Tryz.prog 394 #[adrV k] w fun e w'=>e=.returned (shpV k)/\Ext w w':=by
 have hi:=hid (fun W (hW:Gl W)=>itoa_any 0 ⟨by decide,by decide⟩ W hW)
 have i0:Scr.itoa 0=[48]:=by kernel_rfl
 rw [i0] at hi
 obtain ⟨N,hN⟩:∃ N,N=w.heap.size:=⟨_,rfl⟩
 have hg:=fun a b=>allocs_get [.cells #[.int .i64 k,.string ⟨#[]⟩,.int .i64 0,.string ⟨#[]⟩] 454,.cells #[a,b] 593] w
 have hx:=fun a b=>allocs_ext (S:=fun _=>False) [.cells #[.int .i64 k,.string ⟨#[]⟩,.int .i64 0,.string ⟨#[]⟩] 454,.cells #[a,b] 593] w
 have k0:=hg (.int .i64 0) .nilFunc 0 (by simp)
 have k1:=hg (.int .i64 0) .nilFunc 1 (by simp)
 have hx0:=hx (.int .i64 0) .nilFunc
 simp only [allocs,<- hN,Nat.add_zero] at k0 k1 hx0
 clear hg hx
 have hG2:=hid (hG.ext hx0)
 replace hx0:=hid hx0
 replace k0:=hid k0
 replace k1:=hid k1
 unfold adrV
 go_enter Tryz.func394,Tryz.ntmps394
 go_wp2_with fail
 refine (hi.out _ hG2.out).mono ?_;rintro e w1 ⟨rfl,hx1⟩
 have j0:=hx1.at k0.out (fun h=>h)
 have j1:=hx1.at k1.out (fun h=>h)
 have hX:=hid (hx0.out.trans hx1)
 simp only [<- hN]
 replace hN:=hid hN
 have c0:w1.cell? ⟨N,0,none⟩=some (.int .i64 k):=cellN j0 0
 have d0:w1.cell? ⟨N+1,0,none⟩=some (.int .i64 0):=cellN j1 0
 have d1:w1.cell? ⟨N+1,1,none⟩=some .nilFunc:=cellN j1 1
 have z0:=freeN j1 0
 have z1:=freeN j1 1
 have hp:=fun a b=>hid (put_at' (put_at' j1 0 a) 1 b)
 have hm:=fun a b=>hid ((hX.out.setCell (a:=⟨N+1,0,none⟩) (fun h=>absurd h (by show ¬ N+1 < w.heap.size;have:=hN.out;omega)) a).setCell (a:=⟨N+1,1,none⟩) (fun h=>absurd h (by show ¬ N+1 < w.heap.size;have:=hN.out;omega)) b)
 clear hX j0 j1 k0 k1 hx0 hx1
 rcases hk with rfl | rfl
 all_goals
  go_wp2_with fail
  refine bodyPost_ret (results_cell_row rfl _ _ (N+1) _ _ _ _ rfl (hp _ _).out Tryz.underlying593 rfl (by kernel_rfl)) rfl ⟨rfl,(hm _ _).out⟩
theorem fldShape0 (a b:Value) (w:World):(Instr.field 593 (.agg #[a,b]) 0).run Tryz.prog w=.ok a w:=by kernel_rfl
theorem fldShape1 (a b:Value) (w:World):(Instr.field 593 (.agg #[a,b]) 1).run Tryz.prog w=.ok b w:=by kernel_rfl
theorem shape2_any (w:World):Calls Tryz.prog 462 #[] w fun e w'=>e=.returned (.string ⟨#[47]⟩)/\w=w':=by
 go_enter Tryz.func462,Tryz.ntmps462
 go_wp2_with fail
 go_ret
 exact ⟨rfl,rfl⟩
theorem shape3_any (w:World):Calls Tryz.prog 463 #[] w fun e w'=>e=.returned (.string ⟨#[47,109,97,112]⟩)/\w=w':=by
 go_enter Tryz.func463,Tryz.ntmps463
 go_wp2_with fail
 go_ret
 exact ⟨rfl,rfl⟩
theorem adrFormat_any (k:Int) (hk:k=1 \/ k=6) (w:World) (hG:Gl w):Calls Tryz.prog 311 #[adrV k] w fun e w'=>e=.returned (.tuple #[.string (adrS k),.int .i64 0])/\Ext w w':=by
 have h2:=enters_of Tryz.func462 (by kernel_rfl) rfl
 have h3:=enters_of Tryz.func463 (by kernel_rfl) rfl
 have hf0:=fldShape0
 have hf1:=fldShape1
 have hv:=hid (fun W=>adrValid_any k hk W)
 have hsh:=hid (fun W hW=>shapeOf_any k hk W hW)
 have hx0:=Mod.alloc (Mod.refl (fun _=>False) w) (.cells #[.int .i64 k,.string ⟨#[]⟩,.int .i64 0,.string ⟨#[]⟩] 454)
 have hb0:=heap_alloc_new w (.cells #[.int .i64 k,.string ⟨#[]⟩,.int .i64 0,.string ⟨#[]⟩] 454)
 have hG0:=hid (hG.ext hx0)
 replace hx0:=hid hx0
 replace hb0:=hid hb0
 unfold adrV at hv hsh ⊢
 go_enter Tryz.func311,Tryz.ntmps311
 go_wp2_with fail
 refine (hv.out _).mono ?_;rintro e w1 ⟨rfl,hx1⟩
 have hb1:=hid (hx1.at hb0.out (fun h=>h))
 have hX1:=hid (hx0.out.trans hx1)
 have hG1:=hid (hG0.out.ext hx1)
 obtain ⟨N,hN⟩:∃ N,N=w.heap.size:=⟨_,rfl⟩
 simp only [<- hN] at hb1 ⊢
 have c0:w1.cell? ⟨N,0,none⟩=some (.int .i64 k):=cellN hb1.out 0
 have c1:w1.cell? ⟨N,1,none⟩=some (.string ⟨#[]⟩):=cellN hb1.out 1
 have c2:w1.cell? ⟨N,2,none⟩=some (.int .i64 0):=cellN hb1.out 2
 have c3:w1.cell? ⟨N,3,none⟩=some (.string ⟨#[]⟩):=cellN hb1.out 3
 replace hN:=hid hN
 clear hx0 hb0 hx1
 go_wp2_with fail
 refine (hsh.out _ hG1.out).mono ?_;rintro e w2 ⟨rfl,hx2⟩
 have hX2:=hid (hX1.out.trans hx2)
 unfold shpV
 rcases hk with rfl | rfl
 ·unfold adrU adrF
  simp only [if_true]
  go_wp2_with fail
  refine (shape2_any _).mono ?_;rintro e w3 ⟨rfl,rfl⟩
  go_wp2_with fail
  go_ret2
  exact ⟨rfl,hX2.out⟩
 ·unfold adrU adrF
  simp only [show ¬ (6:Int)=1 by decide,if_false]
  go_wp2_with fail
  refine (shape3_any _).mono ?_;rintro e w3 ⟨rfl,rfl⟩
  go_wp2_with fail
  go_ret2
  exact ⟨rfl,hX2.out⟩
theorem urgency_any (k:Int) (hk:k=1 \/ k=6) (w:World) (hG:Gl w):Calls Tryz.prog 365 #[adrV k] w fun e w'=>e=.returned (.int .i64 (adrU k))/\Ext w w':=by
 have hf0:=fldShape0
 have hf1:=fldShape1
 have hv:=hid (fun W=>adrValid_any k hk W)
 have hsh:=hid (fun W hW=>shapeOf_any k hk W hW)
 have hx0:=Mod.alloc (Mod.refl (fun _=>False) w) (.cells #[.int .i64 k,.string ⟨#[]⟩,.int .i64 0,.string ⟨#[]⟩] 454)
 have hb0:=heap_alloc_new w (.cells #[.int .i64 k,.string ⟨#[]⟩,.int .i64 0,.string ⟨#[]⟩] 454)
 have hG0:=hid (hG.ext hx0)
 replace hx0:=hid hx0
 replace hb0:=hid hb0
 unfold adrV at hv hsh ⊢
 go_enter Tryz.func365,Tryz.ntmps365
 go_wp2_with fail
 refine (hv.out _).mono ?_;rintro e w1 ⟨rfl,hx1⟩
 have hb1:=hid (hx1.at hb0.out (fun h=>h))
 have hX1:=hid (hx0.out.trans hx1)
 have hG1:=hid (hG0.out.ext hx1)
 obtain ⟨N,hN⟩:∃ N,N=w.heap.size:=⟨_,rfl⟩
 simp only [<- hN] at hb1 ⊢
 have c0:w1.cell? ⟨N,0,none⟩=some (.int .i64 k):=cellN hb1.out 0
 have c1:w1.cell? ⟨N,1,none⟩=some (.string ⟨#[]⟩):=cellN hb1.out 1
 have c2:w1.cell? ⟨N,2,none⟩=some (.int .i64 0):=cellN hb1.out 2
 have c3:w1.cell? ⟨N,3,none⟩=some (.string ⟨#[]⟩):=cellN hb1.out 3
 replace hN:=hid hN
 clear hx0 hb0 hx1
 go_wp2_with fail
 refine (hsh.out _ hG1.out).mono ?_;rintro e w2 ⟨rfl,hx2⟩
 have hX2:=hid (hX1.out.trans hx2)
 unfold shpV
 rcases hk with rfl | rfl
 all_goals
  unfold adrU adrF
  first | simp only [if_true] | simp only [show ¬ (6:Int)=1 by decide,if_false]
  go_wp2_with fail
  go_ret
  exact ⟨rfl,hX2.out⟩
def stV (a1 a2:Option Addr) (c1 c2:Nat):Value:=.agg #[.slice a1 0 c1,.slice a2 0 c2]
theorem qeach_any (a1 a2:Option Addr) (c1 c2:Nat) (v:Value) (hv:v.oneCell'=true) (w:World):Calls Tryz.prog 520 #[stV a1 a2 c1 c2,v] w fun e w'=>e=.returned (.func (.func 579) #[] #[.pointer (some ⟨w.heap.size,0,none⟩),.pointer (some ⟨w.heap.size+1,0,none⟩)])/\w'=(w.alloc (.cells #[.slice a1 0 c1,.slice a2 0 c2] 235)).alloc (.cells #[v] 755):=by
 unfold stV
 go_enter Tryz.func520,Tryz.ntmps520
 cases v <;> first | (exfalso;revert hv;decide) | (exfalso;simp [Value.oneCell'] at hv;done) | (go_wp2_with fail;go_ret;exact ⟨rfl,rfl⟩)
theorem qeachNone (B C:Nat) (a1:Option Addr) (c1:Nat) (w:World) (hz:w.cell? ⟨B,0,none⟩=some (.slice a1 0 c1)):SeqNone 579 #[.pointer (some ⟨B,0,none⟩),.pointer (some ⟨C,0,none⟩)] w:=fun n l W hW=>by
 refine callsIn_wide.2 ?_
 have hz2:W.cell? ⟨B,0,none⟩=some (.slice a1 0 c1):=(hW.cell (p:=⟨B,0,none⟩) (World.block_lt_of_cell? _ _ hz)).trans hz
 go_enter Tryz.func579,Tryz.ntmps579
 go_wp2_with fail
 try refine wp_scope_straight ?_
 go_wp2_with fail
 go_step3
 go_wp2_with fail
 refine wp_loop_rounds 1 ?_
 rw [rounds_succ]
 go_wp2_with fail
 try simp only [Exit.noGoto_normal]
 go_end0
 exact ⟨⟨_,rfl⟩,Mod.refl _ _⟩
theorem distinctNone_any (w:World):Calls Tryz.prog 521 #[.slice none 0 0] w fun e w'=>e=.returned (.slice none 0 0)/\w=w':=by
 go_enter Tryz.func521,Tryz.ntmps521
 go_wp2_with fail
 refine (Tryz.slices_Clone_string_nil 0 0 _).mono ?_;rintro e w1 ⟨rfl,rfl⟩
 go_wp2_with fail
 refine (Tryz.slices_Sort_string_none none 0 _).mono ?_;rintro e w1 ⟨rfl,rfl⟩
 go_wp2_with fail
 refine (Tryz.slices_Compact_string_empty none 0 _).mono ?_;rintro e w1 ⟨rfl,rfl⟩
 go_wp2_with fail
 go_ret
 exact ⟨rfl,rfl⟩
theorem qTopics_any (a1 a2:Option Addr) (c1 c2:Nat) (w:World):Calls Tryz.prog 430 #[stV a1 a2 c1 c2] w fun e w'=>e=.returned (.slice none 0 0)/\Ext w w':=by
 refine (callsIn_wide (n:=3)).1 ?_
 refine callsIn_of_wp_marks Tryz.func430 rfl trivial ?_ rfl
 simp only [Tryz.ntmps430,List.size_toArray,List.length_cons,List.length_nil,Nat.reduceAdd,Nat.reduceSub,Array.replicate_succ,Array.replicate_zero,List.push_toArray,List.append_toArray,List.nil_append,List.cons_append]
 refine (wpIn_wide (n:=3)).2 ?_
 have hq:=hid (fun W=>qeach_any a1 a2 c1 c2 (.slice none 0 0) rfl W)
 unfold stV at hq ⊢
 go_wp2_with fail
 refine (hq.out _).mono ?_;rintro e w1 ⟨rfl,rfl⟩
 obtain ⟨N,hN⟩:∃ N,N=w.heap.size:=⟨_,rfl⟩
 have hx:=allocs_ext (S:=fun _=>False) [.cells #[.slice a1 0 c1,.slice a2 0 c2] 235,.cells #[.slice none 0 0] 40,.cells #[.slice a1 0 c1,.slice a2 0 c2] 235,.cells #[.slice none 0 0] 755] w
 have hg:=allocs_get [.cells #[.slice a1 0 c1,.slice a2 0 c2] 235,.cells #[.slice none 0 0] 40,.cells #[.slice a1 0 c1,.slice a2 0 c2] 235,.cells #[.slice none 0 0] 755] w
 have k1:=hg 1 (by simp)
 have k2:=hg 2 (by simp)
 simp only [allocs,<- hN] at hx k1 k2
 clear hg
 try simp only [World.size_alloc]
 simp only [<- hN]
 generalize ((((w.alloc (.cells #[.slice a1 0 c1,.slice a2 0 c2] 235)).alloc (.cells #[.slice none 0 0] 40)).alloc (.cells #[.slice a1 0 c1,.slice a2 0 c2] 235)).alloc (.cells #[.slice none 0 0] 755))=w2 at hx k1 k2 ⊢
 have hs:=qeachNone (N+1+1) (N+1+1+1) a1 c1 w2 (cellN k2 0)
 have hsz:w.heap.size<=w2.heap.size:=hx.size
 replace hx:=hid hx
 replace hN:=hid hN
 go_wp2_with fail
 refine (wpIn_wide (n:=3)).1 ?_
 refine wpIn_rangeFunc_none (F:=Fence.wide) rfl (by omega) (gf:=579) (lb:=#[.pointer (some ⟨N+1+1,0,none⟩),.pointer (some ⟨N+1+1+1,0,none⟩)]) rfl trivial (enters_of Tryz.func579 (by kernel_rfl) rfl) (fun l W hW=>hs 2 l W hW) (fun D W hD hX hd=>?_)
 have d1:=hX.at k1 (fun h=>h)
 have hx2:=hid (hx.out.trans hX)
 replace hd:=hid hd
 clear k1 k2 hs hX hx
 have c0:W.cell? ⟨N+1,0,none⟩=some (.slice none 0 0):=cellN d1 0
 go_wp2_with fail
 refine (distinctNone_any _).mono ?_;rintro e w3 ⟨rfl,rfl⟩
 go_wp2_with fail
 have hgD:W.grownBy (W.putObj D (.deferred none)) (some D):=grownBy_putObj' W D _
 refine ⟨by simp,.inl ⟨_,_,rfl,run_takeDeferred hd.out,?_⟩⟩
 refine ⟨_,by simp [results,Tryz.func430,go_sem];rfl,?_⟩
 exact ⟨rfl,Ext.ofGrown hx2.out hgD (fun r e=>by cases e;omega)⟩
theorem qAuthors_any (a1 a2:Option Addr) (c1 c2:Nat) (w:World):Calls Tryz.prog 434 #[stV a1 a2 c1 c2] w fun e w'=>e=.returned (.slice none 0 0)/\Ext w w':=by
 refine (callsIn_wide (n:=3)).1 ?_
 refine callsIn_of_wp_marks Tryz.func434 rfl trivial ?_ rfl
 simp only [Tryz.ntmps434,List.size_toArray,List.length_cons,List.length_nil,Nat.reduceAdd,Nat.reduceSub,Array.replicate_succ,Array.replicate_zero,List.push_toArray,List.append_toArray,List.nil_append,List.cons_append]
 refine (wpIn_wide (n:=3)).2 ?_
 have hq:=hid (fun W=>qeach_any a1 a2 c1 c2 (.slice none 0 0) rfl W)
 unfold stV at hq ⊢
 go_wp2_with fail
 refine (hq.out _).mono ?_;rintro e w1 ⟨rfl,rfl⟩
 obtain ⟨N,hN⟩:∃ N,N=w.heap.size:=⟨_,rfl⟩
 have hx:=allocs_ext (S:=fun _=>False) [.cells #[.slice a1 0 c1,.slice a2 0 c2] 235,.cells #[.slice none 0 0] 40,.cells #[.slice a1 0 c1,.slice a2 0 c2] 235,.cells #[.slice none 0 0] 755] w
 have hg:=allocs_get [.cells #[.slice a1 0 c1,.slice a2 0 c2] 235,.cells #[.slice none 0 0] 40,.cells #[.slice a1 0 c1,.slice a2 0 c2] 235,.cells #[.slice none 0 0] 755] w
 have k1:=hg 1 (by simp)
 have k2:=hg 2 (by simp)
 simp only [allocs,<- hN] at hx k1 k2
 clear hg
 try simp only [World.size_alloc]
 simp only [<- hN]
 generalize ((((w.alloc (.cells #[.slice a1 0 c1,.slice a2 0 c2] 235)).alloc (.cells #[.slice none 0 0] 40)).alloc (.cells #[.slice a1 0 c1,.slice a2 0 c2] 235)).alloc (.cells #[.slice none 0 0] 755))=w2 at hx k1 k2 ⊢
 have hs:=qeachNone (N+1+1) (N+1+1+1) a1 c1 w2 (cellN k2 0)
 have hsz:w.heap.size<=w2.heap.size:=hx.size
 replace hx:=hid hx
 replace hN:=hid hN
 go_wp2_with fail
 refine (wpIn_wide (n:=3)).1 ?_
 refine wpIn_rangeFunc_none (F:=Fence.wide) rfl (by omega) (gf:=579) (lb:=#[.pointer (some ⟨N+1+1,0,none⟩),.pointer (some ⟨N+1+1+1,0,none⟩)]) rfl trivial (enters_of Tryz.func579 (by kernel_rfl) rfl) (fun l W hW=>hs 2 l W hW) (fun D W hD hX hd=>?_)
 have d1:=hX.at k1 (fun h=>h)
 have hx2:=hid (hx.out.trans hX)
 replace hd:=hid hd
 clear k1 k2 hs hX hx
 have c0:W.cell? ⟨N+1,0,none⟩=some (.slice none 0 0):=cellN d1 0
 go_wp2_with fail
 refine (distinctNone_any _).mono ?_;rintro e w3 ⟨rfl,rfl⟩
 go_wp2_with fail
 have hgD:W.grownBy (W.putObj D (.deferred none)) (some D):=grownBy_putObj' W D _
 refine ⟨by simp,.inl ⟨_,_,rfl,run_takeDeferred hd.out,?_⟩⟩
 refine ⟨_,by simp [results,Tryz.func434,go_sem];rfl,?_⟩
 exact ⟨rfl,Ext.ofGrown hx2.out hgD (fun r e=>by cases e;omega)⟩
theorem insNone_st (ao:Option Addr) (n cap:Nat) (fv:Value) (w:World):Calls Tryz.prog 635 #[.slice ao n cap,.int .i64 0,.int .i64 0,fv] w fun e w'=>e=.returned (.tuple #[])/\w=w':=by
 go_enter Tryz.func635,Tryz.ntmps635
 go_wp2_with fail
 refine wp_loop_rounds 1 ?_
 rw [rounds_succ]
 go_wp2_with fail
 go_end0
 exact ⟨rfl,rfl⟩
theorem pdqNone_st (ao:Option Addr) (n cap:Nat) (l:Int) (fv:Value) (w:World):Calls Tryz.prog 617 #[.slice ao n cap,.int .i64 0,.int .i64 0,.int .i64 l,fv] w fun e w'=>e=.returned (.tuple #[])/\w=w':=by
 go_enter Tryz.func617,Tryz.ntmps617
 go_wp2_with fail
 refine wp_loop_rounds 1 ?_
 rw [rounds_succ]
 go_wp2_with fail
 refine (insNone_st ao n cap fv _).mono ?_;rintro e w1 ⟨rfl,rfl⟩
 go_wp2_with fail
 refine bodyPost_ret (results_none rfl _ _ _) rfl ⟨rfl,rfl⟩
theorem sortNone_st (ao:Option Addr) (cap:Nat) (fv:Value) (w:World):Calls Tryz.prog 581 #[.slice ao 0 cap,fv] w fun e w'=>e=.returned (.tuple #[])/\w=w':=by
 go_enter Tryz.func581,Tryz.ntmps581
 go_wp2_with fail
 refine (Tryz.bits_Len 0 _ (by decide) (by decide)).mono ?_;rintro e w1 ⟨rfl,rfl⟩
 go_wp2_with fail
 refine (pdqNone_st ao 0 cap _ fv _).mono ?_;rintro e w1 ⟨rfl,rfl⟩
 go_wp2_with fail
 go_end0
 exact ⟨rfl,rfl⟩
theorem insNone_str (ao:Option Addr) (n cap:Nat) (fv:Value) (w:World):Calls Tryz.prog 507 #[.slice ao n cap,.int .i64 0,.int .i64 0,fv] w fun e w'=>e=.returned (.tuple #[])/\w=w':=by
 go_enter Tryz.func507,Tryz.ntmps507
 go_wp2_with fail
 refine wp_loop_rounds 1 ?_
 rw [rounds_succ]
 go_wp2_with fail
 go_end0
 exact ⟨rfl,rfl⟩
theorem pdqNone_str (ao:Option Addr) (n cap:Nat) (l:Int) (fv:Value) (w:World):Calls Tryz.prog 408 #[.slice ao n cap,.int .i64 0,.int .i64 0,.int .i64 l,fv] w fun e w'=>e=.returned (.tuple #[])/\w=w':=by
 go_enter Tryz.func408,Tryz.ntmps408
 go_wp2_with fail
 refine wp_loop_rounds 1 ?_
 rw [rounds_succ]
 go_wp2_with fail
 refine (insNone_str ao n cap fv _).mono ?_;rintro e w1 ⟨rfl,rfl⟩
 go_wp2_with fail
 refine bodyPost_ret (results_none rfl _ _ _) rfl ⟨rfl,rfl⟩
theorem sortNone_str (ao:Option Addr) (cap:Nat) (fv:Value) (w:World):Calls Tryz.prog 324 #[.slice ao 0 cap,fv] w fun e w'=>e=.returned (.tuple #[])/\w=w':=by
 go_enter Tryz.func324,Tryz.ntmps324
 go_wp2_with fail
 refine (Tryz.bits_Len 0 _ (by decide) (by decide)).mono ?_;rintro e w1 ⟨rfl,rfl⟩
 go_wp2_with fail
 refine (pdqNone_str ao 0 cap _ fv _).mono ?_;rintro e w1 ⟨rfl,rfl⟩
 go_wp2_with fail
 go_end0
 exact ⟨rfl,rfl⟩
end Go.Proofs.YtcopgcdhkgenkaaGreatDoor
namespace Cdk
open Go Go.RowKit
def SeqW {α:Type} (F:Fence) (n:Nat) (P:Program) (g:Nat) (lb:Array Value) (encs:α -> Array Value) (Kb:Nat -> Prop) (b0:Nat) (Ok:α -> Prop) (S Sp:List α -> Prop) (N:Nat) (w:World):Prop:=
 ∀ (l:Nat) (J:List α -> World -> Prop) (Jx:List α -> World -> Prop) (W:World),Below w.heap.size w W -> (∀ p A B,J p A -> A.grownBy B none -> J p B) -> (∀ p A v,J p A -> J p (A.setCell ⟨b0,0,none⟩ v)) →
  (∀ pre x W1,J pre W1 -> pre.length < N -> Ok x -> YieldAt F (n - 1) P l (encs x) W1 fun e W'=>
   (e=.returned (.bool true)/\J (pre++[x]) W'/\(W1.heap.size<=W'.heap.size/\∀ k,Kb k -> W'.heap[k]?=W1.heap[k]?)) \/ (e=.returned (.bool false)/\Jx (pre++[x]) W')) →
  J [] W →
  CallsIn F n P g (#[.func (.yield l) #[] #[]]++lb) W fun e W'=>(∃ v,e=.returned v)/\((∃ xs,S xs/\J xs W') \/ (∃ pre,Sp pre/\Jx pre W'))
def postW {α:Type} (Kb:Nat -> Prop) (I:List α -> World -> Prop) (Ix:Code -> List α -> World -> Prop) (xs:List α) (W:World):Exit -> Act -> World -> Prop
 | .normal,_,W'=>KeepsOthers W W'/\(∀ k,Kb k -> W'.heap[k]?=W.heap[k]?)/\I xs W'
 | .ret,_,W'=>KeepsOthers W W'/\Ix .ret xs W'
 | .exit id,_,W'=>KeepsOthers W W'/\Ix (.exit id) xs W'
 | .goto t,_,W'=>KeepsOthers W W'/\Ix (.goto t) xs W'
 | .panic _,_,_=>False
 | .outgrown,_,_=>False
variable {F:Fence} {n:Nat} {P:Program}
end Cdk
namespace Cdk
open Go Go.RowKit
section
variable {P:Program} {Q:Exit -> Act -> World -> Prop} {l₀ n:Nat}
theorem uponIn_of {o:Oper} {a:Act} {K:Act -> World -> Prop} {r:Result Next} (h:o.upon P a K Q r):o.uponIn (Fence.wide.inRound l₀) n P a K Q r:=by
 unfold Oper.upon at h
 unfold Oper.uponIn
 split at h
 ·exact h
 ·exact h
 ·exact h
 ·exact ⟨(fun q=>by cases q),callsIn_wide.2 h⟩
 ·exact ⟨(fun q=>by cases q),fun c cs _=>let ⟨v,w',r,s⟩:=h c cs;⟨v,w',r,stepsIn_wide.2 s⟩⟩
 ·exact h
 ·exact h.elim
end
end Cdk
namespace Go.Proofs.YtcopgcdhkgenkaaGreatDoor
open Go.Shelf Go.RowKit Cdk Scr
attribute [local go_sem] Oper.semAt_some
theorem grown_ext {w w':World} (h:Ext w w'):w.grownBy w' none:=⟨h.os,h.tape,h.output,h.size,fun k hk _=>h.block k hk (fun h=>h)⟩
theorem adrEach_in (n l Bz:Nat) (hn:1<=n) (a1 a2:Option Addr) (c1 c2:Nat) (J Jx:List Int -> World -> Prop) (hJ:∀ p A B,J p A -> A.grownBy B none -> J p B)
  (hY:∀ pre x W1,J pre W1 -> pre.length < 2 -> (x=1 \/ x=6) -> YieldAt Fence.wide (n - 1) Tryz.prog l #[adrV x] W1 fun e W'=>
   (e=.returned (.bool true)/\J (pre++[x]) W'/\(W1.heap.size<=W'.heap.size/\∀ k,k=Bz -> W'.heap[k]?=W1.heap[k]?)) \/ (e=.returned (.bool false)/\Jx (pre++[x]) W'))
  (W:World) (hz:W.heap[Bz]?=some (.cells #[.slice a1 0 c1,.slice a2 0 c2] 235 (0,0))) (h0:J [] W):
  CallsIn Fence.wide n Tryz.prog 429 #[.func (.yield l) #[] #[],.pointer (some ⟨Bz,0,none⟩)] W fun e W'=>(∃ v,e=.returned v)/\((∃ ys,ys=[1,6]/\J ys W') \/ (∃ pre,pre <+:[1,6]/\Jx pre W')):=by
 refine callsIn_wide.2 ?_
 obtain ⟨yfn,ytmps,yassign,ybody,hyr,hyR⟩:=hY [] 1 W h0 (by decide) (.inl rfl)
 replace hyR:=hid hyR
 replace hY:=hid hY
 replace hJ:=hid hJ
 replace hz:=hid hz
 unfold adrV at hyr
 go_enter Tryz.func429,Tryz.ntmps429
 go_wp2_with fail
 try refine wp_scope_straight ?_
 go_upto_region 0 with fail
 refine (wpIn_wide (n:=n)).1 ?_
 gi_wp2
 refine hyR.out.mono ?_
 rintro e' W1 (⟨rfl,hJ1,-,hk1⟩ | ⟨rfl,hJx1⟩)
 ·obtain ⟨yfn2,ytmps2,yassign2,ybody2,hyr2,hyR2⟩:=hY.out [1] 6 W1 hJ1 (by decide) (.inr rfl)
  have hz1:=hid ((hk1 _ rfl).trans hz.out)
  replace hyR2:=hid hyR2
  unfold adrV at hyr2
  clear hJ1 hk1 hyr hyR
  gi_wp2
  refine hyR2.out.mono ?_
  rintro e' W2 (⟨rfl,hJ2,-,hk2⟩ | ⟨rfl,hJx2⟩)
  ·have hz2:=(hk2 _ rfl).trans hz1.out
   replace hJ2:=hid hJ2
   have cz0:W2.cell? ⟨Bz,0,none⟩=some (.slice a1 0 c1):=cellN hz2 0
   have cz1:W2.cell? ⟨Bz,1,none⟩=some (.slice a2 0 c2):=cellN hz2 1
   have hqt:=hid (fun W=>qTopics_any a1 a2 c1 c2 W)
   have hqa:=hid (fun W=>qAuthors_any a1 a2 c1 c2 W)
   unfold stV at hqt hqa
   replace hz2:=hid hz2
   clear hk2 hz1 hyr2 hyR2
   gi_wp2
   go_wp2_with fail
   refine wp_loop_rounds 1 ?_
   rw [rounds_succ]
   go_wp2_with fail
   go_step3
   go_wp2_with fail
   refine (hqt.out _).mono ?_;rintro e W3 ⟨rfl,hx3⟩
   have hJ3:=hid (hJ.out _ _ _ hJ2.out (grown_ext hx3))
   have hz3:=hx3.at hz2.out (fun h=>h)
   have dz0:W3.cell? ⟨Bz,0,none⟩=some (.slice a1 0 c1):=cellN hz3 0
   have dz1:W3.cell? ⟨Bz,1,none⟩=some (.slice a2 0 c2):=cellN hz3 1
   clear hx3 hJ2 hz2 cz0 cz1 hz3
   go_wp2_with fail
   refine wp_loop_rounds 1 ?_
   rw [rounds_succ]
   go_wp2_with fail
   refine (hqa.out _).mono ?_;rintro e W4 ⟨rfl,hx4⟩
   have hJ4:=hid (hJ.out _ _ _ hJ3.out (grown_ext hx4))
   clear hx4 hJ3 dz0 dz1
   go_wp2_with fail
   refine wp_loop_rounds 1 ?_
   rw [rounds_succ]
   go_wp2_with fail
   try simp only [Exit.noGoto_normal,Exit.noGoto_ret]
   go_end0
   exact ⟨⟨_,rfl⟩,.inl ⟨_,rfl,hJ4.out⟩⟩
  ·replace hJx2:=hid hJx2
   gi_wp2
   go_wp2_with fail
   try simp only [Exit.noGoto_normal,Exit.noGoto_ret]
   refine bodyPost_ret (results_none rfl _ _ _) rfl ?_
   exact ⟨⟨_,rfl⟩,.inr ⟨_,List.prefix_refl _,hJx2.out⟩⟩
 ·replace hJx1:=hid hJx1
  gi_wp2
  refine ⟨(fun f hf=>by cases hf),?_⟩
  gi_wp2
  go_wp2_with fail
  try simp only [Exit.noGoto_normal,Exit.noGoto_ret]
  refine bodyPost_ret (results_none rfl _ _ _) rfl ?_
  exact ⟨⟨_,rfl⟩,.inr ⟨_,⟨[6],rfl⟩,hJx1.out⟩⟩
theorem adrEach_seq (n Bz:Nat) (hn:1<=n) (a1 a2:Option Addr) (c1 c2:Nat) (w:World) (hz:w.heap[Bz]?=some (.cells #[.slice a1 0 c1,.slice a2 0 c2] 235 (0,0))):
  SeqW Fence.wide n Tryz.prog 429 #[.pointer (some ⟨Bz,0,none⟩)] (fun k=>#[adrV k]) (fun k=>k=Bz) Bz (fun x=>x=1 \/ x=6) (fun ys=>ys=[1,6]) (fun pre=>pre <+:[1,6]) 2 w:=fun l J Jx W hW hJ _ hY h0=>
 adrEach_in n l Bz hn a1 a2 c1 c2 J Jx hJ hY W ((hW.block Bz (lt_of_at hz)).trans hz) h0
end Go.Proofs.YtcopgcdhkgenkaaGreatDoor
namespace Go.Proofs.YtcopgcdhkgenkaaGreatDoor
open Go.Shelf Go.RowKit Cdk Scr
def S1:ByteArray:=⟨(adrB 1).toArray⟩
def S6:ByteArray:=⟨(adrB 6).toArray⟩
theorem isNaN_str (x:ByteArray) (w:World):Calls Tryz.prog 325 #[.string x] w fun e w'=>e=.returned (.bool false)/\w=w':=by
 go_enter Tryz.func325,Tryz.ntmps325
 go_wp2_with fail
 go_ret
 exact ⟨rfl,rfl⟩
theorem less_61 (w:World):Calls Tryz.prog 446 #[strV (adrB 6),strV (adrB 1)] w fun e w'=>e=.returned (.bool false)/\w=w':=by
 have hl:Op.bytesLess (⟨(adrB 6).toArray⟩:ByteArray).toList (⟨(adrB 1).toArray⟩:ByteArray).toList=false:=by kernel_rfl
 unfold strV
 generalize (⟨(adrB 6).toArray⟩:ByteArray)=x at hl ⊢
 generalize (⟨(adrB 1).toArray⟩:ByteArray)=y at hl ⊢
 go_enter Tryz.func446,Tryz.ntmps446
 go_wp2_with fail
 refine (isNaN_str _ _).mono ?_;rintro e w1 ⟨rfl,rfl⟩
 go_wp2_with fail
 go_ret
 exact ⟨rfl,rfl⟩
theorem ins2_str (b off cap:Nat) (w:World) (h0:w.cell? ⟨b,off,none⟩=some (strV (adrB 1))) (h1:w.cell? ⟨b,off+1,none⟩=some (strV (adrB 6))):Calls Tryz.prog 440 #[.slice (some ⟨b,off,none⟩) 2 cap,.int .i64 0,.int .i64 2] w fun e w'=>e=.returned (.tuple #[])/\∃ n,w'=w.drewN n:=by
 have hl:=hid (fun W=>less_61 W)
 unfold strV at hl
 go_enter Tryz.func440,Tryz.ntmps440
 go_wp2_with fail
 refine wp_loop_rounds 2 ?_
 rw [rounds_succ]
 go_wp2_with fail
 refine wp_loop_rounds 1 ?_
 rw [rounds_succ]
 go_upto_region 4 with fail
 refine wp_region_sched (fun Wx=>Wx.cell? ⟨b,off,none⟩=some (strV (adrB 1))/\Wx.cell? ⟨b,off+1,none⟩=some (strV (adrB 6))) [(0,true),(1,true),(2,true),(3,true),(4,true),(5,true),(6,true),(7,true),(8,true),(9,true),(10,true),(11,true),(12,true),(13,false),(14,true)] (by as_aux_lemma=>kernel_rfl) (by as_aux_lemma=>kernel_rfl) (by as_aux_lemma=>kernel_rfl) (by decide) ⟨h0,h1⟩ ?_
 simp only [schedOps,List.map_cons,List.map_nil,List.getD_cons_zero,List.getD_cons_succ]
 iterate 13 (refine wpS_q (by rfl) ?_ (fun w' hC=>?_) ?_;rotate_left;(have iw0:IntKind.i64.wrap 0=0:=(by decide);have q0:w'.cell? ⟨b,off,none⟩=some (strV (adrB 1)):=hC.1;have q1:w'.cell? ⟨b,off+1,none⟩=some (strV (adrB 6)):=hC.2;unfold strV at q0 q1;go_simp;try with_reducible rfl);try simp only [Act.put,sA,sZ,sS])
 refine wpS_c (by rfl) (fun K hK=>?_)
 go_simp
 refine (hl.out _).mono ?_;rintro e w5 ⟨rfl,rfl⟩
 refine hK.out _ _ ⟨h0,h1⟩ ?_
 clear hK K
 try simp only [Act.put,sA,sZ,sS]
 iterate 1 (refine wpS_q (by rfl) ?_ (fun w' hC=>?_) ?_;rotate_left;(have iw0:IntKind.i64.wrap 0=0:=(by decide);have q0:w'.cell? ⟨b,off,none⟩=some (strV (adrB 1)):=hC.1;have q1:w'.cell? ⟨b,off+1,none⟩=some (strV (adrB 6)):=hC.2;unfold strV at q0 q1;go_simp;try with_reducible rfl);try simp only [Act.put,sA,sZ,sS])
 refine wpS_nil ?_
 go_wp2_with fail
 rw [rounds_succ]
 go_wp2_with fail
 go_end0
 exact ⟨rfl,1,rfl⟩
theorem pdq2_str (b off cap:Nat) (l:Int) (w:World) (h0:w.cell? ⟨b,off,none⟩=some (strV (adrB 1))) (h1:w.cell? ⟨b,off+1,none⟩=some (strV (adrB 6))):Calls Tryz.prog 380 #[.slice (some ⟨b,off,none⟩) 2 cap,.int .i64 0,.int .i64 2,.int .i64 l] w fun e w'=>e=.returned (.tuple #[])/\∃ n,w'=w.drewN n:=by
 go_enter Tryz.func380,Tryz.ntmps380
 go_wp2_with fail
 refine wp_loop_rounds 1 ?_
 rw [rounds_succ]
 go_wp2_with fail
 refine (ins2_str b off cap w h0 h1).mono ?_;rintro e w1 ⟨rfl,n,rfl⟩
 go_wp2_with fail
 refine bodyPost_ret (results_none rfl _ _ _) rfl ⟨rfl,n,rfl⟩
theorem sort2_str (b off cap:Nat) (w:World) (h0:w.cell? ⟨b,off,none⟩=some (strV (adrB 1))) (h1:w.cell? ⟨b,off+1,none⟩=some (strV (adrB 6))):Calls Tryz.prog 304 #[.slice (some ⟨b,off,none⟩) 2 cap] w fun e w'=>e=.returned (.tuple #[])/\∃ n,w'=w.drewN n:=by
 go_enter Tryz.func304,Tryz.ntmps304
 go_wp2_with fail
 refine (Tryz.bits_Len 2 _ (by decide) (by decide)).mono ?_;rintro e w1 ⟨rfl,rfl⟩
 go_wp2_with fail
 refine (pdq2_str b off cap _ w1 h0 h1).mono ?_;rintro e w2 ⟨rfl,n,rfl⟩
 go_wp2_with fail
 go_end0
 exact ⟨rfl,n,rfl⟩
theorem compact2_str (b off cap:Nat) (w:World) (h0:w.cell? ⟨b,off,none⟩=some (strV (adrB 1))) (h1:w.cell? ⟨b,off+1,none⟩=some (strV (adrB 6))):Calls Tryz.prog 364 #[.slice (some ⟨b,off,none⟩) 2 cap] w fun e w'=>e=.returned (.slice (some ⟨b,off,none⟩) 2 cap)/\∃ n,w'=w.drewN n:=by
 go_enter Tryz.func364,Tryz.ntmps364
 go_wp2_with fail
 refine wp_loop_rounds 2 ?_
 rw [rounds_succ]
 go_upto_region 6 with fail
 refine wp_region_sched (fun Wx=>Wx.cell? ⟨b,off,none⟩=some (strV (adrB 1))/\Wx.cell? ⟨b,off+1,none⟩=some (strV (adrB 6))) [(0,true),(1,true),(2,true),(3,true),(4,true),(5,true),(6,true),(7,true),(8,true),(9,true)] (by as_aux_lemma=>kernel_rfl) (by as_aux_lemma=>kernel_rfl) (by as_aux_lemma=>kernel_rfl) (by decide) ⟨h0,h1⟩ ?_
 simp only [schedOps,List.map_cons,List.map_nil,List.getD_cons_zero,List.getD_cons_succ]
 iterate 9 (refine wpS_q (by rfl) ?_ (fun w' hC=>?_) ?_;rotate_left;(have iw0:IntKind.i64.wrap 0=0:=(by decide);have q0:w'.cell? ⟨b,off,none⟩=some (strV (adrB 1)):=hC.1;have q1:w'.cell? ⟨b,off+1,none⟩=some (strV (adrB 6)):=hC.2;unfold strV at q0 q1;go_simp;try with_reducible rfl);try simp only [Act.put,sA,sZ,sS])
 refine wpS_q (by rfl) (.bool false) (fun w' hC=>by kernel_rfl) ?_
 try simp only [Act.put,sA,sZ,sS]
 refine wpS_nil ?_
 go_wp2_with fail
 rw [rounds_succ]
 go_wp2_with fail
 go_ret
 exact ⟨rfl,1,rfl⟩
end Go.Proofs.YtcopgcdhkgenkaaGreatDoor
namespace Cdk
open Go Go.RowKit
variable {F:Fence} {n:Nat} {P:Program}
theorem wpIn_rangeFunc_B {α:Type} {g:Operand} {ps:Array Tmp} {assign body:Code} {Q:Exit -> Act -> World -> Prop} {a:Act} {w:World}
  (hro:F.round=none) (h1:1<=n) {gf:Nat} {lb:Array Value} (hg:a.eval g=.func (.func gf) #[] lb) (hFg:F.fn gf) (eg:∀ args w,(callFunc gf args).run P w=.ok (.enter gf args) w)
  {encs:α -> Array Value} {Kb:Nat -> Prop} {b0:Nat} {Ok:α -> Prop} {S Sp:List α -> Prop} {N:Nat} {w0:World} (hseq:SeqW F (n - 1) P gf lb encs Kb b0 Ok S Sp N w0) (hKb:∀ k,Kb k -> k < w.heap.size) (hb0w:b0 < w.heap.size) (hb0:Below w0.heap.size w0 w) (hps:∀ x,(encs x).size=ps.size)
  (I:List α -> World -> Prop) (Ix:Code -> List α -> World -> Prop) (hI:OwnFrom w.heap.size I) (hIb:∀ p A v,I p A -> I p (A.setCell ⟨b0,0,none⟩ v)) (hIx:∀ c,OwnFrom w.heap.size (Ix c)) (h0:I [] w) (bx:α -> Array Value) (bt:TypeId) (a₁:α -> Nat -> Act)
  (hassign:∀ (l:Nat) (x:α) (T:Nat) (W:World) (K:Act -> World -> Prop),T=W.heap.size -> K (a₁ x T) (W.alloc (.cells (bx x) bt)) →
   assign.wpIn (F.inRound l) (n - 1 - 1) P (Exit.then K (fun _ _ _=>False)) { tmps:=(ps.zip (encs x)).foldl (fun t (p,v)=>t.setIfInBounds p v) a.tmps,defers:=[] } W)
  (hbody:∀ (l:Nat) (pre:List α) (x:α) (B:Nat) (W:World),I pre W -> w.heap.size<=B -> W.heap[B]?=some (.cells (bx x) bt (0,0)) -> pre.length < N -> Ok x -> body.wpIn (F.inRound l) (n - 1 - 1) P (postW Kb I Ix (pre++[x]) W) (a₁ x B) W)
  (hdone:∀ (D:Nat) (xs:List α) (W:World),w.heap.size<=D -> S xs -> I xs W -> W.heap[D]?=some (.deferred (some [])) -> Q .normal { a with defers:={ target:=.collected D,args:=#[] }::a.defers } W)
  (hstop:∀ (D:Nat) (c:Code) (pre:List α) (W:World),w.heap.size<=D -> Sp pre -> Ix c pre W -> W.heap[D]?=some (.deferred (some [])) -> c.wpIn F n P Q { a with defers:={ target:=.collected D,args:=#[] }::a.defers } W):
  (Code.rangeFunc g ps assign body).wpIn F n P Q a w:=by
 refine wpIn_rangeFunc ?_
 intro fn hfn
 rw [hro]
 obtain ⟨rec,hrec⟩:∃ rec:LoopState -> Option Code -> Loop,rec=fun st pe=>{ state:=st,pending:=pe,fn,tmps:=a.tmps,params:=ps,assign,body,defers:=w.heap.size }:=⟨_,rfl⟩
 obtain ⟨W1,hW1⟩:∃ W1,(w.alloc (.deferred (some []))).alloc (.loop (rec .ready none))=W1:=⟨_,rfl⟩
 have hL1:W1.heap[w.heap.size+1]?=some (.loop (rec .ready none)):=by
  rw [<- hW1];have:=World.alloc_heap_new (w.alloc (.deferred (some []))) (.loop (rec .ready none));rwa [World.size_alloc] at this
 have hK1:W1.heap[w.heap.size]?=some (.deferred (some [])):=by
  rw [<- hW1];exact (Below.heap_alloc _ _ _ (by simp)).trans (World.alloc_heap_new w _)
 have hI1:I [] W1:=by rw [<- hW1];exact hI.alloc _ (hI.alloc _ h0)
 have hb1:Below w0.heap.size w0 W1:=by
  rw [<- hW1];exact hb0.trans ((((Below.refl _ w).alloc (Nat.le_refl _) _).alloc (by simp) _).mono hb0.size)
 refine ⟨w.heap.size+1,[{ target:=.collected w.heap.size,args:=#[] }],W1,{ target:=.fn (.func gf) lb,args:=#[.func (.yield (w.heap.size+1)) #[] #[]] },W1,gf,
  #[.func (.yield (w.heap.size+1)) #[] #[]]++lb,W1,?_,?_,?_,?_,fun _=>h1,?_⟩
 ·rw [<- hW1,hrec];exact run_enterLoop_outer _ _ _ _ _
 ·simp only [resolve,hg]
  simp [go_sem]
 ·intro f' hf';simp [Target.leads] at hf';subst hf';exact hFg
 ·simp [invoke,go_sem,eg]
 ·have hkeep:∀ {A B:World} {o:Obj} {k:Nat},A.grownBy B none -> A.heap[k]?=some o -> B.heap[k]?=some o:=fun hg' hk=>
   (hg'.block _ (Array.getElem?_eq_some_iff.1 hk).1 (by simp)).trans hk
  refine (hseq (w.heap.size+1)
   (fun pre W=>I pre W/\W.heap[w.heap.size+1]?=some (.loop (rec .ready none))/\W.heap[w.heap.size]?=some (.deferred (some [])))
   (fun pre W=>∃ c,Ix c pre W/\W.heap[w.heap.size+1]?=some (.loop (rec .done (some c)))/\W.heap[w.heap.size]?=some (.deferred (some [])))
   W1 hb1
   (fun s A B hs hg'=>⟨hI s A B none hs.1 hg' (fun r e=>by cases e),hkeep hg' hs.2.1,hkeep hg' hs.2.2⟩)
   (fun s A v hs=>⟨hIb s A v hs.1,by rw [Below.heap_setCell A ⟨b0,0,none⟩ v _ (by simp only;omega)];exact hs.2.1,by rw [Below.heap_setCell A ⟨b0,0,none⟩ v _ (by simp only;omega)];exact hs.2.2⟩)
   ?_ ⟨hI1,hL1,hK1⟩).mono ?_
  ·
   rintro pre x W ⟨hi,hl,hk⟩ hlen hok
   have hlt:w.heap.size+1 < W.heap.size:=(Array.getElem?_eq_some_iff.1 hl).1
   have hy:=run_yield (P:=P) (args:=encs x) hl (by rw [hrec];exact hps x)
   rw [hrec] at hy
   obtain ⟨WA,hWA⟩:∃ WA,W.alloc (.cells (bx x) bt)=WA:=⟨_,rfl⟩
   have hxA:Ext W WA:=by rw [<- hWA];exact (Mod.refl _ W).alloc _
   have hlA:=hxA.at hl (fun h=>h)
   have hkA:=hxA.at hk (fun h=>h)
   have hiA:I pre WA:=by rw [<- hWA];exact hI.alloc _ hi
   have hbA:WA.heap[W.heap.size]?=some (.cells (bx x) bt (0,0)):=by rw [<- hWA];exact heap_alloc_new W _
   have hltA:w.heap.size+1 < WA.heap.size:=(Array.getElem?_eq_some_iff.1 hlA).1
   refine ⟨fn,_,assign,body,hy,roundIn_of_wpIn hfn (hassign _ x _ W _ rfl ?_)⟩
   rw [hWA]
   refine ⟨_,run_beginRound hlA (by rw [hrec]),?_⟩
   obtain ⟨W2,hW2⟩:∃ W2,WA.putObj (w.heap.size+1) (.loop { rec .ready none with state:=.busy })=W2:=⟨_,rfl⟩
   have hl2:W2.heap[w.heap.size+1]?=some (.loop { rec .ready none with state:=.busy }):=by rw [<- hW2];exact World.putObj_heap_same hltA
   have ho2:∀ k,k ≠ w.heap.size+1 -> W2.heap[k]?=WA.heap[k]?:=fun k hk=>by rw [<- hW2];exact World.putObj_heap_other (by omega)
   have hk2:W2.heap[w.heap.size]?=some (.deferred (some [])):=(ho2 _ (by omega)).trans hkA
   have hs2:W2.heap.size=WA.heap.size:=by rw [<- hW2];simp
   have hsA:WA.heap.size=W.heap.size+1:=by rw [<- hWA];simp
   have hi2:I pre W2:=by rw [<- hW2];exact hI.putObj (s:=pre) _ hiA (by omega) hlA rfl
   have hgoal:=hbody (w.heap.size+1) pre x W.heap.size W2 hi2 (by omega) ((ho2 _ (by omega)).trans hbA) hlen hok
   rw [hW2]
   refine wpIn_mono hgoal ?_
   have fin:∀ (jump:Option Code) (W3:World),KeepsOthers W2 W3 →
     (Instr.endRound (w.heap.size+1) jump).run P W3=.ok (.bool jump.isNone) (W3.putObj (w.heap.size+1) (.loop (rec (if jump.isNone then .ready else .done) jump))) ∧
     W3.heap[w.heap.size+1]?=some (.loop { rec .ready none with state:=.busy }) ∧
     (W3.putObj (w.heap.size+1) (.loop (rec (if jump.isNone then .ready else .done) jump))).heap[w.heap.size+1]?=some (.loop (rec (if jump.isNone then .ready else .done) jump)) ∧
     (W3.putObj (w.heap.size+1) (.loop (rec (if jump.isNone then .ready else .done) jump))).heap[w.heap.size]?=some (.deferred (some [])):=fun jump W3 hk3=>by
    have hl3:=hk3.same _ _ hl2 rfl
    have:=run_endRound (P:=P) jump hl3
    rw [hrec] at this ⊢
    exact ⟨this,by rw [hrec] at hl3;exact hl3,World.putObj_heap_same (Array.getElem?_eq_some_iff.1 hl3).1,(World.putObj_heap_other (by omega)).trans (hk3.same _ _ hk2 rfl)⟩
   rintro e a3 W3 hp
   cases e with
   | normal=>
    obtain ⟨hk3,hb3,hi3⟩:=hp
    obtain ⟨hr,hl3,hl4,hk4⟩:=fin none W3 hk3
    refine ⟨_,_,hr,.inl ⟨rfl,⟨hI.putObj (s:=pre++[x]) _ hi3 (by omega) hl3 rfl,hl4,hk4⟩,by have:=hk3.size;simp;omega,fun k hk=>?_⟩⟩
    have hkw:=hKb k hk
    have e1:(W3.putObj (w.heap.size+1) (.loop (rec (if (none:Option Code).isNone then .ready else .done) none))).heap[k]?=W3.heap[k]?:=World.putObj_heap_other (by omega)
    rw [e1,hb3 k hk,ho2 k (by omega),hxA.block k (by omega) (fun h=>h)]
   | ret=>
    obtain ⟨hk3,hi3⟩:=hp
    obtain ⟨hr,hl3,hl4,hk4⟩:=fin (some .ret) W3 hk3
    exact ⟨_,_,hr,.inr ⟨rfl,.ret,(hIx _).putObj _ hi3 (by omega) hl3 rfl,hl4,hk4⟩⟩
   | exit id=>
    obtain ⟨hk3,hi3⟩:=hp
    obtain ⟨hr,hl3,hl4,hk4⟩:=fin (some (.exit id)) W3 hk3
    exact ⟨_,_,hr,.inr ⟨rfl,.exit id,(hIx _).putObj _ hi3 (by omega) hl3 rfl,hl4,hk4⟩⟩
   | goto t=>
    obtain ⟨hk3,hi3⟩:=hp
    obtain ⟨hr,hl3,hl4,hk4⟩:=fin (some (.goto t)) W3 hk3
    exact ⟨_,_,hr,.inr ⟨rfl,.goto t,(hIx _).putObj _ hi3 (by omega) hl3 rfl,hl4,hk4⟩⟩
   | panic ch=>exact hp.elim
   | outgrown=>exact hp.elim
  ·rintro e W2 ⟨⟨v,rfl⟩,(⟨xs,hS,hi,hl,hk⟩ | ⟨pre,hSp,c,hi,hl,hk⟩)⟩
   ·exact ⟨none,_,by have:=run_endLoop (P:=P) hl (by rw [hrec];simp);rw [hrec] at this;exact this,hdone _ xs _ (Nat.le_refl _) hS (hI.putObj (s:=xs) _ hi (by omega) hl rfl) ((World.putObj_heap_other (by omega)).trans hk)⟩
   ·exact ⟨some c,_,by have:=run_endLoop (P:=P) hl (by rw [hrec];simp);rw [hrec] at this;exact this,hstop _ c pre _ (Nat.le_refl _) hSp ((hIx c).putObj _ hi (by omega) hl rfl) ((World.putObj_heap_other (by omega)).trans hk)⟩
end Cdk
