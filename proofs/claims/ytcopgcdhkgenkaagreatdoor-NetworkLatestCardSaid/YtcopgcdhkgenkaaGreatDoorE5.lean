import Derived.Test.YtcopgcdhkgenkaaGreatDoorSC0
import Derived.Test.YtcopgcdhkgenkaaGreatDoorBigArr
import Derived.Deep.MidRow
set_option linter.all false
set_option maxRecDepth 100000
set_option maxHeartbeats 16000000
namespace Cdk
open Go Go.RowKit
inductive Tr
 | done
 | q (i:Nat) (t:Tr)
 | c1 (i:Nat) (t:Tr)
 | c2 (i:Nat) (t:Tr) (j:Nat) (u:Tr)
 | c3 (i:Nat) (t:Tr) (j:Nat) (u:Tr) (k:Nat) (v:Tr)
 | s (t:Tr)
def trOk (md:Region.Mode) (ops:Array Oper):Tr -> Array Bool -> Bool
 | .done,L=>(Region.ready md ops L).isEmpty
 | .q i t,L=>(Region.ready md ops L).contains i && Region.free md ops L i && trOk md ops t (L.setIfInBounds i true)
 | .c1 i t,L=>Region.ready md ops L==[i] && trOk md ops t (L.setIfInBounds i true)
 | .c2 i t j u,L=>Region.ready md ops L==[i,j] && trOk md ops t (L.setIfInBounds i true) && trOk md ops u (L.setIfInBounds j true)
 | .c3 i t j u k v,L=>Region.ready md ops L==[i,j,k] && trOk md ops t (L.setIfInBounds i true) && trOk md ops u (L.setIfInBounds j true) && trOk md ops v (L.setIfInBounds k true)
 | .s t,L=>trOk md ops t L
def trLen:Tr -> Nat
 | .done=>0
 | .q _ t=>trLen t+1
 | .c1 _ t=>trLen t+1
 | .c2 _ t _ u=>max (trLen t) (trLen u)+1
 | .c3 _ t _ u _ v=>max (trLen t) (max (trLen u) (trLen v))+1
 | .s t=>trLen t
section
variable {P:Program} {Q:Exit -> Act -> World -> Prop}
def wpN (P:Program) (ops:Array Oper) (C:World -> Prop) (Q:Exit -> Act -> World -> Prop) (o:Oper) (R:Act -> World -> Prop) (a:Act) (w:World):Prop:=
 if Region.wanted o (yielded ops a.tmps)=true then o.wp P a w (fun a' w'=>C w'/\R a' w') Q else R (a.put o.dst undef) w
def wpTr (P:Program) (l:List Oper) (Q:Exit -> Act -> World -> Prop):Tr -> (World -> Prop) -> Act -> World -> Prop
 | .done,_,a,w=>Q .normal a w
 | .q i t,C,a,w=>∃ v,YieldsIf P l.toArray C (l.getD i default) v a/\wpTr P l Q t C (a.put (l.getD i default).dst v) w
 | .c1 i t,C,a,w=>wpN P l.toArray C Q (l.getD i default) (wpTr P l Q t C) a w
 | .c2 i t j u,C,a,w=>wpN P l.toArray C Q (l.getD i default) (wpTr P l Q t C) a w/\wpN P l.toArray C Q (l.getD j default) (wpTr P l Q u C) a w
 | .c3 i t j u k v,C,a,w=>wpN P l.toArray C Q (l.getD i default) (wpTr P l Q t C) a w/\wpN P l.toArray C Q (l.getD j default) (wpTr P l Q u C) a w/\wpN P l.toArray C Q (l.getD k default) (wpTr P l Q v C) a w
 | .s t,C,a,w=>∃ C':World -> Prop,(∀ w',C' w' -> C w')/\C' w/\wpTr P l Q t C' a w
theorem wpAnyH_mono {md:Region.Mode} {ops:Array Oper} {C C':World -> Prop} (hC:∀ w,C' w -> C w):∀ (fuel:Nat) (L:Array Bool) (a:Act) (w:World),wpAnyH P md ops Q C' fuel L a w -> wpAnyH P md ops Q C fuel L a w
 | 0,_,_,_,h=>h
 | fuel+1,_,_,_,h=>⟨h.1,fun i hi=>wpOp_mono (fun _ _ h'=>⟨hC _ h'.1,wpAnyH_mono hC fuel _ _ _ h'.2⟩) (h.2 i hi)⟩
theorem wpN_op {md:Region.Mode} {l:List Oper} {L:Array Bool} {C:World -> Prop} {i:Nat} {R R':Act -> World -> Prop} {a:Act} {w:World} (hm:i ∈ Region.ready md l.toArray L) (hC:C w) (h:wpN P l.toArray C Q (l.getD i default) R a w)
  (hR:∀ a' w',C w' -> R a' w' -> R' a' w'):wpOp P l.toArray Q i (fun a' w'=>C w'/\R' a' w') a w:=by
 have hi:l.toArray[i]?=some (l.getD i default):=by
  have:i < l.length:=by
   simp only [Region.ready,List.mem_filter,List.mem_range] at hm
   simpa using hm.1
  simp [List.getD,this]
 unfold wpOp
 simp only [hi]
 unfold wpN at h
 by_cases hw:Region.wanted (l.getD i default) (yielded l.toArray a.tmps)=true
 ·rw [if_pos hw] at h ⊢
  exact .inl (Oper.wp_mono (fun a' w' ⟨hC',h'⟩=>⟨hC',hR a' w' hC' h'⟩) h)
 ·rw [if_neg hw] at h ⊢
  exact ⟨hC,hR _ _ hC h⟩
theorem wpTr_sound {md:Region.Mode} {l:List Oper} (hno:Region.noSelect l.toArray=true) (hQ:∀ c a d v w,Q (.panic c) (Act.put a d v) w -> Q (.panic c) a w):
  ∀ (t:Tr) (C:World -> Prop) (fuel:Nat) (L:Array Bool) (a:Act) (w:World),trLen t<=fuel -> trOk md l.toArray t L=true -> C w -> wpTr P l Q t C a w -> wpAnyH P md l.toArray Q C fuel L a w
 | .done,C,fuel,L,a,w,_,hok,_,h=>by
  simp only [trOk,List.isEmpty_iff] at hok
  exact wpAnyH_done hok h fuel
 | .s t,C,fuel,L,a,w,hf,hok,_,h=>by
  obtain ⟨C',h1,h2,h3⟩:=h
  exact wpAnyH_mono h1 fuel L a w (wpTr_sound hno hQ t C' fuel L a w hf hok h2 h3)
 | .q i t,C,0,L,a,w,hf,_,_,_=>by simp [trLen] at hf
 | .c1 i t,C,0,L,a,w,hf,_,_,_=>by simp [trLen] at hf
 | .c2 i t j u,C,0,L,a,w,hf,_,_,_=>by simp [trLen] at hf
 | .c3 i t j u k v,C,0,L,a,w,hf,_,_,_=>by simp [trLen] at hf
 | .q i t,C,fuel+1,L,a,w,hf,hok,hC,h=>by
  simp only [trOk,Bool.and_eq_true] at hok
  obtain ⟨⟨hr,hfree⟩,hok⟩:=hok
  obtain ⟨v,hy,h⟩:=h
  have hi:l.toArray[i]?=some (l.getD i default):=by
   have hm:i ∈ Region.ready md l.toArray L:=by simpa using hr
   have:i < l.length:=by
    simp only [Region.ready,List.mem_filter,List.mem_range] at hm
    simpa using hm.1
   simp [List.getD,this]
  simp only [trLen] at hf
  exact wpAnyH_take hi hno hfree hr (fun c a w h=>hQ c a _ v w h) hy hC (wpTr_sound hno hQ t C fuel _ _ _ (by omega) hok hC h)
 | .c1 i t,C,fuel+1,L,a,w,hf,hok,hC,h=>by
  simp only [trOk,Bool.and_eq_true,beq_iff_eq] at hok
  simp only [trLen] at hf
  refine wpAnyH_all hok.1 (by simp) ?_
  intro j hj
  simp only [List.mem_singleton] at hj
  subst hj
  exact wpN_op (by rw [hok.1];simp) hC h (fun a' w' hC' h'=>wpTr_sound hno hQ t C fuel _ _ _ (by omega) hok.2 hC' h')
 | .c2 i t j u,C,fuel+1,L,a,w,hf,hok,hC,h=>by
  simp only [trOk,Bool.and_eq_true,beq_iff_eq] at hok
  obtain ⟨⟨hr,h1⟩,h2⟩:=hok
  simp only [trLen] at hf
  refine wpAnyH_all hr (by simp) ?_
  intro x hx
  simp only [List.mem_cons,List.not_mem_nil,or_false] at hx
  rcases hx with rfl | rfl
  ·exact wpN_op (by rw [hr];simp) hC h.1 (fun a' w' hC' h'=>wpTr_sound hno hQ t C fuel _ _ _ (by omega) h1 hC' h')
  ·exact wpN_op (by rw [hr];simp) hC h.2 (fun a' w' hC' h'=>wpTr_sound hno hQ u C fuel _ _ _ (by omega) h2 hC' h')
 | .c3 i t j u k v,C,fuel+1,L,a,w,hf,hok,hC,h=>by
  simp only [trOk,Bool.and_eq_true,beq_iff_eq] at hok
  obtain ⟨⟨⟨hr,h1⟩,h2⟩,h3⟩:=hok
  simp only [trLen] at hf
  refine wpAnyH_all hr (by simp) ?_
  intro x hx
  simp only [List.mem_cons,List.not_mem_nil,or_false] at hx
  rcases hx with rfl | rfl | rfl
  ·exact wpN_op (by rw [hr];simp) hC h.1 (fun a' w' hC' h'=>wpTr_sound hno hQ t C fuel _ _ _ (by omega) h1 hC' h')
  ·exact wpN_op (by rw [hr];simp) hC h.2.1 (fun a' w' hC' h'=>wpTr_sound hno hQ u C fuel _ _ _ (by omega) h2 hC' h')
  ·exact wpN_op (by rw [hr];simp) hC h.2.2 (fun a' w' hC' h'=>wpTr_sound hno hQ v C fuel _ _ _ (by omega) h3 hC' h')
theorem wp_region_tree {id:Nat} {l:List Oper} {a:Act} {w:World} (t:Tr) (hm:P.follows .mixedOrders=true)
  (hno:Region.noSelect l.toArray=true) (hok:trOk .any l.toArray t (Array.replicate l.length false)=true) (hlen:trLen t<=l.length)
  (h:wpTr P l (NoPanic Q) t (fun _=>True) a w.drew):(Code.region id l.toArray true).wp P Q a w:=by
 refine wp_region_noPanic (wp_region_held (S:=fun _=>True) hm ?_)
 have:=wpTr_sound (md:=.any) hno (fun _ _ _ _ _ h=>h) t (fun _=>True) l.length (Array.replicate l.length false) a w.drew hlen hok trivial h
 exact this
theorem wpTr_done {l:List Oper} {C:World -> Prop} {a:Act} {w:World} (h:Q .normal a w):wpTr P l (NoPanic Q) .done C a w:=h
theorem wpTr_q {l:List Oper} {C:World -> Prop} {i:Nat} {t:Tr} {a:Act} {w:World} (o:Oper) (ho:l.getD i default=o) (hg:Region.wanted o (yielded l.toArray a.tmps)=true) (v:Value) (h1:∀ w',C w' -> (execOp a.eval o).run P w'=.ok (.value v) w')
  (h2:wpTr P l Q t C (a.put o.dst v) w):wpTr P l Q (.q i t) C a w:=by
 subst ho
 exact ⟨v,.inl ⟨hg,h1⟩,h2⟩
theorem wpTr_s {l:List Oper} {C:World -> Prop} {t:Tr} {a:Act} {w:World} (C':World -> Prop) (h1:∀ w',C' w' -> C w') (h2:C' w) (h3:wpTr P l Q t C' a w):wpTr P l Q (.s t) C a w:=⟨C',h1,h2,h3⟩
theorem wpN_c {ops:Array Oper} {C:World -> Prop} {o:Oper} {R:Act -> World -> Prop} {a:Act} {w:World} (hg:Region.wanted o (yielded ops a.tmps)=true)
  (h:∀ K:Act -> World -> Prop,Hid (∀ a' w',C w' -> R a' w' -> K a' w') -> o.wp P a w K Q):wpN P ops C Q o R a w:=by
 unfold wpN
 rw [if_pos hg]
 exact h _ (fun a' w' h1 h2=>⟨h1,h2⟩)
theorem wpTr_c1 {l:List Oper} {C:World -> Prop} {i:Nat} {t:Tr} {a:Act} {w:World} (o:Oper) (ho:l.getD i default=o) (h:wpN P l.toArray C Q o (wpTr P l Q t C) a w):wpTr P l Q (.c1 i t) C a w:=by subst ho;exact h
theorem wpTr_c2 {l:List Oper} {C:World -> Prop} {i j:Nat} {t u:Tr} {a:Act} {w:World} (o1 o2:Oper) (ho1:l.getD i default=o1) (ho2:l.getD j default=o2) (h1:wpN P l.toArray C Q o1 (wpTr P l Q t C) a w) (h2:wpN P l.toArray C Q o2 (wpTr P l Q u C) a w):wpTr P l Q (.c2 i t j u) C a w:=by
 subst ho1;subst ho2;exact ⟨h1,h2⟩
end
theorem rangeAt_of {w:World} {b:Nat} {pre cs post:List Value} {t:TypeId} {fr:Nat × Nat} (h:w.heap[b]?=some (.cells (pre++(cs++post)).toArray t fr)):w.rangeAt b pre.length cs:=fun j v hv=>by
 have hj:=(List.getElem?_eq_some_iff.1 hv).1
 have:w.cell? ⟨b,pre.length+j,none⟩=(pre++(cs++post))[pre.length+j]?:=by simp [World.cell?,h]
 rw [this,List.getElem?_append_right (by omega),show pre.length+j - pre.length=j by omega,List.getElem?_append_left hj,hv]
theorem there_of {w:World} {b:Nat} {pre cs post:List Value} {t:TypeId} (h:w.heap[b]?=some (.cells (pre++(cs++post)).toArray t (0,0))):w.there b pre.length cs.length:=fun j hj=>by
 have h1:=rangeAt_of h j cs[j] (List.getElem?_eq_getElem hj)
 refine ⟨by rw [h1];rfl,?_⟩
 unfold World.frozen?;simp [h]
theorem setCells_at {b:Nat} {t:TypeId} {fr:Nat × Nat}:∀ (vs pre cs post:List Value) (w:World),w.heap[b]?=some (.cells (pre++(cs++post)).toArray t fr) -> vs.length=cs.length -> (w.setCells b pre.length vs).heap[b]?=some (.cells (pre++(vs++post)).toArray t fr)
 | [],pre,cs,post,w,h,hl=>by
  have:cs=[]:=List.eq_nil_of_length_eq_zero (by simpa using hl.symm)
  subst this;exact h
 | v::vs,pre,[],post,w,h,hl=>by simp at hl
 | v::vs,pre,c::cs,post,w,h,hl=>by
  have h1:=put_at' h pre.length v
  have e:(pre++(c::cs++post)).toArray.setIfInBounds pre.length v=((pre++[v])++(cs++post)).toArray:=by simp
  rw [e] at h1
  have h2:=setCells_at vs (pre++[v]) cs post _ h1 (by simpa using hl)
  rw [List.length_append,List.append_assoc] at h2
  exact h2
theorem setCells_mod (b:Nat):∀ (vs:List Value) (w:World) (k:Nat),Mod (Eq b) w (w.setCells b k vs)
 | [],w,k=>Mod.refl _ w
 | v::vs,w,k=>((Mod.refl (Eq b) w).setCell (a:=⟨b,k,none⟩) (fun _=>rfl) v).trans (setCells_mod b vs _ (k+1))
section
variable {P:Program} {ops:Array Oper} {rest:List Oper} {o:Oper} {a:Act} {w:World} {K:Act -> World -> Prop} {Q:Exit -> Act -> World -> Prop} {C:World -> Prop}
theorem wp_storeA (ty:TypeId) (x y:Operand) (ho:o.op=.store ty x y) (b n:Nat) (pre old post vs:List Value) (t:TypeId) (hn:n=pre.length) (hx:a.eval x=.pointer (some ⟨b,n,none⟩)) (hy:a.eval y=.agg vs.toArray)
  (hold:w.heap[b]?=some (.cells (pre++(old++post)).toArray t (0,0))) (hl:vs.length=old.length) (hi:(P.info? ty).map (·.size)=some vs.length) (h1:vs.all (·.oneCell')=true)
  (h:∀ w',Hid (w'.heap[b]?=some (.cells (pre++(vs++post)).toArray t (0,0))/\Mod (Eq b) w w') -> K (a.put o.dst undef) w'):o.wp P a w K Q:=by
 subst hn
 refine wp_store_mid ty x y ho b pre.length vs.toArray hx hy (by have:=there_of hold;simpa [hl] using this) (by simpa using hi) (all_oneCell_toArray (fun v hv=>List.all_eq_true.1 h1 v hv)) ?_
 exact h _ ⟨setCells_at vs pre old post w hold hl,setCells_mod b vs w _⟩
theorem wpList_loadG (hw:Region.wanted o (yielded ops a.tmps)=true) (ty:TypeId) (x:Operand) (ho:o.op=.load ty x) (b n:Nat) (pre cs post:List Value) (t:TypeId) (fr:Nat × Nat) (d:TypeDesc) (hn:n=pre.length) (hx:a.eval x=.pointer (some ⟨b,n,none⟩))
  (hold:w.heap[b]?=some (.cells (pre++(cs++post)).toArray t fr)) (hu:P.underlying ty=some d) (hd:d.isRow=true) (hi:(P.info? ty).map (·.size)=some cs.length)
  (h:wpList P ops Q rest (a.put o.dst (.agg cs.toArray)) w):wpList P ops Q (o::rest) a w:=by
 subst hn
 simp only [wpList]
 rw [if_pos hw]
 exact .inl (wp_load_mid ty x ho b pre.length hx cs d (rangeAt_of hold) hu hd hi h)
theorem wp_storeW (ty:TypeId) (x y:Operand) (ho:o.op=.store ty x y) (b:Nat) (old vs:Array Value) (t:TypeId) (hx:a.eval x=.pointer (some ⟨b,0,none⟩)) (hy:a.eval y=.agg vs)
  (hold:w.heap[b]?=some (.cells old t (0,0))) (hl:vs.size=old.size) (hi:(P.info? ty).map (·.size)=some vs.size) (h1:vs.toList.all (·.oneCell')=true)
  (h:∀ w',Hid (w'.heap[b]?=some (.cells vs t (0,0))/\Mod (Eq b) w w') -> K (a.put o.dst undef) w'):o.wp P a w K Q:=by
 obtain ⟨old⟩:=old
 obtain ⟨vs⟩:=vs
 refine wp_storeA ty x y ho b 0 [] old [] vs t rfl hx hy (by simpa using hold) (by simpa using hl) (by simpa using hi) (by simpa using h1) (fun w' H=>h w' ?_)
 have:=H.out
 simp only [List.append_nil,List.nil_append] at this
 exact this
theorem wpList_storeW (hg:o.guard=none) (ty:TypeId) (x y:Operand) (ho:o.op=.store ty x y) (b:Nat) (old vs:Array Value) (t:TypeId) (hx:a.eval x=.pointer (some ⟨b,0,none⟩)) (hy:a.eval y=.agg vs)
  (hold:w.heap[b]?=some (.cells old t (0,0))) (hl:vs.size=old.size) (hi:(P.info? ty).map (·.size)=some vs.size) (h1:vs.toList.all (·.oneCell')=true)
  (h:∀ w',Hid (w'.heap[b]?=some (.cells vs t (0,0))/\Mod (Eq b) w w') -> wpList P ops Q rest (a.put o.dst undef) w'):wpList P ops Q (o::rest) a w:=
 wpList_plain hg fun _ hK=>wp_storeW ty x y ho b old vs t hx hy hold hl hi h1 (fun w' H=>hK _ _ (h w' H))
theorem wpList_loadW (hw:Region.wanted o (yielded ops a.tmps)=true) (ty:TypeId) (x:Operand) (ho:o.op=.load ty x) (b:Nat) (cs:Array Value) (t:TypeId) (fr:Nat × Nat) (d:TypeDesc) (hx:a.eval x=.pointer (some ⟨b,0,none⟩))
  (hold:w.heap[b]?=some (.cells cs t fr)) (hu:P.underlying ty=some d) (hd:d.isRow=true) (hi:(P.info? ty).map (·.size)=some cs.size)
  (h:wpList P ops Q rest (a.put o.dst (.agg cs)) w):wpList P ops Q (o::rest) a w:=by
 obtain ⟨cs⟩:=cs
 exact wpList_loadG hw ty x ho b 0 [] cs [] t fr d rfl hx (by simpa using hold) hu hd (by simpa using hi) h
end
end Cdk
namespace Go.Proofs.YtcopgcdhkgenkaaGreatDoor
open Go.Shelf Go.RowKit Cdk
def BldrAt (w:World) (b m:Nat) (job last:Value):Prop:=w.heap[b]?=some (.cells #[job,.map (some m),last] 246 (0,0))
theorem buildNew_any (w:World):Calls Tryz.prog 103 #[] w fun e w'=>e=.returned (.pointer (some ⟨w.heap.size+1,0,none⟩))/\w'=(w.alloc (.map #[] 0)).alloc (.cells #[.pointer none,.map (some w.heap.size),.pointer none] 246):=by
 have hmm:=@run_makeMap Tryz.prog
 go_enter Tryz.func103,Tryz.ntmps103
 go_wp2_with fail
 go_ret
 exact ⟨rfl,rfl⟩
theorem indexNew_any (w:World):Calls Tryz.prog 104 #[] w fun e w'=>(∃ p,e=.returned (.pointer (some ⟨p,0,none⟩)))/\Ext w w':=by
 have hmm:=@run_makeMap Tryz.prog
 go_enter Tryz.func104,Tryz.ntmps104
 go_wp2_with fail
 go_ret
 exact ⟨⟨_,rfl⟩,((((Mod.refl _ w).alloc _).alloc _).alloc _)⟩
theorem copy0_St (ao:Option Addr) (cap:Nat) (w:World):Calls Tryz.prog 220 #[.slice ao 0 cap] w fun e w'=>(∃ b,e=.returned (.slice (some ⟨b,0,none⟩) 0 0))/\Ext w w':=by
 have hmk:∀ W:World,(Instr.makeSlice 232 (.int .i64 0) (.int .i64 0)).run Tryz.prog W=.ok (.slice (some ⟨W.heap.size,0,none⟩) 0 0) (W.alloc (.cells #[] 270)):=fun W=>by kernel_rfl
 obtain ⟨ie,hie⟩:∃ i,Tryz.prog.info? 270=some i:=Option.isSome_iff_exists.1 (by kernel_rfl)
 have hcp:∀ (b:Nat) (W:World),(Builtin.copy_ #[232,232] 3 #[.slice (some ⟨b,0,none⟩) 0 0,.slice ao 0 cap]).run Tryz.prog W=.ok (.int .i64 0) W:=fun b W=>run_copy_zero W _ _ _ _ _ _ _ _ _ _ Tryz.underlying232 hie rfl
 go_enter Tryz.func220,Tryz.ntmps220
 go_wp2_with fail
 go_ret
 exact ⟨⟨_,rfl⟩,(Mod.refl _ w).alloc _⟩
theorem copy0_Tm (ao:Option Addr) (cap:Nat) (w:World):Calls Tryz.prog 221 #[.slice ao 0 cap] w fun e w'=>(∃ b,e=.returned (.slice (some ⟨b,0,none⟩) 0 0))/\Ext w w':=by
 have hmk:∀ W:World,(Instr.makeSlice 233 (.int .i64 0) (.int .i64 0)).run Tryz.prog W=.ok (.slice (some ⟨W.heap.size,0,none⟩) 0 0) (W.alloc (.cells #[] 360)):=fun W=>by kernel_rfl
 obtain ⟨ie,hie⟩:∃ i,Tryz.prog.info? 360=some i:=Option.isSome_iff_exists.1 (by kernel_rfl)
 have hcp:∀ (b:Nat) (W:World),(Builtin.copy_ #[233,233] 3 #[.slice (some ⟨b,0,none⟩) 0 0,.slice ao 0 cap]).run Tryz.prog W=.ok (.int .i64 0) W:=fun b W=>run_copy_zero W _ _ _ _ _ _ _ _ _ _ Tryz.underlying233 hie rfl
 go_enter Tryz.func221,Tryz.ntmps221
 go_wp2_with fail
 go_ret
 exact ⟨⟨_,rfl⟩,(Mod.refl _ w).alloc _⟩
theorem copyState_any (a1 a2:Option Addr) (c1 c2:Nat) (w:World):Calls Tryz.prog 159 #[.agg #[.slice a1 0 c1,.slice a2 0 c2]] w fun e w'=>(∃ b1 b2,e=.returned (.agg #[.slice b1 0 0,.slice b2 0 0]))/\Ext w w':=by
 obtain ⟨N,hN⟩:∃ N,N=w.heap.size:=⟨_,rfl⟩
 have hx0:=allocs_ext (S:=fun _=>False) [.cells #[.slice a1 0 c1,.slice a2 0 c2] 235,.cells #[.slice none 0 0,.slice none 0 0] 235] w
 have hg:=allocs_get [.cells #[.slice a1 0 c1,.slice a2 0 c2] 235,.cells #[.slice none 0 0,.slice none 0 0] 235] w
 have hs0:=hg 0 (by simp)
 have hr0:=hg 1 (by simp)
 simp only [allocs,<- hN,Nat.add_zero] at hx0 hs0 hr0
 clear hg
 go_enter Tryz.func159,Tryz.ntmps159
 go_upto_region 1 with fail
 simp only [<- hN]
 generalize ((w.alloc (.cells #[.slice a1 0 c1,.slice a2 0 c2] 235)).alloc (.cells #[.slice none 0 0,.slice none 0 0] 235))=w2 at hx0 hs0 hr0 ⊢
 replace hN:=hid hN
 replace hx0:=hid hx0
 replace hs0:=hid hs0
 replace hr0:=hid hr0
 try simp only [List.append_eq,List.cons_append,List.nil_append]
 refine wp_region_tree (.s (.q 0 (.q 1 (.q 3 (.q 4 (.c2 2 (.c2 5 (.q 6 (.c1 7 (.c1 8 .done))) 7 (.c1 5 (.q 6 (.c1 8 .done)))) 7 (.c1 2 (.c1 5 (.q 6 (.c1 8 .done)))))))))) (by as_aux_lemma=>kernel_rfl) (by as_aux_lemma=>kernel_rfl) (by as_aux_lemma=>kernel_rfl) (by decide) ?_
 have hy0:=hid (Mod.drew0 (fun _=>False) w2)
 refine wpTr_s (fun Wx=>Ext w2 Wx) (fun _ _=>trivial) hy0.out ?_
 generalize hWd:World.drew w2=W0 at hy0 ⊢
 refine wpTr_q _ (by simp only [List.getD_cons_succ,List.getD_cons_zero];rfl) (by rfl) ?_ (fun w' hC=>?_) ?_;rotate_left;(have q0:w'.cell? ⟨N,0,none⟩=some (.slice a1 0 c1):=hC.cell (cellN hs0.out 0) (fun h=>h);have q1:w'.cell? ⟨N,1,none⟩=some (.slice a2 0 c2):=hC.cell (cellN hs0.out 1) (fun h=>h);go_simp;try with_reducible rfl);try simp only [Act.put,sA,sZ,sS]
 refine wpTr_q _ (by simp only [List.getD_cons_succ,List.getD_cons_zero];rfl) (by rfl) ?_ (fun w' hC=>?_) ?_;rotate_left;(have q0:w'.cell? ⟨N,0,none⟩=some (.slice a1 0 c1):=hC.cell (cellN hs0.out 0) (fun h=>h);have q1:w'.cell? ⟨N,1,none⟩=some (.slice a2 0 c2):=hC.cell (cellN hs0.out 1) (fun h=>h);go_simp;try with_reducible rfl);try simp only [Act.put,sA,sZ,sS]
 refine wpTr_q _ (by simp only [List.getD_cons_succ,List.getD_cons_zero];rfl) (by rfl) ?_ (fun w' hC=>?_) ?_;rotate_left;(have q0:w'.cell? ⟨N,0,none⟩=some (.slice a1 0 c1):=hC.cell (cellN hs0.out 0) (fun h=>h);have q1:w'.cell? ⟨N,1,none⟩=some (.slice a2 0 c2):=hC.cell (cellN hs0.out 1) (fun h=>h);go_simp;try with_reducible rfl);try simp only [Act.put,sA,sZ,sS]
 refine wpTr_q _ (by simp only [List.getD_cons_succ,List.getD_cons_zero];rfl) (by rfl) ?_ (fun w' hC=>?_) ?_;rotate_left;(have q0:w'.cell? ⟨N,0,none⟩=some (.slice a1 0 c1):=hC.cell (cellN hs0.out 0) (fun h=>h);have q1:w'.cell? ⟨N,1,none⟩=some (.slice a2 0 c2):=hC.cell (cellN hs0.out 1) (fun h=>h);go_simp;try with_reducible rfl);try simp only [Act.put,sA,sZ,sS]
 refine wpTr_c2 _ _ (by simp only [List.getD_cons_succ,List.getD_cons_zero];rfl) (by simp only [List.getD_cons_succ,List.getD_cons_zero];rfl) ?_ ?_
 ·refine wpN_c (by rfl) (fun K hK=>?_)
  go_simp
  refine (copy0_St a1 c1 W0).mono ?_;rintro e W1 ⟨⟨b1,rfl⟩,hxn⟩
  have hy1:=hid (hy0.out.trans hxn)
  try replace hT:=hid (hxn.at hT.out (fun h=>h))
  refine hK.out _ _ hy1.out ?_
  clear hxn
  clear hK K
  try simp only [Act.put,sA,sZ,sS]
  refine wpTr_c2 _ _ (by simp only [List.getD_cons_succ,List.getD_cons_zero];rfl) (by simp only [List.getD_cons_succ,List.getD_cons_zero];rfl) ?_ ?_
  ·refine wpN_c (by rfl) (fun K hK=>?_)
   go_simp
   refine (copy0_Tm a2 c2 W1).mono ?_;rintro e W2 ⟨⟨b2,rfl⟩,hxn⟩
   have hy2:=hid (hy1.out.trans hxn)
   try replace hT:=hid (hxn.at hT.out (fun h=>h))
   refine hK.out _ _ hy2.out ?_
   clear hxn
   clear hK K
   try simp only [Act.put,sA,sZ,sS]
   refine wpTr_q _ (by simp only [List.getD_cons_succ,List.getD_cons_zero];rfl) (by rfl) ?_ (fun w' hC=>?_) ?_;rotate_left;(have q0:w'.cell? ⟨N,0,none⟩=some (.slice a1 0 c1):=hC.cell (cellN hs0.out 0) (fun h=>h);have q1:w'.cell? ⟨N,1,none⟩=some (.slice a2 0 c2):=hC.cell (cellN hs0.out 1) (fun h=>h);go_simp;try with_reducible rfl);try simp only [Act.put,sA,sZ,sS]
   refine wpTr_c1 _ (by simp only [List.getD_cons_succ,List.getD_cons_zero];rfl) ?_
   refine wpN_c (by rfl) (fun K hK=>?_)
   go_simp
   have hT:=hid (heap_alloc_new W2 (.cells #[.slice none 0 0,.slice none 0 0] 235))
   have hy3:=hid (hy2.out.alloc (.cells #[.slice none 0 0,.slice none 0 0] 235))
   have hTge:w2.heap.size<=W2.heap.size:=hy2.out.size
   generalize W2.heap.size=T at hT hTge ⊢
   generalize W2.alloc (.cells #[.slice none 0 0,.slice none 0 0] 235)=W3 at hT hy3 ⊢
   refine hK.out _ _ hy3.out ?_
   clear hK K
   try simp only [Act.put,sA,sZ,sS]
   refine wpTr_c1 _ (by simp only [List.getD_cons_succ,List.getD_cons_zero];rfl) ?_
   refine wpN_c (by rfl) (fun K hK=>?_)
   have z0:=freeN hT.out 0
   have z1:=freeN hT.out 1
   have c0:W3.cell? ⟨T,0,none⟩=some (.slice none 0 0):=cellN hT.out 0
   have c1:W3.cell? ⟨T,1,none⟩=some (.slice none 0 0):=cellN hT.out 1
   have hT2:=hid (put_at' (put_at' hT.out 0 (.slice (some ⟨b1,0,none⟩) 0 0)) 1 (.slice (some ⟨b2,0,none⟩) 0 0))
   have hy4:=hid ((hy3.out.setCell (a:=⟨T,0,none⟩) (fun h=>absurd h (by show ¬ T < w2.heap.size;omega)) (.slice (some ⟨b1,0,none⟩) 0 0)).setCell (a:=⟨T,1,none⟩) (fun h=>absurd h (by show ¬ T < w2.heap.size;omega)) (.slice (some ⟨b2,0,none⟩) 0 0))
   go_simp
   refine hK.out _ _ hy4.out ?_
   generalize (W3.setCell ⟨T,0,none⟩ (.slice (some ⟨b1,0,none⟩) 0 0)).setCell ⟨T,1,none⟩ (.slice (some ⟨b2,0,none⟩) 0 0)=W4 at hT2 hy4 ⊢
   clear z0 z1 c0 c1
   clear hK K
   try simp only [Act.put,sA,sZ,sS]
   refine wpTr_done ?_
   have g0:W4.cell? ⟨T,0,none⟩=some (.slice (some ⟨b1,0,none⟩) 0 0):=cellN hT2.out 0
   have g1:W4.cell? ⟨T,1,none⟩=some (.slice (some ⟨b2,0,none⟩) 0 0):=cellN hT2.out 1
   have hR:=hid (hy4.out.at hr0.out (fun h=>h))
   have r0:W4.cell? ⟨N+1,0,none⟩=some (.slice none 0 0):=cellN hR.out 0
   have r1:W4.cell? ⟨N+1,1,none⟩=some (.slice none 0 0):=cellN hR.out 1
   have fr0:=freeN hR.out 0
   have fr1:=freeN hR.out 1
   go_wp2_with fail
   refine wp_loop_rounds 1 ?_
   rw [rounds_succ]
   go_wp2_with fail
   have v2:=put_at' (put_at' hR.out 0 (.slice (some ⟨b1,0,none⟩) 0 0)) 1 (.slice (some ⟨b2,0,none⟩) 0 0)
   refine bodyPost_ret (results_cell_row rfl _ _ (N+1) _ _ _ _ rfl v2 Tryz.underlying235 rfl (by kernel_rfl)) rfl ⟨⟨_,_,rfl⟩,?_⟩
   exact (((hx0.out.trans hy4.out)).setCell (a:=⟨N+1,0,none⟩) (fun h=>absurd h (by show ¬ N+1 < w.heap.size;have:=hN.out;omega)) _).setCell (a:=⟨N+1,1,none⟩) (fun h=>absurd h (by show ¬ N+1 < w.heap.size;have:=hN.out;omega)) _
  ·refine wpN_c (by rfl) (fun K hK=>?_)
   go_simp
   have hT:=hid (heap_alloc_new W1 (.cells #[.slice none 0 0,.slice none 0 0] 235))
   have hy2:=hid (hy1.out.alloc (.cells #[.slice none 0 0,.slice none 0 0] 235))
   have hTge:w2.heap.size<=W1.heap.size:=hy1.out.size
   generalize W1.heap.size=T at hT hTge ⊢
   generalize W1.alloc (.cells #[.slice none 0 0,.slice none 0 0] 235)=W2 at hT hy2 ⊢
   refine hK.out _ _ hy2.out ?_
   clear hK K
   try simp only [Act.put,sA,sZ,sS]
   refine wpTr_c1 _ (by simp only [List.getD_cons_succ,List.getD_cons_zero];rfl) ?_
   refine wpN_c (by rfl) (fun K hK=>?_)
   go_simp
   refine (copy0_Tm a2 c2 W2).mono ?_;rintro e W3 ⟨⟨b2,rfl⟩,hxn⟩
   have hy3:=hid (hy2.out.trans hxn)
   try replace hT:=hid (hxn.at hT.out (fun h=>h))
   refine hK.out _ _ hy3.out ?_
   clear hxn
   clear hK K
   try simp only [Act.put,sA,sZ,sS]
   refine wpTr_q _ (by simp only [List.getD_cons_succ,List.getD_cons_zero];rfl) (by rfl) ?_ (fun w' hC=>?_) ?_;rotate_left;(have q0:w'.cell? ⟨N,0,none⟩=some (.slice a1 0 c1):=hC.cell (cellN hs0.out 0) (fun h=>h);have q1:w'.cell? ⟨N,1,none⟩=some (.slice a2 0 c2):=hC.cell (cellN hs0.out 1) (fun h=>h);go_simp;try with_reducible rfl);try simp only [Act.put,sA,sZ,sS]
   refine wpTr_c1 _ (by simp only [List.getD_cons_succ,List.getD_cons_zero];rfl) ?_
   refine wpN_c (by rfl) (fun K hK=>?_)
   have z0:=freeN hT.out 0
   have z1:=freeN hT.out 1
   have c0:W3.cell? ⟨T,0,none⟩=some (.slice none 0 0):=cellN hT.out 0
   have c1:W3.cell? ⟨T,1,none⟩=some (.slice none 0 0):=cellN hT.out 1
   have hT2:=hid (put_at' (put_at' hT.out 0 (.slice (some ⟨b1,0,none⟩) 0 0)) 1 (.slice (some ⟨b2,0,none⟩) 0 0))
   have hy4:=hid ((hy3.out.setCell (a:=⟨T,0,none⟩) (fun h=>absurd h (by show ¬ T < w2.heap.size;omega)) (.slice (some ⟨b1,0,none⟩) 0 0)).setCell (a:=⟨T,1,none⟩) (fun h=>absurd h (by show ¬ T < w2.heap.size;omega)) (.slice (some ⟨b2,0,none⟩) 0 0))
   go_simp
   refine hK.out _ _ hy4.out ?_
   generalize (W3.setCell ⟨T,0,none⟩ (.slice (some ⟨b1,0,none⟩) 0 0)).setCell ⟨T,1,none⟩ (.slice (some ⟨b2,0,none⟩) 0 0)=W4 at hT2 hy4 ⊢
   clear z0 z1 c0 c1
   clear hK K
   try simp only [Act.put,sA,sZ,sS]
   refine wpTr_done ?_
   have g0:W4.cell? ⟨T,0,none⟩=some (.slice (some ⟨b1,0,none⟩) 0 0):=cellN hT2.out 0
   have g1:W4.cell? ⟨T,1,none⟩=some (.slice (some ⟨b2,0,none⟩) 0 0):=cellN hT2.out 1
   have hR:=hid (hy4.out.at hr0.out (fun h=>h))
   have r0:W4.cell? ⟨N+1,0,none⟩=some (.slice none 0 0):=cellN hR.out 0
   have r1:W4.cell? ⟨N+1,1,none⟩=some (.slice none 0 0):=cellN hR.out 1
   have fr0:=freeN hR.out 0
   have fr1:=freeN hR.out 1
   go_wp2_with fail
   refine wp_loop_rounds 1 ?_
   rw [rounds_succ]
   go_wp2_with fail
   have v2:=put_at' (put_at' hR.out 0 (.slice (some ⟨b1,0,none⟩) 0 0)) 1 (.slice (some ⟨b2,0,none⟩) 0 0)
   refine bodyPost_ret (results_cell_row rfl _ _ (N+1) _ _ _ _ rfl v2 Tryz.underlying235 rfl (by kernel_rfl)) rfl ⟨⟨_,_,rfl⟩,?_⟩
   exact (((hx0.out.trans hy4.out)).setCell (a:=⟨N+1,0,none⟩) (fun h=>absurd h (by show ¬ N+1 < w.heap.size;have:=hN.out;omega)) _).setCell (a:=⟨N+1,1,none⟩) (fun h=>absurd h (by show ¬ N+1 < w.heap.size;have:=hN.out;omega)) _
 ·refine wpN_c (by rfl) (fun K hK=>?_)
  go_simp
  have hT:=hid (heap_alloc_new W0 (.cells #[.slice none 0 0,.slice none 0 0] 235))
  have hy1:=hid (hy0.out.alloc (.cells #[.slice none 0 0,.slice none 0 0] 235))
  have hTge:w2.heap.size<=W0.heap.size:=hy0.out.size
  generalize W0.heap.size=T at hT hTge ⊢
  generalize W0.alloc (.cells #[.slice none 0 0,.slice none 0 0] 235)=W1 at hT hy1 ⊢
  refine hK.out _ _ hy1.out ?_
  clear hK K
  try simp only [Act.put,sA,sZ,sS]
  refine wpTr_c1 _ (by simp only [List.getD_cons_succ,List.getD_cons_zero];rfl) ?_
  refine wpN_c (by rfl) (fun K hK=>?_)
  go_simp
  refine (copy0_St a1 c1 W1).mono ?_;rintro e W2 ⟨⟨b1,rfl⟩,hxn⟩
  have hy2:=hid (hy1.out.trans hxn)
  try replace hT:=hid (hxn.at hT.out (fun h=>h))
  refine hK.out _ _ hy2.out ?_
  clear hxn
  clear hK K
  try simp only [Act.put,sA,sZ,sS]
  refine wpTr_c1 _ (by simp only [List.getD_cons_succ,List.getD_cons_zero];rfl) ?_
  refine wpN_c (by rfl) (fun K hK=>?_)
  go_simp
  refine (copy0_Tm a2 c2 W2).mono ?_;rintro e W3 ⟨⟨b2,rfl⟩,hxn⟩
  have hy3:=hid (hy2.out.trans hxn)
  try replace hT:=hid (hxn.at hT.out (fun h=>h))
  refine hK.out _ _ hy3.out ?_
  clear hxn
  clear hK K
  try simp only [Act.put,sA,sZ,sS]
  refine wpTr_q _ (by simp only [List.getD_cons_succ,List.getD_cons_zero];rfl) (by rfl) ?_ (fun w' hC=>?_) ?_;rotate_left;(have q0:w'.cell? ⟨N,0,none⟩=some (.slice a1 0 c1):=hC.cell (cellN hs0.out 0) (fun h=>h);have q1:w'.cell? ⟨N,1,none⟩=some (.slice a2 0 c2):=hC.cell (cellN hs0.out 1) (fun h=>h);go_simp;try with_reducible rfl);try simp only [Act.put,sA,sZ,sS]
  refine wpTr_c1 _ (by simp only [List.getD_cons_succ,List.getD_cons_zero];rfl) ?_
  refine wpN_c (by rfl) (fun K hK=>?_)
  have z0:=freeN hT.out 0
  have z1:=freeN hT.out 1
  have c0:W3.cell? ⟨T,0,none⟩=some (.slice none 0 0):=cellN hT.out 0
  have c1:W3.cell? ⟨T,1,none⟩=some (.slice none 0 0):=cellN hT.out 1
  have hT2:=hid (put_at' (put_at' hT.out 0 (.slice (some ⟨b1,0,none⟩) 0 0)) 1 (.slice (some ⟨b2,0,none⟩) 0 0))
  have hy4:=hid ((hy3.out.setCell (a:=⟨T,0,none⟩) (fun h=>absurd h (by show ¬ T < w2.heap.size;omega)) (.slice (some ⟨b1,0,none⟩) 0 0)).setCell (a:=⟨T,1,none⟩) (fun h=>absurd h (by show ¬ T < w2.heap.size;omega)) (.slice (some ⟨b2,0,none⟩) 0 0))
  go_simp
  refine hK.out _ _ hy4.out ?_
  generalize (W3.setCell ⟨T,0,none⟩ (.slice (some ⟨b1,0,none⟩) 0 0)).setCell ⟨T,1,none⟩ (.slice (some ⟨b2,0,none⟩) 0 0)=W4 at hT2 hy4 ⊢
  clear z0 z1 c0 c1
  clear hK K
  try simp only [Act.put,sA,sZ,sS]
  refine wpTr_done ?_
  have g0:W4.cell? ⟨T,0,none⟩=some (.slice (some ⟨b1,0,none⟩) 0 0):=cellN hT2.out 0
  have g1:W4.cell? ⟨T,1,none⟩=some (.slice (some ⟨b2,0,none⟩) 0 0):=cellN hT2.out 1
  have hR:=hid (hy4.out.at hr0.out (fun h=>h))
  have r0:W4.cell? ⟨N+1,0,none⟩=some (.slice none 0 0):=cellN hR.out 0
  have r1:W4.cell? ⟨N+1,1,none⟩=some (.slice none 0 0):=cellN hR.out 1
  have fr0:=freeN hR.out 0
  have fr1:=freeN hR.out 1
  go_wp2_with fail
  refine wp_loop_rounds 1 ?_
  rw [rounds_succ]
  go_wp2_with fail
  have v2:=put_at' (put_at' hR.out 0 (.slice (some ⟨b1,0,none⟩) 0 0)) 1 (.slice (some ⟨b2,0,none⟩) 0 0)
  refine bodyPost_ret (results_cell_row rfl _ _ (N+1) _ _ _ _ rfl v2 Tryz.underlying235 rfl (by kernel_rfl)) rfl ⟨⟨_,_,rfl⟩,?_⟩
  exact (((hx0.out.trans hy4.out)).setCell (a:=⟨N+1,0,none⟩) (fun h=>absurd h (by show ¬ N+1 < w.heap.size;have:=hN.out;omega)) _).setCell (a:=⟨N+1,1,none⟩) (fun h=>absurd h (by show ¬ N+1 < w.heap.size;have:=hN.out;omega)) _
end Go.Proofs.YtcopgcdhkgenkaaGreatDoor
