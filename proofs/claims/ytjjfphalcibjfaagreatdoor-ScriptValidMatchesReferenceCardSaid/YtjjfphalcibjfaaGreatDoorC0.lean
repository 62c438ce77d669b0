import Derived.Test.YtjjfphalcibjfaaGreatDoorA0
import Derived.Test.YtjjfphalcibjfaaGreatDoorProg
import Derived.Shelf.Abstract
set_option maxRecDepth 100000
set_option maxHeartbeats 16000000
namespace Cdk
open Go Go.RowKit
def zcZ (md:Region.Mode) (ops:Array Oper):List (Nat × Bool) -> Array Bool -> Bool
 | [],listed=>(Region.ready md ops listed).isEmpty
 | (i,true)::r,listed=>(Region.ready md ops listed).contains i && Region.free md ops listed i && zcZ md ops r (listed.setIfInBounds i true)
 | (i,false)::r,listed=>Region.ready md ops listed==[i] && zcZ md ops r (listed.setIfInBounds i true)
section
variable {P:Program} {ops:Array Oper} {C:World -> Prop} {Q:Exit -> Act -> World -> Prop}
def wpS (P:Program) (ops:Array Oper) (C:World -> Prop) (Q:Exit -> Act -> World -> Prop):List (Oper × Bool) -> Act -> World -> Prop
 | [],a,w=>Q .normal a w
 | (o,true)::r,a,w=>∃ v,YieldsIf P ops C o v a/\wpS P ops C Q r (a.put o.dst v) w
 | (o,false)::r,a,w=>
  if Region.wanted o (yielded ops a.tmps)=true then o.wp P a w (fun a' w'=>C w'/\wpS P ops C Q r a' w') Q else wpS P ops C Q r (a.put o.dst undef) w
def zak (ops:List Oper) (sch:List (Nat × Bool)):List (Oper × Bool):=sch.map fun p=>(ops.getD p.1 default,p.2)
theorem zds {md:Region.Mode} {l:List Oper} (hno:Region.noSelect l.toArray=true) (hQ:∀ c a d v w,Q (.panic c) (Act.put a d v) w -> Q (.panic c) a w):
  ∀ (sch:List (Nat × Bool)) (fuel:Nat) (listed:Array Bool) (a:Act) (w:World),sch.length<=fuel -> zcZ md l.toArray sch listed=true -> C w →
   wpS P l.toArray C Q (zak l sch) a w -> wpAnyH P md l.toArray Q C fuel listed a w
 | [],fuel,listed,a,w,_,hok,hC,h=>by
  simp only [zcZ,List.isEmpty_iff] at hok;exact wpAnyH_done hok h fuel
 | (i,true)::r,0,listed,a,w,hf,hok,hC,h=>by simp at hf
 | (i,false)::r,0,listed,a,w,hf,hok,hC,h=>by simp at hf
 | (i,true)::r,fuel+1,listed,a,w,hf,hok,hC,h=>by
  simp only [zcZ,Bool.and_eq_true] at hok;obtain ⟨⟨hr,hfree⟩,hok⟩:=hok;obtain ⟨v,hy,h⟩:=h;have hi:l.toArray[i]?=some (l.getD i default):=by
   have hm:i ∈ Region.ready md l.toArray listed:=by simpa using hr
   have:i < l.length:=by
    simp only [Region.ready,List.mem_filter,List.mem_range] at hm;simpa using hm.1
   simp [List.getD,this]
  exact wpAnyH_take hi hno hfree hr (fun c a w h=>hQ c a _ v w h) hy hC (zds hno hQ r fuel _ _ _ (by simpa using hf) hok hC h)
 | (i,false)::r,fuel+1,listed,a,w,hf,hok,hC,h=>by
  simp only [zcZ,Bool.and_eq_true,beq_iff_eq] at hok;obtain ⟨hr,hok⟩:=hok;refine wpAnyH_all hr (by simp) ?_;intro j hj;simp at hj;subst hj;have hi:l.toArray[j]?=some (l.getD j default):=by
   have hm:j ∈ Region.ready md l.toArray listed:=by rw [hr];simp
   have:j < l.length:=by
    simp only [Region.ready,List.mem_filter,List.mem_range] at hm;simpa using hm.1
   simp [List.getD,this]
  unfold wpOp;simp only [hi];simp only [zak,List.map_cons,wpS] at h
  by_cases hw:Region.wanted (l.getD j default) (yielded l.toArray a.tmps)=true
  ·rw [if_pos hw] at h ⊢
   exact .inl (Oper.wp_mono (fun a' w' ⟨hC',h'⟩=>⟨hC',zds hno hQ r fuel _ _ _ (by simpa using hf) hok hC' h'⟩) h)
  ·rw [if_neg hw] at h ⊢
   exact ⟨hC,zds hno hQ r fuel _ _ _ (by simpa using hf) hok hC h⟩
theorem zad {id:Nat} {l:List Oper} {a:Act} {w:World} (C:World -> Prop) (sch:List (Nat × Bool)) (hm:P.follows .mixedOrders=true)
  (hno:Region.noSelect l.toArray=true) (hok:zcZ .any l.toArray sch (Array.replicate l.length false)=true) (hlen:sch.length<=l.length)
  (hC:C w.drew) (h:wpS P l.toArray C (NoPanic Q) (zak l sch) a w.drew):(Code.region id l.toArray true).wp P Q a w:=by
 refine wp_region_noPanic (wp_region_held (S:=C) hm ?_);have:=zds (md:=.any) hno (fun _ _ _ _ _ h=>h) sch l.length (Array.replicate l.length false) a w.drew hlen hok hC h;exact this
theorem zas {a:Act} {w:World} (h:Q .normal a w):wpS P ops C (NoPanic Q) [] a w:=h
theorem zaB {o:Oper} {r:List (Oper × Bool)} {a:Act} {w:World} (hg:Region.wanted o (yielded ops a.tmps)=true) (v:Value) (h1:∀ w',C w' -> (execOp a.eval o).run P w'=.ok (.value v) w')
  (h2:wpS P ops C Q r (a.put o.dst v) w):wpS P ops C Q ((o,true)::r) a w:=⟨v,.inl ⟨hg,h1⟩,h2⟩
theorem znk {o:Oper} {r:List (Oper × Bool)} {a:Act} {w:World} {b:Bool} (hg:Region.wanted o (yielded ops a.tmps)=false) (h2:wpS P ops C Q r (a.put o.dst undef) w):wpS P ops C Q ((o,b)::r) a w:=by
 cases b
 ·simp only [wpS,hg];exact h2
 ·exact ⟨undef,.inr ⟨hg,rfl⟩,h2⟩
theorem zaj {o:Oper} {r:List (Oper × Bool)} {a:Act} {w:World} (hg:Region.wanted o (yielded ops a.tmps)=true)
  (h:∀ K:Act -> World -> Prop,Hid (∀ a' w',C w' -> wpS P ops C Q r a' w' -> K a' w') -> o.wp P a w K Q):wpS P ops C Q ((o,false)::r) a w:=by
 simp only [wpS,hg,if_true];exact h _ (fun a' w' h1 h2=>⟨h1,h2⟩)
end
theorem qS {P:Program} {ops:Array Oper} {C:World -> Prop} {Q:Exit -> Act -> World -> Prop} {o:Oper} {r:List (Oper × Bool)} {a:Act} {w:World} {v:Value} (h2:wpS P ops C Q r (a.put o.dst v) w)
  (hg:Region.wanted o (yielded ops a.tmps)=true:=by rfl) (h1:∀ w',C w' -> (execOp a.eval o).run P w'=.ok (.value v) w':=by intro w' hC;go_simp;try with_reducible rfl):wpS P ops C Q ((o,true)::r) a w:=zaB hg v h1 h2
theorem qT {P:Program} {ops:Array Oper} {C:World -> Prop} {Q:Exit -> Act -> World -> Prop} {o:Oper} {r:List (Oper × Bool)} {a a':Act} {w:World} {v:Value} (h2:wpS P ops C Q r a' w)
  (hg:Region.wanted o (yielded ops a.tmps)=true:=by rfl) (h1:∀ w',C w' -> (execOp a.eval o).run P w'=.ok (.value v) w':=by intro w' hC;go_simp;try with_reducible rfl) (ha:a.put o.dst v=a':=by (simp only [Act.put,sA,sZ,sS];exact rfl)):wpS P ops C Q ((o,true)::r) a w:=zaB hg v h1 (ha ▸ h2)
theorem nT {P:Program} {ops:Array Oper} {C:World -> Prop} {Q:Exit -> Act -> World -> Prop} {o:Oper} {r:List (Oper × Bool)} {a a':Act} {w:World} {b:Bool} (h2:wpS P ops C Q r a' w)
  (hg:Region.wanted o (yielded ops a.tmps)=false:=by rfl) (ha:a.put o.dst undef=a':=by (simp only [Act.put,sA,sZ,sS];exact rfl)):wpS P ops C Q ((o,b)::r) a w:=znk hg (ha ▸ h2)
def zdR (o:Oper):Bool:=
 match o.op with
 | .move _=>true
 | .nilCheck _=>true
 | .fieldAddr _ _ _=>true
 | _=>false
def ze0 (md:Region.Mode) (ops:Array Oper) (j:Nat):Bool:=
 match ops[j]? with
 | some o=>(List.range ops.size).all fun i=>i==j || (ops[i]?.map zdR).getD false || o.after.any (fun e=>Region.binds md e && e.on==i)
 | none=>false
section
variable {P:Program} {ops:Array Oper} {Q:Exit -> Act -> World -> Prop} {md:Region.Mode} {S:World -> Prop}
theorem zg1 {j i:Nat} {oj oi:Oper} (h:ze0 md ops j=true) (hj:ops[j]?=some oj) (hi:ops[i]?=some oi) (hp:zdR oi=false) (hne:j ≠ i):∃ e ∈ oj.after,Region.binds md e=true/\e.on=i:=by
 unfold ze0 at h;rw [hj] at h;simp only [List.all_eq_true,List.mem_range,Bool.or_eq_true,beq_iff_eq] at h;rcases h i (Array.getElem?_eq_some_iff.1 hi).1 with (h | h) | h
 ·exact absurd h.symm hne
 ·rw [hi] at h;simp [hp] at h
 ·rw [Array.any_eq_true'] at h
  obtain ⟨e,he,h⟩:=h;simp only [Bool.and_eq_true,beq_iff_eq] at h;exact ⟨e,he,h.1,h.2⟩
def wpAnyL (P:Program) (md:Region.Mode) (ops:Array Oper) (Q:Exit -> Act -> World -> Prop) (S:World -> Prop):Nat -> Array Bool -> Act -> World -> Prop
 | 0,listed,a,w=>Region.ready md ops listed=[]/\Q .normal a w
 | fuel+1,listed,a,w=>
  (Region.ready md ops listed=[] -> Q .normal a w) ∧
  ∀ i ∈ Region.ready md ops listed,wpOp P ops Q i (fun a' w'=>(S w -> ze0 md ops i=true \/ S w')/\wpAnyL P md ops Q S fuel (listed.setIfInBounds i true) a' w') a w
theorem zcn:∀ (fuel:Nat) (listed:Array Bool) (a:Act) (w:World),wpAnyL P md ops Q S fuel listed a w -> wpAny P md ops Q fuel listed a w
 | 0,_,_,_,h=>h
 | fuel+1,_,_,_,h=>⟨h.1,fun i hi=>wpOp_mono (fun a' w' h'=>zcn fuel _ a' w' h'.2) (h.2 i hi)⟩
theorem wpAnyL_first {i:Nat} {oi:Oper} {v:Value} (hi:ops[i]?=some oi) (hp:zdR oi=false) (hsel:∀ (j:Nat) (o:Oper) cs b,ops[j]?=some o -> o.op ≠ .select cs b)
  (hQ:∀ c a w,Q (.panic c) (a.put oi.dst v) w -> Q (.panic c) a w):
  ∀ (fuel:Nat) (listed:Array Bool) (a:Act) (w:World),
   (∀ j oj,ops[j]?=some oj -> j ≠ i -> listed.getD j true=false -> (∀ e ∈ oj.after,Region.binds md e=true -> e.on ≠ i) -> oi.apart ops oj=true) →
   i ∈ Region.ready md ops listed -> YieldsIf P ops S oi v a -> S w →
   wpAnyL P md ops Q S fuel (listed.setIfInBounds i true) (a.put oi.dst v) w -> wpAnyL P md ops Q S (fuel+1) listed a w:=by
 intro fuel
 induction fuel with
 | zero=>
  intro listed a w _ hr hy hS H;refine ⟨fun h=>(by rw [h] at hr;cases hr),fun j hj=>?_⟩
  by_cases hji:j=i
  ·subst hji;exact hy.wpOp hi hS ⟨.inr,H⟩
  ·have:=ready_mono hj hji
   rw [H.1] at this;cases this
 | succ fuel ih=>
  intro listed a w hfree hr hy hS H;refine ⟨fun h=>(by rw [h] at hr;cases hr),fun j hj=>?_⟩
  by_cases hji:j=i
  ·subst hji;exact hy.wpOp hi hS ⟨.inr,H⟩
  ·have h1:=H.2 j (ready_mono hj hji)
   obtain ⟨hjun,oj,hoj,hall⟩:=mem_ready.1 hj;have hnot:∀ e ∈ oj.after,Region.binds md e=true -> e.on ≠ i:=fun e he hb heq=>by
    have h1:=hall e he hb;have h0:=(mem_ready.1 hr).1;rw [heq] at h1;rcases Nat.lt_or_ge i listed.size with h' | h'
    ·simp [h'] at h0 h1;rw [h0] at h1;cases h1
    ·simp [Array.getElem?_eq_none h'] at h1
   have hnl:∀ w':World,(S w -> ze0 md ops j=true \/ S w') -> S w':=fun w' h=>by
    rcases h hS with h | h
    ·obtain ⟨e,he,hb,ho⟩:=zg1 h hoj hi hp hji
     exact absurd ho (hnot e he hb)
    ·exact h
   have h2:=wpOp_putIf hoj (hfree j oj hoj hji hjun hnot) (fun cs b=>hsel i oi cs b hi) (fun cs b=>hsel j oj cs b hoj) hQ hy h1;have hfree':∀ k ok,ops[k]?=some ok -> k ≠ i -> (listed.setIfInBounds j true).getD k true=false →
     (∀ e ∈ ok.after,Region.binds md e=true -> e.on ≠ i) -> oi.apart ops ok=true:=fun k ok hk hki hun hno=>by
    refine hfree k ok hk hki ?_ hno
    by_cases hjk:j=k
    ·subst hjk;exact hjun
    ·rw [getD_set_ne true hjk] at hun;exact hun
   refine wpOp_mono (fun a' w' h3=>⟨fun _=>.inr (hnl w' h3.2.1),ih (listed.setIfInBounds j true) a' w' hfree' (ready_mono hr (Ne.symm hji)) h3.1 (hnl w' h3.2.1) ?_⟩) h2;rw [Array.setIfInBounds_comm _ _ hji];exact h3.2.2
theorem zfA {i:Nat} {oi:Oper} {v:Value} (hi:ops[i]?=some oi) (hsel:∀ (j:Nat) (o:Oper) cs b,ops[j]?=some o -> o.op ≠ .select cs b)
  (hQ:∀ c a w,Q (.panic c) (a.put oi.dst v) w -> Q (.panic c) a w):
  ∀ (fuel:Nat) (listed:Array Bool) (a:Act) (w:World),
   (∀ j oj,ops[j]?=some oj -> j ≠ i -> listed.getD j true=false -> (∀ e ∈ oj.after,Region.binds md e=true -> e.on ≠ i) -> oi.apart ops oj=true) →
   i ∈ Region.ready md ops listed -> YieldsIf P ops (fun _=>True) oi v a →
   wpAnyL P md ops Q S fuel (listed.setIfInBounds i true) (a.put oi.dst v) w -> wpAnyL P md ops Q S (fuel+1) listed a w:=by
 intro fuel
 induction fuel with
 | zero=>
  intro listed a w _ hr hy H;refine ⟨fun h=>(by rw [h] at hr;cases hr),fun j hj=>?_⟩
  by_cases hji:j=i
  ·subst hji;exact hy.wpOp hi trivial ⟨.inr,H⟩
  ·have:=ready_mono hj hji
   rw [H.1] at this;cases this
 | succ fuel ih=>
  intro listed a w hfree hr hy H;refine ⟨fun h=>(by rw [h] at hr;cases hr),fun j hj=>?_⟩
  by_cases hji:j=i
  ·subst hji;exact hy.wpOp hi trivial ⟨.inr,H⟩
  ·have h1:=H.2 j (ready_mono hj hji)
   obtain ⟨hjun,oj,hoj,hall⟩:=mem_ready.1 hj;have hnot:∀ e ∈ oj.after,Region.binds md e=true -> e.on ≠ i:=fun e he hb heq=>by
    have h1:=hall e he hb;have h0:=(mem_ready.1 hr).1;rw [heq] at h1;rcases Nat.lt_or_ge i listed.size with h' | h'
    ·simp [h'] at h0 h1;rw [h0] at h1;cases h1
    ·simp [Array.getElem?_eq_none h'] at h1
   have h2:=wpOp_putIf hoj (hfree j oj hoj hji hjun hnot) (fun cs b=>hsel i oi cs b hi) (fun cs b=>hsel j oj cs b hoj) hQ hy h1;have hfree':∀ k ok,ops[k]?=some ok -> k ≠ i -> (listed.setIfInBounds j true).getD k true=false →
     (∀ e ∈ ok.after,Region.binds md e=true -> e.on ≠ i) -> oi.apart ops ok=true:=fun k ok hk hki hun hno=>by
    refine hfree k ok hk hki ?_ hno
    by_cases hjk:j=k
    ·subst hjk;exact hjun
    ·rw [getD_set_ne true hjk] at hun;exact hun
   refine wpOp_mono (fun a' w' h3=>⟨h3.2.1,ih (listed.setIfInBounds j true) a' w' hfree' (ready_mono hr (Ne.symm hji)) h3.1 ?_⟩) h2;rw [Array.setIfInBounds_comm _ _ hji];exact h3.2.2
theorem zhb {i:Nat} {oi:Oper} {v:Value} {fuel:Nat} {listed:Array Bool} {a:Act} {w:World} (hi:ops[i]?=some oi)
  (hs:Region.noSelect ops=true) (hf:Region.free md ops listed i=true) (hr:(Region.ready md ops listed).contains i=true)
  (hQ:∀ c a w,Q (.panic c) (a.put oi.dst v) w -> Q (.panic c) a w) (hy:YieldsIf P ops (fun _=>True) oi v a \/ (zdR oi=false/\YieldsIf P ops S oi v a/\S w))
  (h:wpAnyL P md ops Q S fuel (listed.setIfInBounds i true) (a.put oi.dst v) w):wpAnyL P md ops Q S (fuel+1) listed a w:=
by
 rcases hy with hy | ⟨hp,hy,hS⟩
 ·exact zfA hi (Region.noSelect_spec hs) hQ fuel listed a w (Region.free_spec hi hf) (by simpa using hr) hy h
 ·exact wpAnyL_first hi hp (Region.noSelect_spec hs) hQ fuel listed a w (Region.free_spec hi hf) (by simpa using hr) hy hS h
theorem ziQ {rs:List Nat} {fuel:Nat} {listed:Array Bool} {a:Act} {w:World} (hr:Region.ready md ops listed=rs) (hne:rs ≠ [])
  (h:∀ i ∈ rs,wpOp P ops Q i (fun a' w'=>(S w -> ze0 md ops i=true \/ S w')/\wpAnyL P md ops Q S fuel (listed.setIfInBounds i true) a' w') a w):wpAnyL P md ops Q S (fuel+1) listed a w:=
 ⟨fun h0=>absurd (hr ▸ h0) hne,hr ▸ h⟩
theorem zeB {listed:Array Bool} {a:Act} {w:World} (hr:Region.ready md ops listed=[]) (h:Q .normal a w):
  ∀ fuel,wpAnyL P md ops Q S fuel listed a w
 | 0=>⟨hr,h⟩
 | _+1=>⟨fun _=>h,by rw [hr];simp⟩
end
def zbT (md:Region.Mode) (ops:Array Oper):List (Nat × Bool) -> Array Bool -> Bool
 | [],listed=>(Region.ready md ops listed).isEmpty
 | (i,true)::r,listed=>(Region.ready md ops listed).contains i && Region.free md ops listed i && zbT md ops r (listed.setIfInBounds i true)
 | (i,false)::r,listed=>Region.ready md ops listed==[i] && (!r.isEmpty || ze0 md ops i) && zbT md ops r (listed.setIfInBounds i true)
section
variable {P:Program} {ops:Array Oper} {C:World -> Prop} {Q:Exit -> Act -> World -> Prop}
def wpT (P:Program) (ops:Array Oper) (C:World -> Prop) (Q:Exit -> Act -> World -> Prop):List (Oper × Bool) -> Act -> World -> Prop
 | [],a,w=>Q .normal a w
 | (o,true)::r,a,w=>∃ v,(YieldsIf P ops (fun _=>True) o v a \/ (zdR o=false/\YieldsIf P ops C o v a))/\wpT P ops C Q r (a.put o.dst v) w
 | (o,false)::r,a,w=>
  if Region.wanted o (yielded ops a.tmps)=true then o.wp P a w (fun a' w'=>(r=[] \/ C w')/\wpT P ops C Q r a' w') Q else wpT P ops C Q r (a.put o.dst undef) w
theorem zcC {md:Region.Mode} {l:List Oper} (hno:Region.noSelect l.toArray=true) (hQ:∀ c a d v w,Q (.panic c) (Act.put a d v) w -> Q (.panic c) a w):
  ∀ (sch:List (Nat × Bool)) (fuel:Nat) (listed:Array Bool) (a:Act) (w:World),sch.length<=fuel -> zbT md l.toArray sch listed=true -> C w →
   wpT P l.toArray C Q (zak l sch) a w -> wpAnyL P md l.toArray Q C fuel listed a w
 | [],fuel,listed,a,w,_,hok,hC,h=>by
  simp only [zbT,List.isEmpty_iff] at hok;exact zeB hok h fuel
 | (i,true)::r,0,listed,a,w,hf,hok,hC,h=>by simp at hf
 | (i,false)::r,0,listed,a,w,hf,hok,hC,h=>by simp at hf
 | (i,true)::r,fuel+1,listed,a,w,hf,hok,hC,h=>by
  simp only [zbT,Bool.and_eq_true] at hok;obtain ⟨⟨hr,hfree⟩,hok⟩:=hok;obtain ⟨v,hy,h⟩:=h;have hi:l.toArray[i]?=some (l.getD i default):=by
   have hm:i ∈ Region.ready md l.toArray listed:=by simpa using hr
   have:i < l.length:=by
    simp only [Region.ready,List.mem_filter,List.mem_range] at hm;simpa using hm.1
   simp [List.getD,this]
  exact zhb hi hno hfree hr (fun c a w h=>hQ c a _ v w h) (hy.imp id (fun h=>⟨h.1,h.2,hC⟩)) (zcC hno hQ r fuel _ _ _ (by simpa using hf) hok hC h)
 | (i,false)::r,fuel+1,listed,a,w,hf,hok,hC,h=>by
  simp only [zbT,Bool.and_eq_true,beq_iff_eq] at hok;obtain ⟨⟨hr,hlast⟩,hok⟩:=hok;refine ziQ hr (by simp) ?_;intro j hj;simp at hj;subst hj;have hi:l.toArray[j]?=some (l.getD j default):=by
   have hm:j ∈ Region.ready md l.toArray listed:=by rw [hr];simp
   have:j < l.length:=by
    simp only [Region.ready,List.mem_filter,List.mem_range] at hm;simpa using hm.1
   simp [List.getD,this]
  unfold wpOp;simp only [hi];simp only [zak,List.map_cons,wpT] at h
  by_cases hw:Region.wanted (l.getD j default) (yielded l.toArray a.tmps)=true
  ·rw [if_pos hw] at h ⊢
   refine .inl (Oper.wp_mono (fun a' w' ⟨hC',h'⟩=>⟨fun _=>hC'.imp (fun h0=>by cases r with | nil=>simpa using hlast | cons x r=>simp at h0) id,?_⟩) h);cases r with
   | nil=>exact zeB (by simpa [zbT,List.isEmpty_iff] using hok) h' fuel
   | cons x r=>exact zcC hno hQ (x::r) fuel _ _ _ (by simpa using hf) hok (hC'.resolve_left (by simp)) h'
  ·rw [if_neg hw] at h ⊢
   exact ⟨.inr,zcC hno hQ r fuel _ _ _ (by simpa using hf) hok hC h⟩
theorem zct {id:Nat} {l:List Oper} {a:Act} {w:World} (C:World -> Prop) (sch:List (Nat × Bool)) (hm:P.follows .mixedOrders=true)
  (hno:Region.noSelect l.toArray=true) (hok:zbT .any l.toArray sch (Array.replicate l.length false)=true) (hlen:sch.length<=l.length)
  (hC:C w.drew) (h:wpT P l.toArray C (NoPanic Q) (zak l sch) a w.drew):(Code.region id l.toArray true).wp P Q a w:=by
 refine wp_region_noPanic (wp_region_any hm (zcn (S:=C) _ _ _ _ ?_));have:=zcC (md:=.any) hno (fun _ _ _ _ _ h=>h) sch l.length (Array.replicate l.length false) a w.drew hlen hok hC h;exact this
theorem zkk {o:Oper} {r:List (Oper × Bool)} {a:Act} {w:World} (hp:zdR o=false) (hg:Region.wanted o (yielded ops a.tmps)=true) (v:Value) (h1:∀ w',C w' -> (execOp a.eval o).run P w'=.ok (.value v) w')
  (h2:wpT P ops C Q r (a.put o.dst v) w):wpT P ops C Q ((o,true)::r) a w:=⟨v,.inr ⟨hp,.inl ⟨hg,h1⟩⟩,h2⟩
theorem zlB {o:Oper} {r:List (Oper × Bool)} {a:Act} {w:World} (_hp:zdR o=true) (hg:Region.wanted o (yielded ops a.tmps)=true) (v:Value) (h1:∀ w',True -> (execOp a.eval o).run P w'=.ok (.value v) w')
  (h2:wpT P ops C Q r (a.put o.dst v) w):wpT P ops C Q ((o,true)::r) a w:=⟨v,.inl (.inl ⟨hg,h1⟩),h2⟩
theorem zea {o:Oper} {r:List (Oper × Bool)} {a:Act} {w:World} (hg:Region.wanted o (yielded ops a.tmps)=true)
  (h:∀ K:Act -> World -> Prop,Hid (∀ a' w',C w' -> wpT P ops C Q r a' w' -> K a' w') -> o.wp P a w K Q):wpT P ops C Q ((o,false)::r) a w:=by
 simp only [wpT,hg,if_true];exact h _ (fun a' w' h1 h2=>⟨.inr h1,h2⟩)
theorem zkT {o:Oper} {a:Act} {w:World} (hg:Region.wanted o (yielded ops a.tmps)=true)
  (h:∀ K:Act -> World -> Prop,Hid (∀ a' w',Q .normal a' w' -> K a' w') -> o.wp P a w K (NoPanic Q)):wpT P ops C (NoPanic Q) [(o,false)] a w:=by
 simp only [wpT,hg,if_true];exact h _ (fun a' w' h1=>⟨.inl trivial,h1⟩)
end
end Cdk
namespace Go.Proofs.YtjjfphalcibjfaaGreatDoor
open Go.RowKit Cdk Scr
theorem zaa {w:World} {b:Nat} {cs:Array Value} {t:TypeId} {fr:Nat × Nat} (h:w.heap[b]?=some (.cells cs t fr)) (j:Nat):w.cell? ⟨b,j,none⟩=cs[j]?:=by
 simp [World.cell?,h]
theorem zac {w:World} {b:Nat} {cs:Array Value} {t:TypeId} (h:w.heap[b]?=some (.cells cs t (0,0))) (j:Nat):w.frozen? ⟨b,j,none⟩=false:=by
 unfold World.frozen?;simp [h]
def bdC (p:Int × Int × Int):List Value:=[.int .i64 p.1,.int .i64 p.2.1,.int .i64 p.2.2]
theorem zjY (p:Int × Int × Int):(bdC p).length=3:=rfl
def bdB (p:Int × Int × Int):Bool:=rng p.1 p.2.1 p.2.2
theorem ze6 (rows:List (Int × Int × Int)) (R n:Nat) (w:World) (h:zaR w (some ⟨R,0,none⟩) (rows.flatMap bdC)) (hl:rows.length=n) (hn:n<=10):
  Calls Tryz.prog 169 #[.slice (some ⟨R,0,none⟩) n n] w fun e w'=>e=.returned (.bool (rows.all bdB))/\Ext w w':=by
 obtain ⟨r,hr⟩:∃ r,r=rows.all bdB:=⟨_,rfl⟩;rw [<- hr];replace hr:=hid hr;replace h:=hid h;replace hl:=hid hl;go_enter Tryz.func169,Tryz.ntmps169;go_wp2_with fail
 go_loopg [7] n (fun g i wr=>∃ j:Nat,j+g=n/\i=.int .i64 j/\Ext w wr/\r=(rows.drop j).all bdB)
 case atStart=>exact ⟨0,by omega,rfl,Mod.refl _ _,by rw [hr.out];rfl⟩
 case round=>
  obtain ⟨j,hj,rfl,hx,hrj⟩:=hrel;replace hj:=hid hj
  by_cases hlt:j < n
  ·have hlt':j < rows.length:=by have:=hl.out;omega
   have hg:=fun t ht=>flat_get bdC 3 zjY rows j t rows[j] (List.getElem?_eq_getElem hlt') ht
   obtain ⟨b,off,e0,hc⟩:=h.out.at (by rw [flat_length _ 3 zjY];omega);injection e0 with e0;injection e0 with e1 e2 _
   subst e1;subst e2;rw [List.drop_eq_getElem_cons hlt',List.all_cons] at hrj;generalize rows[j]=p at hg hrj;obtain ⟨x,lo,hi⟩:=p;have g0:=hx.cell (hc _ _ ((hg 0 (by omega)).trans rfl)) (fun h=>h);have g1:=hx.cell (hc _ _ ((hg 1 (by omega)).trans rfl)) (fun h=>h);have g2:=hx.cell (hc _ _ ((hg 2 (by omega)).trans rfl)) (fun h=>h);simp only [Nat.zero_add,Nat.add_zero] at g0 g1 g2;have hxa:=hx.alloc (.cells #[.int .i64 x,.int .i64 lo,.int .i64 hi] 146);replace hx:=hid hx;replace hxa:=hid hxa;replace hrj:=hid hrj;clear hg hc;have hd:decide ((j:Int) < (n:Int))=true:=decide_eq_true (by omega);have hdi:(j:Int) < (n:Int):=by omega
   by_cases h1:x < lo
   ·go_wp2_with fail
    go_ret;refine ⟨?_,hxa.out⟩;rw [hrj.out];simp [bdB,rng,show ¬ lo<=x by omega]
   ·by_cases h2:hi < x
    ·go_wp2_with fail
     go_ret;refine ⟨?_,hxa.out⟩;rw [hrj.out];simp [bdB,rng,show ¬ x<=hi by omega]
    ·go_wp2_with fail
     go_roundg (gk - 1)
     case measure=>have:=hj.out;omega
     case rel=>
      refine ⟨j+1,by have:=hj.out;omega,by go_num,hxa.out,?_⟩;rw [hrj.out];simp [bdB,rng,show lo<=x by omega,show x<=hi by omega]
  ·have hdi:¬ (j:Int) < (n:Int):=by omega
   have hd:decide ((j:Int) < (n:Int))=false:=decide_eq_false hdi;rw [List.drop_eq_nil_of_le (by have:=hl.out;omega)] at hrj;replace hrj:=hid hrj;replace hx:=hid hx;go_wp2_with fail
   go_ret;exact ⟨by rw [hrj.out];rfl,hx.out⟩
theorem ziF (x lo hi:Int) (w:World):Calls Tryz.prog 169 #[.slice (some ⟨w.heap.size,0,none⟩) 1 1] (w.alloc (.cells #[.int .i64 x,.int .i64 lo,.int .i64 hi] 146)) fun e w'=>e=.returned (.bool (rng x lo hi))/\Ext w w':=
 (ze6 [(x,lo,hi)] w.heap.size 1 _ (zaR.new w _ _) rfl (by decide)).mono fun e w' ⟨h1,h2⟩=>⟨by rw [h1];simp [bdB],((Mod.refl (fun _=>False) w).alloc _).trans h2⟩
theorem zb6 {F:Nat -> Prop} (v:Value) (l:Lb) (w:World) (h:zaF F w v l.aft):
  Calls Tryz.prog 89 #[.agg (lbC v l).toArray] w fun e w'=>e=.returned (.bool (vLb l))/\Ext w w':=by
 obtain ⟨til,aft,app,den⟩:=l;simp only at h;obtain ⟨r,hr⟩:∃ r,r=vLb ⟨til,aft,app,den⟩:=⟨_,rfl⟩;rw [<- hr];obtain ⟨ao,cap,rfl,hrow,-,hcap,hcap2,-⟩:=h;unfold vLb at hr;simp only at hr;obtain ⟨n,hn⟩:∃ n,n=aft.length:=⟨_,rfl⟩;rw [<- hn] at hcap;unfold lbC;simp only;rw [<- hn];have hn2:n<=140737488355328:=by rw [hn];exact hcap2.1
 replace hn:=hid hn;replace hr:=hid hr;replace hrow:=hid hrow;go_enter Tryz.func89,Tryz.ntmps89;go_wp2_with fail
 have hx0:=hid ((Mod.refl (fun _=>False) w).alloc (.cells #[.int .i64 til,.slice ao n cap,.int .i64 app,.int .i64 den] 26));have hR:=heap_alloc_new w (.cells #[.int .i64 til,.slice ao n cap,.int .i64 app,.int .i64 den] 26);have hsz:(w.alloc (.cells #[.int .i64 til,.slice ao n cap,.int .i64 app,.int .i64 den] 26)).heap.size=w.heap.size+1:=World.size_alloc _ _;rw [<- hsz];generalize (w.alloc (.cells #[.int .i64 til,.slice ao n cap,.int .i64 app,.int .i64 den] 26))=w1 at hx0 hR hsz ⊢;refine (ze6 [(til,0,1000000000),(app,0,5),(den,0,15)] _ 3 _ (zaR.new w1 _ _) rfl (by decide)).mono ?_;rintro e w2 ⟨rfl,hx2⟩;have hx2:=((Mod.refl (fun _=>False) w1).alloc (.cells #[.int .i64 til,.int .i64 0,.int .i64 1000000000,.int .i64 app,.int .i64 0,.int .i64 5,.int .i64 den,.int .i64 0,.int .i64 15] 146)).trans hx2;have hR2:=hx2.at hR (fun h=>h);have hxw:=hid (hx0.out.trans hx2);have c1:w2.cell? ⟨w.heap.size,1,none⟩=some (.slice ao n cap):=zaa hR2 1;clear hx2 hR hR2 hx0 hsz;generalize w.heap.size=R at c1 ⊢;have hb:([(til,0,1000000000),(app,0,5),(den,0,15)].all bdB)=(rng til 0 1000000000 && (rng app 0 5 && rng den 0 15)):=by simp [bdB]
 rw [hb];clear hb;cases hbb:(rng til 0 1000000000 && (rng app 0 5 && rng den 0 15)) with
 | false=>
  have hrf:Hid (r=false):=hid (by
   rw [hr.out];have:(rng til 0 1000000000 && (rng app 0 5 && (rng den 0 15 && asc 0 aft)))=((rng til 0 1000000000 && (rng app 0 5 && rng den 0 15)) && asc 0 aft):=by simp [Bool.and_assoc]
   rw [this,hbb];rfl)
  replace hbb:=hid hbb;go_wp2_with fail
  go_ret;exact ⟨by rw [hrf.out];rfl,hxw.out⟩
 | true=>
  have hrt:Hid (r=asc 0 aft):=hid (by
   rw [hr.out];have:(rng til 0 1000000000 && (rng app 0 5 && (rng den 0 15 && asc 0 aft)))=((rng til 0 1000000000 && (rng app 0 5 && rng den 0 15)) && asc 0 aft):=by simp [Bool.and_assoc]
   rw [this,hbb];rfl)
  replace hbb:=hid hbb;clear hr;go_wp2_with fail
  go_loopg [3,21] n (fun g la i wr=>∃ (j:Nat) (p:Int),j+g=n/\i=.int .i64 j/\la=.int .i64 p/\0<=p/\p<=64/\Ext w wr/\r=asc p (aft.drop j))
  case atStart=>exact ⟨0,0,by omega,rfl,rfl,by decide,by decide,hxw.out,hrt.out⟩
  case round=>
   clear hxw hrt c1;obtain ⟨j,p,hj,rfl,rfl,hp1,hp2,hx,hrj⟩:=hrel;replace hj:=hid hj
   by_cases hlt:j < n
   ·have hd:decide ((j:Int) < (n:Int))=true:=decide_eq_true (by omega)
    have hdi:(j:Int) < (n:Int):=by omega
    have hlt':j < aft.length:=by have:=hn.out;omega
    have hg:=flat_get zd1 1 zbb aft j 0 aft[j] (List.getElem?_eq_getElem hlt') (by decide);obtain ⟨b,off,rfl,hc⟩:=hrow.out.at (by rw [flat_length _ 1 zbb];omega);rw [List.drop_eq_getElem_cons hlt'] at hrj;simp only [asc] at hrj;generalize aft[j]=x at hg hrj;have g0:=hx.cell (hc _ _ (hg.trans rfl)) (fun h=>h);simp only [Nat.mul_one,Nat.add_zero] at g0;clear hg hc;have hx1:=hid (ziF x (p+1) 64 wr);replace hx:=hid hx;go_wp2_with fail
    refine hx1.out.mono ?_;rintro e w4 ⟨rfl,hx4⟩;have hx4:=hid (hx.out.trans hx4);clear hx1;cases hbx:rng x (p+1) 64 with
    | false=>
     rw [hbx] at hrj;replace hrj:=hid hrj;replace hbx:=hid hbx;go_wp2_with fail
     go_ret;exact ⟨by rw [hrj.out];rfl,hx4.out⟩
    | true=>
     rw [hbx] at hrj;replace hrj:=hid hrj;have hxr:=zaq.1 hbx;replace hbx:=hid hbx;go_wp2_with fail
     go_roundg (gk - 1)
     case measure=>have:=hj.out;omega
     case rel=>exact ⟨j+1,x,by have:=hj.out;omega,by go_num,rfl,by omega,by omega,hx4.out,by rw [hrj.out];rfl⟩
   ·have hdi:¬ (j:Int) < (n:Int):=by omega
    have hd:decide ((j:Int) < (n:Int))=false:=decide_eq_false hdi;rw [List.drop_eq_nil_of_le (by have:=hn.out;omega)] at hrj;replace hrj:=hid hrj;replace hx:=hid hx;go_wp2_with fail
    go_ret;exact ⟨by rw [hrj.out];rfl,hx.out⟩
open Go.Shelf Go.RowKit Cdk Scr
abbrev zfT:TypeId:=65
abbrev u8T:TypeId:=5
def Bld (B b:Nat) (tx:Bs) (w:World):Prop:=Lib.IsBuilder zfT u8T B b (Lib.byteCells tx) w
def za4 (B b:Nat) (w w':World):Prop:=Mod (fun k=>B<=k) w w'/\∀ k o,w.heap[k]?=some o -> (∀ cs fr,o ≠ .cells cs u8T fr) -> k ≠ b -> w'.heap[k]?=some o
theorem za4.refl (B b:Nat) (w:World):za4 B b w w:=⟨Mod.refl _ w,fun _ _ h _ _=>h⟩
theorem za4.ofExt {B b:Nat} {w w':World} (h:Ext w w'):za4 B b w w':=⟨h.mono (fun _ h=>h.elim),fun _ _ hk _ _=>h.at hk (fun h=>h)⟩
theorem za4.trans {B b:Nat} {w w' w'':World} (h:za4 B b w w') (k:za4 B b w' w''):za4 B b w w'':=
 ⟨h.1.trans k.1,fun j o hj ho hb=>k.2 j o (h.2 j o hj ho hb) ho hb⟩
theorem za4.ext {B b:Nat} {w w' w'':World} (h:za4 B b w w') (k:Ext w' w''):za4 B b w w'':=h.trans (.ofExt k)
theorem za4.pre {B b:Nat} {w w' w'':World} (h:Ext w w') (k:za4 B b w' w''):za4 B b w w'':=(za4.ofExt h).trans k
theorem za4.setCell {B b:Nat} {w:World} (hb:B<=b) (j:Nat) (u:Value):za4 B b w (w.setCell ⟨b,j,none⟩ u):=
 ⟨(Mod.refl _ w).setCell (fun _=>hb) u,fun k o hk _ hne=>by rw [Below.heap_setCell w ⟨b,j,none⟩ u k hne];exact hk⟩
theorem za4.grown {B b:Nat} {w w':World} {v:Value} {n:Nat} {xs:List Value} (hown:w.ownsRow B u8T 1 v n xs) (hg:w.grownBy w' v.ownBlock):za4 B b w w':=by
 refine ⟨Mod.ofGrown hg (fun k hk=>(hown.lt k hk).1),fun k o hk ho _=>?_⟩;rw [hg.block k (zat hk) (fun e=>?_)]
 ·exact hk
 ·rcases hown.2 with ⟨rfl,_⟩ | ⟨g,cap,cur,rfl,_,h1,_⟩
  ·simp [Value.ownBlock] at e
  ·simp [Value.ownBlock] at e
   subst e;rw [h1] at hk;exact ho _ _ (Option.some.inj hk).symm
theorem Bld.lt {B b:Nat} {tx:Bs} {w:World} (h:Bld B b tx w):B<=b/\b < w.heap.size:=by
 rcases h with h | h
 ·exact ⟨h.1,h.lt⟩
 ·exact ⟨h.1,h.lt⟩
theorem Bld.fresh (w:World):Bld w.heap.size w.heap.size [] (w.alloc (.cells #[.pointer none,.slice none 0 0] zfT)):=Lib.fresh_isBuilder zfT u8T w
theorem Bld.ext {B b:Nat} {tx:Bs} {w w':World} (h:Bld B b tx w) (hx:Ext w w'):Bld B b tx w':=by
 have aux:∀ p,Lib.BuilderAt zfT u8T B b p (Lib.byteCells tx) w -> Lib.BuilderAt zfT u8T B b p (Lib.byteCells tx) w':=by
  rintro p ⟨hB,v,hb,hown,hne⟩;exact ⟨hB,v,hx.at hb (fun h=>h),hown.kept (row:=none) ⟨hx.os,hx.tape,hx.output,hx.size,fun k hk _=>hx.block k hk (fun h=>h)⟩ (Classical.em _),hne⟩
 exact h.imp (aux _) (aux _)
theorem znj:(Tryz.prog.info? zfT).map (·.size)=some 2:=by kernel_rfl
theorem zn4:liesAt Tryz.prog Tryz.prog.depth zfT (2 / Tryz.prog.cellsOf zfT) 0 zfT 1=true:=by kernel_rfl
theorem znx:(Tryz.prog.info? u8T).map (fun i=>(i.zero,i.size,i.bytes))=some (some (.int .u8 0),1,1):=by kernel_rfl
theorem zdJ:∀ args w,(callFunc 71 args).run Tryz.prog w=.ok (.enter 71 args) w:=enters_of Tryz.func71 (by kernel_rfl) rfl
theorem ziU (b:Nat) (w:World) (h0:w.cell? ⟨b,0,none⟩=some (.pointer (some ⟨b,0,none⟩))):
  Calls Tryz.prog 71 #[.pointer (some ⟨b,0,none⟩)] w fun e w'=>e=.returned (.tuple #[])/\w'=w:=by
 obtain ⟨j,hj,_⟩:=Option.map_eq_some_iff.1 znj;go_enter Tryz.func71,Tryz.ntmps71;go_wp2;rw [Lib.run_neq_ptr_same w _ Tryz.underlying62 hj];go_wp2
 go_end0
 exact ⟨rfl,rfl⟩
theorem zgY (b:Nat) (w:World) (h0:w.cell? ⟨b,0,none⟩=some (.pointer none)) (hsh:w.shape? b=some (zfT,2)) (hfz:w.frozen? ⟨b,0,none⟩=false):
  Calls Tryz.prog 71 #[.pointer (some ⟨b,0,none⟩)] w fun e w'=>e=.returned (.tuple #[])/\w'=w.setCell ⟨b,0,none⟩ (.pointer (some ⟨b,0,none⟩)):=by
 obtain ⟨j,hj,hjs⟩:=Option.map_eq_some_iff.1 znj;go_enter Tryz.func71,Tryz.ntmps71;go_wp2;rw [Lib.run_to_unsafe w ⟨b,0,none⟩ Tryz.underlying62 Tryz.underlying129 hj (by rw [hjs];decide) hsh (Nat.zero_lt_succ 1)];simp only [Result.andThen];rw [Oper.upon_value];go_wp2;rw [run_callFunc_extern Tryz.func152 (by kernel_rfl) (by kernel_rfl) (by kernel_rfl) (e:=Extern.AbiNoEscape.same) (by kernel_rfl)];rw [Lib.run_noEscape];simp only [Result.andThen];rw [Oper.upon_value];go_wp2;rw [Lib.run_from_unsafe w ⟨b,0,none⟩ Tryz.underlying129 Tryz.underlying62 hj hsh zn4];simp only [Result.andThen];rw [Oper.upon_value];go_wp2
 go_end0
 exact ⟨rfl,rfl⟩
theorem check_any (B b:Nat) (tx:Bs) (w:World) (h:Bld B b tx w):
  Calls Tryz.prog 71 #[.pointer (some ⟨b,0,none⟩)] w fun e w'=>e=.returned (.tuple #[])/\Lib.BuilderAt zfT u8T B b (.pointer (some ⟨b,0,none⟩)) (Lib.byteCells tx) w'/\za4 B b w w':=by
 rcases h with h | h
 ·refine (zgY b w h.cell0 h.shape h.frozen0).mono ?_
  rintro e w' ⟨rfl,rfl⟩;exact ⟨rfl,h.used _,za4.setCell h.1 0 _⟩
 ·refine (ziU b w h.cell0).mono ?_
  rintro e w' ⟨rfl,rfl⟩;exact ⟨rfl,h,za4.refl _ _ _⟩
theorem zdy (B b:Nat) (tx:Bs) (s:ByteArray) (w:World) (h:Bld B b tx w) (hlen:tx.length+s.size<=140737488355328):
  Calls Tryz.prog 43 #[.pointer (some ⟨b,0,none⟩),.string s] w fun e w'=>e=.returned (.tuple #[.int .i64 s.size,.nilIface])/\Bld B b (tx++s.data.toList) w'/\za4 B b w w':=by
 obtain ⟨i0,hi,hz0,hz1,hz2⟩:=info_parts znx;have hBw:B<=w.heap.size:=by have:=h.lt;omega
 have e240:=zdJ;go_enter Tryz.func43,Tryz.ntmps43;go_wp2_with (go_at_fn 71;refine (check_any B b tx _ h).mono ?_)
 rintro e w1 ⟨rfl,h1,hb1⟩;obtain ⟨hB,v,hbk,hown,hne⟩:=h1;have c0:w1.cell? ⟨b,0,none⟩=some (.pointer (some ⟨b,0,none⟩)):=by rw [Lib.cell_of_heap hbk];rfl
 have c1:w1.cell? ⟨b,1,none⟩=some v:=by rw [Lib.cell_of_heap hbk];rfl
 have hlb:=hid (Lib.byteCells_length tx);go_wp2_with (at_builtin;refine Lib.wpList_append_own_string _ rfl _ _ 63 9 rfl B u8T i0 Tryz.underlying63 Tryz.underlying9 hi hz0 hz1 hz2 _ _ _ rfl hown s rfl ?c3 ?c4 ?c5 ?_)
 case c3=>have:=hlb.out;unfold maxLen;omega
 case c4=>have:=hlb.out;omega
 case c5=>have:=hb1.1.size;omega
 intro v' w2 hown' hgrow _;have hlt:b < w1.heap.size:=zat hbk;have hb2:w2.heap[b]?=some (.cells #[.pointer (some ⟨b,0,none⟩),v] zfT (0,0)):=by
  rw [hgrow.block b hlt (fun e=>hne e.symm)];exact hbk
 have d0:w2.cell? ⟨b,0,none⟩=some (.pointer (some ⟨b,0,none⟩)):=by rw [Lib.cell_of_heap hb2];rfl
 have d1:w2.cell? ⟨b,1,none⟩=some v:=by rw [Lib.cell_of_heap hb2];rfl
 have f1:w2.frozen? ⟨b,1,none⟩=false:=Lib.frozen_of_heap hb2 1;obtain ⟨ao,n',cap,rfl⟩:∃ ao n' cap,v'=.slice ao n' cap:=by
  rcases hown'.2 with ⟨hv,_⟩ | ⟨g,cap,cur,hv,_⟩
  ·exact ⟨_,_,_,hv⟩
  ·exact ⟨_,_,_,hv⟩
 go_wp2
 go_ret2
 refine ⟨rfl,.inr ?_,(hb1.trans (za4.grown hown hgrow)).trans (za4.setCell hB 1 _)⟩;have e1:Lib.byteCells (tx++s.data.toList)=Lib.byteCells tx++Lib.strCells s:=by simp [Lib.byteCells,Lib.strCells]
 rw [e1];exact Lib.BuilderAt.put (T:=zfT) (e:=u8T) hB hb2 (bs':=Lib.byteCells tx++Lib.strCells s) (by simpa [Lib.strCells_length] using hown') (by decide)
theorem zcY (B b:Nat) (tx:Bs) (c:UInt8) (w:World) (h:Bld B b tx w) (hlen:tx.length+1<=140737488355328):
  Calls Tryz.prog 45 #[.pointer (some ⟨b,0,none⟩),.int .u8 c.toNat] w fun e w'=>e=.returned .nilIface/\Bld B b (tx++[c]) w'/\za4 B b w w':=by
 obtain ⟨i0,hi,hz0,hz1,hz2⟩:=info_parts znx;have hBw:B<=w.heap.size:=by have:=h.lt;omega
 have e240:=zdJ;go_enter Tryz.func45,Tryz.ntmps45;go_wp2_with (go_at_fn 71;refine (check_any B b tx _ h).mono ?_)
 rintro e w1 ⟨rfl,h1,hb1⟩;obtain ⟨hB,v,hbk,hown,hne⟩:=h1;have c0:w1.cell? ⟨b,0,none⟩=some (.pointer (some ⟨b,0,none⟩)):=by rw [Lib.cell_of_heap hbk];rfl
 have c1:w1.cell? ⟨b,1,none⟩=some v:=by rw [Lib.cell_of_heap hbk];rfl
 have hlb:=hid (Lib.byteCells_length tx);go_wp2_with (at_builtin;refine wpList_append_own _ rfl _ _ 63 rfl B u8T i0 (.int .u8 0) 1 1 Tryz.underlying63 hi hz0 hz1 hz2 rfl (by decide) _ _ _ rfl (hown.alloc _) ⟨w1.heap.size,0,none⟩ 1 1 [.int .u8 c.toNat] rfl rfl ?c1 ?c2 ?c3 ?c4 ?c5 ?_)
 case c1=>
  intro j u hj
  match j,hj with
  | 0,hj=>simp at hj;subst hj;simp [Addr.add]
 case c2=>intro u hu;simp at hu;subst hu;rfl
 case c3=>have:=hlb.out;unfold maxLen;omega
 case c4=>have:=hlb.out;omega
 case c5=>have:=hb1.1.size;simp;omega
 intro v' w2 hown' hgrow _;have hlt:b < w1.heap.size:=zat hbk;have hb2:w2.heap[b]?=some (.cells #[.pointer (some ⟨b,0,none⟩),v] zfT (0,0)):=by
  rw [hgrow.block b (by simp;omega) (fun e=>hne e.symm),Lib.alloc_old w1 _ b hlt];exact hbk
 have d0:w2.cell? ⟨b,0,none⟩=some (.pointer (some ⟨b,0,none⟩)):=by rw [Lib.cell_of_heap hb2];rfl
 have d1:w2.cell? ⟨b,1,none⟩=some v:=by rw [Lib.cell_of_heap hb2];rfl
 have f1:w2.frozen? ⟨b,1,none⟩=false:=Lib.frozen_of_heap hb2 1;obtain ⟨g,cap,rfl⟩:∃ g cap,v'=.slice (some ⟨g,0,none⟩) ((Lib.byteCells tx).length+1) cap:=by
  rcases hown'.2 with ⟨_,h0⟩ | ⟨g,cap,cur,hv,_⟩
  ·omega
  ·exact ⟨g,cap,hv⟩
 go_wp2;go_ret;refine ⟨rfl,.inr ?_,((hb1.ext ((Mod.refl _ w1).alloc _)).trans (za4.grown (hown.alloc _) hgrow)).trans (za4.setCell hB 1 _)⟩;have e1:Lib.byteCells (tx++[c])=Lib.byteCells tx++[.int .u8 c.toNat]:=by simp [Lib.byteCells]
 rw [e1];exact Lib.BuilderAt.put (T:=zfT) (e:=u8T) hB hb2 (bs':=Lib.byteCells tx++[.int .u8 c.toNat]) (by simpa using hown') (by decide)
end Go.Proofs.YtjjfphalcibjfaaGreatDoor
