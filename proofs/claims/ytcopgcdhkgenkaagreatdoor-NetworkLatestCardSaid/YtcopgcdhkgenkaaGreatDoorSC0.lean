import Derived.Test.YtcopgcdhkgenkaaGreatDoorMapIter
import Derived.Maps.OwnOps
import Derived.Maps.OwnSet
import Derived.Maps.RangeWalk
import Derived.Laws.AppendOwnNone
import Derived.Test.YtcopgcdhkgenkaaGreatDoorProg
import Derived.Laws.Strings
import Derived.Lib.Builder
import Derived.Lib.AppendStr
import Derived.Laws.Externs
import Derived.Laws.Entries
import Derived.Shelf.Abstract
import Derived.Laws.IdiomCopy
import Derived.Lib.UnsafeStr
set_option linter.all false
set_option maxRecDepth 100000
set_option maxHeartbeats 16000000
namespace Cdk
open Go Go.RowKit
def RowIs (w:World) (ao:Option Addr) (cs:List Value):Prop:=
 ∀ j u,cs[j]?=some u -> ∃ b off,ao=some ⟨b,off,none⟩/\w.cell? ⟨b,off+j,none⟩=some u
theorem RowIs.nil (w:World) (ao:Option Addr):RowIs w ao []:=fun j u h=>by simp at h
theorem RowIs.at {w:World} {ao:Option Addr} {cs:List Value} (h:RowIs w ao cs) (hpos:0 < cs.length):∃ b off,ao=some ⟨b,off,none⟩/\∀ j u,cs[j]?=some u -> w.cell? ⟨b,off+j,none⟩=some u:=by
 obtain ⟨b,off,rfl,_⟩:=h 0 cs[0] (List.getElem?_eq_getElem hpos)
 refine ⟨b,off,rfl,fun j u hu=>?_⟩
 obtain ⟨b',off',he,hc⟩:=h j u hu
 simp only [Option.some.injEq,Addr.mk.injEq,and_true] at he
 rw [he.1,he.2];exact hc
theorem RowIs.mod {S:Nat -> Prop} {w w':World} {ao:Option Addr} {cs:List Value} (h:RowIs w ao cs) (hm:Mod S w w') (hs:∀ b off,ao=some ⟨b,off,none⟩ -> ¬ S b):RowIs w' ao cs:=by
 intro j u hu
 obtain ⟨b,off,he,hc⟩:=h j u hu
 exact ⟨b,off,he,hm.cell hc (hs b off he)⟩
theorem RowIs.ext {w w':World} {ao:Option Addr} {cs:List Value} (h:RowIs w ao cs) (hm:Ext w w'):RowIs w' ao cs:=h.mod hm (fun _ _ _ h=>h)
theorem RowIs.new (w:World) (cs:List Value) (e:TypeId):RowIs (w.alloc (.cells cs.toArray e)) (some ⟨w.heap.size,0,none⟩) cs:=by
 intro j u hu
 refine ⟨w.heap.size,0,rfl,?_⟩
 have:(w.alloc (.cells cs.toArray e)).heap[w.heap.size]?=some (.cells cs.toArray e):=heap_alloc_new w _
 unfold World.cell?
 simp only [this]
 simpa using hu
theorem flat_get {α:Type} (f:α -> List Value) (size:Nat) (hf:∀ x,(f x).length=size):∀ (xs:List α) (i j:Nat) (x:α),xs[i]?=some x -> j < size -> (xs.flatMap f)[i*size+j]?=(f x)[j]?
 | [],_,_,_,h,_=>by simp at h
 | y::xs,0,j,x,h,hj=>by
  simp at h;subst h
  simp only [List.flatMap_cons,Nat.zero_mul,Nat.zero_add]
  rw [List.getElem?_append_left (by rw [hf];exact hj)]
 | y::xs,i+1,j,x,h,hj=>by
  simp only [List.getElem?_cons_succ] at h
  simp only [List.flatMap_cons]
  rw [List.getElem?_append_right (by rw [hf,Nat.add_mul];omega),hf]
  rw [show (i+1)*size+j - size=i*size+j from by rw [Nat.add_mul];omega]
  exact flat_get f size hf xs i j x h hj
theorem flat_length {α:Type} (f:α -> List Value) (size:Nat) (hf:∀ x,(f x).length=size) (xs:List α):(xs.flatMap f).length=xs.length*size:=by
 induction xs with
 | nil=>simp
 | cons x xs ih=>simp [ih,hf,Nat.add_mul];omega
set_option linter.unusedSectionVars false
section
variable {K:Type} [DecidableEq K] {P:Program} {kt:TypeId} {mk:K -> Value} {ops:Array Oper} {rest:List Oper} {o:Oper} {a:Act} {Q:Exit -> Act -> World -> Prop} {w:World} {mb r:Nat} {d:List (K × Value)} {seen:List K}
theorem wpList_update (hg:o.guard=none) (m x v:Operand) (t e:TypeId) (hop:o.op=Op.mapUpdate t m x v) (ok:KeyOk P kt mk) (ht:P.underlying t=some (.map kt e))
  (h:MapAt w mk mb d) (k:K) (val:Value) (hm:a.eval m=.map (some mb)) (hx:a.eval x=mk k) (hv:a.eval v=val)
  (hK:∀ w',Hid (MapAt w' mk mb (upd d k val)/\Mod (Eq mb) w w'/\w'.heap.size=w.heap.size) -> wpList P ops Q rest (a.put o.dst undef) w'):wpList P ops Q (o::rest) a w:=by
 refine wpList_plain hg fun K' hK'=>?_
 obtain ⟨w',hrun,r1,r2,r3⟩:=run_updateM ok ht h k val
 unfold Oper.wp
 simp [execOp,hop,hm,hx,hv,hrun,Result.andThen]
 exact hK' _ _ (hK w' ⟨r1,r2,r3⟩)
theorem wpList_delete (hg:o.guard=none) (m x:Operand) (t e kt':TypeId) (hop:o.op=Op.call { callee:=Callee.builtin Builtin.delete,args:=#[m,x],argTypes:=#[t,kt'] }) (ok:KeyOk P kt mk) (ht:P.underlying t=some (.map kt e))
  (h:MapAt w mk mb d) (k:K) (hm:a.eval m=.map (some mb)) (hx:a.eval x=mk k)
  (hK:∀ w',Hid (MapAt w' mk mb (del d k)/\Mod (Eq mb) w w'/\w'.heap.size=w.heap.size) -> wpList P ops Q rest (a.put o.dst (.tuple #[])) w'):wpList P ops Q (o::rest) a w:=by
 refine wpList_plain hg fun K' hK'=>?_
 obtain ⟨w',hrun,r1,r2,r3⟩:=run_deleteM (ty:=o.type) (kt':=kt') ok ht h k
 unfold Oper.wp
 simp [execOp,hop,resolve,invoke,builtin,hm,hx,hrun,Result.andThen]
 exact hK' _ _ (hK w' ⟨r1,r2,r3⟩)
theorem wpList_range (hg:o.guard=none) (m:Operand) (t e:TypeId) (hop:o.op=Op.range t m) (ht:P.underlying t=some (.map kt e))
  (h:MapAt w mk mb d) (hm:a.eval m=.map (some mb))
  (hK:∀ w',Hid (IterAt w' mk mb w.heap.size d []/\Ext w w'/\w'.heap.size=w.heap.size+1) -> wpList P ops Q rest (a.put o.dst (.pointer (some ⟨w.heap.size,0,none⟩))) w'):wpList P ops Q (o::rest) a w:=by
 refine wpList_plain hg fun K' hK'=>?_
 obtain ⟨w',hrun,r1,r2,r3⟩:=run_rangeM (P:=P) ht h
 unfold Oper.wp
 simp [execOp,hop,hm,hrun,Result.andThen]
 exact hK' _ _ (hK w' ⟨r1,r2,r3⟩)
theorem wpList_next (hg:o.guard=none) (it:Operand) (hop:o.op=Op.next it false) (inj:∀ a b,mk a=mk b -> a=b)
  (h:IterAt w mk mb r d seen) (hm:a.eval it=.pointer (some ⟨r,0,none⟩))
  (hover:Hid (∀ p ∈ d,p.1 ∈ seen) -> wpList P ops Q rest (a.put o.dst (.tuple #[.bool false])) w)
  (hnext:∀ k v w',Hid ((k,v) ∈ d/\k ∉ seen/\IterAt w' mk mb r d (k::seen)/\Mod (Eq r) w w'/\w'.heap.size=w.heap.size) -> wpList P ops Q rest (a.put o.dst (.tuple #[.bool true,mk k,v])) w'):wpList P ops Q (o::rest) a w:=by
 refine wpList_plain hg fun K' hK'=>?_
 rcases run_nextM (P:=P) h inj o.type with ⟨hall,hrun⟩ | ⟨k,v,w',h1,h2,hrun,h3,h4,h5⟩
 ·unfold Oper.wp
  simp [execOp,hop,hm,hrun,Result.andThen]
  exact hK' _ _ (hover hall)
 ·unfold Oper.wp
  simp [execOp,hop,hm,hrun,Result.andThen]
  exact hK' _ _ (hnext k v w' ⟨h1,h2,h3,h4,h5⟩)
theorem wpList_nextL {α:Type} {l:List α} {f:α -> K × Value} (hg:o.guard=none) (it:Operand) (hop:o.op=Op.next it false) (inj:∀ a b,mk a=mk b -> a=b)
  (h:IterAt w mk mb r (l.map f) seen) (hm:a.eval it=.pointer (some ⟨r,0,none⟩))
  (hover:Hid (∀ q ∈ l,(f q).1 ∈ seen) -> wpList P ops Q rest (a.put o.dst (.tuple #[.bool false])) w)
  (hnext:∀ q w',Hid (q ∈ l/\(f q).1 ∉ seen/\IterAt w' mk mb r (l.map f) ((f q).1::seen)/\Mod (Eq r) w w'/\w'.heap.size=w.heap.size) -> wpList P ops Q rest (a.put o.dst (.tuple #[.bool true,mk (f q).1,(f q).2])) w'):wpList P ops Q (o::rest) a w:=by
 refine wpList_next hg it hop inj h hm (fun H=>hover fun q hq=>H.out _ (List.mem_map_of_mem hq)) (fun k v w' H=>?_)
 obtain ⟨h1,h2,h3,h4,h5⟩:=H.out
 obtain ⟨q,hq,he⟩:=List.mem_map.1 h1
 have e1:(f q).1=k:=by rw [he]
 have e2:(f q).2=v:=by rw [he]
 subst e1;subst e2
 exact hnext q w' ⟨hq,h2,h3,h4,h5⟩
theorem entryL {α:Type} {l:List α} {f:α -> K × Value} {q:α} (h:IterAt w mk mb r (l.map f) ((f q).1::seen)) (hq:q ∈ l):
  (Instr.entry (.pointer (some ⟨r,0,none⟩))).run P w=.ok (.tuple #[mk (f q).1,(f q).2]) w:=run_entryM h (List.mem_map_of_mem hq)
def restL {α:Type} (l:List α) (f:α -> K × Value) (seen:List K):Nat:=(l.filter (fun q=>!decide ((f q).1 ∈ seen))).length
theorem restL_lt {α:Type} {l:List α} {f:α -> K × Value} {q:α} (hq:q ∈ l) (hn:(f q).1 ∉ seen):restL l f ((f q).1::seen) < restL l f seen:=by
 unfold restL
 have:l.filter (fun p=>!decide ((f p).1 ∈ (f q).1::seen))=(l.filter (fun p=>!decide ((f p).1 ∈ seen))).filter (fun p=>!decide ((f p).1=(f q).1)):=by
  rw [List.filter_filter]
  apply List.filter_congr
  intro p _
  by_cases h1:(f p).1=(f q).1 <;> by_cases h2:(f p).1 ∈ seen <;> simp [h1,h2]
 rw [this]
 apply List.length_filter_lt_length_iff_exists.2
 exact ⟨q,List.mem_filter.2 ⟨hq,by simpa using hn⟩,by simp⟩
end
structure El (P:Program) (e:TypeId) (z:Value) (size bytes:Nat):Prop where
 row:(P.info? e).map (fun i=>(i.zero,i.size,i.bytes))=some (some z,size,bytes)
 cells:z.cells.size=size
 pos:0 < size
 small:bytes<=1024
section
variable {α:Type} {P:Program} {f:α -> List Value} {base:Nat} {e:TypeId} {z:Value} {size bytes:Nat} {w w':World} {v:Value} {xs:List α}
def Own (w:World) (base:Nat) (e:TypeId) (size:Nat) (f:α -> List Value) (v:Value) (xs:List α):Prop:=w.ownsRow base e size v xs.length (xs.flatMap f)
theorem Own.nil (w:World) (base:Nat) (e:TypeId) (size:Nat) (f:α -> List Value):Own w base e size f (.slice none 0 0) []:=World.ownsRow_nil w base e size
theorem Own.empty {w:World} {base:Nat} {e:TypeId} {size:Nat} (f:α -> List Value) (h:base<=w.heap.size):Own (w.alloc (.cells #[] e)) base e size f (.slice (some ⟨w.heap.size,0,none⟩) 0 0) []:=
 World.ownsRow_made w #[] 0 h (Nat.zero_le _) (by simp)
theorem Own.weaken {base':Nat} (h:Own w base e size f v xs) (hb:base'<=base):Own w base' e size f v xs:=by
 refine ⟨h.1,?_⟩
 rcases h.2 with h2 | ⟨g,cap,cur,rfl,h3,h4⟩
 ·exact .inl h2
 ·exact .inr ⟨g,cap,cur,rfl,Nat.le_trans hb h3,h4⟩
theorem Own.mod {S:Nat -> Prop} (h:Own w base e size f v xs) (hm:Mod S w w') (hs:∀ k,v.ownBlock=some k -> ¬ S k):Own w' base e size f v xs:=by
 refine ⟨h.1,?_⟩
 rcases h.2 with h2 | ⟨g,cap,cur,rfl,h3,h4,h5⟩
 ·exact .inl h2
 ·exact .inr ⟨g,cap,cur,rfl,h3,hm.at h4 (hs g rfl),h5⟩
theorem Own.ext (h:Own w base e size f v xs) (hm:Ext w w'):Own w' base e size f v xs:=h.mod hm (fun _ _ h=>h)
theorem Own.block (h:Own w base e size f v xs):∀ k,v.ownBlock=some k -> base<=k/\k < w.heap.size:=World.ownsRow.lt h
theorem Own.row (h:Own w base e size f v xs):∃ ao cap,v=.slice ao xs.length cap/\RowIs w ao (xs.flatMap f)/\∀ b off,ao=some ⟨b,off,none⟩ -> v.ownBlock=some b:=by
 rcases h.2 with ⟨rfl,hn⟩ | ⟨g,cap,cur,rfl,hb,hg,hle,hcm,hcs,ht⟩
 ·have:xs=[]:=List.eq_nil_of_length_eq_zero hn
  subst this
  exact ⟨none,0,rfl,RowIs.nil _ _,by simp⟩
 ·refine ⟨some ⟨g,0,none⟩,cap,rfl,?_,?_⟩
  ·intro j u hu
   refine ⟨g,0,rfl,?_⟩
   have:=World.ownsRow.cells h (g:=g) rfl j u hu
   rw [Addr.add_lit] at this
   exact this
  ·intro b off he
   simp at he
   simp [Value.ownBlock,he.1]
theorem Own.cells (h:Own w base e size f v xs) {k:Nat} (hk:v.ownBlock=some k):∃ c,w.heap[k]?=some (.cells c e (0,0)):=by
 rcases h.2 with ⟨rfl,_⟩ | ⟨g,cap,cur,rfl,_,hg,_⟩
 ·simp [Value.ownBlock] at hk
 ·simp [Value.ownBlock] at hk;subst hk;exact ⟨cur,hg⟩
theorem Own.ne_iter {K:Type} [DecidableEq K] {mk:K -> Value} {m r:Nat} {d:List (K × Value)} {seen:List K} (h:Own w base e size f v xs) (hm:IterAt w mk m r d seen):v.ownBlock ≠ some r:=by
 intro hk
 obtain ⟨c,hc⟩:=h.cells hk
 obtain ⟨es,cl,sn,_,_,hh,_⟩:=hm
 rw [hc] at hh;simp at hh
theorem wp_app {o:Oper} {a:Act} {K:Act -> World -> Prop} {Q:Exit -> Act -> World -> Prop} (s x:Operand) (t:TypeId)
  (ho:o.op=.call { callee:=.builtin .append,args:=#[s,x],argTypes:=#[t,t] }) (ht:P.underlying t=some (.slice e)) (el:El P e z size bytes)
  (hs:a.eval s=v) (hown:Own w base e size f v xs) (ao:Option Addr) (m c:Nat) (hx:a.eval x=.slice ao m c) (ys:List α) (hm:ys.length=m) (hrow:RowIs w ao (ys.flatMap f))
  (hf:∀ y,(f y).length=size) (h1:∀ y ∈ ys,∀ u ∈ f y,u.oneCell'=true) (hlen:xs.length+ys.length<=137438953472) (hbase:base<=w.heap.size) (hc:ao=none -> c=0)
  (hK:∀ v' w',Hid (Own w' base e size f v' (xs++ys)/\Mod (fun k=>v.ownBlock=some k) w w') -> K (a.put o.dst v') w'):o.wp P a w K Q:=by
 obtain ⟨i0,hi,hz0,hz1,hz2⟩:=info_parts el.row
 have hflat:=fun l:List α=>flat_length f size hf l
 cases ao with
 | some ad=>
  have hcells:∀ j u,(ys.flatMap f)[j]?=some u -> w.cell? (ad.add j)=some u:=by
   intro j u hu
   obtain ⟨b,off,he,hcc⟩:=hrow j u hu
   simp only [Option.some.injEq] at he
   subst he
   rw [Addr.add_lit]
   exact hcc
  have hb:(xs.length+m)*bytes<=140737488355328:=by
   have h1:=el.small
   have:(xs.length+m)*bytes<=137438953472*1024:=Nat.mul_le_mul (by omega) h1
   omega
  refine wp_append_own w s x t ho base e i0 z size bytes ht hi hz0 hz1 hz2 el.cells el.pos v xs.length (xs.flatMap f) hs hown ad m c (ys.flatMap f) hx (by rw [hflat,hm]) hcells ?_ (by simp only [maxLen];omega) hb hbase ?_
  ·intro u hu
   obtain ⟨y,hy,hu⟩:=List.mem_flatMap.1 hu
   exact h1 y hy u hu
  ·intro v' w' h2 h3 _
   refine hK v' w' ⟨?_,Mod.ofGrown h3 (fun k hk=>hk)⟩
   subst hm
   unfold Own
   rw [List.length_append,List.flatMap_append]
   exact h2
 | none=>
  have hy:ys=[]:=by
   cases ys with
   | nil=>rfl
   | cons y ys=>
    exfalso
    have hp:0 < ((y::ys).flatMap f).length:=by rw [hflat];exact Nat.mul_pos (by simp) el.pos
    obtain ⟨b,off,he,_⟩:=hrow.at hp
    simp at he
  subst hy
  simp at hm
  subst hm
  have hc0:=hc rfl
  subst hc0
  have hrun:=run_append_owned_none (P:=P) w base t o.type e i0 size ht hi v xs.length (xs.flatMap f) hown
  unfold Oper.wp
  simp [execOp,ho,resolve,invoke,builtin,hs,hx,hrun,Result.andThen]
  exact hK v w ⟨by simpa using hown,Mod.refl _ _⟩
theorem wpList_app {ops:Array Oper} {rest:List Oper} {o:Oper} {a:Act} {Q:Exit -> Act -> World -> Prop} (hg:o.guard=none) (s x:Operand) (t:TypeId)
  (ho:o.op=.call { callee:=.builtin .append,args:=#[s,x],argTypes:=#[t,t] }) (ht:P.underlying t=some (.slice e)) (el:El P e z size bytes)
  (hs:a.eval s=v) (hown:Own w base e size f v xs) (ao:Option Addr) (m c:Nat) (hx:a.eval x=.slice ao m c) (ys:List α) (hm:ys.length=m) (hrow:RowIs w ao (ys.flatMap f))
  (hf:∀ y,(f y).length=size) (h1:∀ y ∈ ys,∀ u ∈ f y,u.oneCell'=true) (hlen:xs.length+ys.length<=137438953472) (hbase:base<=w.heap.size) (hc:ao=none -> c=0)
  (hK:∀ v' w',Hid (Own w' base e size f v' (xs++ys)/\Mod (fun k=>v.ownBlock=some k) w w') -> wpList P ops Q rest (a.put o.dst v') w'):wpList P ops Q (o::rest) a w:=
 wpList_plain hg fun _ hK'=>wp_app s x t ho ht el hs hown ao m c hx ys hm hrow hf h1 hlen hbase hc (fun v' w' H=>hK' _ _ (hK v' w' H))
end
end Cdk
namespace Scr
open Go Go.RowKit Cdk
def strV (s:Bs):Value:=.string ⟨s.toArray⟩
def strC (s:Bs):List Value:=[strV s]
def intC (n:Int):List Value:=[.int .i64 n]
theorem strC_len (s:Bs):(strC s).length=1:=rfl
theorem intC_len (n:Int):(intC n).length=1:=rfl
def RowAt {α:Type} (F:Nat -> Prop) (w:World) (f:α -> List Value) (v:Value) (l:List α):Prop:=
 ∃ ao cap,v=.slice ao l.length cap/\RowIs w ao (l.flatMap f)/\(∀ b off,ao=some ⟨b,off,none⟩ -> 0 < cap -> F b)/\l.length<=cap/\(l.length<=140737488355328/\cap<=9223372036854775807)/\(ao=none -> cap=0)
section
variable {α:Type} {F F' S:Nat -> Prop} {w w':World} {f:α -> List Value} {v:Value} {l:List α}
theorem RowAt.mod (h:RowAt F w f v l) (hm:Mod S w w') (hS:∀ k,F k -> ¬ S k):RowAt F w' f v l:=by
 obtain ⟨ao,cap,rfl,hr,hb,hc⟩:=h
 rcases Nat.eq_zero_or_pos cap with h0 | h0
 ·have hl:l=[]:=List.length_eq_zero_iff.1 (by omega)
  subst hl
  exact ⟨ao,cap,rfl,RowIs.nil _ _,hb,hc⟩
 ·exact ⟨ao,cap,rfl,hr.mod hm (fun b off e=>hS b (hb b off e h0)),hb,hc⟩
theorem RowAt.ext (h:RowAt F w f v l) (hm:Ext w w'):RowAt F w' f v l:=h.mod hm (fun _ _ h=>h)
theorem RowAt.mono (h:RowAt F w f v l) (hF:∀ k,F k -> F' k):RowAt F' w f v l:=by
 obtain ⟨ao,cap,rfl,hr,hb,hc⟩:=h
 exact ⟨ao,cap,rfl,hr,fun b off e h0=>hF b (hb b off e h0),hc⟩
theorem RowAt.nil (F:Nat -> Prop) (w:World) (f:α -> List Value):RowAt F w f (.slice none 0 0) []:=⟨none,0,rfl,RowIs.nil _ _,(fun _ _ e=>nomatch e),Nat.le_refl _,⟨Nat.zero_le _,Nat.zero_le _⟩,fun _=>rfl⟩
theorem RowAt.slice (h:RowAt F w f v l):∃ ao cap,v=.slice ao l.length cap:=by obtain ⟨ao,cap,rfl,_⟩:=h;exact ⟨_,_,rfl⟩
theorem RowAt.len (h:RowAt F w f v l):l.length<=140737488355328:=by obtain ⟨ao,cap,rfl,_,_,h1,h2,_⟩:=h;omega
theorem RowAt.one (h:RowAt F w f v l):v.oneCell'=true:=by obtain ⟨ao,cap,rfl,_⟩:=h;rfl
theorem RowAt.take (h:RowAt F w f v l) (size:Nat) (hf:∀ x,(f x).length=size) {n:Nat} (hn:n<=l.length):∃ ao cap,v=.slice ao l.length cap/\n<=cap/\RowAt F w f (.slice ao n cap) (l.take n):=by
 obtain ⟨ao,cap,rfl,hr,hb,h1,h2,h3⟩:=h
 have e:(l.take n).length=n:=by rw [List.length_take];omega
 refine ⟨ao,cap,rfl,by omega,ao,cap,by rw [e],fun j u hu=>?_,hb,by rw [e];omega,⟨by rw [e];omega,h2.2⟩,h3⟩
 refine hr j u ?_
 have hs:l.flatMap f=(l.take n).flatMap f++(l.drop n).flatMap f:=by rw [<- List.flatMap_append,List.take_append_drop]
 rw [hs,List.getElem?_append_left (List.getElem?_eq_some_iff.1 hu).1];exact hu
theorem RowAt.get (h:RowAt F w f v l) (size:Nat) (hf:∀ x,(f x).length=size) (hs:0 < size) {j:Nat} (hj:j < l.length):
  ∃ b off cap,v=.slice (some ⟨b,off,none⟩) l.length cap/\F b/\∀ i u,i < size -> (f l[j])[i]?=some u -> w.cell? ⟨b,off+j*size+i,none⟩=some u:=by
 obtain ⟨ao,cap,rfl,hr,hb,hlc,-⟩:=h
 obtain ⟨b,off,rfl,hc⟩:=hr.at (by rw [flat_length _ size hf];exact Nat.mul_pos (by omega) hs)
 refine ⟨b,off,cap,rfl,hb b off rfl (by omega),fun i u hi hu=>?_⟩
 have:=hc _ _ ((flat_get f size hf l j i l[j] (List.getElem?_eq_getElem hj) hi).trans hu)
 rw [Nat.add_assoc];exact this
end
abbrev IntsAt (F:Nat -> Prop) (w:World) (v:Value) (l:List Int):Prop:=RowAt F w intC v l
abbrev StrsAt (F:Nat -> Prop) (w:World) (v:Value) (l:List Bs):Prop:=RowAt F w strC v l
def msC (m:Ms):List Value:=[.int .i64 m.kd,.int .i64 m.pa,.int .i64 m.sq,.int .i64 m.st,.int .i64 m.ba,.int .i64 m.ve,strV m.da]
section
variable {F F' S:Nat -> Prop} {w w':World}
end
end Scr
namespace Cdk
open Go Go.RowKit
def schedOk (md:Region.Mode) (ops:Array Oper):List (Nat × Bool) -> Array Bool -> Bool
 | [],listed=>(Region.ready md ops listed).isEmpty
 | (i,true)::r,listed=>(Region.ready md ops listed).contains i && Region.free md ops listed i && schedOk md ops r (listed.setIfInBounds i true)
 | (i,false)::r,listed=>Region.ready md ops listed==[i] && schedOk md ops r (listed.setIfInBounds i true)
section
variable {P:Program} {ops:Array Oper} {C:World -> Prop} {Q:Exit -> Act -> World -> Prop}
def wpS (P:Program) (ops:Array Oper) (C:World -> Prop) (Q:Exit -> Act -> World -> Prop):List (Oper × Bool) -> Act -> World -> Prop
 | [],a,w=>Q .normal a w
 | (o,true)::r,a,w=>∃ v,YieldsIf P ops C o v a/\wpS P ops C Q r (a.put o.dst v) w
 | (o,false)::r,a,w=>
  if Region.wanted o (yielded ops a.tmps)=true then o.wp P a w (fun a' w'=>C w'/\wpS P ops C Q r a' w') Q else wpS P ops C Q r (a.put o.dst undef) w
def schedOps (ops:List Oper) (sch:List (Nat × Bool)):List (Oper × Bool):=sch.map fun p=>(ops.getD p.1 default,p.2)
theorem wpS_sound {md:Region.Mode} {l:List Oper} (hno:Region.noSelect l.toArray=true) (hQ:∀ c a d v w,Q (.panic c) (Act.put a d v) w -> Q (.panic c) a w):
  ∀ (sch:List (Nat × Bool)) (fuel:Nat) (listed:Array Bool) (a:Act) (w:World),sch.length<=fuel -> schedOk md l.toArray sch listed=true -> C w →
   wpS P l.toArray C Q (schedOps l sch) a w -> wpAnyH P md l.toArray Q C fuel listed a w
 | [],fuel,listed,a,w,_,hok,hC,h=>by
  simp only [schedOk,List.isEmpty_iff] at hok
  exact wpAnyH_done hok h fuel
 | (i,true)::r,0,listed,a,w,hf,hok,hC,h=>by simp at hf
 | (i,false)::r,0,listed,a,w,hf,hok,hC,h=>by simp at hf
 | (i,true)::r,fuel+1,listed,a,w,hf,hok,hC,h=>by
  simp only [schedOk,Bool.and_eq_true] at hok
  obtain ⟨⟨hr,hfree⟩,hok⟩:=hok
  obtain ⟨v,hy,h⟩:=h
  have hi:l.toArray[i]?=some (l.getD i default):=by
   have hm:i ∈ Region.ready md l.toArray listed:=by simpa using hr
   have:i < l.length:=by
    simp only [Region.ready,List.mem_filter,List.mem_range] at hm
    simpa using hm.1
   simp [List.getD,this]
  exact wpAnyH_take hi hno hfree hr (fun c a w h=>hQ c a _ v w h) hy hC (wpS_sound hno hQ r fuel _ _ _ (by simpa using hf) hok hC h)
 | (i,false)::r,fuel+1,listed,a,w,hf,hok,hC,h=>by
  simp only [schedOk,Bool.and_eq_true,beq_iff_eq] at hok
  obtain ⟨hr,hok⟩:=hok
  refine wpAnyH_all hr (by simp) ?_
  intro j hj
  simp at hj
  subst hj
  have hi:l.toArray[j]?=some (l.getD j default):=by
   have hm:j ∈ Region.ready md l.toArray listed:=by rw [hr];simp
   have:j < l.length:=by
    simp only [Region.ready,List.mem_filter,List.mem_range] at hm
    simpa using hm.1
   simp [List.getD,this]
  unfold wpOp
  simp only [hi]
  simp only [schedOps,List.map_cons,wpS] at h
  by_cases hw:Region.wanted (l.getD j default) (yielded l.toArray a.tmps)=true
  ·rw [if_pos hw] at h ⊢
   exact .inl (Oper.wp_mono (fun a' w' ⟨hC',h'⟩=>⟨hC',wpS_sound hno hQ r fuel _ _ _ (by simpa using hf) hok hC' h'⟩) h)
  ·rw [if_neg hw] at h ⊢
   exact ⟨hC,wpS_sound hno hQ r fuel _ _ _ (by simpa using hf) hok hC h⟩
theorem wp_region_sched {id:Nat} {l:List Oper} {a:Act} {w:World} (C:World -> Prop) (sch:List (Nat × Bool)) (hm:P.follows .mixedOrders=true)
  (hno:Region.noSelect l.toArray=true) (hok:schedOk .any l.toArray sch (Array.replicate l.length false)=true) (hlen:sch.length<=l.length)
  (hC:C w.drew) (h:wpS P l.toArray C (NoPanic Q) (schedOps l sch) a w.drew):(Code.region id l.toArray true).wp P Q a w:=by
 refine wp_region_noPanic (wp_region_held (S:=C) hm ?_)
 have:=wpS_sound (md:=.any) hno (fun _ _ _ _ _ h=>h) sch l.length (Array.replicate l.length false) a w.drew hlen hok hC h
 exact this
theorem wpS_nil {a:Act} {w:World} (h:Q .normal a w):wpS P ops C (NoPanic Q) [] a w:=h
theorem wpS_q {o:Oper} {r:List (Oper × Bool)} {a:Act} {w:World} (hg:Region.wanted o (yielded ops a.tmps)=true) (v:Value) (h1:∀ w',C w' -> (execOp a.eval o).run P w'=.ok (.value v) w')
  (h2:wpS P ops C Q r (a.put o.dst v) w):wpS P ops C Q ((o,true)::r) a w:=⟨v,.inl ⟨hg,h1⟩,h2⟩
theorem wpS_no {o:Oper} {r:List (Oper × Bool)} {a:Act} {w:World} {b:Bool} (hg:Region.wanted o (yielded ops a.tmps)=false) (h2:wpS P ops C Q r (a.put o.dst undef) w):wpS P ops C Q ((o,b)::r) a w:=by
 cases b
 ·simp only [wpS,hg];exact h2
 ·exact ⟨undef,.inr ⟨hg,rfl⟩,h2⟩
theorem wpS_c {o:Oper} {r:List (Oper × Bool)} {a:Act} {w:World} (hg:Region.wanted o (yielded ops a.tmps)=true)
  (h:∀ K:Act -> World -> Prop,Hid (∀ a' w',C w' -> wpS P ops C Q r a' w' -> K a' w') -> o.wp P a w K Q):wpS P ops C Q ((o,false)::r) a w:=by
 simp only [wpS,hg,if_true]
 exact h _ (fun a' w' h1 h2=>⟨h1,h2⟩)
end
theorem qS {P:Program} {ops:Array Oper} {C:World -> Prop} {Q:Exit -> Act -> World -> Prop} {o:Oper} {r:List (Oper × Bool)} {a:Act} {w:World} {v:Value} (h2:wpS P ops C Q r (a.put o.dst v) w)
  (hg:Region.wanted o (yielded ops a.tmps)=true:=by rfl) (h1:∀ w',C w' -> (execOp a.eval o).run P w'=.ok (.value v) w':=by intro w' hC;go_simp;try with_reducible rfl):wpS P ops C Q ((o,true)::r) a w:=wpS_q hg v h1 h2
theorem qT {P:Program} {ops:Array Oper} {C:World -> Prop} {Q:Exit -> Act -> World -> Prop} {o:Oper} {r:List (Oper × Bool)} {a a':Act} {w:World} {v:Value} (h2:wpS P ops C Q r a' w)
  (hg:Region.wanted o (yielded ops a.tmps)=true:=by rfl) (h1:∀ w',C w' -> (execOp a.eval o).run P w'=.ok (.value v) w':=by intro w' hC;go_simp;try with_reducible rfl) (ha:a.put o.dst v=a':=by (simp only [Act.put,sA,sZ,sS];exact rfl)):wpS P ops C Q ((o,true)::r) a w:=wpS_q hg v h1 (ha ▸ h2)
theorem nT {P:Program} {ops:Array Oper} {C:World -> Prop} {Q:Exit -> Act -> World -> Prop} {o:Oper} {r:List (Oper × Bool)} {a a':Act} {w:World} {b:Bool} (h2:wpS P ops C Q r a' w)
  (hg:Region.wanted o (yielded ops a.tmps)=false:=by rfl) (ha:a.put o.dst undef=a':=by (simp only [Act.put,sA,sZ,sS];exact rfl)):wpS P ops C Q ((o,b)::r) a w:=wpS_no hg (ha ▸ h2)
def pureOp (o:Oper):Bool:=
 match o.op with
 | .move _=>true
 | .nilCheck _=>true
 | .fieldAddr _ _ _=>true
 | _=>false
def lastOp (md:Region.Mode) (ops:Array Oper) (j:Nat):Bool:=
 match ops[j]? with
 | some o=>(List.range ops.size).all fun i=>i==j || (ops[i]?.map pureOp).getD false || o.after.any (fun e=>Region.binds md e && e.on==i)
 | none=>false
section
variable {P:Program} {ops:Array Oper} {Q:Exit -> Act -> World -> Prop} {md:Region.Mode} {S:World -> Prop}
theorem lastOp_spec {j i:Nat} {oj oi:Oper} (h:lastOp md ops j=true) (hj:ops[j]?=some oj) (hi:ops[i]?=some oi) (hp:pureOp oi=false) (hne:j ≠ i):∃ e ∈ oj.after,Region.binds md e=true/\e.on=i:=by
 unfold lastOp at h
 rw [hj] at h
 simp only [List.all_eq_true,List.mem_range,Bool.or_eq_true,beq_iff_eq] at h
 rcases h i (Array.getElem?_eq_some_iff.1 hi).1 with (h | h) | h
 ·exact absurd h.symm hne
 ·rw [hi] at h;simp [hp] at h
 ·rw [Array.any_eq_true'] at h
  obtain ⟨e,he,h⟩:=h
  simp only [Bool.and_eq_true,beq_iff_eq] at h
  exact ⟨e,he,h.1,h.2⟩
def wpAnyL (P:Program) (md:Region.Mode) (ops:Array Oper) (Q:Exit -> Act -> World -> Prop) (S:World -> Prop):Nat -> Array Bool -> Act -> World -> Prop
 | 0,listed,a,w=>Region.ready md ops listed=[]/\Q .normal a w
 | fuel+1,listed,a,w=>
  (Region.ready md ops listed=[] -> Q .normal a w) ∧
  ∀ i ∈ Region.ready md ops listed,wpOp P ops Q i (fun a' w'=>(S w -> lastOp md ops i=true \/ S w')/\wpAnyL P md ops Q S fuel (listed.setIfInBounds i true) a' w') a w
theorem wpAny_of_last:∀ (fuel:Nat) (listed:Array Bool) (a:Act) (w:World),wpAnyL P md ops Q S fuel listed a w -> wpAny P md ops Q fuel listed a w
 | 0,_,_,_,h=>h
 | fuel+1,_,_,_,h=>⟨h.1,fun i hi=>wpOp_mono (fun a' w' h'=>wpAny_of_last fuel _ a' w' h'.2) (h.2 i hi)⟩
theorem wpAnyL_first {i:Nat} {oi:Oper} {v:Value} (hi:ops[i]?=some oi) (hp:pureOp oi=false) (hsel:∀ (j:Nat) (o:Oper) cs b,ops[j]?=some o -> o.op ≠ .select cs b)
  (hQ:∀ c a w,Q (.panic c) (a.put oi.dst v) w -> Q (.panic c) a w):
  ∀ (fuel:Nat) (listed:Array Bool) (a:Act) (w:World),
   (∀ j oj,ops[j]?=some oj -> j ≠ i -> listed.getD j true=false -> (∀ e ∈ oj.after,Region.binds md e=true -> e.on ≠ i) -> oi.apart ops oj=true) →
   i ∈ Region.ready md ops listed -> YieldsIf P ops S oi v a -> S w →
   wpAnyL P md ops Q S fuel (listed.setIfInBounds i true) (a.put oi.dst v) w -> wpAnyL P md ops Q S (fuel+1) listed a w:=by
 intro fuel
 induction fuel with
 | zero=>
  intro listed a w _ hr hy hS H
  refine ⟨fun h=>(by rw [h] at hr;cases hr),fun j hj=>?_⟩
  by_cases hji:j=i
  ·subst hji;exact hy.wpOp hi hS ⟨.inr,H⟩
  ·have:=ready_mono hj hji
   rw [H.1] at this
   cases this
 | succ fuel ih=>
  intro listed a w hfree hr hy hS H
  refine ⟨fun h=>(by rw [h] at hr;cases hr),fun j hj=>?_⟩
  by_cases hji:j=i
  ·subst hji;exact hy.wpOp hi hS ⟨.inr,H⟩
  ·have h1:=H.2 j (ready_mono hj hji)
   obtain ⟨hjun,oj,hoj,hall⟩:=mem_ready.1 hj
   have hnot:∀ e ∈ oj.after,Region.binds md e=true -> e.on ≠ i:=fun e he hb heq=>by
    have h1:=hall e he hb
    have h0:=(mem_ready.1 hr).1
    rw [heq] at h1
    rcases Nat.lt_or_ge i listed.size with h' | h'
    ·simp [h'] at h0 h1;rw [h0] at h1;cases h1
    ·simp [Array.getElem?_eq_none h'] at h1
   have hnl:∀ w':World,(S w -> lastOp md ops j=true \/ S w') -> S w':=fun w' h=>by
    rcases h hS with h | h
    ·obtain ⟨e,he,hb,ho⟩:=lastOp_spec h hoj hi hp hji
     exact absurd ho (hnot e he hb)
    ·exact h
   have h2:=wpOp_putIf hoj (hfree j oj hoj hji hjun hnot) (fun cs b=>hsel i oi cs b hi) (fun cs b=>hsel j oj cs b hoj) hQ hy h1
   have hfree':∀ k ok,ops[k]?=some ok -> k ≠ i -> (listed.setIfInBounds j true).getD k true=false →
     (∀ e ∈ ok.after,Region.binds md e=true -> e.on ≠ i) -> oi.apart ops ok=true:=fun k ok hk hki hun hno=>by
    refine hfree k ok hk hki ?_ hno
    by_cases hjk:j=k
    ·subst hjk;exact hjun
    ·rw [getD_set_ne true hjk] at hun;exact hun
   refine wpOp_mono (fun a' w' h3=>⟨fun _=>.inr (hnl w' h3.2.1),ih (listed.setIfInBounds j true) a' w' hfree' (ready_mono hr (Ne.symm hji)) h3.1 (hnl w' h3.2.1) ?_⟩) h2
   rw [Array.setIfInBounds_comm _ _ hji]
   exact h3.2.2
theorem wpAnyL_firstP {i:Nat} {oi:Oper} {v:Value} (hi:ops[i]?=some oi) (hsel:∀ (j:Nat) (o:Oper) cs b,ops[j]?=some o -> o.op ≠ .select cs b)
  (hQ:∀ c a w,Q (.panic c) (a.put oi.dst v) w -> Q (.panic c) a w):
  ∀ (fuel:Nat) (listed:Array Bool) (a:Act) (w:World),
   (∀ j oj,ops[j]?=some oj -> j ≠ i -> listed.getD j true=false -> (∀ e ∈ oj.after,Region.binds md e=true -> e.on ≠ i) -> oi.apart ops oj=true) →
   i ∈ Region.ready md ops listed -> YieldsIf P ops (fun _=>True) oi v a →
   wpAnyL P md ops Q S fuel (listed.setIfInBounds i true) (a.put oi.dst v) w -> wpAnyL P md ops Q S (fuel+1) listed a w:=by
 intro fuel
 induction fuel with
 | zero=>
  intro listed a w _ hr hy H
  refine ⟨fun h=>(by rw [h] at hr;cases hr),fun j hj=>?_⟩
  by_cases hji:j=i
  ·subst hji;exact hy.wpOp hi trivial ⟨.inr,H⟩
  ·have:=ready_mono hj hji
   rw [H.1] at this
   cases this
 | succ fuel ih=>
  intro listed a w hfree hr hy H
  refine ⟨fun h=>(by rw [h] at hr;cases hr),fun j hj=>?_⟩
  by_cases hji:j=i
  ·subst hji;exact hy.wpOp hi trivial ⟨.inr,H⟩
  ·have h1:=H.2 j (ready_mono hj hji)
   obtain ⟨hjun,oj,hoj,hall⟩:=mem_ready.1 hj
   have hnot:∀ e ∈ oj.after,Region.binds md e=true -> e.on ≠ i:=fun e he hb heq=>by
    have h1:=hall e he hb
    have h0:=(mem_ready.1 hr).1
    rw [heq] at h1
    rcases Nat.lt_or_ge i listed.size with h' | h'
    ·simp [h'] at h0 h1;rw [h0] at h1;cases h1
    ·simp [Array.getElem?_eq_none h'] at h1
   have h2:=wpOp_putIf hoj (hfree j oj hoj hji hjun hnot) (fun cs b=>hsel i oi cs b hi) (fun cs b=>hsel j oj cs b hoj) hQ hy h1
   have hfree':∀ k ok,ops[k]?=some ok -> k ≠ i -> (listed.setIfInBounds j true).getD k true=false →
     (∀ e ∈ ok.after,Region.binds md e=true -> e.on ≠ i) -> oi.apart ops ok=true:=fun k ok hk hki hun hno=>by
    refine hfree k ok hk hki ?_ hno
    by_cases hjk:j=k
    ·subst hjk;exact hjun
    ·rw [getD_set_ne true hjk] at hun;exact hun
   refine wpOp_mono (fun a' w' h3=>⟨h3.2.1,ih (listed.setIfInBounds j true) a' w' hfree' (ready_mono hr (Ne.symm hji)) h3.1 ?_⟩) h2
   rw [Array.setIfInBounds_comm _ _ hji]
   exact h3.2.2
theorem wpAnyL_take {i:Nat} {oi:Oper} {v:Value} {fuel:Nat} {listed:Array Bool} {a:Act} {w:World} (hi:ops[i]?=some oi)
  (hs:Region.noSelect ops=true) (hf:Region.free md ops listed i=true) (hr:(Region.ready md ops listed).contains i=true)
  (hQ:∀ c a w,Q (.panic c) (a.put oi.dst v) w -> Q (.panic c) a w) (hy:YieldsIf P ops (fun _=>True) oi v a \/ (pureOp oi=false/\YieldsIf P ops S oi v a/\S w))
  (h:wpAnyL P md ops Q S fuel (listed.setIfInBounds i true) (a.put oi.dst v) w):wpAnyL P md ops Q S (fuel+1) listed a w:=
by
 rcases hy with hy | ⟨hp,hy,hS⟩
 ·exact wpAnyL_firstP hi (Region.noSelect_spec hs) hQ fuel listed a w (Region.free_spec hi hf) (by simpa using hr) hy h
 ·exact wpAnyL_first hi hp (Region.noSelect_spec hs) hQ fuel listed a w (Region.free_spec hi hf) (by simpa using hr) hy hS h
theorem wpAnyL_all {rs:List Nat} {fuel:Nat} {listed:Array Bool} {a:Act} {w:World} (hr:Region.ready md ops listed=rs) (hne:rs ≠ [])
  (h:∀ i ∈ rs,wpOp P ops Q i (fun a' w'=>(S w -> lastOp md ops i=true \/ S w')/\wpAnyL P md ops Q S fuel (listed.setIfInBounds i true) a' w') a w):wpAnyL P md ops Q S (fuel+1) listed a w:=
 ⟨fun h0=>absurd (hr ▸ h0) hne,hr ▸ h⟩
theorem wpAnyL_done {listed:Array Bool} {a:Act} {w:World} (hr:Region.ready md ops listed=[]) (h:Q .normal a w):
  ∀ fuel,wpAnyL P md ops Q S fuel listed a w
 | 0=>⟨hr,h⟩
 | _+1=>⟨fun _=>h,by rw [hr];simp⟩
end
def schedOkL (md:Region.Mode) (ops:Array Oper):List (Nat × Bool) -> Array Bool -> Bool
 | [],listed=>(Region.ready md ops listed).isEmpty
 | (i,true)::r,listed=>(Region.ready md ops listed).contains i && Region.free md ops listed i && schedOkL md ops r (listed.setIfInBounds i true)
 | (i,false)::r,listed=>Region.ready md ops listed==[i] && (!r.isEmpty || lastOp md ops i) && schedOkL md ops r (listed.setIfInBounds i true)
section
variable {P:Program} {ops:Array Oper} {C:World -> Prop} {Q:Exit -> Act -> World -> Prop}
def wpT (P:Program) (ops:Array Oper) (C:World -> Prop) (Q:Exit -> Act -> World -> Prop):List (Oper × Bool) -> Act -> World -> Prop
 | [],a,w=>Q .normal a w
 | (o,true)::r,a,w=>∃ v,(YieldsIf P ops (fun _=>True) o v a \/ (pureOp o=false/\YieldsIf P ops C o v a))/\wpT P ops C Q r (a.put o.dst v) w
 | (o,false)::r,a,w=>
  if Region.wanted o (yielded ops a.tmps)=true then o.wp P a w (fun a' w'=>(r=[] \/ C w')/\wpT P ops C Q r a' w') Q else wpT P ops C Q r (a.put o.dst undef) w
theorem wpT_sound {md:Region.Mode} {l:List Oper} (hno:Region.noSelect l.toArray=true) (hQ:∀ c a d v w,Q (.panic c) (Act.put a d v) w -> Q (.panic c) a w):
  ∀ (sch:List (Nat × Bool)) (fuel:Nat) (listed:Array Bool) (a:Act) (w:World),sch.length<=fuel -> schedOkL md l.toArray sch listed=true -> C w →
   wpT P l.toArray C Q (schedOps l sch) a w -> wpAnyL P md l.toArray Q C fuel listed a w
 | [],fuel,listed,a,w,_,hok,hC,h=>by
  simp only [schedOkL,List.isEmpty_iff] at hok
  exact wpAnyL_done hok h fuel
 | (i,true)::r,0,listed,a,w,hf,hok,hC,h=>by simp at hf
 | (i,false)::r,0,listed,a,w,hf,hok,hC,h=>by simp at hf
 | (i,true)::r,fuel+1,listed,a,w,hf,hok,hC,h=>by
  simp only [schedOkL,Bool.and_eq_true] at hok
  obtain ⟨⟨hr,hfree⟩,hok⟩:=hok
  obtain ⟨v,hy,h⟩:=h
  have hi:l.toArray[i]?=some (l.getD i default):=by
   have hm:i ∈ Region.ready md l.toArray listed:=by simpa using hr
   have:i < l.length:=by
    simp only [Region.ready,List.mem_filter,List.mem_range] at hm
    simpa using hm.1
   simp [List.getD,this]
  exact wpAnyL_take hi hno hfree hr (fun c a w h=>hQ c a _ v w h) (hy.imp id (fun h=>⟨h.1,h.2,hC⟩)) (wpT_sound hno hQ r fuel _ _ _ (by simpa using hf) hok hC h)
 | (i,false)::r,fuel+1,listed,a,w,hf,hok,hC,h=>by
  simp only [schedOkL,Bool.and_eq_true,beq_iff_eq] at hok
  obtain ⟨⟨hr,hlast⟩,hok⟩:=hok
  refine wpAnyL_all hr (by simp) ?_
  intro j hj
  simp at hj
  subst hj
  have hi:l.toArray[j]?=some (l.getD j default):=by
   have hm:j ∈ Region.ready md l.toArray listed:=by rw [hr];simp
   have:j < l.length:=by
    simp only [Region.ready,List.mem_filter,List.mem_range] at hm
    simpa using hm.1
   simp [List.getD,this]
  unfold wpOp
  simp only [hi]
  simp only [schedOps,List.map_cons,wpT] at h
  by_cases hw:Region.wanted (l.getD j default) (yielded l.toArray a.tmps)=true
  ·rw [if_pos hw] at h ⊢
   refine .inl (Oper.wp_mono (fun a' w' ⟨hC',h'⟩=>⟨fun _=>hC'.imp (fun h0=>by cases r with | nil=>simpa using hlast | cons x r=>simp at h0) id,?_⟩) h)
   cases r with
   | nil=>exact wpAnyL_done (by simpa [schedOkL,List.isEmpty_iff] using hok) h' fuel
   | cons x r=>exact wpT_sound hno hQ (x::r) fuel _ _ _ (by simpa using hf) hok (hC'.resolve_left (by simp)) h'
  ·rw [if_neg hw] at h ⊢
   exact ⟨.inr,wpT_sound hno hQ r fuel _ _ _ (by simpa using hf) hok hC h⟩
theorem wp_region_schedE {id:Nat} {l:List Oper} {a:Act} {w:World} (C:World -> Prop) (sch:List (Nat × Bool)) (hm:P.follows .mixedOrders=true)
  (hno:Region.noSelect l.toArray=true) (hok:schedOkL .any l.toArray sch (Array.replicate l.length false)=true) (hlen:sch.length<=l.length)
  (hC:C w.drew) (h:wpT P l.toArray C (NoPanic Q) (schedOps l sch) a w.drew):(Code.region id l.toArray true).wp P Q a w:=by
 refine wp_region_noPanic (wp_region_any hm (wpAny_of_last (S:=C) _ _ _ _ ?_))
 have:=wpT_sound (md:=.any) hno (fun _ _ _ _ _ h=>h) sch l.length (Array.replicate l.length false) a w.drew hlen hok hC h
 exact this
theorem wpT_q {o:Oper} {r:List (Oper × Bool)} {a:Act} {w:World} (hp:pureOp o=false) (hg:Region.wanted o (yielded ops a.tmps)=true) (v:Value) (h1:∀ w',C w' -> (execOp a.eval o).run P w'=.ok (.value v) w')
  (h2:wpT P ops C Q r (a.put o.dst v) w):wpT P ops C Q ((o,true)::r) a w:=⟨v,.inr ⟨hp,.inl ⟨hg,h1⟩⟩,h2⟩
theorem wpT_p {o:Oper} {r:List (Oper × Bool)} {a:Act} {w:World} (_hp:pureOp o=true) (hg:Region.wanted o (yielded ops a.tmps)=true) (v:Value) (h1:∀ w',True -> (execOp a.eval o).run P w'=.ok (.value v) w')
  (h2:wpT P ops C Q r (a.put o.dst v) w):wpT P ops C Q ((o,true)::r) a w:=⟨v,.inl (.inl ⟨hg,h1⟩),h2⟩
theorem wpT_c {o:Oper} {r:List (Oper × Bool)} {a:Act} {w:World} (hg:Region.wanted o (yielded ops a.tmps)=true)
  (h:∀ K:Act -> World -> Prop,Hid (∀ a' w',C w' -> wpT P ops C Q r a' w' -> K a' w') -> o.wp P a w K Q):wpT P ops C Q ((o,false)::r) a w:=by
 simp only [wpT,hg,if_true]
 exact h _ (fun a' w' h1 h2=>⟨.inr h1,h2⟩)
theorem wpT_e {o:Oper} {a:Act} {w:World} (hg:Region.wanted o (yielded ops a.tmps)=true)
  (h:∀ K:Act -> World -> Prop,Hid (∀ a' w',Q .normal a' w' -> K a' w') -> o.wp P a w K (NoPanic Q)):wpT P ops C (NoPanic Q) [(o,false)] a w:=by
 simp only [wpT,hg,if_true]
 exact h _ (fun a' w' h1=>⟨.inl trivial,h1⟩)
end
end Cdk
namespace Go.Proofs.YtcopgcdhkgenkaaGreatDoor
open Go.RowKit Cdk Scr
theorem cell_of' {w:World} {b:Nat} {cs:Array Value} {t:TypeId} {fr:Nat × Nat} (h:w.heap[b]?=some (.cells cs t fr)) (j:Nat):w.cell? ⟨b,j,none⟩=cs[j]?:=by
 simp [World.cell?,h]
theorem free_of' {w:World} {b:Nat} {cs:Array Value} {t:TypeId} (h:w.heap[b]?=some (.cells cs t (0,0))) (j:Nat):w.frozen? ⟨b,j,none⟩=false:=by
 unfold World.frozen?;simp [h]
open Go.Shelf Go.RowKit Cdk Scr
abbrev bldT:TypeId:=165
abbrev u8T:TypeId:=5
def Bld (B b:Nat) (tx:Bs) (w:World):Prop:=Lib.IsBuilder bldT u8T B b (Lib.byteCells tx) w
def KeepB (B b:Nat) (w w':World):Prop:=Mod (fun k=>B<=k) w w'/\∀ k o,w.heap[k]?=some o -> (∀ cs fr,o ≠ .cells cs u8T fr) -> k ≠ b -> w'.heap[k]?=some o
theorem KeepB.refl (B b:Nat) (w:World):KeepB B b w w:=⟨Mod.refl _ w,fun _ _ h _ _=>h⟩
theorem KeepB.ofExt {B b:Nat} {w w':World} (h:Ext w w'):KeepB B b w w':=⟨h.mono (fun _ h=>h.elim),fun k o hk _ _=>h.at hk (fun h=>h)⟩
theorem KeepB.trans {B b:Nat} {w w' w'':World} (h:KeepB B b w w') (k:KeepB B b w' w''):KeepB B b w w'':=
 ⟨h.1.trans k.1,fun j o hj ho hb=>k.2 j o (h.2 j o hj ho hb) ho hb⟩
theorem KeepB.ext {B b:Nat} {w w' w'':World} (h:KeepB B b w w') (k:Ext w' w''):KeepB B b w w'':=h.trans (.ofExt k)
theorem KeepB.pre {B b:Nat} {w w' w'':World} (h:Ext w w') (k:KeepB B b w' w''):KeepB B b w w'':=(KeepB.ofExt h).trans k
theorem KeepB.setCell {B b:Nat} {w:World} (hb:B<=b) (j:Nat) (u:Value):KeepB B b w (w.setCell ⟨b,j,none⟩ u):=
 ⟨(Mod.refl _ w).setCell (fun _=>hb) u,fun k o hk _ hne=>by rw [Below.heap_setCell w ⟨b,j,none⟩ u k hne];exact hk⟩
theorem KeepB.grown {B b:Nat} {w w':World} {v:Value} {n:Nat} {xs:List Value} (hown:w.ownsRow B u8T 1 v n xs) (hg:w.grownBy w' v.ownBlock):KeepB B b w w':=by
 refine ⟨Mod.ofGrown hg (fun k hk=>(hown.lt k hk).1),fun k o hk ho _=>?_⟩
 rw [hg.block k (lt_of_at hk) (fun e=>?_)]
 ·exact hk
 ·rcases hown.2 with ⟨rfl,_⟩ | ⟨g,cap,cur,rfl,_,h1,_⟩
  ·simp [Value.ownBlock] at e
  ·simp [Value.ownBlock] at e
   subst e
   rw [h1] at hk
   exact ho _ _ (Option.some.inj hk).symm
theorem Bld.lt {B b:Nat} {tx:Bs} {w:World} (h:Bld B b tx w):B<=b/\b < w.heap.size:=by
 rcases h with h | h
 ·exact ⟨h.1,h.lt⟩
 ·exact ⟨h.1,h.lt⟩
theorem Bld.fresh (w:World):Bld w.heap.size w.heap.size [] (w.alloc (.cells #[.pointer none,.slice none 0 0] bldT)):=Lib.fresh_isBuilder bldT u8T w
theorem Bld.ext {B b:Nat} {tx:Bs} {w w':World} (h:Bld B b tx w) (hx:Ext w w'):Bld B b tx w':=by
 have aux:∀ p,Lib.BuilderAt bldT u8T B b p (Lib.byteCells tx) w -> Lib.BuilderAt bldT u8T B b p (Lib.byteCells tx) w':=by
  rintro p ⟨hB,v,hb,hown,hne⟩
  exact ⟨hB,v,hx.at hb (fun h=>h),hown.kept (row:=none) ⟨hx.os,hx.tape,hx.output,hx.size,fun k hk _=>hx.block k hk (fun h=>h)⟩ (Classical.em _),hne⟩
 exact h.imp (aux _) (aux _)
theorem bsize:(Tryz.prog.info? bldT).map (·.size)=some 2:=by kernel_rfl
theorem blies:liesAt Tryz.prog Tryz.prog.depth bldT (2 / Tryz.prog.cellsOf bldT) 0 bldT 1=true:=by kernel_rfl
theorem binfo:(Tryz.prog.info? u8T).map (fun i=>(i.zero,i.size,i.bytes))=some (some (.int .u8 0),1,1):=by kernel_rfl
theorem enters_check:∀ args w,(callFunc 194 args).run Tryz.prog w=.ok (.enter 194 args) w:=enters_of Tryz.func194 (by kernel_rfl) rfl
theorem check_used (b:Nat) (w:World) (h0:w.cell? ⟨b,0,none⟩=some (.pointer (some ⟨b,0,none⟩))):
  Calls Tryz.prog 194 #[.pointer (some ⟨b,0,none⟩)] w fun e w'=>e=.returned (.tuple #[])/\w'=w:=by
 obtain ⟨j,hj,_⟩:=Option.map_eq_some_iff.1 bsize
 go_enter Tryz.func194,Tryz.ntmps194
 go_wp2
 rw [Lib.run_neq_ptr_same w _ Tryz.underlying163 hj]
 go_wp2
 go_end0
 exact ⟨rfl,rfl⟩
theorem check_fresh (b:Nat) (w:World) (h0:w.cell? ⟨b,0,none⟩=some (.pointer none)) (hsh:w.shape? b=some (bldT,2)) (hfz:w.frozen? ⟨b,0,none⟩=false):
  Calls Tryz.prog 194 #[.pointer (some ⟨b,0,none⟩)] w fun e w'=>e=.returned (.tuple #[])/\w'=w.setCell ⟨b,0,none⟩ (.pointer (some ⟨b,0,none⟩)):=by
 obtain ⟨j,hj,hjs⟩:=Option.map_eq_some_iff.1 bsize
 go_enter Tryz.func194,Tryz.ntmps194
 go_wp2
 rw [Lib.run_to_unsafe w ⟨b,0,none⟩ Tryz.underlying163 Tryz.underlying180 hj (by rw [hjs];decide) hsh (Nat.zero_lt_succ 1)]
 simp only [Result.andThen]
 rw [Oper.upon_value]
 go_wp2
 rw [run_callFunc_extern Tryz.func265 (by kernel_rfl) (by kernel_rfl) (by kernel_rfl) (e:=Extern.AbiNoEscape.same) (by kernel_rfl)]
 rw [Lib.run_noEscape]
 simp only [Result.andThen]
 rw [Oper.upon_value]
 go_wp2
 rw [Lib.run_from_unsafe w ⟨b,0,none⟩ Tryz.underlying180 Tryz.underlying163 hj hsh blies]
 simp only [Result.andThen]
 rw [Oper.upon_value]
 go_wp2
 go_end0
 exact ⟨rfl,rfl⟩
theorem check_any (B b:Nat) (tx:Bs) (w:World) (h:Bld B b tx w):
  Calls Tryz.prog 194 #[.pointer (some ⟨b,0,none⟩)] w fun e w'=>e=.returned (.tuple #[])/\Lib.BuilderAt bldT u8T B b (.pointer (some ⟨b,0,none⟩)) (Lib.byteCells tx) w'/\KeepB B b w w':=by
 rcases h with h | h
 ·refine (check_fresh b w h.cell0 h.shape h.frozen0).mono ?_
  rintro e w' ⟨rfl,rfl⟩
  exact ⟨rfl,h.used _,KeepB.setCell h.1 0 _⟩
 ·refine (check_used b w h.cell0).mono ?_
  rintro e w' ⟨rfl,rfl⟩
  exact ⟨rfl,h,KeepB.refl _ _ _⟩
theorem putStr_any (B b:Nat) (tx:Bs) (s:ByteArray) (w:World) (h:Bld B b tx w) (hlen:tx.length+s.size<=140737488355328):
  Calls Tryz.prog 130 #[.pointer (some ⟨b,0,none⟩),.string s] w fun e w'=>e=.returned (.tuple #[.int .i64 s.size,.nilIface])/\Bld B b (tx++s.data.toList) w'/\KeepB B b w w':=by
 obtain ⟨i0,hi,hz0,hz1,hz2⟩:=info_parts binfo
 have hBw:B<=w.heap.size:=by have:=h.lt;omega
 have e240:=enters_check
 go_enter Tryz.func130,Tryz.ntmps130
 go_wp2_with (go_at_fn 194;refine (check_any B b tx _ h).mono ?_)
 rintro e w1 ⟨rfl,h1,hb1⟩
 obtain ⟨hB,v,hbk,hown,hne⟩:=h1
 have c0:w1.cell? ⟨b,0,none⟩=some (.pointer (some ⟨b,0,none⟩)):=by rw [Lib.cell_of_heap hbk];rfl
 have c1:w1.cell? ⟨b,1,none⟩=some v:=by rw [Lib.cell_of_heap hbk];rfl
 have hlb:=hid (Lib.byteCells_length tx)
 go_wp2_with (at_builtin;refine Lib.wpList_append_own_string _ rfl _ _ 38 9 rfl B u8T i0 Tryz.underlying38 Tryz.underlying9 hi hz0 hz1 hz2 _ _ _ rfl hown s rfl ?c3 ?c4 ?c5 ?_)
 case c3=>have:=hlb.out;unfold maxLen;omega
 case c4=>have:=hlb.out;omega
 case c5=>have:=hb1.1.size;omega
 intro v' w2 hown' hgrow _
 have hlt:b < w1.heap.size:=lt_of_at hbk
 have hb2:w2.heap[b]?=some (.cells #[.pointer (some ⟨b,0,none⟩),v] bldT (0,0)):=by
  rw [hgrow.block b hlt (fun e=>hne e.symm)]
  exact hbk
 have d0:w2.cell? ⟨b,0,none⟩=some (.pointer (some ⟨b,0,none⟩)):=by rw [Lib.cell_of_heap hb2];rfl
 have d1:w2.cell? ⟨b,1,none⟩=some v:=by rw [Lib.cell_of_heap hb2];rfl
 have f1:w2.frozen? ⟨b,1,none⟩=false:=Lib.frozen_of_heap hb2 1
 obtain ⟨ao,n',cap,rfl⟩:∃ ao n' cap,v'=.slice ao n' cap:=by
  rcases hown'.2 with ⟨hv,_⟩ | ⟨g,cap,cur,hv,_⟩
  ·exact ⟨_,_,_,hv⟩
  ·exact ⟨_,_,_,hv⟩
 go_wp2
 go_ret2
 refine ⟨rfl,.inr ?_,(hb1.trans (KeepB.grown hown hgrow)).trans (KeepB.setCell hB 1 _)⟩
 have e1:Lib.byteCells (tx++s.data.toList)=Lib.byteCells tx++Lib.strCells s:=by simp [Lib.byteCells,Lib.strCells]
 rw [e1]
 exact Lib.BuilderAt.put (T:=bldT) (e:=u8T) hB hb2 (bs':=Lib.byteCells tx++Lib.strCells s) (by simpa [Lib.strCells_length] using hown') (by decide)
end Go.Proofs.YtcopgcdhkgenkaaGreatDoor
