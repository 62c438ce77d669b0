import Derived.Test.YtjjfphalcibjfaaGreatDoorMaps
import Derived.Laws.AppendOwnNone
namespace Cdk
open Go Go.RowKit
set_option linter.unusedSectionVars false
section
variable {K:Type} [DecidableEq K]
variable {P:Program} {kt:TypeId} {mk:K -> Value} {w w':World} {m r:Nat} {d:List (K × Value)}
def zf4 (w:World) (mk:K -> Value) (m r:Nat) (d:List (K × Value)) (seen:List K):Prop:=
 ∃ es clock sn,w.heap[m]?=some (.map es clock)/\zbG mk es clock d/\w.heap[r]?=some (.mapIter (some m) clock sn clock)/\r ≠ m ∧
  (∀ e ∈ es.toList,∀ k,e.key=mk k -> (e.born ∈ sn.toList ↔ k ∈ seen)) ∧
  (∀ k s,seen=k::s -> ∀ v,(k,v) ∈ d -> ∃ b,sn.back?=some b/\∃ e ∈ es.toList,e.born=b/\e.key=mk k/\e.val=v)
theorem zf4.mod {S:Nat -> Prop} {seen:List K} (h:zf4 w mk m r d seen) (hm:Mod S w w') (hs:¬ S m) (hr:¬ S r):zf4 w' mk m r d seen:=by
 obtain ⟨es,c,sn,h1,h2,h3,h4,h5⟩:=h;exact ⟨es,c,sn,hm.at h1 hs,h2,hm.at h3 hr,h4,h5⟩
theorem zf4.lt {seen:List K} (h:zf4 w mk m r d seen):r < w.heap.size/\m < w.heap.size/\r ≠ m:=by
 obtain ⟨es,c,sn,h1,h2,h3,h4,_⟩:=h;exact ⟨zat h3,zat h1,h4⟩
end
def zaR (w:World) (ao:Option Addr) (cs:List Value):Prop:=
 ∀ j u,cs[j]?=some u -> ∃ b off,ao=some ⟨b,off,none⟩/\w.cell? ⟨b,off+j,none⟩=some u
theorem zaR.nil (w:World) (ao:Option Addr):zaR w ao []:=fun j u h=>by simp at h
theorem zaR.at {w:World} {ao:Option Addr} {cs:List Value} (h:zaR w ao cs) (hpos:0 < cs.length):∃ b off,ao=some ⟨b,off,none⟩/\∀ j u,cs[j]?=some u -> w.cell? ⟨b,off+j,none⟩=some u:=by
 obtain ⟨b,off,rfl,_⟩:=h 0 cs[0] (List.getElem?_eq_getElem hpos);refine ⟨b,off,rfl,fun j u hu=>?_⟩;obtain ⟨b',off',he,hc⟩:=h j u hu;simp only [Option.some.injEq,Addr.mk.injEq,and_true] at he;rw [he.1,he.2];exact hc
theorem zaR.mod {S:Nat -> Prop} {w w':World} {ao:Option Addr} {cs:List Value} (h:zaR w ao cs) (hm:Mod S w w') (hs:∀ b off,ao=some ⟨b,off,none⟩ -> ¬ S b):zaR w' ao cs:=by
 intro j u hu;obtain ⟨b,off,he,hc⟩:=h j u hu;exact ⟨b,off,he,hm.cell hc (hs b off he)⟩
theorem zaR.ext {w w':World} {ao:Option Addr} {cs:List Value} (h:zaR w ao cs) (hm:Ext w w'):zaR w' ao cs:=h.mod hm (fun _ _ _ h=>h)
theorem zaR.new (w:World) (cs:List Value) (e:TypeId):zaR (w.alloc (.cells cs.toArray e)) (some ⟨w.heap.size,0,none⟩) cs:=by
 intro j u hu;refine ⟨w.heap.size,0,rfl,?_⟩;have:(w.alloc (.cells cs.toArray e)).heap[w.heap.size]?=some (.cells cs.toArray e):=heap_alloc_new w _;unfold World.cell?;simp only [this];simpa using hu
theorem flat_get {α:Type} (f:α -> List Value) (size:Nat) (hf:∀ x,(f x).length=size):∀ (xs:List α) (i j:Nat) (x:α),xs[i]?=some x -> j < size -> (xs.flatMap f)[i*size+j]?=(f x)[j]?
 | [],_,_,_,h,_=>by simp at h
 | y::xs,0,j,x,h,hj=>by
  simp at h;subst h;simp only [List.flatMap_cons,Nat.zero_mul,Nat.zero_add];rw [List.getElem?_append_left (by rw [hf];exact hj)]
 | y::xs,i+1,j,x,h,hj=>by
  simp only [List.getElem?_cons_succ] at h;simp only [List.flatMap_cons];rw [List.getElem?_append_right (by rw [hf,Nat.add_mul];omega),hf];rw [show (i+1)*size+j - size=i*size+j from by rw [Nat.add_mul];omega];exact flat_get f size hf xs i j x h hj
theorem flat_length {α:Type} (f:α -> List Value) (size:Nat) (hf:∀ x,(f x).length=size) (xs:List α):(xs.flatMap f).length=xs.length*size:=by
 induction xs with
 | nil=>simp
 | cons x xs ih=>simp [ih,hf,Nat.add_mul];omega
set_option linter.unusedSectionVars false
section
variable {K:Type} [DecidableEq K] {P:Program} {kt:TypeId} {mk:K -> Value} {ops:Array Oper} {rest:List Oper} {o:Oper} {a:Act} {Q:Exit -> Act -> World -> Prop} {w:World} {mb r:Nat} {d:List (K × Value)} {seen:List K}
end
structure El (P:Program) (e:TypeId) (z:Value) (size bytes:Nat):Prop where
 row:(P.info? e).map (fun i=>(i.zero,i.size,i.bytes))=some (some z,size,bytes)
 cells:z.cells.size=size
 pos:0 < size
 small:bytes<=1024
section
variable {α:Type} {P:Program} {f:α -> List Value} {base:Nat} {e:TypeId} {z:Value} {size bytes:Nat} {w w':World} {v:Value} {xs:List α}
def Own (w:World) (base:Nat) (e:TypeId) (size:Nat) (f:α -> List Value) (v:Value) (xs:List α):Prop:=w.ownsRow base e size v xs.length (xs.flatMap f)
theorem Own.nil (w:World) (base:Nat) (e:TypeId) (size:Nat) (f:α -> List Value):Own w base e size f (.slice none 0 0) []:=World.ownsRow_nil w base e size
theorem Own.empty {w:World} {base:Nat} {e:TypeId} {size:Nat} (f:α -> List Value) (h:base<=w.heap.size):Own (w.alloc (.cells #[] e)) base e size f (.slice (some ⟨w.heap.size,0,none⟩) 0 0) []:=
 World.ownsRow_made w #[] 0 h (Nat.zero_le _) (by simp)
theorem Own.weaken {base':Nat} (h:Own w base e size f v xs) (hb:base'<=base):Own w base' e size f v xs:=by
 refine ⟨h.1,?_⟩;rcases h.2 with h2 | ⟨g,cap,cur,rfl,h3,h4⟩
 ·exact .inl h2
 ·exact .inr ⟨g,cap,cur,rfl,Nat.le_trans hb h3,h4⟩
theorem Own.mod {S:Nat -> Prop} (h:Own w base e size f v xs) (hm:Mod S w w') (hs:∀ k,v.ownBlock=some k -> ¬ S k):Own w' base e size f v xs:=by
 refine ⟨h.1,?_⟩;rcases h.2 with h2 | ⟨g,cap,cur,rfl,h3,h4,h5⟩
 ·exact .inl h2
 ·exact .inr ⟨g,cap,cur,rfl,h3,hm.at h4 (hs g rfl),h5⟩
theorem Own.ext (h:Own w base e size f v xs) (hm:Ext w w'):Own w' base e size f v xs:=h.mod hm (fun _ _ h=>h)
theorem Own.block (h:Own w base e size f v xs):∀ k,v.ownBlock=some k -> base<=k/\k < w.heap.size:=World.ownsRow.lt h
theorem Own.row (h:Own w base e size f v xs):∃ ao cap,v=.slice ao xs.length cap/\zaR w ao (xs.flatMap f)/\∀ b off,ao=some ⟨b,off,none⟩ -> v.ownBlock=some b:=by
 rcases h.2 with ⟨rfl,hn⟩ | ⟨g,cap,cur,rfl,hb,hg,hle,hcm,hcs,ht⟩
 ·have:xs=[]:=List.eq_nil_of_length_eq_zero hn
  subst this;exact ⟨none,0,rfl,zaR.nil _ _,by simp⟩
 ·refine ⟨some ⟨g,0,none⟩,cap,rfl,?_,?_⟩
  ·intro j u hu
   refine ⟨g,0,rfl,?_⟩;have:=World.ownsRow.cells h (g:=g) rfl j u hu;rw [Addr.add_lit] at this;exact this
  ·intro b off he
   simp at he;simp [Value.ownBlock,he.1]
theorem Own.cells (h:Own w base e size f v xs) {k:Nat} (hk:v.ownBlock=some k):∃ c,w.heap[k]?=some (.cells c e (0,0)):=by
 rcases h.2 with ⟨rfl,_⟩ | ⟨g,cap,cur,rfl,_,hg,_⟩
 ·simp [Value.ownBlock] at hk
 ·simp [Value.ownBlock] at hk;subst hk;exact ⟨cur,hg⟩
theorem zem {o:Oper} {a:Act} {K:Act -> World -> Prop} {Q:Exit -> Act -> World -> Prop} (s x:Operand) (t:TypeId)
  (ho:o.op=.call { callee:=.builtin .append,args:=#[s,x],argTypes:=#[t,t] }) (ht:P.underlying t=some (.slice e)) (el:El P e z size bytes)
  (hs:a.eval s=v) (hown:Own w base e size f v xs) (ao:Option Addr) (m c:Nat) (hx:a.eval x=.slice ao m c) (ys:List α) (hm:ys.length=m) (hrow:zaR w ao (ys.flatMap f))
  (hf:∀ y,(f y).length=size) (h1:∀ y ∈ ys,∀ u ∈ f y,u.oneCell'=true) (hlen:xs.length+ys.length<=137438953472) (hbase:base<=w.heap.size) (hc:ao=none -> c=0)
  (hK:∀ v' w',Hid (Own w' base e size f v' (xs++ys)/\Mod (fun k=>v.ownBlock=some k) w w') -> K (a.put o.dst v') w'):o.wp P a w K Q:=by
 obtain ⟨i0,hi,hz0,hz1,hz2⟩:=info_parts el.row;have hflat:=fun l:List α=>flat_length f size hf l
 cases ao with
 | some ad=>
  have hcells:∀ j u,(ys.flatMap f)[j]?=some u -> w.cell? (ad.add j)=some u:=by
   intro j u hu;obtain ⟨b,off,he,hcc⟩:=hrow j u hu;simp only [Option.some.injEq] at he;subst he;rw [Addr.add_lit];exact hcc
  have hb:(xs.length+m)*bytes<=140737488355328:=by
   have h1:=el.small;have:(xs.length+m)*bytes<=137438953472*1024:=Nat.mul_le_mul (by omega) h1;omega
  refine wp_append_own w s x t ho base e i0 z size bytes ht hi hz0 hz1 hz2 el.cells el.pos v xs.length (xs.flatMap f) hs hown ad m c (ys.flatMap f) hx (by rw [hflat,hm]) hcells ?_ (by simp only [maxLen];omega) hb hbase ?_
  ·intro u hu
   obtain ⟨y,hy,hu⟩:=List.mem_flatMap.1 hu;exact h1 y hy u hu
  ·intro v' w' h2 h3 _
   refine hK v' w' ⟨?_,Mod.ofGrown h3 (fun k hk=>hk)⟩;subst hm;unfold Own;rw [List.length_append,List.flatMap_append];exact h2
 | none=>
  have hy:ys=[]:=by
   cases ys with
   | nil=>rfl
   | cons y ys=>
    exfalso;have hp:0 < ((y::ys).flatMap f).length:=by rw [hflat];exact Nat.mul_pos (by simp) el.pos
    obtain ⟨b,off,he,_⟩:=hrow.at hp;simp at he
  subst hy;simp at hm;subst hm;have hc0:=hc rfl;subst hc0;have hrun:=run_append_owned_none (P:=P) w base t o.type e i0 size ht hi v xs.length (xs.flatMap f) hown;unfold Oper.wp;simp [execOp,ho,resolve,invoke,builtin,hs,hx,hrun,Result.andThen];exact hK v w ⟨by simpa using hown,Mod.refl _ _⟩
theorem zaX {ops:Array Oper} {rest:List Oper} {o:Oper} {a:Act} {Q:Exit -> Act -> World -> Prop} (hg:o.guard=none) (s x:Operand) (t:TypeId)
  (ho:o.op=.call { callee:=.builtin .append,args:=#[s,x],argTypes:=#[t,t] }) (ht:P.underlying t=some (.slice e)) (el:El P e z size bytes)
  (hs:a.eval s=v) (hown:Own w base e size f v xs) (ao:Option Addr) (m c:Nat) (hx:a.eval x=.slice ao m c) (ys:List α) (hm:ys.length=m) (hrow:zaR w ao (ys.flatMap f))
  (hf:∀ y,(f y).length=size) (h1:∀ y ∈ ys,∀ u ∈ f y,u.oneCell'=true) (hlen:xs.length+ys.length<=137438953472) (hbase:base<=w.heap.size) (hc:ao=none -> c=0)
  (hK:∀ v' w',Hid (Own w' base e size f v' (xs++ys)/\Mod (fun k=>v.ownBlock=some k) w w') -> wpList P ops Q rest (a.put o.dst v') w'):wpList P ops Q (o::rest) a w:=
 wpList_plain hg fun _ hK'=>zem s x t ho ht el hs hown ao m c hx ys hm hrow hf h1 hlen hbase hc (fun v' w' H=>hK' _ _ (hK v' w' H))
end
end Cdk
namespace Scr
open Go Go.RowKit Cdk
def zbR (s:Bs):Value:=.string ⟨s.toArray⟩
def zdj (s:Bs):List Value:=[zbR s]
def zd1 (n:Int):List Value:=[.int .i64 n]
theorem za5 (s:Bs):(zdj s).length=1:=rfl
theorem zbb (n:Int):(zd1 n).length=1:=rfl
theorem zkh (s:ByteArray):zbR s.data.toList=.string s:=by unfold zbR;simp
def zai {α:Type} (F:Nat -> Prop) (w:World) (f:α -> List Value) (v:Value) (l:List α):Prop:=
 ∃ ao cap,v=.slice ao l.length cap/\zaR w ao (l.flatMap f)/\(∀ b off,ao=some ⟨b,off,none⟩ -> 0 < cap -> F b)/\l.length<=cap/\(l.length<=140737488355328/\cap<=9223372036854775807)/\(ao=none -> cap=0)
section
variable {α:Type} {F F' S:Nat -> Prop} {w w':World} {f:α -> List Value} {v:Value} {l:List α}
theorem zai.mod (h:zai F w f v l) (hm:Mod S w w') (hS:∀ k,F k -> ¬ S k):zai F w' f v l:=by
 obtain ⟨ao,cap,rfl,hr,hb,hc⟩:=h;rcases Nat.eq_zero_or_pos cap with h0 | h0
 ·have hl:l=[]:=List.length_eq_zero_iff.1 (by omega)
  subst hl;exact ⟨ao,cap,rfl,zaR.nil _ _,hb,hc⟩
 ·exact ⟨ao,cap,rfl,hr.mod hm (fun b off e=>hS b (hb b off e h0)),hb,hc⟩
theorem zai.ext (h:zai F w f v l) (hm:Ext w w'):zai F w' f v l:=h.mod hm (fun _ _ h=>h)
theorem zai.mono (h:zai F w f v l) (hF:∀ k,F k -> F' k):zai F' w f v l:=by
 obtain ⟨ao,cap,rfl,hr,hb,hc⟩:=h;exact ⟨ao,cap,rfl,hr,fun b off e h0=>hF b (hb b off e h0),hc⟩
theorem zai.nil (F:Nat -> Prop) (w:World) (f:α -> List Value):zai F w f (.slice none 0 0) []:=⟨none,0,rfl,zaR.nil _ _,(fun _ _ e=>nomatch e),Nat.le_refl _,⟨Nat.zero_le _,Nat.zero_le _⟩,fun _=>rfl⟩
theorem zai.slice (h:zai F w f v l):∃ ao cap,v=.slice ao l.length cap:=by obtain ⟨ao,cap,rfl,_⟩:=h;exact ⟨_,_,rfl⟩
theorem zai.len (h:zai F w f v l):l.length<=140737488355328:=by obtain ⟨ao,cap,rfl,_,_,h1,h2,_⟩:=h;omega
theorem zai.one (h:zai F w f v l):v.oneCell'=true:=by obtain ⟨ao,cap,rfl,_⟩:=h;rfl
theorem zai.take (h:zai F w f v l) (size:Nat) (_hf:∀ x,(f x).length=size) {n:Nat} (hn:n<=l.length):∃ ao cap,v=.slice ao l.length cap/\n<=cap/\zai F w f (.slice ao n cap) (l.take n):=by
 obtain ⟨ao,cap,rfl,hr,hb,h1,h2,h3⟩:=h;have e:(l.take n).length=n:=by rw [List.length_take];omega
 refine ⟨ao,cap,rfl,by omega,ao,cap,by rw [e],fun j u hu=>?_,hb,by rw [e];omega,⟨by rw [e];omega,h2.2⟩,h3⟩;refine hr j u ?_;have hs:l.flatMap f=(l.take n).flatMap f++(l.drop n).flatMap f:=by rw [<- List.flatMap_append,List.take_append_drop]
 rw [hs,List.getElem?_append_left (List.getElem?_eq_some_iff.1 hu).1];exact hu
theorem zai.get (h:zai F w f v l) (size:Nat) (hf:∀ x,(f x).length=size) (hs:0 < size) {j:Nat} (hj:j < l.length):
  ∃ b off cap,v=.slice (some ⟨b,off,none⟩) l.length cap/\F b/\∀ i u,i < size -> (f l[j])[i]?=some u -> w.cell? ⟨b,off+j*size+i,none⟩=some u:=by
 obtain ⟨ao,cap,rfl,hr,hb,hlc,-⟩:=h;obtain ⟨b,off,rfl,hc⟩:=hr.at (by rw [flat_length _ size hf];exact Nat.mul_pos (by omega) hs);refine ⟨b,off,cap,rfl,hb b off rfl (by omega),fun i u hi hu=>?_⟩;have:=hc _ _ ((flat_get f size hf l j i l[j] (List.getElem?_eq_getElem hj) hi).trans hu);rw [Nat.add_assoc];exact this
end
abbrev zaF (F:Nat -> Prop) (w:World) (v:Value) (l:List Int):Prop:=zai F w zd1 v l
abbrev zbw (F:Nat -> Prop) (w:World) (v:Value) (l:List Bs):Prop:=zai F w zdj v l
def lbC (v:Value) (l:Lb):List Value:=[.int .i64 l.til,v,.int .i64 l.app,.int .i64 l.den]
def bkC (p:Value × Bk):List Value:=[.int .i64 p.2.id,.int .i64 p.2.kd,zbR p.2.tx,.int .i64 p.2.st,.int .i64 p.2.rf,.int .i64 p.2.lb.til,p.1,.int .i64 p.2.lb.app,.int .i64 p.2.lb.den]
theorem zfE (p:Value × Bk):(bkC p).length=9:=rfl
def zaD (F:Nat -> Prop) (w:World) (v:Value) (l:List Bk):Prop:=∃ rows:List (Value × Bk),rows.map Prod.snd=l/\zai F w bkC v rows/\∀ p ∈ rows,zaF F w p.1 p.2.lb.aft
structure FV where
 tp:Value
 bl:Value
 af:Value
structure AV where
 fc:FV
 fa:Value
 ke:Value
def fcC (s:FV) (f:Fc):List Value:=[.int .i64 f.n,.int .i64 f.tm,.int .i64 f.kd,.int .i64 f.st,zbR f.lg,.int .i64 f.rv,.int .i64 f.bs,zbR f.ti,zbR f.au,s.tp,s.bl,.int .i64 f.lb.til,s.af,.int .i64 f.lb.app,.int .i64 f.lb.den,.int .i64 f.ed,.int .i64 f.bk,.int .i64 f.se,zbR f.tx,zbR f.nm,.int .i64 f.pa,.int .i64 f.cl,.int .i64 f.un]
def msC (m:Ms):List Value:=[.int .i64 m.kd,.int .i64 m.pa,.int .i64 m.sq,.int .i64 m.st,.int .i64 m.ba,.int .i64 m.ve,zbR m.da]
def acC (p:AV × Ac):List Value:=.int .i64 p.2.kd::(fcC p.1.fc p.2.fc++([.int .i64 p.2.n,.int .i64 p.2.cl,zbR p.2.tx,p.1.fa,p.1.ke]++msC p.2.ms))
theorem zej (p:AV × Ac):(acC p).length=36:=rfl
structure FcAt (F:Nat -> Prop) (w:World) (s:FV) (f:Fc):Prop where
 tp:zbw F w s.tp f.tp
 bl:zaD F w s.bl f.bl
 af:zaF F w s.af f.lb.aft
structure AcAt (F:Nat -> Prop) (w:World) (s:AV) (a:Ac):Prop where
 fc:FcAt F w s.fc a.fc
 fa:zaF F w s.fa a.fa
 ke:zaF F w s.ke a.ke
def zbK (F:Nat -> Prop) (w:World) (v:Value) (l:List Ac):Prop:=∃ rows:List (AV × Ac),rows.map Prod.snd=l/\zai F w acC v rows/\∀ p ∈ rows,AcAt F w p.1 p.2
section
variable {F F' S:Nat -> Prop} {w w':World}
theorem zaD.mod {v:Value} {l:List Bk} (h:zaD F w v l) (hm:Mod S w w') (hS:∀ k,F k -> ¬ S k):zaD F w' v l:=by
 obtain ⟨r,e,h1,h2⟩:=h;exact ⟨r,e,h1.mod hm hS,fun p hp=>(h2 p hp).mod hm hS⟩
theorem zaD.mono {v:Value} {l:List Bk} (h:zaD F w v l) (hF:∀ k,F k -> F' k):zaD F' w v l:=by
 obtain ⟨r,e,h1,h2⟩:=h;exact ⟨r,e,h1.mono hF,fun p hp=>(h2 p hp).mono hF⟩
theorem zaD.nil (F:Nat -> Prop) (w:World):zaD F w (.slice none 0 0) []:=⟨[],rfl,zai.nil _ _ _,fun _ h=>nomatch h⟩
theorem zaD.slice {v:Value} {l:List Bk} (h:zaD F w v l):∃ ao cap,v=.slice ao l.length cap:=by
 obtain ⟨r,rfl,h1,-⟩:=h;obtain ⟨ao,cap,rfl⟩:=h1.slice;exact ⟨ao,cap,by rw [List.length_map]⟩
theorem zaD.len {v:Value} {l:List Bk} (h:zaD F w v l):l.length<=140737488355328:=by
 obtain ⟨r,rfl,h1,-⟩:=h;rw [List.length_map];exact h1.len
theorem zaD.get {v:Value} {l:List Bk} (h:zaD F w v l) {j:Nat} (hj:j < l.length):
  ∃ b off cap af,v=.slice (some ⟨b,off,none⟩) l.length cap/\F b/\zaF F w af l[j].lb.aft/\∀ i u,i < 9 -> (bkC (af,l[j]))[i]?=some u -> w.cell? ⟨b,off+j*9+i,none⟩=some u:=by
 obtain ⟨r,rfl,h1,h2⟩:=h;rw [List.length_map] at hj;obtain ⟨b,off,cap,hv,hb,hc⟩:=h1.get 9 zfE (by decide) hj;refine ⟨b,off,cap,r[j].1,by rw [List.length_map];exact hv,hb,?_,?_⟩
 ·rw [List.getElem_map];exact h2 _ (List.getElem_mem _)
 ·rw [List.getElem_map];exact hc
theorem zaD.take {v:Value} {l:List Bk} (h:zaD F w v l) {n:Nat} (hn:n<=l.length):∃ ao cap,v=.slice ao l.length cap/\n<=cap/\zaD F w (.slice ao n cap) (l.take n):=by
 obtain ⟨r,rfl,h1,h2⟩:=h;rw [List.length_map] at hn ⊢;obtain ⟨ao,cap,hv,hc,h3⟩:=h1.take 9 zfE hn;exact ⟨ao,cap,hv,hc,r.take n,by rw [List.map_take],h3,fun p hp=>h2 p (List.mem_of_mem_take hp)⟩
theorem FcAt.mod {s:FV} {f:Fc} (h:FcAt F w s f) (hm:Mod S w w') (hS:∀ k,F k -> ¬ S k):FcAt F w' s f:=⟨h.tp.mod hm hS,h.bl.mod hm hS,h.af.mod hm hS⟩
theorem FcAt.mono {s:FV} {f:Fc} (h:FcAt F w s f) (hF:∀ k,F k -> F' k):FcAt F' w s f:=⟨h.tp.mono hF,h.bl.mono hF,h.af.mono hF⟩
theorem AcAt.mod {s:AV} {a:Ac} (h:AcAt F w s a) (hm:Mod S w w') (hS:∀ k,F k -> ¬ S k):AcAt F w' s a:=⟨h.fc.mod hm hS,h.fa.mod hm hS,h.ke.mod hm hS⟩
theorem AcAt.mono {s:AV} {a:Ac} (h:AcAt F w s a) (hF:∀ k,F k -> F' k):AcAt F' w s a:=⟨h.fc.mono hF,h.fa.mono hF,h.ke.mono hF⟩
theorem AcAt.ext {s:AV} {a:Ac} (h:AcAt F w s a) (hm:Ext w w'):AcAt F w' s a:=h.mod hm (fun _ _ h=>h)
theorem FcAt.ext {s:FV} {a:Fc} (h:FcAt F w s a) (hm:Ext w w'):FcAt F w' s a:=h.mod hm (fun _ _ h=>h)
theorem zaD.ext {s:Value} {a:List Bk} (h:zaD F w s a) (hm:Ext w w'):zaD F w' s a:=h.mod hm (fun _ _ h=>h)
theorem zbK.mod {v:Value} {l:List Ac} (h:zbK F w v l) (hm:Mod S w w') (hS:∀ k,F k -> ¬ S k):zbK F w' v l:=by
 obtain ⟨r,e,h1,h2⟩:=h;exact ⟨r,e,h1.mod hm hS,fun p hp=>(h2 p hp).mod hm hS⟩
theorem zbK.ext {v:Value} {l:List Ac} (h:zbK F w v l) (hm:Ext w w'):zbK F w' v l:=h.mod hm (fun _ _ h=>h)
theorem zbK.mono {v:Value} {l:List Ac} (h:zbK F w v l) (hF:∀ k,F k -> F' k):zbK F' w v l:=by
 obtain ⟨r,e,h1,h2⟩:=h;exact ⟨r,e,h1.mono hF,fun p hp=>(h2 p hp).mono hF⟩
theorem zbK.nil (F:Nat -> Prop) (w:World):zbK F w (.slice none 0 0) []:=⟨[],rfl,zai.nil _ _ _,fun _ h=>nomatch h⟩
theorem zbK.slice {v:Value} {l:List Ac} (h:zbK F w v l):∃ ao cap,v=.slice ao l.length cap:=by
 obtain ⟨r,rfl,h1,-⟩:=h;obtain ⟨ao,cap,rfl⟩:=h1.slice;exact ⟨ao,cap,by rw [List.length_map]⟩
theorem zbK.len {v:Value} {l:List Ac} (h:zbK F w v l):l.length<=140737488355328:=by
 obtain ⟨r,rfl,h1,-⟩:=h;rw [List.length_map];exact h1.len
theorem zbK.get {v:Value} {l:List Ac} (h:zbK F w v l) {j:Nat} (hj:j < l.length):
  ∃ b off cap s,v=.slice (some ⟨b,off,none⟩) l.length cap/\F b/\AcAt F w s l[j]/\∀ i u,i < 36 -> (acC (s,l[j]))[i]?=some u -> w.cell? ⟨b,off+j*36+i,none⟩=some u:=by
 obtain ⟨r,rfl,h1,h2⟩:=h;rw [List.length_map] at hj;obtain ⟨b,off,cap,hv,hb,hc⟩:=h1.get 36 zej (by decide) hj;refine ⟨b,off,cap,r[j].1,by rw [List.length_map];exact hv,hb,?_,?_⟩
 ·rw [List.getElem_map];exact h2 _ (List.getElem_mem _)
 ·rw [List.getElem_map];exact hc
theorem zaD.cells {ao:Option Addr} {n cap:Nat} {l:List Bk} (h:zaD F w (.slice ao n cap) l) {j:Nat} (hj:j < l.length):
  ∃ b off a1 m1 c1,ao=some ⟨b,off,none⟩/\n=l.length/\F b/\zaF F w (.slice a1 m1 c1) l[j].lb.aft ∧
   w.cell? ⟨b,off+j*9,none⟩=some (.int .i64 l[j].id)/\w.cell? ⟨b,off+j*9+1,none⟩=some (.int .i64 l[j].kd)/\w.cell? ⟨b,off+j*9+2,none⟩=some (.string ⟨l[j].tx.toArray⟩)/\w.cell? ⟨b,off+j*9+3,none⟩=some (.int .i64 l[j].st) ∧
   w.cell? ⟨b,off+j*9+4,none⟩=some (.int .i64 l[j].rf)/\w.cell? ⟨b,off+j*9+5,none⟩=some (.int .i64 l[j].lb.til)/\w.cell? ⟨b,off+j*9+6,none⟩=some (.slice a1 m1 c1)/\w.cell? ⟨b,off+j*9+7,none⟩=some (.int .i64 l[j].lb.app)/\w.cell? ⟨b,off+j*9+8,none⟩=some (.int .i64 l[j].lb.den):=by
 obtain ⟨b,off,c,af,e,hF,hi,hc⟩:=h.get hj;injection e with e1 e2 e3
 obtain ⟨a1,c1,rfl⟩:=hi.slice;exact ⟨b,off,a1,_,c1,e1,e2,hF,hi,hc 0 _ (by decide) rfl,hc 1 _ (by decide) rfl,hc 2 _ (by decide) rfl,hc 3 _ (by decide) rfl,hc 4 _ (by decide) rfl,hc 5 _ (by decide) rfl,hc 6 _ (by decide) rfl,hc 7 _ (by decide) rfl,hc 8 _ (by decide) rfl⟩
theorem zaD.count {ao:Option Addr} {n cap:Nat} {l:List Bk} (h:zaD F w (.slice ao n cap) l):n=l.length:=by
 obtain ⟨a,c,e⟩:=h.slice;injection e
end
end Scr
namespace Go.Proofs.YtjjfphalcibjfaaGreatDoor
open Go.RowKit Cdk Scr
abbrev y0 (n:Int) (tm:Int) (k1:Int) (st:Int) (lg:Bs) (rv:Int) (bs:Int) (ti:Bs) (au:Bs) (a1:Option Addr) (n1:Nat) (c1:Nat) (a2:Option Addr) (n2:Nat) (c2:Nat) (til:Int) (a3:Option Addr) (n3:Nat) (c3:Nat) (app:Int) (den:Int) (ed:Int) (bk:Int) (se:Int) (tx:Bs) (nm:Bs) (pa:Int) (cl:Int) (un:Int):Array Value:=#[.int .i64 n,.int .i64 tm,.int .i64 k1,.int .i64 st,.string ⟨lg.toArray⟩,.int .i64 rv,.int .i64 bs,.string ⟨ti.toArray⟩,.string ⟨au.toArray⟩,.slice a1 n1 c1,.slice a2 n2 c2,.int .i64 til,.slice a3 n3 c3,.int .i64 app,.int .i64 den,.int .i64 ed,.int .i64 bk,.int .i64 se,.string ⟨tx.toArray⟩,.string ⟨nm.toArray⟩,.int .i64 pa,.int .i64 cl,.int .i64 un]
abbrev y1:List Value:=[.int .i64 0,.int .i64 0,.int .i64 0,.int .i64 0,.string ⟨#[]⟩,.int .i64 0,.int .i64 0,.string ⟨#[]⟩,.string ⟨#[]⟩,.slice none 0 0,.slice none 0 0,.int .i64 0,.slice none 0 0,.int .i64 0,.int .i64 0,.int .i64 0,.int .i64 0,.int .i64 0,.string ⟨#[]⟩,.string ⟨#[]⟩,.int .i64 0,.int .i64 0,.int .i64 0]
abbrev y2 (n:Int) (tm:Int) (k1:Int) (st:Int) (til:Int) (a3:Option Addr) (n3:Nat) (c3:Nat) (app:Int) (den:Int):Array Value:=#[.int .i64 n,.int .i64 tm,.int .i64 k1,.int .i64 st,.string ⟨#[]⟩,.int .i64 0,.int .i64 0,.string ⟨#[]⟩,.string ⟨#[]⟩,.slice none 0 0,.slice none 0 0,.int .i64 til,.slice a3 n3 c3,.int .i64 app,.int .i64 den,.int .i64 0,.int .i64 0,.int .i64 0,.string ⟨#[]⟩,.string ⟨#[]⟩,.int .i64 0,.int .i64 0,.int .i64 0]
abbrev y3 (n:Int) (tm:Int) (k1:Int) (pa:Int) (cl:Int) (un:Int):Array Value:=#[.int .i64 n,.int .i64 tm,.int .i64 k1,.int .i64 0,.string ⟨#[]⟩,.int .i64 0,.int .i64 0,.string ⟨#[]⟩,.string ⟨#[]⟩,.slice none 0 0,.slice none 0 0,.int .i64 0,.slice none 0 0,.int .i64 0,.int .i64 0,.int .i64 0,.int .i64 0,.int .i64 0,.string ⟨#[]⟩,.string ⟨#[]⟩,.int .i64 pa,.int .i64 cl,.int .i64 un]
abbrev y4 (f:Fc) (a1:Option Addr) (n1:Nat) (c1:Nat) (a2:Option Addr) (n2:Nat) (c2:Nat) (a3:Option Addr) (n3:Nat) (c3:Nat):Array Value:=#[.int .i64 f.n,.int .i64 f.tm,.int .i64 f.kd,.int .i64 f.st,.string ⟨f.lg.toArray⟩,.int .i64 f.rv,.int .i64 f.bs,.string ⟨f.ti.toArray⟩,.string ⟨f.au.toArray⟩,.slice a1 n1 c1,.slice a2 n2 c2,.int .i64 f.lb.til,.slice a3 n3 c3,.int .i64 f.lb.app,.int .i64 f.lb.den,.int .i64 f.ed,.int .i64 f.bk,.int .i64 f.se,.string ⟨f.tx.toArray⟩,.string ⟨f.nm.toArray⟩,.int .i64 f.pa,.int .i64 f.cl,.int .i64 f.un]
abbrev y5 (f:Fc) (a1:Option Addr) (n1:Nat) (c1:Nat) (a2:Option Addr) (n2:Nat) (c2:Nat) (a3:Option Addr) (n3:Nat) (c3:Nat):List Value:=[.int .i64 f.n,.int .i64 f.tm,.int .i64 f.kd,.int .i64 f.st,.string ⟨f.lg.toArray⟩,.int .i64 f.rv,.int .i64 f.bs,.string ⟨f.ti.toArray⟩,.string ⟨f.au.toArray⟩,.slice a1 n1 c1,.slice a2 n2 c2,.int .i64 f.lb.til,.slice a3 n3 c3,.int .i64 f.lb.app,.int .i64 f.lb.den,.int .i64 f.ed,.int .i64 f.bk,.int .i64 f.se,.string ⟨f.tx.toArray⟩,.string ⟨f.nm.toArray⟩,.int .i64 f.pa,.int .i64 f.cl,.int .i64 f.un]
end Go.Proofs.YtjjfphalcibjfaaGreatDoor
