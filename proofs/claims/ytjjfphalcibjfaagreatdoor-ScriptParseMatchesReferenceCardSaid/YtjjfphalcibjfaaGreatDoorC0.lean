import Derived.Test.YtjjfphalcibjfaaGreatDoorAppend
import Derived.Test.YtjjfphalcibjfaaGreatDoorProg
import Derived.Shelf.Abstract
set_option maxRecDepth 100000
set_option maxHeartbeats 16000000
namespace Scr
open Go Go.RowKit Cdk
def zb0 (s:Bs):Value:=.string ⟨s.toArray⟩
def zdz (s:Bs):List Value:=[zb0 s]
def zcZ (n:Int):List Value:=[.int .i64 n]
theorem zaC (s:Bs):(zdz s).length=1:=rfl
theorem zbv (n:Int):(zcZ n).length=1:=rfl
theorem znH (s:ByteArray):zb0 s.data.toList=.string s:=by unfold zb0;simp
def zac {α:Type} (F:Nat -> Prop) (w:World) (f:α -> List Value) (v:Value) (l:List α):Prop:=
 ∃ ao cap,v=.slice ao l.length cap/\zaJ w ao (l.flatMap f)/\(∀ b off,ao=some ⟨b,off,none⟩ -> 0 < cap -> F b)/\l.length<=cap/\(l.length<=140737488355328/\cap<=9223372036854775807)/\(ao=none -> cap=0)
section
variable {α:Type} {F F' S:Nat -> Prop} {w w':World} {f:α -> List Value} {v:Value} {l:List α}
theorem zac.mod (h:zac F w f v l) (hm:Mod S w w') (hS:∀ k,F k -> ¬ S k):zac F w' f v l:=by
 obtain ⟨ao,cap,rfl,hr,hb,hc⟩:=h;rcases Nat.eq_zero_or_pos cap with h0 | h0
 ·have hl:l=[]:=List.length_eq_zero_iff.1 (by omega)
  subst hl;exact ⟨ao,cap,rfl,zaJ.nil _ _,hb,hc⟩
 ·exact ⟨ao,cap,rfl,hr.mod hm (fun b off e=>hS b (hb b off e h0)),hb,hc⟩
theorem zac.ext (h:zac F w f v l) (hm:Ext w w'):zac F w' f v l:=h.mod hm (fun _ _ h=>h)
theorem zac.mono (h:zac F w f v l) (hF:∀ k,F k -> F' k):zac F' w f v l:=by
 obtain ⟨ao,cap,rfl,hr,hb,hc⟩:=h;exact ⟨ao,cap,rfl,hr,fun b off e h0=>hF b (hb b off e h0),hc⟩
theorem zac.nil (F:Nat -> Prop) (w:World) (f:α -> List Value):zac F w f (.slice none 0 0) []:=⟨none,0,rfl,zaJ.nil _ _,(fun _ _ e=>nomatch e),Nat.le_refl _,⟨Nat.zero_le _,Nat.zero_le _⟩,fun _=>rfl⟩
theorem zac.slice (h:zac F w f v l):∃ ao cap,v=.slice ao l.length cap:=by obtain ⟨ao,cap,rfl,_⟩:=h;exact ⟨_,_,rfl⟩
theorem zac.len (h:zac F w f v l):l.length<=140737488355328:=by obtain ⟨ao,cap,rfl,_,_,h1,h2,_⟩:=h;omega
theorem zac.one (h:zac F w f v l):v.oneCell'=true:=by obtain ⟨ao,cap,rfl,_⟩:=h;rfl
theorem zac.take (h:zac F w f v l) (size:Nat) (_hf:∀ x,(f x).length=size) {n:Nat} (hn:n<=l.length):∃ ao cap,v=.slice ao l.length cap/\n<=cap/\zac F w f (.slice ao n cap) (l.take n):=by
 obtain ⟨ao,cap,rfl,hr,hb,h1,h2,h3⟩:=h;have e:(l.take n).length=n:=by rw [List.length_take];omega
 refine ⟨ao,cap,rfl,by omega,ao,cap,by rw [e],fun j u hu=>?_,hb,by rw [e];omega,⟨by rw [e];omega,h2.2⟩,h3⟩;refine hr j u ?_;have hs:l.flatMap f=(l.take n).flatMap f++(l.drop n).flatMap f:=by rw [<- List.flatMap_append,List.take_append_drop]
 rw [hs,List.getElem?_append_left (List.getElem?_eq_some_iff.1 hu).1];exact hu
theorem zac.get (h:zac F w f v l) (size:Nat) (hf:∀ x,(f x).length=size) (hs:0 < size) {j:Nat} (hj:j < l.length):
  ∃ b off cap,v=.slice (some ⟨b,off,none⟩) l.length cap/\F b/\∀ i u,i < size -> (f l[j])[i]?=some u -> w.cell? ⟨b,off+j*size+i,none⟩=some u:=by
 obtain ⟨ao,cap,rfl,hr,hb,hlc,-⟩:=h;obtain ⟨b,off,rfl,hc⟩:=hr.at (by rw [flat_length _ size hf];exact Nat.mul_pos (by omega) hs);refine ⟨b,off,cap,rfl,hb b off rfl (by omega),fun i u hi hu=>?_⟩;have:=hc _ _ ((flat_get f size hf l j i l[j] (List.getElem?_eq_getElem hj) hi).trans hu);rw [Nat.add_assoc];exact this
end
abbrev zaF (F:Nat -> Prop) (w:World) (v:Value) (l:List Int):Prop:=zac F w zcZ v l
abbrev zbC (F:Nat -> Prop) (w:World) (v:Value) (l:List Bs):Prop:=zac F w zdz v l
def lbC (v:Value) (l:Lb):List Value:=[.int .i64 l.til,v,.int .i64 l.app,.int .i64 l.den]
def bkC (p:Value × Bk):List Value:=[.int .i64 p.2.id,.int .i64 p.2.kd,zb0 p.2.tx,.int .i64 p.2.st,.int .i64 p.2.rf,.int .i64 p.2.lb.til,p.1,.int .i64 p.2.lb.app,.int .i64 p.2.lb.den]
theorem zgU (p:Value × Bk):(bkC p).length=9:=rfl
def zaE (F:Nat -> Prop) (w:World) (v:Value) (l:List Bk):Prop:=∃ rows:List (Value × Bk),rows.map Prod.snd=l/\zac F w bkC v rows/\∀ p ∈ rows,zaF F w p.1 p.2.lb.aft
structure FV where
 tp:Value
 bl:Value
 af:Value
structure AV where
 fc:FV
 fa:Value
 ke:Value
def fcC (s:FV) (f:Fc):List Value:=[.int .i64 f.n,.int .i64 f.tm,.int .i64 f.kd,.int .i64 f.st,zb0 f.lg,.int .i64 f.rv,.int .i64 f.bs,zb0 f.ti,zb0 f.au,s.tp,s.bl,.int .i64 f.lb.til,s.af,.int .i64 f.lb.app,.int .i64 f.lb.den,.int .i64 f.ed,.int .i64 f.bk,.int .i64 f.se,zb0 f.tx,zb0 f.nm,.int .i64 f.pa,.int .i64 f.cl,.int .i64 f.un]
def msC (m:Ms):List Value:=[.int .i64 m.kd,.int .i64 m.pa,.int .i64 m.sq,.int .i64 m.st,.int .i64 m.ba,.int .i64 m.ve,zb0 m.da]
def acC (p:AV × Ac):List Value:=.int .i64 p.2.kd::(fcC p.1.fc p.2.fc++([.int .i64 p.2.n,.int .i64 p.2.cl,zb0 p.2.tx,p.1.fa,p.1.ke]++msC p.2.ms))
theorem zi3 (p:AV × Ac):(acC p).length=36:=rfl
structure FcAt (F:Nat -> Prop) (w:World) (s:FV) (f:Fc):Prop where
 tp:zbC F w s.tp f.tp
 bl:zaE F w s.bl f.bl
 af:zaF F w s.af f.lb.aft
structure AcAt (F:Nat -> Prop) (w:World) (s:AV) (a:Ac):Prop where
 fc:FcAt F w s.fc a.fc
 fa:zaF F w s.fa a.fa
 ke:zaF F w s.ke a.ke
def zcg (F:Nat -> Prop) (w:World) (v:Value) (l:List Ac):Prop:=∃ rows:List (AV × Ac),rows.map Prod.snd=l/\zac F w acC v rows/\∀ p ∈ rows,AcAt F w p.1 p.2
section
variable {F F' S:Nat -> Prop} {w w':World}
theorem zaE.mod {v:Value} {l:List Bk} (h:zaE F w v l) (hm:Mod S w w') (hS:∀ k,F k -> ¬ S k):zaE F w' v l:=by
 obtain ⟨r,e,h1,h2⟩:=h;exact ⟨r,e,h1.mod hm hS,fun p hp=>(h2 p hp).mod hm hS⟩
theorem zaE.mono {v:Value} {l:List Bk} (h:zaE F w v l) (hF:∀ k,F k -> F' k):zaE F' w v l:=by
 obtain ⟨r,e,h1,h2⟩:=h;exact ⟨r,e,h1.mono hF,fun p hp=>(h2 p hp).mono hF⟩
theorem zaE.nil (F:Nat -> Prop) (w:World):zaE F w (.slice none 0 0) []:=⟨[],rfl,zac.nil _ _ _,fun _ h=>nomatch h⟩
theorem zaE.slice {v:Value} {l:List Bk} (h:zaE F w v l):∃ ao cap,v=.slice ao l.length cap:=by
 obtain ⟨r,rfl,h1,-⟩:=h;obtain ⟨ao,cap,rfl⟩:=h1.slice;exact ⟨ao,cap,by rw [List.length_map]⟩
theorem zaE.len {v:Value} {l:List Bk} (h:zaE F w v l):l.length<=140737488355328:=by
 obtain ⟨r,rfl,h1,-⟩:=h;rw [List.length_map];exact h1.len
theorem zaE.get {v:Value} {l:List Bk} (h:zaE F w v l) {j:Nat} (hj:j < l.length):
  ∃ b off cap af,v=.slice (some ⟨b,off,none⟩) l.length cap/\F b/\zaF F w af l[j].lb.aft/\∀ i u,i < 9 -> (bkC (af,l[j]))[i]?=some u -> w.cell? ⟨b,off+j*9+i,none⟩=some u:=by
 obtain ⟨r,rfl,h1,h2⟩:=h;rw [List.length_map] at hj;obtain ⟨b,off,cap,hv,hb,hc⟩:=h1.get 9 zgU (by decide) hj;refine ⟨b,off,cap,r[j].1,by rw [List.length_map];exact hv,hb,?_,?_⟩
 ·rw [List.getElem_map];exact h2 _ (List.getElem_mem _)
 ·rw [List.getElem_map];exact hc
theorem zaE.take {v:Value} {l:List Bk} (h:zaE F w v l) {n:Nat} (hn:n<=l.length):∃ ao cap,v=.slice ao l.length cap/\n<=cap/\zaE F w (.slice ao n cap) (l.take n):=by
 obtain ⟨r,rfl,h1,h2⟩:=h;rw [List.length_map] at hn ⊢;obtain ⟨ao,cap,hv,hc,h3⟩:=h1.take 9 zgU hn;exact ⟨ao,cap,hv,hc,r.take n,by rw [List.map_take],h3,fun p hp=>h2 p (List.mem_of_mem_take hp)⟩
theorem FcAt.mod {s:FV} {f:Fc} (h:FcAt F w s f) (hm:Mod S w w') (hS:∀ k,F k -> ¬ S k):FcAt F w' s f:=⟨h.tp.mod hm hS,h.bl.mod hm hS,h.af.mod hm hS⟩
theorem FcAt.mono {s:FV} {f:Fc} (h:FcAt F w s f) (hF:∀ k,F k -> F' k):FcAt F' w s f:=⟨h.tp.mono hF,h.bl.mono hF,h.af.mono hF⟩
theorem AcAt.mod {s:AV} {a:Ac} (h:AcAt F w s a) (hm:Mod S w w') (hS:∀ k,F k -> ¬ S k):AcAt F w' s a:=⟨h.fc.mod hm hS,h.fa.mod hm hS,h.ke.mod hm hS⟩
theorem AcAt.mono {s:AV} {a:Ac} (h:AcAt F w s a) (hF:∀ k,F k -> F' k):AcAt F' w s a:=⟨h.fc.mono hF,h.fa.mono hF,h.ke.mono hF⟩
theorem AcAt.ext {s:AV} {a:Ac} (h:AcAt F w s a) (hm:Ext w w'):AcAt F w' s a:=h.mod hm (fun _ _ h=>h)
theorem FcAt.ext {s:FV} {a:Fc} (h:FcAt F w s a) (hm:Ext w w'):FcAt F w' s a:=h.mod hm (fun _ _ h=>h)
theorem zaE.ext {s:Value} {a:List Bk} (h:zaE F w s a) (hm:Ext w w'):zaE F w' s a:=h.mod hm (fun _ _ h=>h)
theorem zcg.mod {v:Value} {l:List Ac} (h:zcg F w v l) (hm:Mod S w w') (hS:∀ k,F k -> ¬ S k):zcg F w' v l:=by
 obtain ⟨r,e,h1,h2⟩:=h;exact ⟨r,e,h1.mod hm hS,fun p hp=>(h2 p hp).mod hm hS⟩
theorem zcg.ext {v:Value} {l:List Ac} (h:zcg F w v l) (hm:Ext w w'):zcg F w' v l:=h.mod hm (fun _ _ h=>h)
theorem zcg.mono {v:Value} {l:List Ac} (h:zcg F w v l) (hF:∀ k,F k -> F' k):zcg F' w v l:=by
 obtain ⟨r,e,h1,h2⟩:=h;exact ⟨r,e,h1.mono hF,fun p hp=>(h2 p hp).mono hF⟩
theorem zcg.nil (F:Nat -> Prop) (w:World):zcg F w (.slice none 0 0) []:=⟨[],rfl,zac.nil _ _ _,fun _ h=>nomatch h⟩
theorem zcg.slice {v:Value} {l:List Ac} (h:zcg F w v l):∃ ao cap,v=.slice ao l.length cap:=by
 obtain ⟨r,rfl,h1,-⟩:=h;obtain ⟨ao,cap,rfl⟩:=h1.slice;exact ⟨ao,cap,by rw [List.length_map]⟩
theorem zcg.len {v:Value} {l:List Ac} (h:zcg F w v l):l.length<=140737488355328:=by
 obtain ⟨r,rfl,h1,-⟩:=h;rw [List.length_map];exact h1.len
theorem zcg.get {v:Value} {l:List Ac} (h:zcg F w v l) {j:Nat} (hj:j < l.length):
  ∃ b off cap s,v=.slice (some ⟨b,off,none⟩) l.length cap/\F b/\AcAt F w s l[j]/\∀ i u,i < 36 -> (acC (s,l[j]))[i]?=some u -> w.cell? ⟨b,off+j*36+i,none⟩=some u:=by
 obtain ⟨r,rfl,h1,h2⟩:=h;rw [List.length_map] at hj;obtain ⟨b,off,cap,hv,hb,hc⟩:=h1.get 36 zi3 (by decide) hj;refine ⟨b,off,cap,r[j].1,by rw [List.length_map];exact hv,hb,?_,?_⟩
 ·rw [List.getElem_map];exact h2 _ (List.getElem_mem _)
 ·rw [List.getElem_map];exact hc
theorem zaE.cells {ao:Option Addr} {n cap:Nat} {l:List Bk} (h:zaE F w (.slice ao n cap) l) {j:Nat} (hj:j < l.length):
  ∃ b off a1 m1 c1,ao=some ⟨b,off,none⟩/\n=l.length/\F b/\zaF F w (.slice a1 m1 c1) l[j].lb.aft ∧
   w.cell? ⟨b,off+j*9,none⟩=some (.int .i64 l[j].id)/\w.cell? ⟨b,off+j*9+1,none⟩=some (.int .i64 l[j].kd)/\w.cell? ⟨b,off+j*9+2,none⟩=some (.string ⟨l[j].tx.toArray⟩)/\w.cell? ⟨b,off+j*9+3,none⟩=some (.int .i64 l[j].st) ∧
   w.cell? ⟨b,off+j*9+4,none⟩=some (.int .i64 l[j].rf)/\w.cell? ⟨b,off+j*9+5,none⟩=some (.int .i64 l[j].lb.til)/\w.cell? ⟨b,off+j*9+6,none⟩=some (.slice a1 m1 c1)/\w.cell? ⟨b,off+j*9+7,none⟩=some (.int .i64 l[j].lb.app)/\w.cell? ⟨b,off+j*9+8,none⟩=some (.int .i64 l[j].lb.den):=by
 obtain ⟨b,off,c,af,e,hF,hi,hc⟩:=h.get hj;injection e with e1 e2 e3
 obtain ⟨a1,c1,rfl⟩:=hi.slice;exact ⟨b,off,a1,_,c1,e1,e2,hF,hi,hc 0 _ (by decide) rfl,hc 1 _ (by decide) rfl,hc 2 _ (by decide) rfl,hc 3 _ (by decide) rfl,hc 4 _ (by decide) rfl,hc 5 _ (by decide) rfl,hc 6 _ (by decide) rfl,hc 7 _ (by decide) rfl,hc 8 _ (by decide) rfl⟩
theorem zaE.count {ao:Option Addr} {n cap:Nat} {l:List Bk} (h:zaE F w (.slice ao n cap) l):n=l.length:=by
 obtain ⟨a,c,e⟩:=h.slice;injection e
end
end Scr
namespace Go.Proofs.YtjjfphalcibjfaaGreatDoor
open Go.RowKit Cdk Scr
abbrev y0 (f:Fc) (a1:Option Addr) (n1:Nat) (c1:Nat) (a2:Option Addr) (n2:Nat) (c2:Nat) (a3:Option Addr) (n3:Nat) (c3:Nat):Array Value:=#[.int .i64 f.n,.int .i64 f.tm,.int .i64 f.kd,.int .i64 f.st,.string ⟨f.lg.toArray⟩,.int .i64 f.rv,.int .i64 f.bs,.string ⟨f.ti.toArray⟩,.string ⟨f.au.toArray⟩,.slice a1 n1 c1,.slice a2 n2 c2,.int .i64 f.lb.til,.slice a3 n3 c3,.int .i64 f.lb.app,.int .i64 f.lb.den,.int .i64 f.ed,.int .i64 f.bk,.int .i64 f.se,.string ⟨f.tx.toArray⟩,.string ⟨f.nm.toArray⟩,.int .i64 f.pa,.int .i64 f.cl,.int .i64 f.un]
abbrev y1 (f:Fc) (a1:Option Addr) (n1:Nat) (c1:Nat) (a2:Option Addr) (n2:Nat) (c2:Nat) (a3:Option Addr) (n3:Nat) (c3:Nat):List Value:=[.int .i64 f.n,.int .i64 f.tm,.int .i64 f.kd,.int .i64 f.st,.string ⟨f.lg.toArray⟩,.int .i64 f.rv,.int .i64 f.bs,.string ⟨f.ti.toArray⟩,.string ⟨f.au.toArray⟩,.slice a1 n1 c1,.slice a2 n2 c2,.int .i64 f.lb.til,.slice a3 n3 c3,.int .i64 f.lb.app,.int .i64 f.lb.den,.int .i64 f.ed,.int .i64 f.bk,.int .i64 f.se,.string ⟨f.tx.toArray⟩,.string ⟨f.nm.toArray⟩,.int .i64 f.pa,.int .i64 f.cl,.int .i64 f.un]
end Go.Proofs.YtjjfphalcibjfaaGreatDoor
namespace Cdk
open Go Go.RowKit
def zc3 (md:Region.Mode) (ops:Array Oper):List (Nat × Bool) -> Array Bool -> Bool
 | [],listed=>(Region.ready md ops listed).isEmpty
 | (i,true)::r,listed=>(Region.ready md ops listed).contains i && Region.free md ops listed i && zc3 md ops r (listed.setIfInBounds i true)
 | (i,false)::r,listed=>Region.ready md ops listed==[i] && zc3 md ops r (listed.setIfInBounds i true)
section
variable {P:Program} {ops:Array Oper} {C:World -> Prop} {Q:Exit -> Act -> World -> Prop}
def wpS (P:Program) (ops:Array Oper) (C:World -> Prop) (Q:Exit -> Act -> World -> Prop):List (Oper × Bool) -> Act -> World -> Prop
 | [],a,w=>Q .normal a w
 | (o,true)::r,a,w=>∃ v,YieldsIf P ops C o v a/\wpS P ops C Q r (a.put o.dst v) w
 | (o,false)::r,a,w=>
  if Region.wanted o (yielded ops a.tmps)=true then o.wp P a w (fun a' w'=>C w'/\wpS P ops C Q r a' w') Q else wpS P ops C Q r (a.put o.dst undef) w
def zah (ops:List Oper) (sch:List (Nat × Bool)):List (Oper × Bool):=sch.map fun p=>(ops.getD p.1 default,p.2)
theorem zd9 {md:Region.Mode} {l:List Oper} (hno:Region.noSelect l.toArray=true) (hQ:∀ c a d v w,Q (.panic c) (Act.put a d v) w -> Q (.panic c) a w):
  ∀ (sch:List (Nat × Bool)) (fuel:Nat) (listed:Array Bool) (a:Act) (w:World),sch.length<=fuel -> zc3 md l.toArray sch listed=true -> C w →
   wpS P l.toArray C Q (zah l sch) a w -> wpAnyH P md l.toArray Q C fuel listed a w
 | [],fuel,listed,a,w,_,hok,hC,h=>by
  simp only [zc3,List.isEmpty_iff] at hok;exact wpAnyH_done hok h fuel
 | (i,true)::r,0,listed,a,w,hf,hok,hC,h=>by simp at hf
 | (i,false)::r,0,listed,a,w,hf,hok,hC,h=>by simp at hf
 | (i,true)::r,fuel+1,listed,a,w,hf,hok,hC,h=>by
  simp only [zc3,Bool.and_eq_true] at hok;obtain ⟨⟨hr,hfree⟩,hok⟩:=hok;obtain ⟨v,hy,h⟩:=h;have hi:l.toArray[i]?=some (l.getD i default):=by
   have hm:i ∈ Region.ready md l.toArray listed:=by simpa using hr
   have:i < l.length:=by
    simp only [Region.ready,List.mem_filter,List.mem_range] at hm;simpa using hm.1
   simp [List.getD,this]
  exact wpAnyH_take hi hno hfree hr (fun c a w h=>hQ c a _ v w h) hy hC (zd9 hno hQ r fuel _ _ _ (by simpa using hf) hok hC h)
 | (i,false)::r,fuel+1,listed,a,w,hf,hok,hC,h=>by
  simp only [zc3,Bool.and_eq_true,beq_iff_eq] at hok;obtain ⟨hr,hok⟩:=hok;refine wpAnyH_all hr (by simp) ?_;intro j hj;simp at hj;subst hj;have hi:l.toArray[j]?=some (l.getD j default):=by
   have hm:j ∈ Region.ready md l.toArray listed:=by rw [hr];simp
   have:j < l.length:=by
    simp only [Region.ready,List.mem_filter,List.mem_range] at hm;simpa using hm.1
   simp [List.getD,this]
  unfold wpOp;simp only [hi];simp only [zah,List.map_cons,wpS] at h
  by_cases hw:Region.wanted (l.getD j default) (yielded l.toArray a.tmps)=true
  ·rw [if_pos hw] at h ⊢
   exact .inl (Oper.wp_mono (fun a' w' ⟨hC',h'⟩=>⟨hC',zd9 hno hQ r fuel _ _ _ (by simpa using hf) hok hC' h'⟩) h)
  ·rw [if_neg hw] at h ⊢
   exact ⟨hC,zd9 hno hQ r fuel _ _ _ (by simpa using hf) hok hC h⟩
theorem zfh {id:Nat} {l:List Oper} {a:Act} {w:World} (C:World -> Prop) (sch:List (Nat × Bool)) (hm:P.follows .mixedOrders=true)
  (hno:Region.noSelect l.toArray=true) (hok:zc3 .any l.toArray sch (Array.replicate l.length false)=true) (hlen:sch.length<=l.length)
  (hC:C w.drew) (h:wpS P l.toArray C (NoPanic Q) (zah l sch) a w.drew):(Code.region id l.toArray true).wp P Q a w:=by
 refine wp_region_noPanic (wp_region_held (S:=C) hm ?_);have:=zd9 (md:=.any) hno (fun _ _ _ _ _ h=>h) sch l.length (Array.replicate l.length false) a w.drew hlen hok hC h;exact this
theorem zar {a:Act} {w:World} (h:Q .normal a w):wpS P ops C (NoPanic Q) [] a w:=h
theorem zav {o:Oper} {r:List (Oper × Bool)} {a:Act} {w:World} (hg:Region.wanted o (yielded ops a.tmps)=true) (v:Value) (h1:∀ w',C w' -> (execOp a.eval o).run P w'=.ok (.value v) w')
  (h2:wpS P ops C Q r (a.put o.dst v) w):wpS P ops C Q ((o,true)::r) a w:=⟨v,.inl ⟨hg,h1⟩,h2⟩
theorem zoJ {o:Oper} {r:List (Oper × Bool)} {a:Act} {w:World} {b:Bool} (hg:Region.wanted o (yielded ops a.tmps)=false) (h2:wpS P ops C Q r (a.put o.dst undef) w):wpS P ops C Q ((o,b)::r) a w:=by
 cases b
 ·simp only [wpS,hg];exact h2
 ·exact ⟨undef,.inr ⟨hg,rfl⟩,h2⟩
theorem zak {o:Oper} {r:List (Oper × Bool)} {a:Act} {w:World} (hg:Region.wanted o (yielded ops a.tmps)=true)
  (h:∀ K:Act -> World -> Prop,Hid (∀ a' w',C w' -> wpS P ops C Q r a' w' -> K a' w') -> o.wp P a w K Q):wpS P ops C Q ((o,false)::r) a w:=by
 simp only [wpS,hg,if_true];exact h _ (fun a' w' h1 h2=>⟨h1,h2⟩)
end
theorem qS {P:Program} {ops:Array Oper} {C:World -> Prop} {Q:Exit -> Act -> World -> Prop} {o:Oper} {r:List (Oper × Bool)} {a:Act} {w:World} {v:Value} (h2:wpS P ops C Q r (a.put o.dst v) w)
  (hg:Region.wanted o (yielded ops a.tmps)=true:=by rfl) (h1:∀ w',C w' -> (execOp a.eval o).run P w'=.ok (.value v) w':=by intro w' hC;go_simp;try with_reducible rfl):wpS P ops C Q ((o,true)::r) a w:=zav hg v h1 h2
theorem qT {P:Program} {ops:Array Oper} {C:World -> Prop} {Q:Exit -> Act -> World -> Prop} {o:Oper} {r:List (Oper × Bool)} {a a':Act} {w:World} {v:Value} (h2:wpS P ops C Q r a' w)
  (hg:Region.wanted o (yielded ops a.tmps)=true:=by rfl) (h1:∀ w',C w' -> (execOp a.eval o).run P w'=.ok (.value v) w':=by intro w' hC;go_simp;try with_reducible rfl) (ha:a.put o.dst v=a':=by (simp only [Act.put,sA,sZ,sS];exact rfl)):wpS P ops C Q ((o,true)::r) a w:=zav hg v h1 (ha ▸ h2)
theorem nT {P:Program} {ops:Array Oper} {C:World -> Prop} {Q:Exit -> Act -> World -> Prop} {o:Oper} {r:List (Oper × Bool)} {a a':Act} {w:World} {b:Bool} (h2:wpS P ops C Q r a' w)
  (hg:Region.wanted o (yielded ops a.tmps)=false:=by rfl) (ha:a.put o.dst undef=a':=by (simp only [Act.put,sA,sZ,sS];exact rfl)):wpS P ops C Q ((o,b)::r) a w:=zoJ hg (ha ▸ h2)
theorem rS {P:Program} {Q:Exit → Act → World → Prop} {id:Nat} {l:List Oper} {a:Act} {w:World} (C:World → Prop) (sch:List (Nat × Bool)) (hC:C w.drew) (h:wpS P l.toArray C (NoPanic Q) (zah l sch) a w.drew) (hm:P.follows .mixedOrders=true:=by as_aux_lemma=>kernel_rfl)
    (hno:Region.noSelect l.toArray=true:=by as_aux_lemma=>kernel_rfl) (hok:zc3 .any l.toArray sch (Array.replicate l.length false)=true:=by as_aux_lemma=>kernel_rfl) (hlen:sch.length ≤ l.length:=by decide):(Code.region id l.toArray true).wp P Q a w:=zfh C sch hm hno hok hlen hC h
def zeE (o:Oper):Bool:=
 match o.op with
 | .move _=>true
 | .nilCheck _=>true
 | .fieldAddr _ _ _=>true
 | _=>false
def zf5 (md:Region.Mode) (ops:Array Oper) (j:Nat):Bool:=
 match ops[j]? with
 | some o=>(List.range ops.size).all fun i=>i==j || (ops[i]?.map zeE).getD false || o.after.any (fun e=>Region.binds md e && e.on==i)
 | none=>false
section
variable {P:Program} {ops:Array Oper} {Q:Exit -> Act -> World -> Prop} {md:Region.Mode} {S:World -> Prop}
theorem ziy {j i:Nat} {oj oi:Oper} (h:zf5 md ops j=true) (hj:ops[j]?=some oj) (hi:ops[i]?=some oi) (hp:zeE oi=false) (hne:j ≠ i):∃ e ∈ oj.after,Region.binds md e=true/\e.on=i:=by
 unfold zf5 at h;rw [hj] at h;simp only [List.all_eq_true,List.mem_range,Bool.or_eq_true,beq_iff_eq] at h;rcases h i (Array.getElem?_eq_some_iff.1 hi).1 with (h | h) | h
 ·exact absurd h.symm hne
 ·rw [hi] at h;simp [hp] at h
 ·rw [Array.any_eq_true'] at h
  obtain ⟨e,he,h⟩:=h;simp only [Bool.and_eq_true,beq_iff_eq] at h;exact ⟨e,he,h.1,h.2⟩
def wpAnyL (P:Program) (md:Region.Mode) (ops:Array Oper) (Q:Exit -> Act -> World -> Prop) (S:World -> Prop):Nat -> Array Bool -> Act -> World -> Prop
 | 0,listed,a,w=>Region.ready md ops listed=[]/\Q .normal a w
 | fuel+1,listed,a,w=>
  (Region.ready md ops listed=[] -> Q .normal a w) ∧
  ∀ i ∈ Region.ready md ops listed,wpOp P ops Q i (fun a' w'=>(S w -> zf5 md ops i=true \/ S w')/\wpAnyL P md ops Q S fuel (listed.setIfInBounds i true) a' w') a w
theorem zcO:∀ (fuel:Nat) (listed:Array Bool) (a:Act) (w:World),wpAnyL P md ops Q S fuel listed a w -> wpAny P md ops Q fuel listed a w
 | 0,_,_,_,h=>h
 | fuel+1,_,_,_,h=>⟨h.1,fun i hi=>wpOp_mono (fun a' w' h'=>zcO fuel _ a' w' h'.2) (h.2 i hi)⟩
theorem wpAnyL_first {i:Nat} {oi:Oper} {v:Value} (hi:ops[i]?=some oi) (hp:zeE oi=false) (hsel:∀ (j:Nat) (o:Oper) cs b,ops[j]?=some o -> o.op ≠ .select cs b)
  (hQ:∀ c a w,Q (.panic c) (a.put oi.dst v) w -> Q (.panic c) a w):
  ∀ (fuel:Nat) (listed:Array Bool) (a:Act) (w:World),
   (∀ j oj,ops[j]?=some oj -> j ≠ i -> listed.getD j true=false -> (∀ e ∈ oj.after,Region.binds md e=true -> e.on ≠ i) -> oi.apart ops oj=true) →
   i ∈ Region.ready md ops listed -> YieldsIf P ops S oi v a -> S w →
   wpAnyL P md ops Q S fuel (listed.setIfInBounds i true) (a.put oi.dst v) w -> wpAnyL P md ops Q S (fuel+1) listed a w:=by
 intro fuel
 induction fuel with
 | zero=>
  intro listed a w _ hr hy hS H;refine ⟨fun h=>(by rw [h] at hr;cases hr),fun j hj=>?_⟩
  by_cases hji:j=i
  ·subst hji;exact hy.wpOp hi hS ⟨.inr,H⟩
  ·have:=ready_mono hj hji
   rw [H.1] at this;cases this
 | succ fuel ih=>
  intro listed a w hfree hr hy hS H;refine ⟨fun h=>(by rw [h] at hr;cases hr),fun j hj=>?_⟩
  by_cases hji:j=i
  ·subst hji;exact hy.wpOp hi hS ⟨.inr,H⟩
  ·have h1:=H.2 j (ready_mono hj hji)
   obtain ⟨hjun,oj,hoj,hall⟩:=mem_ready.1 hj;have hnot:∀ e ∈ oj.after,Region.binds md e=true -> e.on ≠ i:=fun e he hb heq=>by
    have h1:=hall e he hb;have h0:=(mem_ready.1 hr).1;rw [heq] at h1;rcases Nat.lt_or_ge i listed.size with h' | h'
    ·simp [h'] at h0 h1;rw [h0] at h1;cases h1
    ·simp [Array.getElem?_eq_none h'] at h1
   have hnl:∀ w':World,(S w -> zf5 md ops j=true \/ S w') -> S w':=fun w' h=>by
    rcases h hS with h | h
    ·obtain ⟨e,he,hb,ho⟩:=ziy h hoj hi hp hji
     exact absurd ho (hnot e he hb)
    ·exact h
   have h2:=wpOp_putIf hoj (hfree j oj hoj hji hjun hnot) (fun cs b=>hsel i oi cs b hi) (fun cs b=>hsel j oj cs b hoj) hQ hy h1;have hfree':∀ k ok,ops[k]?=some ok -> k ≠ i -> (listed.setIfInBounds j true).getD k true=false →
     (∀ e ∈ ok.after,Region.binds md e=true -> e.on ≠ i) -> oi.apart ops ok=true:=fun k ok hk hki hun hno=>by
    refine hfree k ok hk hki ?_ hno
    by_cases hjk:j=k
    ·subst hjk;exact hjun
    ·rw [getD_set_ne true hjk] at hun;exact hun
   refine wpOp_mono (fun a' w' h3=>⟨fun _=>.inr (hnl w' h3.2.1),ih (listed.setIfInBounds j true) a' w' hfree' (ready_mono hr (Ne.symm hji)) h3.1 (hnl w' h3.2.1) ?_⟩) h2;rw [Array.setIfInBounds_comm _ _ hji];exact h3.2.2
theorem zgM {i:Nat} {oi:Oper} {v:Value} (hi:ops[i]?=some oi) (hsel:∀ (j:Nat) (o:Oper) cs b,ops[j]?=some o -> o.op ≠ .select cs b)
  (hQ:∀ c a w,Q (.panic c) (a.put oi.dst v) w -> Q (.panic c) a w):
  ∀ (fuel:Nat) (listed:Array Bool) (a:Act) (w:World),
   (∀ j oj,ops[j]?=some oj -> j ≠ i -> listed.getD j true=false -> (∀ e ∈ oj.after,Region.binds md e=true -> e.on ≠ i) -> oi.apart ops oj=true) →
   i ∈ Region.ready md ops listed -> YieldsIf P ops (fun _=>True) oi v a →
   wpAnyL P md ops Q S fuel (listed.setIfInBounds i true) (a.put oi.dst v) w -> wpAnyL P md ops Q S (fuel+1) listed a w:=by
 intro fuel
 induction fuel with
 | zero=>
  intro listed a w _ hr hy H;refine ⟨fun h=>(by rw [h] at hr;cases hr),fun j hj=>?_⟩
  by_cases hji:j=i
  ·subst hji;exact hy.wpOp hi trivial ⟨.inr,H⟩
  ·have:=ready_mono hj hji
   rw [H.1] at this;cases this
 | succ fuel ih=>
  intro listed a w hfree hr hy H;refine ⟨fun h=>(by rw [h] at hr;cases hr),fun j hj=>?_⟩
  by_cases hji:j=i
  ·subst hji;exact hy.wpOp hi trivial ⟨.inr,H⟩
  ·have h1:=H.2 j (ready_mono hj hji)
   obtain ⟨hjun,oj,hoj,hall⟩:=mem_ready.1 hj;have hnot:∀ e ∈ oj.after,Region.binds md e=true -> e.on ≠ i:=fun e he hb heq=>by
    have h1:=hall e he hb;have h0:=(mem_ready.1 hr).1;rw [heq] at h1;rcases Nat.lt_or_ge i listed.size with h' | h'
    ·simp [h'] at h0 h1;rw [h0] at h1;cases h1
    ·simp [Array.getElem?_eq_none h'] at h1
   have h2:=wpOp_putIf hoj (hfree j oj hoj hji hjun hnot) (fun cs b=>hsel i oi cs b hi) (fun cs b=>hsel j oj cs b hoj) hQ hy h1;have hfree':∀ k ok,ops[k]?=some ok -> k ≠ i -> (listed.setIfInBounds j true).getD k true=false →
     (∀ e ∈ ok.after,Region.binds md e=true -> e.on ≠ i) -> oi.apart ops ok=true:=fun k ok hk hki hun hno=>by
    refine hfree k ok hk hki ?_ hno
    by_cases hjk:j=k
    ·subst hjk;exact hjun
    ·rw [getD_set_ne true hjk] at hun;exact hun
   refine wpOp_mono (fun a' w' h3=>⟨h3.2.1,ih (listed.setIfInBounds j true) a' w' hfree' (ready_mono hr (Ne.symm hji)) h3.1 ?_⟩) h2;rw [Array.setIfInBounds_comm _ _ hji];exact h3.2.2
theorem ziE {i:Nat} {oi:Oper} {v:Value} {fuel:Nat} {listed:Array Bool} {a:Act} {w:World} (hi:ops[i]?=some oi)
  (hs:Region.noSelect ops=true) (hf:Region.free md ops listed i=true) (hr:(Region.ready md ops listed).contains i=true)
  (hQ:∀ c a w,Q (.panic c) (a.put oi.dst v) w -> Q (.panic c) a w) (hy:YieldsIf P ops (fun _=>True) oi v a \/ (zeE oi=false/\YieldsIf P ops S oi v a/\S w))
  (h:wpAnyL P md ops Q S fuel (listed.setIfInBounds i true) (a.put oi.dst v) w):wpAnyL P md ops Q S (fuel+1) listed a w:=
by
 rcases hy with hy | ⟨hp,hy,hS⟩
 ·exact zgM hi (Region.noSelect_spec hs) hQ fuel listed a w (Region.free_spec hi hf) (by simpa using hr) hy h
 ·exact wpAnyL_first hi hp (Region.noSelect_spec hs) hQ fuel listed a w (Region.free_spec hi hf) (by simpa using hr) hy hS h
theorem zku {rs:List Nat} {fuel:Nat} {listed:Array Bool} {a:Act} {w:World} (hr:Region.ready md ops listed=rs) (hne:rs ≠ [])
  (h:∀ i ∈ rs,wpOp P ops Q i (fun a' w'=>(S w -> zf5 md ops i=true \/ S w')/\wpAnyL P md ops Q S fuel (listed.setIfInBounds i true) a' w') a w):wpAnyL P md ops Q S (fuel+1) listed a w:=
 ⟨fun h0=>absurd (hr ▸ h0) hne,hr ▸ h⟩
theorem ze3 {listed:Array Bool} {a:Act} {w:World} (hr:Region.ready md ops listed=[]) (h:Q .normal a w):
  ∀ fuel,wpAnyL P md ops Q S fuel listed a w
 | 0=>⟨hr,h⟩
 | _+1=>⟨fun _=>h,by rw [hr];simp⟩
end
def zb1 (md:Region.Mode) (ops:Array Oper):List (Nat × Bool) -> Array Bool -> Bool
 | [],listed=>(Region.ready md ops listed).isEmpty
 | (i,true)::r,listed=>(Region.ready md ops listed).contains i && Region.free md ops listed i && zb1 md ops r (listed.setIfInBounds i true)
 | (i,false)::r,listed=>Region.ready md ops listed==[i] && (!r.isEmpty || zf5 md ops i) && zb1 md ops r (listed.setIfInBounds i true)
section
variable {P:Program} {ops:Array Oper} {C:World -> Prop} {Q:Exit -> Act -> World -> Prop}
def wpT (P:Program) (ops:Array Oper) (C:World -> Prop) (Q:Exit -> Act -> World -> Prop):List (Oper × Bool) -> Act -> World -> Prop
 | [],a,w=>Q .normal a w
 | (o,true)::r,a,w=>∃ v,(YieldsIf P ops (fun _=>True) o v a \/ (zeE o=false/\YieldsIf P ops C o v a))/\wpT P ops C Q r (a.put o.dst v) w
 | (o,false)::r,a,w=>
  if Region.wanted o (yielded ops a.tmps)=true then o.wp P a w (fun a' w'=>(r=[] \/ C w')/\wpT P ops C Q r a' w') Q else wpT P ops C Q r (a.put o.dst undef) w
theorem zc9 {md:Region.Mode} {l:List Oper} (hno:Region.noSelect l.toArray=true) (hQ:∀ c a d v w,Q (.panic c) (Act.put a d v) w -> Q (.panic c) a w):
  ∀ (sch:List (Nat × Bool)) (fuel:Nat) (listed:Array Bool) (a:Act) (w:World),sch.length<=fuel -> zb1 md l.toArray sch listed=true -> C w →
   wpT P l.toArray C Q (zah l sch) a w -> wpAnyL P md l.toArray Q C fuel listed a w
 | [],fuel,listed,a,w,_,hok,hC,h=>by
  simp only [zb1,List.isEmpty_iff] at hok;exact ze3 hok h fuel
 | (i,true)::r,0,listed,a,w,hf,hok,hC,h=>by simp at hf
 | (i,false)::r,0,listed,a,w,hf,hok,hC,h=>by simp at hf
 | (i,true)::r,fuel+1,listed,a,w,hf,hok,hC,h=>by
  simp only [zb1,Bool.and_eq_true] at hok;obtain ⟨⟨hr,hfree⟩,hok⟩:=hok;obtain ⟨v,hy,h⟩:=h;have hi:l.toArray[i]?=some (l.getD i default):=by
   have hm:i ∈ Region.ready md l.toArray listed:=by simpa using hr
   have:i < l.length:=by
    simp only [Region.ready,List.mem_filter,List.mem_range] at hm;simpa using hm.1
   simp [List.getD,this]
  exact ziE hi hno hfree hr (fun c a w h=>hQ c a _ v w h) (hy.imp id (fun h=>⟨h.1,h.2,hC⟩)) (zc9 hno hQ r fuel _ _ _ (by simpa using hf) hok hC h)
 | (i,false)::r,fuel+1,listed,a,w,hf,hok,hC,h=>by
  simp only [zb1,Bool.and_eq_true,beq_iff_eq] at hok;obtain ⟨⟨hr,hlast⟩,hok⟩:=hok;refine zku hr (by simp) ?_;intro j hj;simp at hj;subst hj;have hi:l.toArray[j]?=some (l.getD j default):=by
   have hm:j ∈ Region.ready md l.toArray listed:=by rw [hr];simp
   have:j < l.length:=by
    simp only [Region.ready,List.mem_filter,List.mem_range] at hm;simpa using hm.1
   simp [List.getD,this]
  unfold wpOp;simp only [hi];simp only [zah,List.map_cons,wpT] at h
  by_cases hw:Region.wanted (l.getD j default) (yielded l.toArray a.tmps)=true
  ·rw [if_pos hw] at h ⊢
   refine .inl (Oper.wp_mono (fun a' w' ⟨hC',h'⟩=>⟨fun _=>hC'.imp (fun h0=>by cases r with | nil=>simpa using hlast | cons x r=>simp at h0) id,?_⟩) h);cases r with
   | nil=>exact ze3 (by simpa [zb1,List.isEmpty_iff] using hok) h' fuel
   | cons x r=>exact zc9 hno hQ (x::r) fuel _ _ _ (by simpa using hf) hok (hC'.resolve_left (by simp)) h'
  ·rw [if_neg hw] at h ⊢
   exact ⟨.inr,zc9 hno hQ r fuel _ _ _ (by simpa using hf) hok hC h⟩
theorem zbz {id:Nat} {l:List Oper} {a:Act} {w:World} (C:World -> Prop) (sch:List (Nat × Bool)) (hm:P.follows .mixedOrders=true)
  (hno:Region.noSelect l.toArray=true) (hok:zb1 .any l.toArray sch (Array.replicate l.length false)=true) (hlen:sch.length<=l.length)
  (hC:C w.drew) (h:wpT P l.toArray C (NoPanic Q) (zah l sch) a w.drew):(Code.region id l.toArray true).wp P Q a w:=by
 refine wp_region_noPanic (wp_region_any hm (zcO (S:=C) _ _ _ _ ?_));have:=zc9 (md:=.any) hno (fun _ _ _ _ _ h=>h) sch l.length (Array.replicate l.length false) a w.drew hlen hok hC h;exact this
theorem zia {o:Oper} {r:List (Oper × Bool)} {a:Act} {w:World} (hp:zeE o=false) (hg:Region.wanted o (yielded ops a.tmps)=true) (v:Value) (h1:∀ w',C w' -> (execOp a.eval o).run P w'=.ok (.value v) w')
  (h2:wpT P ops C Q r (a.put o.dst v) w):wpT P ops C Q ((o,true)::r) a w:=⟨v,.inr ⟨hp,.inl ⟨hg,h1⟩⟩,h2⟩
theorem ziJ {o:Oper} {r:List (Oper × Bool)} {a:Act} {w:World} (_hp:zeE o=true) (hg:Region.wanted o (yielded ops a.tmps)=true) (v:Value) (h1:∀ w',True -> (execOp a.eval o).run P w'=.ok (.value v) w')
  (h2:wpT P ops C Q r (a.put o.dst v) w):wpT P ops C Q ((o,true)::r) a w:=⟨v,.inl (.inl ⟨hg,h1⟩),h2⟩
theorem zdF {o:Oper} {r:List (Oper × Bool)} {a:Act} {w:World} (hg:Region.wanted o (yielded ops a.tmps)=true)
  (h:∀ K:Act -> World -> Prop,Hid (∀ a' w',C w' -> wpT P ops C Q r a' w' -> K a' w') -> o.wp P a w K Q):wpT P ops C Q ((o,false)::r) a w:=by
 simp only [wpT,hg,if_true];exact h _ (fun a' w' h1 h2=>⟨.inr h1,h2⟩)
theorem zkd {o:Oper} {a:Act} {w:World} (hg:Region.wanted o (yielded ops a.tmps)=true)
  (h:∀ K:Act -> World -> Prop,Hid (∀ a' w',Q .normal a' w' -> K a' w') -> o.wp P a w K (NoPanic Q)):wpT P ops C (NoPanic Q) [(o,false)] a w:=by
 simp only [wpT,hg,if_true];exact h _ (fun a' w' h1=>⟨.inl trivial,h1⟩)
end
end Cdk
namespace Go.Proofs.YtjjfphalcibjfaaGreatDoor
open Go.RowKit Cdk Scr
theorem zaa {w:World} {b:Nat} {cs:Array Value} {t:TypeId} {fr:Nat × Nat} (h:w.heap[b]?=some (.cells cs t fr)) (j:Nat):w.cell? ⟨b,j,none⟩=cs[j]?:=by
 simp [World.cell?,h]
theorem cS {w:World} {b:Nat} {cs:Array Value} {t:TypeId} {fr:Nat × Nat} {v:Value} (h:w.heap[b]?=some (.cells cs t fr)) (j:Nat) (e:cs[j]?=some v:=by simp only [List.getElem?_toArray,List.getElem?_cons_succ,List.getElem?_cons_zero];exact rfl):w.cell? ⟨b,j,none⟩=some v:=(zaa h j).trans e
theorem zad {w:World} {b:Nat} {cs:Array Value} {t:TypeId} (h:w.heap[b]?=some (.cells cs t (0,0))) (j:Nat):w.frozen? ⟨b,j,none⟩=false:=by
 unfold World.frozen?;simp [h]
def bdC (p:Int × Int × Int):List Value:=[.int .i64 p.1,.int .i64 p.2.1,.int .i64 p.2.2]
theorem zlL (p:Int × Int × Int):(bdC p).length=3:=rfl
def bdB (p:Int × Int × Int):Bool:=rng p.1 p.2.1 p.2.2
theorem zf9 (rows:List (Int × Int × Int)) (R n:Nat) (w:World) (h:zaJ w (some ⟨R,0,none⟩) (rows.flatMap bdC)) (hl:rows.length=n) (hn:n<=10):
  Calls Tryz.prog 169 #[.slice (some ⟨R,0,none⟩) n n] w fun e w'=>e=.returned (.bool (rows.all bdB))/\Ext w w':=by
 obtain ⟨r,hr⟩:∃ r,r=rows.all bdB:=⟨_,rfl⟩;rw [<- hr];replace hr:=Y hr;replace h:=Y h;replace hl:=Y hl;go_enter Tryz.func169,Tryz.ntmps169;go_wp2_with fail
 go_loopg [7] n (fun g i wr=>∃ j:Nat,j+g=n/\i=.int .i64 j/\Ext w wr/\r=(rows.drop j).all bdB)
 case atStart=>exact ⟨0,by omega,rfl,Mod.refl _ _,by rw [hr.o];rfl⟩
 case round=>
  obtain ⟨j,hj,rfl,hx,hrj⟩:=hrel;replace hj:=Y hj
  by_cases hlt:j < n
  ·have hlt':j < rows.length:=by have:=hl.o;omega
   have hg:=fun t ht=>flat_get bdC 3 zlL rows j t rows[j] (List.getElem?_eq_getElem hlt') ht
   obtain ⟨b,off,e0,hc⟩:=h.o.at (by rw [flat_length _ 3 zlL];omega);injection e0 with e0;injection e0 with e1 e2 _
   subst e1;subst e2;rw [List.drop_eq_getElem_cons hlt',List.all_cons] at hrj;generalize rows[j]=p at hg hrj;obtain ⟨x,lo,hi⟩:=p;have g0:=hx.cell (hc _ _ ((hg 0 (by omega)).trans rfl)) id;have g1:=hx.cell (hc _ _ ((hg 1 (by omega)).trans rfl)) id;have g2:=hx.cell (hc _ _ ((hg 2 (by omega)).trans rfl)) id;simp only [Nat.zero_add,Nat.add_zero] at g0 g1 g2;have hxa:=hx.alloc (.cells #[.int .i64 x,.int .i64 lo,.int .i64 hi] 146);replace hx:=Y hx;replace hxa:=Y hxa;replace hrj:=Y hrj;clear hg hc;have hd:decide ((j:Int) < (n:Int))=true:=decide_eq_true (by omega);have hdi:(j:Int) < (n:Int):=by omega
   by_cases h1:x < lo
   ·go_wp2_with fail
    go_ret;refine ⟨?_,hxa.o⟩;rw [hrj.o];simp [bdB,rng,show ¬ lo<=x by omega]
   ·by_cases h2:hi < x
    ·go_wp2_with fail
     go_ret;refine ⟨?_,hxa.o⟩;rw [hrj.o];simp [bdB,rng,show ¬ x<=hi by omega]
    ·go_wp2_with fail
     go_roundg (gk - 1)
     case measure=>have:=hj.o;omega
     case rel=>
      refine ⟨j+1,by have:=hj.o;omega,by go_num,hxa.o,?_⟩;rw [hrj.o];simp [bdB,rng,show lo<=x by omega,show x<=hi by omega]
  ·have hdi:¬ (j:Int) < (n:Int):=by omega
   have hd:decide ((j:Int) < (n:Int))=false:=decide_eq_false hdi;rw [List.drop_eq_nil_of_le (by have:=hl.o;omega)] at hrj;replace hrj:=Y hrj;replace hx:=Y hx;go_wp2_with fail
   go_ret;exact ⟨by rw [hrj.o];rfl,hx.o⟩
theorem zkD (x lo hi:Int) (w:World):Calls Tryz.prog 169 #[.slice (some ⟨w.heap.size,0,none⟩) 1 1] (w.alloc (.cells #[.int .i64 x,.int .i64 lo,.int .i64 hi] 146)) fun e w'=>e=.returned (.bool (rng x lo hi))/\Ext w w':=
 (zf9 [(x,lo,hi)] w.heap.size 1 _ (zaJ.new w _ _) rfl (by decide)).mono fun e w' ⟨h1,h2⟩=>⟨by rw [h1];simp [bdB],((Mod.refl (fun _=>False) w).alloc _).trans h2⟩
theorem zcn {F:Nat -> Prop} (v:Value) (l:Lb) (w:World) (h:zaF F w v l.aft):
  Calls Tryz.prog 89 #[.agg (lbC v l).toArray] w fun e w'=>e=.returned (.bool (vLb l))/\Ext w w':=by
 obtain ⟨til,aft,app,den⟩:=l;simp only at h;obtain ⟨r,hr⟩:∃ r,r=vLb ⟨til,aft,app,den⟩:=⟨_,rfl⟩;rw [<- hr];obtain ⟨ao,cap,rfl,hrow,-,hcap,hcap2,-⟩:=h;unfold vLb at hr;simp only at hr;obtain ⟨n,hn⟩:∃ n,n=aft.length:=⟨_,rfl⟩;rw [<- hn] at hcap;unfold lbC;simp only;rw [<- hn];have hn2:n<=140737488355328:=by rw [hn];exact hcap2.1
 replace hn:=Y hn;replace hr:=Y hr;replace hrow:=Y hrow;go_enter Tryz.func89,Tryz.ntmps89;go_wp2_with fail
 have hx0:=Y ((Mod.refl (fun _=>False) w).alloc (.cells #[.int .i64 til,.slice ao n cap,.int .i64 app,.int .i64 den] 26));have hR:=heap_alloc_new w (.cells #[.int .i64 til,.slice ao n cap,.int .i64 app,.int .i64 den] 26);have hsz:(w.alloc (.cells #[.int .i64 til,.slice ao n cap,.int .i64 app,.int .i64 den] 26)).heap.size=w.heap.size+1:=World.size_alloc _ _;rw [<- hsz];generalize (w.alloc (.cells #[.int .i64 til,.slice ao n cap,.int .i64 app,.int .i64 den] 26))=w1 at hx0 hR hsz ⊢;refine (zf9 [(til,0,1000000000),(app,0,5),(den,0,15)] _ 3 _ (zaJ.new w1 _ _) rfl (by decide)).mono ?_;rintro e w2 ⟨rfl,hx2⟩;have hx2:=((Mod.refl (fun _=>False) w1).alloc (.cells #[.int .i64 til,.int .i64 0,.int .i64 1000000000,.int .i64 app,.int .i64 0,.int .i64 5,.int .i64 den,.int .i64 0,.int .i64 15] 146)).trans hx2;have hR2:=hx2.at hR id;have hxw:=Y (hx0.o.trans hx2);have c1:=cS hR2 1;clear hx2 hR hR2 hx0 hsz;generalize w.heap.size=R at c1 ⊢;have hb:([(til,0,1000000000),(app,0,5),(den,0,15)].all bdB)=(rng til 0 1000000000 && (rng app 0 5 && rng den 0 15)):=by simp [bdB]
 rw [hb];clear hb;cases hbb:(rng til 0 1000000000 && (rng app 0 5 && rng den 0 15)) with
 | false=>
  have hrf:Hid (r=false):=Y (by
   rw [hr.o];have:(rng til 0 1000000000 && (rng app 0 5 && (rng den 0 15 && asc 0 aft)))=((rng til 0 1000000000 && (rng app 0 5 && rng den 0 15)) && asc 0 aft):=by simp [Bool.and_assoc]
   rw [this,hbb];rfl)
  replace hbb:=Y hbb;go_wp2_with fail
  go_ret;exact ⟨by rw [hrf.o];rfl,hxw.o⟩
 | true=>
  have hrt:Hid (r=asc 0 aft):=Y (by
   rw [hr.o];have:(rng til 0 1000000000 && (rng app 0 5 && (rng den 0 15 && asc 0 aft)))=((rng til 0 1000000000 && (rng app 0 5 && rng den 0 15)) && asc 0 aft):=by simp [Bool.and_assoc]
   rw [this,hbb];rfl)
  replace hbb:=Y hbb;clear hr;go_wp2_with fail
  go_loopg [3,21] n (fun g la i wr=>∃ (j:Nat) (p:Int),j+g=n/\i=.int .i64 j/\la=.int .i64 p/\0<=p/\p<=64/\Ext w wr/\r=asc p (aft.drop j))
  case atStart=>exact ⟨0,0,by omega,rfl,rfl,by decide,by decide,hxw.o,hrt.o⟩
  case round=>
   clear hxw hrt c1;obtain ⟨j,p,hj,rfl,rfl,hp1,hp2,hx,hrj⟩:=hrel;replace hj:=Y hj
   by_cases hlt:j < n
   ·have hd:decide ((j:Int) < (n:Int))=true:=decide_eq_true (by omega)
    have hdi:(j:Int) < (n:Int):=by omega
    have hlt':j < aft.length:=by have:=hn.o;omega
    have hg:=flat_get zcZ 1 zbv aft j 0 aft[j] (List.getElem?_eq_getElem hlt') (by decide);obtain ⟨b,off,rfl,hc⟩:=hrow.o.at (by rw [flat_length _ 1 zbv];omega);rw [List.drop_eq_getElem_cons hlt'] at hrj;simp only [asc] at hrj;generalize aft[j]=x at hg hrj;have g0:=hx.cell (hc _ _ (hg.trans rfl)) id;simp only [Nat.mul_one,Nat.add_zero] at g0;clear hg hc;have hx1:=Y (zkD x (p+1) 64 wr);replace hx:=Y hx;go_wp2_with fail
    refine hx1.o.mono ?_;rintro e w4 ⟨rfl,hx4⟩;have hx4:=Y (hx.o.trans hx4);clear hx1;cases hbx:rng x (p+1) 64 with
    | false=>
     rw [hbx] at hrj;replace hrj:=Y hrj;replace hbx:=Y hbx;go_wp2_with fail
     go_ret;exact ⟨by rw [hrj.o];rfl,hx4.o⟩
    | true=>
     rw [hbx] at hrj;replace hrj:=Y hrj;have hxr:=zam.1 hbx;replace hbx:=Y hbx;go_wp2_with fail
     go_roundg (gk - 1)
     case measure=>have:=hj.o;omega
     case rel=>exact ⟨j+1,x,by have:=hj.o;omega,by go_num,rfl,by omega,by omega,hx4.o,by rw [hrj.o];rfl⟩
   ·have hdi:¬ (j:Int) < (n:Int):=by omega
    have hd:decide ((j:Int) < (n:Int))=false:=decide_eq_false hdi;rw [List.drop_eq_nil_of_le (by have:=hn.o;omega)] at hrj;replace hrj:=Y hrj;replace hx:=Y hx;go_wp2_with fail
    go_ret;exact ⟨by rw [hrj.o];rfl,hx.o⟩
open Go.Shelf Go.RowKit Cdk Scr
abbrev zhl:TypeId:=65
abbrev u8T:TypeId:=5
def Bld (B b:Nat) (tx:Bs) (w:World):Prop:=Lib.IsBuilder zhl u8T B b (Lib.byteCells tx) w
def za4 (B b:Nat) (w w':World):Prop:=Mod (fun k=>B<=k) w w'/\∀ k o,w.heap[k]?=some o -> (∀ cs fr,o ≠ .cells cs u8T fr) -> k ≠ b -> w'.heap[k]?=some o
theorem za4.refl (B b:Nat) (w:World):za4 B b w w:=⟨Mod.refl _ w,fun _ _ h _ _=>h⟩
theorem za4.ofExt {B b:Nat} {w w':World} (h:Ext w w'):za4 B b w w':=⟨h.mono (fun _ h=>h.elim),fun _ _ hk _ _=>h.at hk id⟩
theorem za4.trans {B b:Nat} {w w' w'':World} (h:za4 B b w w') (k:za4 B b w' w''):za4 B b w w'':=
 ⟨h.1.trans k.1,fun j o hj ho hb=>k.2 j o (h.2 j o hj ho hb) ho hb⟩
theorem za4.ext {B b:Nat} {w w' w'':World} (h:za4 B b w w') (k:Ext w' w''):za4 B b w w'':=h.trans (.ofExt k)
theorem za4.pre {B b:Nat} {w w' w'':World} (h:Ext w w') (k:za4 B b w' w''):za4 B b w w'':=(za4.ofExt h).trans k
theorem za4.setCell {B b:Nat} {w:World} (hb:B<=b) (j:Nat) (u:Value):za4 B b w (w.setCell ⟨b,j,none⟩ u):=
 ⟨(Mod.refl _ w).setCell (fun _=>hb) u,fun k o hk _ hne=>by rw [Below.heap_setCell w ⟨b,j,none⟩ u k hne];exact hk⟩
theorem za4.grown {B b:Nat} {w w':World} {v:Value} {n:Nat} {xs:List Value} (hown:w.ownsRow B u8T 1 v n xs) (hg:w.grownBy w' v.ownBlock):za4 B b w w':=by
 refine ⟨Mod.ofGrown hg (fun k hk=>(hown.lt k hk).1),fun k o hk ho _=>?_⟩;rw [hg.block k (zas hk) (fun e=>?_)]
 ·exact hk
 ·rcases hown.2 with ⟨rfl,_⟩ | ⟨g,cap,cur,rfl,_,h1,_⟩
  ·simp [Value.ownBlock] at e
  ·simp [Value.ownBlock] at e
   subst e;rw [h1] at hk;exact ho _ _ (Option.some.inj hk).symm
theorem Bld.lt {B b:Nat} {tx:Bs} {w:World} (h:Bld B b tx w):B<=b/\b < w.heap.size:=by
 rcases h with h | h
 ·exact ⟨h.1,h.lt⟩
 ·exact ⟨h.1,h.lt⟩
theorem Bld.fresh (w:World):Bld w.heap.size w.heap.size [] (w.alloc (.cells #[.pointer none,.slice none 0 0] zhl)):=Lib.fresh_isBuilder zhl u8T w
theorem Bld.ext {B b:Nat} {tx:Bs} {w w':World} (h:Bld B b tx w) (hx:Ext w w'):Bld B b tx w':=by
 have aux:∀ p,Lib.BuilderAt zhl u8T B b p (Lib.byteCells tx) w -> Lib.BuilderAt zhl u8T B b p (Lib.byteCells tx) w':=by
  rintro p ⟨hB,v,hb,hown,hne⟩;exact ⟨hB,v,hx.at hb id,hown.kept (row:=none) ⟨hx.os,hx.tape,hx.output,hx.size,fun k hk _=>hx.block k hk id⟩ (Classical.em _),hne⟩
 exact h.imp (aux _) (aux _)
theorem zoV:(Tryz.prog.info? zhl).map (·.size)=some 2:=by kernel_rfl
theorem zpL:liesAt Tryz.prog Tryz.prog.depth zhl (2 / Tryz.prog.cellsOf zhl) 0 zhl 1=true:=by kernel_rfl
theorem zos:(Tryz.prog.info? u8T).map (fun i=>(i.zero,i.size,i.bytes))=some (some (.int .u8 0),1,1):=by kernel_rfl
theorem zeL:∀ args w,(callFunc 71 args).run Tryz.prog w=.ok (.enter 71 args) w:=enters_of Tryz.func71 (by kernel_rfl) rfl
theorem zkm (b:Nat) (w:World) (h0:w.cell? ⟨b,0,none⟩=some (.pointer (some ⟨b,0,none⟩))):
  Calls Tryz.prog 71 #[.pointer (some ⟨b,0,none⟩)] w fun e w'=>e=.returned (.tuple #[])/\w'=w:=by
 obtain ⟨j,hj,_⟩:=Option.map_eq_some_iff.1 zoV;go_enter Tryz.func71,Tryz.ntmps71;go_wp2;rw [Lib.run_neq_ptr_same w _ Tryz.underlying62 hj];go_wp2
 go_end0
 exact ⟨rfl,rfl⟩
theorem ziK (b:Nat) (w:World) (h0:w.cell? ⟨b,0,none⟩=some (.pointer none)) (hsh:w.shape? b=some (zhl,2)) (hfz:w.frozen? ⟨b,0,none⟩=false):
  Calls Tryz.prog 71 #[.pointer (some ⟨b,0,none⟩)] w fun e w'=>e=.returned (.tuple #[])/\w'=w.setCell ⟨b,0,none⟩ (.pointer (some ⟨b,0,none⟩)):=by
 obtain ⟨j,hj,hjs⟩:=Option.map_eq_some_iff.1 zoV;go_enter Tryz.func71,Tryz.ntmps71;go_wp2;rw [Lib.run_to_unsafe w ⟨b,0,none⟩ Tryz.underlying62 Tryz.underlying129 hj (by rw [hjs];decide) hsh (Nat.zero_lt_succ 1)];simp only [Result.andThen];rw [Oper.upon_value];go_wp2;rw [run_callFunc_extern Tryz.func152 (by kernel_rfl) (by kernel_rfl) (by kernel_rfl) (e:=Extern.AbiNoEscape.same) (by kernel_rfl)];rw [Lib.run_noEscape];simp only [Result.andThen];rw [Oper.upon_value];go_wp2;rw [Lib.run_from_unsafe w ⟨b,0,none⟩ Tryz.underlying129 Tryz.underlying62 hj hsh zpL];simp only [Result.andThen];rw [Oper.upon_value];go_wp2
 go_end0
 exact ⟨rfl,rfl⟩
theorem check_any (B b:Nat) (tx:Bs) (w:World) (h:Bld B b tx w):
  Calls Tryz.prog 71 #[.pointer (some ⟨b,0,none⟩)] w fun e w'=>e=.returned (.tuple #[])/\Lib.BuilderAt zhl u8T B b (.pointer (some ⟨b,0,none⟩)) (Lib.byteCells tx) w'/\za4 B b w w':=by
 rcases h with h | h
 ·refine (ziK b w h.cell0 h.shape h.frozen0).mono ?_
  rintro e w' ⟨rfl,rfl⟩;exact ⟨rfl,h.used _,za4.setCell h.1 0 _⟩
 ·refine (zkm b w h.cell0).mono ?_
  rintro e w' ⟨rfl,rfl⟩;exact ⟨rfl,h,za4.refl _ _ _⟩
theorem zes (B b:Nat) (tx:Bs) (s:ByteArray) (w:World) (h:Bld B b tx w) (hlen:tx.length+s.size<=140737488355328):
  Calls Tryz.prog 43 #[.pointer (some ⟨b,0,none⟩),.string s] w fun e w'=>e=.returned (.tuple #[.int .i64 s.size,.nilIface])/\Bld B b (tx++s.data.toList) w'/\za4 B b w w':=by
 obtain ⟨i0,hi,hz0,hz1,hz2⟩:=info_parts zos;have hBw:B<=w.heap.size:=by have:=h.lt;omega
 have e240:=zeL;go_enter Tryz.func43,Tryz.ntmps43;go_wp2_with (go_at_fn 71;refine (check_any B b tx _ h).mono ?_)
 rintro e w1 ⟨rfl,h1,hb1⟩;obtain ⟨hB,v,hbk,hown,hne⟩:=h1;have c0:w1.cell? ⟨b,0,none⟩=some (.pointer (some ⟨b,0,none⟩)):=by rw [Lib.cell_of_heap hbk];rfl
 have c1:w1.cell? ⟨b,1,none⟩=some v:=by rw [Lib.cell_of_heap hbk];rfl
 have hlb:=Y (Lib.byteCells_length tx);go_wp2_with (at_builtin;refine Lib.wpList_append_own_string _ rfl _ _ 63 9 rfl B u8T i0 Tryz.underlying63 Tryz.underlying9 hi hz0 hz1 hz2 _ _ _ rfl hown s rfl ?c3 ?c4 ?c5 ?_)
 case c3=>have:=hlb.o;unfold maxLen;omega
 case c4=>have:=hlb.o;omega
 case c5=>have:=hb1.1.size;omega
 intro v' w2 hown' hgrow _;have hlt:b < w1.heap.size:=zas hbk;have hb2:w2.heap[b]?=some (.cells #[.pointer (some ⟨b,0,none⟩),v] zhl (0,0)):=by
  rw [hgrow.block b hlt (fun e=>hne e.symm)];exact hbk
 have d0:w2.cell? ⟨b,0,none⟩=some (.pointer (some ⟨b,0,none⟩)):=by rw [Lib.cell_of_heap hb2];rfl
 have d1:w2.cell? ⟨b,1,none⟩=some v:=by rw [Lib.cell_of_heap hb2];rfl
 have f1:w2.frozen? ⟨b,1,none⟩=false:=Lib.frozen_of_heap hb2 1;obtain ⟨ao,n',cap,rfl⟩:∃ ao n' cap,v'=.slice ao n' cap:=by
  rcases hown'.2 with ⟨hv,_⟩ | ⟨g,cap,cur,hv,_⟩
  ·exact ⟨_,_,_,hv⟩
  ·exact ⟨_,_,_,hv⟩
 go_wp2
 go_ret2
 refine ⟨rfl,.inr ?_,(hb1.trans (za4.grown hown hgrow)).trans (za4.setCell hB 1 _)⟩;have e1:Lib.byteCells (tx++s.data.toList)=Lib.byteCells tx++Lib.strCells s:=by simp [Lib.byteCells,Lib.strCells]
 rw [e1];exact Lib.BuilderAt.put (T:=zhl) (e:=u8T) hB hb2 (bs':=Lib.byteCells tx++Lib.strCells s) (by simpa [Lib.strCells_length] using hown') (by decide)
theorem zdB (B b:Nat) (tx:Bs) (c:UInt8) (w:World) (h:Bld B b tx w) (hlen:tx.length+1<=140737488355328):
  Calls Tryz.prog 45 #[.pointer (some ⟨b,0,none⟩),.int .u8 c.toNat] w fun e w'=>e=.returned .nilIface/\Bld B b (tx++[c]) w'/\za4 B b w w':=by
 obtain ⟨i0,hi,hz0,hz1,hz2⟩:=info_parts zos;have hBw:B<=w.heap.size:=by have:=h.lt;omega
 have e240:=zeL;go_enter Tryz.func45,Tryz.ntmps45;go_wp2_with (go_at_fn 71;refine (check_any B b tx _ h).mono ?_)
 rintro e w1 ⟨rfl,h1,hb1⟩;obtain ⟨hB,v,hbk,hown,hne⟩:=h1;have c0:w1.cell? ⟨b,0,none⟩=some (.pointer (some ⟨b,0,none⟩)):=by rw [Lib.cell_of_heap hbk];rfl
 have c1:w1.cell? ⟨b,1,none⟩=some v:=by rw [Lib.cell_of_heap hbk];rfl
 have hlb:=Y (Lib.byteCells_length tx);go_wp2_with (at_builtin;refine wpList_append_own _ rfl _ _ 63 rfl B u8T i0 (.int .u8 0) 1 1 Tryz.underlying63 hi hz0 hz1 hz2 rfl (by decide) _ _ _ rfl (hown.alloc _) ⟨w1.heap.size,0,none⟩ 1 1 [.int .u8 c.toNat] rfl rfl ?c1 ?c2 ?c3 ?c4 ?c5 ?_)
 case c1=>
  intro j u hj
  match j,hj with
  | 0,hj=>simp at hj;subst hj;simp [Addr.add]
 case c2=>intro u hu;simp at hu;subst hu;rfl
 case c3=>have:=hlb.o;unfold maxLen;omega
 case c4=>have:=hlb.o;omega
 case c5=>have:=hb1.1.size;simp;omega
 intro v' w2 hown' hgrow _;have hlt:b < w1.heap.size:=zas hbk;have hb2:w2.heap[b]?=some (.cells #[.pointer (some ⟨b,0,none⟩),v] zhl (0,0)):=by
  rw [hgrow.block b (by simp;omega) (fun e=>hne e.symm),Lib.alloc_old w1 _ b hlt];exact hbk
 have d0:w2.cell? ⟨b,0,none⟩=some (.pointer (some ⟨b,0,none⟩)):=by rw [Lib.cell_of_heap hb2];rfl
 have d1:w2.cell? ⟨b,1,none⟩=some v:=by rw [Lib.cell_of_heap hb2];rfl
 have f1:w2.frozen? ⟨b,1,none⟩=false:=Lib.frozen_of_heap hb2 1;obtain ⟨g,cap,rfl⟩:∃ g cap,v'=.slice (some ⟨g,0,none⟩) ((Lib.byteCells tx).length+1) cap:=by
  rcases hown'.2 with ⟨_,h0⟩ | ⟨g,cap,cur,hv,_⟩
  ·omega
  ·exact ⟨g,cap,hv⟩
 go_wp2;go_ret;refine ⟨rfl,.inr ?_,((hb1.ext ((Mod.refl _ w1).alloc _)).trans (za4.grown (hown.alloc _) hgrow)).trans (za4.setCell hB 1 _)⟩;have e1:Lib.byteCells (tx++[c])=Lib.byteCells tx++[.int .u8 c.toNat]:=by simp [Lib.byteCells]
 rw [e1];exact Lib.BuilderAt.put (T:=zhl) (e:=u8T) hB hb2 (bs':=Lib.byteCells tx++[.int .u8 c.toNat]) (by simpa using hown') (by decide)
end Go.Proofs.YtjjfphalcibjfaaGreatDoor
