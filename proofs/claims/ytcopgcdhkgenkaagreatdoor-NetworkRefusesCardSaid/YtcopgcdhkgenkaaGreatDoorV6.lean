import Derived.Test.YtcopgcdhkgenkaaGreatDoorR3
set_option linter.all false
set_option maxRecDepth 100000
set_option maxHeartbeats 16000000
namespace Cdk
open Go Go.RowKit
theorem assoc_cons {K:Type} [DecidableEq K] (p:K × Value) (d:List (K × Value)) (j:K):assoc (p::d) j=if p.1=j then some p.2 else assoc d j:=by
 unfold assoc
 by_cases h:p.1=j <;> simp [List.find?_cons,h]
theorem assoc_mapU {K:Type} [DecidableEq K] (k:K) (v:Value) (j:K):∀ d:List (K × Value),assoc (d.map fun p=>if p.1=k then (p.1,v) else p) j=if j=k then (assoc d j).map (fun _=>v) else assoc d j
 | []=>by simp [assoc]
 | p::d=>by
  rw [List.map_cons,assoc_cons,assoc_cons,assoc_mapU k v j d]
  by_cases h1:p.1=k
  ·by_cases h2:j=k
   ·simp [h1,h2]
   ·have:¬ p.1=j:=fun e=>h2 (by rw [<- e,h1])
    have h3:¬ k=j:=fun e=>h2 e.symm
    simp [h1,h2,h3]
  ·by_cases h2:p.1=j
   ·have h3:¬ j=k:=fun e=>h1 (by rw [h2,e])
    simp [h2,h3]
   ·simp [h1,h2]
theorem assoc_app {K:Type} [DecidableEq K] (q:K × Value) (j:K):∀ d:List (K × Value),assoc (d++[q]) j=(assoc d j).or (if q.1=j then some q.2 else none)
 | []=>by rw [List.nil_append,assoc_cons];simp [assoc]
 | p::d=>by
  rw [List.cons_append,assoc_cons,assoc_cons,assoc_app q j d];split <;> simp
theorem assoc_upd {K:Type} [DecidableEq K] (d:List (K × Value)) (k:K) (v:Value) (j:K):assoc (upd d k v) j=if j=k then some v else assoc d j:=by
 unfold upd
 by_cases h:(assoc d k).isSome=true
 ·rw [if_pos h,assoc_mapU]
  by_cases hj:j=k
  ·subst hj
   obtain ⟨u,hu⟩:=Option.isSome_iff_exists.1 h;simp [hu]
  ·simp [hj]
 ·rw [if_neg h,assoc_app]
  have h0:assoc d k=none:=by simpa using h
  by_cases hj:j=k
  ·subst hj;simp [h0]
  ·have h3:¬ k=j:=fun e=>hj e.symm
   simp [hj,h3]
end Cdk
namespace Go.Proofs.YtcopgcdhkgenkaaGreatDoor
open Go.RowKit Cdk Scr Nt
structure PartAt (F:Nat -> Prop) (w:World) (p:Nat) (id:Int) (σ:Int -> Int) (κ:Int -> Option Bs) (sm cm:Nat) (ds dc:List (Int × Value)):Prop where
 at_:w.heap[p]?=some (.cells #[.int .i64 id,.map (some sm),.map (some cm)] 144 (0,0))
 seqs:MapAt w (Value.int .i64) sm ds
 vals:∀ k,(assoc ds k).getD (.int .i64 0)=.int .i64 (σ k)
 copies:MapAt w (Value.int .i64) cm dc
 texts:∀ k,assoc dc k=(κ k).map strV
 foot:F p/\F sm/\F cm
 ne:sm ≠ cm
def PartIs (F:Nat -> Prop) (w:World) (p:Nat) (id:Int) (σ:Int -> Int) (κ:Int -> Option Bs):Prop:=∃ sm cm ds dc,PartAt F w p id σ κ sm cm ds dc
theorem PartAt.mod {F S:Nat -> Prop} {w w':World} {p:Nat} {id:Int} {σ:Int -> Int} {κ:Int -> Option Bs} {sm cm:Nat} {ds dc:List (Int × Value)} (h:PartAt F w p id σ κ sm cm ds dc) (hm:Mod S w w') (hS:∀ k,F k -> ¬ S k):PartAt F w' p id σ κ sm cm ds dc:=
 ⟨hm.at h.at_ (hS _ h.foot.1),h.seqs.mod hm (hS _ h.foot.2.1),h.vals,h.copies.mod hm (hS _ h.foot.2.2),h.texts,h.foot,h.ne⟩
theorem PartIs.mod {F S:Nat -> Prop} {w w':World} {p:Nat} {id:Int} {σ:Int -> Int} {κ:Int -> Option Bs} (h:PartIs F w p id σ κ) (hm:Mod S w w') (hS:∀ k,F k -> ¬ S k):PartIs F w' p id σ κ:=by
 obtain ⟨sm,cm,ds,dc,h⟩:=h;exact ⟨sm,cm,ds,dc,h.mod hm hS⟩
theorem partNew_any (id:Int) (h:1<=id/\id<=8) (w:World):
  Calls Tryz.prog 33 #[.int .i64 id] w fun e w'=>(∃ p,e=.returned (.tuple #[.pointer (some ⟨p,0,none⟩),.int .i64 0])/\PartIs (fun k=>w.heap.size<=k/\k < w'.heap.size) w' p id (fun _=>0) (fun _=>none))/\Ext w w':=by
 have h1:¬ id < 1:=by omega
 have h2:¬ 8 < id:=by omega
 have hmm:=@run_makeMap Tryz.prog;go_enter Tryz.func33,Tryz.ntmps33;go_wp2_with fail
 go_ret2
 have hx:=allocs_ext (S:=fun _=>False) [.map #[] 0,.map #[] 0,.cells #[.int .i64 id,.map (some w.heap.size),.map (some (w.heap.size+1))] 144] w;have hg:=allocs_get [.map #[] 0,.map #[] 0,.cells #[.int .i64 id,.map (some w.heap.size),.map (some (w.heap.size+1))] 144] w;have hz:=allocs_size [.map #[] 0,.map #[] 0,.cells #[.int .i64 id,.map (some w.heap.size),.map (some (w.heap.size+1))] 144] w;refine ⟨⟨w.heap.size+2,rfl,w.heap.size,w.heap.size+1,[],[],⟨hg 2 (by simp),⟨_,_,hg 0 (by simp),by simp,by simp,by simp,by simp⟩,fun k=>rfl,⟨_,_,hg 1 (by simp),by simp,by simp,by simp,by simp⟩,fun k=>rfl,?_,by omega⟩⟩,hx⟩;simp only [allocs,List.length_cons,List.length_nil] at hz;refine ⟨⟨by omega,?_⟩,⟨by omega,?_⟩,⟨by omega,?_⟩⟩ <;> exact Nat.lt_of_lt_of_eq (by omega) hz.symm
theorem zero_str (w:World):(zeroValue 9).run Tryz.prog w=.ok (.string .empty) w:=by kernel_rfl
theorem partText_any {F:Nat -> Prop} {p:Nat} {id:Int} {σ:Int -> Int} {κ:Int -> Option Bs} (k:Int) (w:World) (h:PartIs F w p id σ κ):
  Calls Tryz.prog 43 #[.pointer (some ⟨p,0,none⟩),.int .i64 k] w fun e w'=>e=.returned (.tuple #[strV ((κ k).getD []),.bool (κ k).isSome])/\w=w':=by
 obtain ⟨sm,cm,ds,dc,h⟩:=h;have hlk:=run_lookupM (P:=Tryz.prog) (t:=142) (keyOk_int Tryz.underlying3) Tryz.underlying142 h.copies k (zero_str w) true;have c2:w.cell? ⟨p,2,none⟩=some (.map (some cm)):=cellN h.at_ 2;rw [h.texts k] at hlk;generalize κ k=o at hlk ⊢;cases o with
 | none=>
  simp only [Option.map_none,Option.getD_none,Option.isSome_none,if_true] at hlk;go_enter Tryz.func43,Tryz.ntmps43;go_wp2_with fail
  go_ret2
  exact ⟨rfl,rfl⟩
 | some x=>
  simp only [Option.map_some,Option.getD_some,Option.isSome_some,if_true] at hlk;go_enter Tryz.func43,Tryz.ntmps43;go_wp2_with fail
  go_ret2
  exact ⟨rfl,rfl⟩
open Go.Shelf Go.RowKit Cdk Scr
theorem PartIs.mono {F F':Nat -> Prop} {w:World} {p:Nat} {id:Int} {σ:Int -> Int} {κ:Int -> Option Bs} (h:PartIs F w p id σ κ) (hF:∀ k,F k -> F' k):PartIs F' w p id σ κ:=by
 obtain ⟨sm,cm,ds,dc,h⟩:=h;exact ⟨sm,cm,ds,dc,⟨h.at_,h.seqs,h.vals,h.copies,h.texts,⟨hF _ h.foot.1,hF _ h.foot.2.1,hF _ h.foot.2.2⟩,h.ne⟩⟩
structure PsAt (w:World) (m B k:Nat) (pf lo:Nat -> Nat) (σ:Nat -> Int -> Int) (κ:Nat -> Int -> Option Bs):Prop where
 map:∃ ds,MapAt w (Value.int .i64) m ds/\(∀ id:Nat,1<=id -> id<=k -> assoc ds (id:Int)=some (.pointer (some ⟨pf id,0,none⟩)))/\(∀ x:Int,(x < 1 \/ (k:Int) < x) -> assoc ds x=none)
 ps:∀ id,1<=id -> id<=k -> PartIs (fun q=>lo id<=q/\q < lo (id+1)) w (pf id) id (σ id) (κ id)
 mono:∀ id id',1<=id -> id<=id' -> id'<=k+1 -> lo id<=lo id'
 base:B<=lo 1
 mB:m < B
theorem PsAt.ext {w w':World} {m B k:Nat} {pf lo:Nat -> Nat} {σ:Nat -> Int -> Int} {κ:Nat -> Int -> Option Bs} (h:PsAt w m B k pf lo σ κ) (hx:Ext w w'):PsAt w' m B k pf lo σ κ:=by
 obtain ⟨ds,h1,h2,h3⟩:=h.map;exact ⟨⟨ds,h1.mod hx (fun h=>h),h2,h3⟩,fun id a b=>(h.ps id a b).mod hx (fun _ _ h=>h),h.mono,h.base,h.mB⟩
def NetNewP (w:World) (e:Ending) (w':World):Prop:=(∃ (b d r j s m:Nat) (cl:Nat -> Array Value) (bf xf mf pf lo:Nat -> Nat),e=.returned (.tuple #[.pointer (some ⟨b,0,none⟩),.int .i64 0])/\NetB w' b 0 0 (.pointer (some ⟨d,0,none⟩)) (.pointer (some ⟨r,0,none⟩)) m (.slice none 0 0) (.slice none 0 0) 0/\NrAt w' r j s 0 0 cl (.slice none 0 0) 0/\(∀ c,c < 4 -> ClNew w' r (cl c) c (bf c) (xf c) (mf c))/\(∀ c,c+1 < 4 -> bf c < mf (c+1))/\bf 3 < m/\m < b/\PsAt w' m (b+1) 8 pf lo (fun _ _=>0) (fun _ _=>none)/\w.heap.size<=j)/\Ext w w'
theorem netNew_any {n h:Nat} (hn:n=h+h) (hh:32<=h/\h<=2097152) (w:World) (hG:Gl w):
  Calls Tryz.prog 12 #[.int .i64 n] w (NetNewP w):=by
 have hmm:=@run_makeMap Tryz.prog;have hdn:=hid (diskNew_any n (by omega) w);replace hn:=hid hn;replace hG:=hid hG;go_enter Tryz.func12,Tryz.ntmps12;go_wp2_with fail
 refine hdn.out.mono ?_;rintro e w1 ⟨⟨d,db,vb,rfl,hA,hdd⟩,hx1⟩;have hop:=hid (openNr_zero w1 hA (hG.out.ext hx1) hn.out hh);replace hx1:=hid hx1;clear hA;go_wp2_with fail
 refine hop.out.mono ?_;rintro e w2 ⟨⟨r,j,s,cl,bf,xf,mf,rfl,hNr,hj,hC,hCb⟩,hm2⟩;have hx2:=hid (hx1.out.then hm2 (fun k hk e=>by omega));have hjw:w.heap.size<=j:=Nat.le_trans hx1.out.size hj;have hb3:bf 3 < w2.heap.size:=lt_of_at (hC 3 (by decide)).bld;replace hNr:=hid hNr;replace hC:=hid hC;replace hCb:=hid hCb;clear hm2;obtain ⟨m,hm⟩:∃ m,m=w2.heap.size:=⟨_,rfl⟩;have hxa:=allocs_ext (S:=fun _=>False) [.map #[] 0,.cells #[.int .i64 0,.int .i64 0,.pointer (some ⟨d,0,none⟩),.pointer (some ⟨r,0,none⟩),.map (some m),.slice none 0 0,.slice none 0 0,.int .i64 0] 78] w2;have hg:=allocs_get [.map #[] 0,.cells #[.int .i64 0,.int .i64 0,.pointer (some ⟨d,0,none⟩),.pointer (some ⟨r,0,none⟩),.map (some m),.slice none 0 0,.slice none 0 0,.int .i64 0] 78] w2;have hz:=allocs_size [.map #[] 0,.cells #[.int .i64 0,.int .i64 0,.pointer (some ⟨d,0,none⟩),.pointer (some ⟨r,0,none⟩),.map (some m),.slice none 0 0,.slice none 0 0,.int .i64 0] 78] w2;have hM0:=hg 0 (by simp);have hB0:=hg 1 (by simp);simp only [allocs,<- hm,Nat.add_zero,List.length_cons,List.length_nil] at hxa hM0 hB0 hz;clear hg;go_upto_region 8 with fail
 try simp only [World.size_alloc]
 simp only [<- hm];generalize ((w2.alloc (.map #[] 0)).alloc (.cells #[.int .i64 0,.int .i64 0,.pointer (some ⟨d,0,none⟩),.pointer (some ⟨r,0,none⟩),.map (some m),.slice none 0 0,.slice none 0 0,.int .i64 0] 78))=w3 at hxa hM0 hB0 hz ⊢;replace hm:=hid hm;have hB1:Hid (NetB w3 (m+1) 0 0 (.pointer (some ⟨d,0,none⟩)) (.pointer (some ⟨r,0,none⟩)) m (.slice none 0 0) (.slice none 0 0) 0):=hid hB0;have hP0:PsAt w3 m (m+2) 0 (fun _=>0) (fun _=>m+2) (fun _ _=>0) (fun _ _=>none):=⟨⟨[],⟨_,_,hM0,by simp,by simp,by simp,by simp⟩,fun id a b=>by omega,fun x _=>rfl⟩,fun id a b=>by omega,fun _ _ _ _ _=>Nat.le_refl _,Nat.le_refl _,by omega⟩;replace hP0:=hid hP0;replace hxa:=hid hxa;clear hM0 hB0;go_wp2_with fail
 go_loopg [8,9,10] 9 (fun g i s9 s10 wr=>∃ (p:Nat) (pf lo:Nat -> Nat),(p<=8/\p+g=9)/\i=.int .i64 ((p+1:Nat):Int)/\NetB wr (m+1) 0 0 (.pointer (some ⟨d,0,none⟩)) (.pointer (some ⟨r,0,none⟩)) m (.slice none 0 0) (.slice none 0 0) 0/\PsAt wr m (m+2) p pf lo (fun _ _=>0) (fun _ _=>none)/\lo (p+1)<=wr.heap.size/\m+2<=wr.heap.size/\Mod (Eq m) w3 wr)
 case atStart=>exact ⟨0,(fun _=>0),(fun _=>m+2),⟨by omega,by omega⟩,rfl,hB1.out,hP0.out,by have:=hm.out;show m+2<=_;omega,by have:=hm.out;omega,Mod.refl _ _⟩
 case round=>
  clear hB1 hP0;obtain ⟨p,pf,lo,hp,rfl,hB,hP,hlo,hsz,hmr⟩:=hrel;replace hp:=hid hp
  by_cases hlt:p < 8
  ·have hdi:((p+1:Nat):Int)<=8:=by omega
   have hw1:IntKind.i64.wrap (((p+1:Nat):Int)+1)=((p+1+1:Nat):Int):=by rw [IntWalk.i64_in _ (by omega)];omega
   have hpn:=hid (partNew_any ((p+1:Nat):Int) (by omega) wr);replace hB:=hid hB;replace hP:=hid hP;replace hmr:=hid hmr;go_wp2_with fail
   refine hpn.out.mono ?_;rintro e w4 ⟨⟨q,rfl,hQ⟩,hxn⟩;have hB4:=hid (hxn.at hB.out (fun h=>h));have hP4:=hP.out.ext hxn;have hs4:wr.heap.size<=w4.heap.size:=hxn.size;have hm4:=hid (hmr.out.then hxn (fun _ _ h=>h.elim));have hQ4:PartIs (fun k=>wr.heap.size<=k/\k < w4.heap.size) w4 q ((p+1:Nat):Int) (fun _=>0) (fun _=>none):=hQ;have c4:w4.cell? ⟨m+1,4,none⟩=some (.map (some m)):=cellN hB4.out 4;obtain ⟨ds,hd1,hd2,hd3⟩:=hP4.map;replace hP4:=hid hP4;replace hQ4:=hid hQ4;replace hd1:=hid hd1;replace hd2:=hid hd2;replace hd3:=hid hd3;clear hxn hQ hB hP hmr hpn;go_wp2_with (refine wpList_update rfl _ _ _ 73 _ rfl (keyOk_int Tryz.underlying3) Tryz.underlying73 hd1.out ((p+1:Nat):Int) (.pointer (some ⟨q,0,none⟩)) rfl rfl rfl (fun w5 H=>Hid.out ?_))
   obtain ⟨hU,hMU,hsU⟩:=H.out;have hfin:Hid (∃ pf' lo':Nat -> Nat,NetB w5 (m+1) 0 0 (.pointer (some ⟨d,0,none⟩)) (.pointer (some ⟨r,0,none⟩)) m (.slice none 0 0) (.slice none 0 0) 0/\PsAt w5 m (m+2) (p+1) pf' lo' (fun _ _=>0) (fun _ _=>none)/\lo' (p+1+1)<=w5.heap.size/\m+2<=w5.heap.size/\Mod (Eq m) w3 w5):=by
    refine hid ⟨fun i=>if i=p+1 then q else pf i,fun i=>if i=p+2 then w4.heap.size else lo i,hMU.at hB4.out (by omega),⟨⟨_,hU,fun id a b=>?_,fun x hx=>?_⟩,fun id a b=>?_,fun id id' a b c=>?_,?_,hP4.out.mB⟩,?_,by omega,hm4.out.trans hMU⟩
    ·rw [assoc_upd]
     by_cases e:id=p+1
     ·subst e;rw [if_pos rfl,if_pos rfl]
     ·rw [if_neg (by omega),if_neg e];exact hd2.out id a (by omega)
    ·rw [assoc_upd,if_neg (by omega)];exact hd3.out x (by omega)
    ·by_cases e:id=p+1
     ·subst e
      have e1:(if p+1=p+1 then q else pf (p+1))=q:=if_pos rfl;show PartIs _ w5 (if p+1=p+1 then q else pf (p+1)) _ _ _
      rw [e1];refine ((hQ4.out.mono (F':=fun k=>(if p+1=p+2 then w4.heap.size else lo (p+1))<=k/\k < (if p+1+1=p+2 then w4.heap.size else lo (p+1+1))) (fun k hk=>?_)).mod hMU (fun k hk e=>?_))
      ·rw [if_neg (by omega),if_pos rfl];omega
      ·rw [if_neg (by omega),if_pos rfl] at hk
       have:=hP4.out.base;have:=hP4.out.mono 1 (p+1) (by omega) (by omega) (by omega);omega
     ·show PartIs _ w5 (if id=p+1 then q else pf id) _ _ _
      rw [if_neg e];refine ((hP4.out.ps id a (by omega)).mono (F':=fun k=>(if id=p+2 then w4.heap.size else lo id)<=k/\k < (if id+1=p+2 then w4.heap.size else lo (id+1))) (fun k hk=>?_)).mod hMU (fun k hk e=>?_)
      ·rw [if_neg (by omega),if_neg (by omega)];exact hk
      ·rw [if_neg (by omega),if_neg (by omega)] at hk
       have:=hP4.out.base;have:=hP4.out.mono 1 id (by omega) (by omega) (by omega);omega
    ·show (if id=p+2 then w4.heap.size else lo id)<=(if id'=p+2 then w4.heap.size else lo id')
     by_cases e':id'=p+2
     ·rw [if_pos e']
      by_cases e:id=p+2
      ·rw [if_pos e];exact Nat.le_refl _
      ·rw [if_neg e]
       have:=hP4.out.mono id (p+1) a (by omega) (by omega);omega
     ·rw [if_neg e',if_neg (by omega)]
      exact hP4.out.mono id id' a b (by omega)
    ·show m+2<=(if 1=p+2 then w4.heap.size else lo 1)
     rw [if_neg (by omega)];exact hP4.out.base
    ·show (if p+1+1=p+2 then w4.heap.size else lo (p+1+1))<=_
     rw [if_pos rfl];omega
   clear H hU hMU hsU hP4 hQ4 hd1 hd2 hd3 hB4 hm4 c4;refine hid ?_;go_wp2_with fail
   go_roundg (gk - 1)
   case measure=>have:=hp.out;omega
   case rel=>
    obtain ⟨pf',lo',h1,h2,h3,h4,h5⟩:=hfin.out;exact ⟨p+1,pf',lo',⟨by have:=hp.out;omega,by have:=hp.out;omega⟩,rfl,h1,h2,h3,h4,h5⟩
  ·obtain rfl:p=8:=by have:=hp.out;omega
   have hdi:¬ ((8+1:Nat):Int)<=8:=by decide
   replace hB:=hid hB;replace hP:=hid hP;replace hmr:=hid hmr;go_wp2_with fail
   go_ret2
   have hE:Ext w2 wr:=hxa.out.then hmr.out (fun k hk e=>by have:=hm.out;omega);exact ⟨⟨m+1,d,r,j,s,m,cl,bf,xf,mf,pf,lo,rfl,hB.out,hNr.out.ext hE,fun c hc=>(hC.out c hc).ext hE,hCb.out,by have:=hm.out;omega,by omega,hP.out,hjw⟩,hx2.out.trans hE⟩
theorem netNew_zero (w:World):Calls Tryz.prog 12 #[.int .i64 0] w fun e w'=>e=.returned (.tuple #[.pointer none,.int .i64 2])/\w=w':=by
 have hd:=hid (diskNew_zero w);go_enter Tryz.func12,Tryz.ntmps12;go_wp2_with fail
 refine hd.out.mono ?_;rintro e w1 ⟨rfl,rfl⟩;go_wp2_with fail
 go_ret2
 exact ⟨rfl,rfl⟩
theorem zero_ptr (w:World):(zeroValue 51).run Tryz.prog w=.ok (.pointer none) w:=by kernel_rfl
theorem partner_any {b:Nat} {t c:Int} {da:Addr} {r:Value} {m:Nat} {fa qa:Value} {s:Int} {B:Nat} {pf lo:Nat -> Nat} {σ:Nat -> Int -> Int} {κ:Nat -> Int -> Option Bs} (id:Nat) (hid1:1<=id/\id<=8) (w:World) (hB:NetB w b t c (.pointer (some da)) r m fa qa s) (hP:PsAt w m B 8 pf lo σ κ):
  Calls Tryz.prog 25 #[.pointer (some ⟨b,0,none⟩),.int .i64 id] w fun e w'=>e=.returned (.tuple #[.pointer (some ⟨pf id,0,none⟩),.bool true])/\w=w':=by
 have hm:=hid (missing_any w hB);obtain ⟨ds,hd1,hd2,-⟩:=hP.map;have hlk:=run_lookupM (P:=Tryz.prog) (t:=73) (keyOk_int Tryz.underlying3) Tryz.underlying73 hd1 (id:Int) (zero_ptr w) true;rw [hd2 id hid1.1 hid1.2] at hlk;simp only [Option.getD_some,Option.isSome_some,if_true] at hlk;have c4:w.cell? ⟨b,4,none⟩=some (.map (some m)):=cellN hB 4;go_enter Tryz.func25,Tryz.ntmps25;go_wp2_with fail
 refine hm.out.mono ?_;rintro e w1 ⟨rfl,rfl⟩;go_wp2_with fail
 go_ret2
 exact ⟨rfl,rfl⟩
theorem partner_none {b:Nat} {t c:Int} {da:Addr} {r:Value} {m:Nat} {fa qa:Value} {s:Int} {B:Nat} {pf lo:Nat -> Nat} {σ:Nat -> Int -> Int} {κ:Nat -> Int -> Option Bs} (x:Int) (hx:x < 1 \/ 8 < x) (w:World) (hB:NetB w b t c (.pointer (some da)) r m fa qa s) (hP:PsAt w m B 8 pf lo σ κ):
  Calls Tryz.prog 25 #[.pointer (some ⟨b,0,none⟩),.int .i64 x] w fun e w'=>e=.returned (.tuple #[.pointer none,.bool false])/\w=w':=by
 have hm:=hid (missing_any w hB);obtain ⟨ds,hd1,-,hd3⟩:=hP.map;have hlk:=run_lookupM (P:=Tryz.prog) (t:=73) (keyOk_int Tryz.underlying3) Tryz.underlying73 hd1 x (zero_ptr w) true;rw [hd3 x hx] at hlk;simp only [Option.getD_none,Option.isSome_none,if_true] at hlk;have c4:w.cell? ⟨b,4,none⟩=some (.map (some m)):=cellN hB 4;go_enter Tryz.func25,Tryz.ntmps25;go_wp2_with fail
 refine hm.out.mono ?_;rintro e w1 ⟨rfl,rfl⟩;go_wp2_with fail
 go_ret2
 exact ⟨rfl,rfl⟩
theorem sums_any (a1 a2:Option Addr) (c1 c2:Nat) (w:World):Calls Tryz.prog 287 #[stV a1 a2 c1 c2] w fun e w'=>(∃ p q,e=.returned (.func (.func 362) #[] #[.pointer (some p),.pointer (some q)]))/\Ext w w':=by
 unfold stV;have hmm:=@run_makeMap Tryz.prog;have hxA:=hid (allocs_ext (S:=fun _=>False) [.cells #[.slice a1 0 c1,.slice a2 0 c2] 235,.map #[] 0,.cells #[.map (some (w.heap.size+1))] 565] w);go_enter Tryz.func287,Tryz.ntmps287;go_wp2_with fail
 go_ret;exact ⟨⟨_,_,rfl⟩,hxA.out⟩
theorem sortedc_any (b off cap:Nat) (w:World) (hG:Gl w) (h0:w.cell? ⟨b,off,none⟩=some (strV (adrB 1))) (h1:w.cell? ⟨b,off+1,none⟩=some (strV (adrB 6))):Calls Tryz.prog 290 #[.slice (some ⟨b,off,none⟩) 2 cap,staleF] w fun e w'=>e=.returned (.slice (some ⟨b,off,none⟩) 2 cap)/\Ext w w':=by
 have hs:=hid (sort2c_str b off cap w hG h0 h1);obtain ⟨F,hF⟩:∃ F,F=staleF:=⟨_,rfl⟩;rw [<- hF] at hs ⊢;replace hF:=hid hF;replace h0:=hid h0;replace h1:=hid h1;go_enter Tryz.func290,Tryz.ntmps290;go_wp2_with fail
 refine hs.out.mono ?_;rintro e w1 ⟨rfl,hx⟩;have hcp:=hid (compact2_str b off cap w1 (hx.cell h0.out (fun h=>h)) (hx.cell h1.out (fun h=>h)));replace hx:=hid hx;go_wp2_with fail
 refine hcp.out.mono ?_;rintro e w2 ⟨rfl,n,rfl⟩;go_wp2_with fail
 go_ret;exact ⟨rfl,hx.out.trans (Mod.ofDrewN (Mod.refl _ _) n)⟩
theorem sortedNil_any (fv:Value) (w:World):Calls Tryz.prog 290 #[.slice none 0 0,fv] w fun e w'=>e=.returned (.slice none 0 0)/\w=w':=by
 have hs:=hid (sortNone_str none 0 fv w);go_enter Tryz.func290,Tryz.ntmps290;go_wp2_with fail
 refine hs.out.mono ?_;rintro e w1 ⟨rfl,rfl⟩;go_wp2_with fail
 refine (Tryz.slices_Compact_string_empty _ _ _).mono ?_;rintro e w2 ⟨rfl,rfl⟩;go_wp2_with fail
 go_ret;exact ⟨rfl,rfl⟩
def baC (s:ByteArray):List Value:=[.string s]
theorem baC_len (s:ByteArray):(baC s).length=1:=rfl
theorem zero_bool (w:World):(zeroValue 4).run Tryz.prog w=.ok (.bool false) w:=by kernel_rfl
theorem stale_any (a1 a2:Option Addr) (c1 c2:Nat) (w:World) (hG:Gl w):Calls Tryz.prog 219 #[.slice none 0 0,stV a1 a2 c1 c2] w fun e w'=>
  (∃ b off cap,e=.returned (.tuple #[.slice (some ⟨b,off,none⟩) 2 cap,.slice none 0 0])/\w'.cell? ⟨b,off,none⟩=some (strV (adrB 1))/\w'.cell? ⟨b,off+1,none⟩=some (strV (adrB 6))/\w.heap.size<=b/\2<=cap/\cap<=9223372036854775807)/\Ext w w':=by
 unfold stV;have hxA:=Mod.alloc (Mod.refl (fun _=>False) w) (.cells #[.slice a1 0 c1,.slice a2 0 c2] 235);have hA:=heap_alloc_new w (.cells #[.slice a1 0 c1,.slice a2 0 c2] 235);go_enter Tryz.func219,Tryz.ntmps219;go_upto_region 1 with fail
 obtain ⟨A,hAe⟩:∃ A,A=w.heap.size:=⟨_,rfl⟩;try simp only [<- hAe]
 rw [<- hAe] at hA;generalize w.alloc (.cells #[.slice a1 0 c1,.slice a2 0 c2] 235)=w1 at hxA hA ⊢;replace hAe:=hid hAe;have a0:w1.cell? ⟨A,0,none⟩=some (.slice a1 0 c1):=cellN hA 0;have a0':w1.cell? ⟨A,1,none⟩=some (.slice a2 0 c2):=cellN hA 1;have hsu:=hid (sums_any a1 a2 c1 c2 w1);unfold stV at hsu;replace hxA:=hid hxA;go_wp2_with fail
 refine hsu.out.mono ?_;rintro e w2 ⟨⟨sp,sq,rfl⟩,hx2⟩;have hA2:=hx2.at hA (fun h=>h);have b0:w2.cell? ⟨A,0,none⟩=some (.slice a1 0 c1):=cellN hA2 0;have b0':w2.cell? ⟨A,1,none⟩=some (.slice a2 0 c2):=cellN hA2 1;have hx2':=hid (hxA.out.trans hx2);have hal:=hid (adrAll_any a1 a2 c1 c2 w2 (hG.ext hx2'.out));unfold stV at hal;clear hx2 a0 a0' hA hsu hA2;go_wp2_with fail
 refine hal.out.mono ?_;rintro e w3 ⟨⟨v,rfl,hv⟩,hx3⟩;obtain ⟨sa,scap,rfl,hsr,hsb,hsc⟩:=hv;simp only [List.flatMap_cons,List.flatMap_nil,strC,List.cons_append,List.nil_append,List.length_cons,List.length_nil] at hsr;have hx3':=hid (hx2'.out.trans hx3);clear hal b0 b0' hsb hsc;replace hx2':=hid hx2';have hmm:=@run_makeMap Tryz.prog;obtain ⟨M,hM⟩:∃ M,M=w3.heap.size:=⟨_,rfl⟩;have hx4:=hx3'.out.alloc (.map #[] 0);have hm4:=MapAt.made w3 Value.string;rw [<- hM] at hm4;have hM4:=hid (heap_alloc_new w3 (.map #[] 0));obtain ⟨rb,ro,rfl,hrc⟩:=hsr.at (by simp);have e0:w3.cell? ⟨rb,ro,none⟩=some (strV (adrB 1)):=hrc 0 _ rfl;have e1:w3.cell? ⟨rb,ro+1,none⟩=some (strV (adrB 6)):=hrc 1 _ rfl;have hrb:Hid (rb < M):=hid (by rw [hM];exact World.block_lt_of_cell? _ _ e0);have hMw:Hid (w.heap.size<=M):=hid (by rw [hM];exact hx3'.out.size);have hxa:=Mod.alloc (Mod.refl (fun _=>False) w3) (.map #[] 0);have f0:=hxa.cell e0 (fun h=>h);have f1:=hxa.cell e1 (fun h=>h);have hz4:(w3.alloc (.map #[] 0)).heap.size=M+1:=by rw [World.size_alloc,hM]
 replace hx4:=hid hx4;replace hM:=hid hM;clear hxa e0 e1 hrc hsr;go_upto_region 4 with fail
 try simp only [<- hM.out]
 generalize w3.alloc (.map #[] 0)=w4 at hx4 hm4 hz4 f0 f1 ⊢;obtain ⟨X,hX⟩:∃ X,X=S1:=⟨_,rfl⟩;obtain ⟨Y,hY⟩:∃ Y,Y=S6:=⟨_,rfl⟩;change w4.cell? ⟨rb,ro,none⟩=some (.string S1) at f0;change w4.cell? ⟨rb,ro+1,none⟩=some (.string S6) at f1;rw [<- hX] at f0;rw [<- hY] at f1;replace hX:=hid hX;replace hY:=hid hY;replace hm4:=hid hm4;replace hz4:=hid hz4;go_wp2_with fail
 refine wp_loop_rounds 3 ?_;rw [rounds_succ];go_wp2_with (refine wpList_update rfl _ _ _ 498 _ rfl (keyOk_string Tryz.underlying9) Tryz.underlying498 hm4.out X (.bool false) rfl rfl rfl (fun w5 H=>Hid.out ?_))
 have hm5:=hid H.out.1;have hx5:=hid (hx4.out.then H.out.2.1 (fun k hk e=>by have:=hMw.out;omega));have g40:w5.cell? ⟨rb,ro,none⟩=some (.string X):=H.out.2.1.cell f0 (fun e=>by have:=hrb.out;change M=rb at e;omega);have g41:w5.cell? ⟨rb,ro+1,none⟩=some (.string Y):=H.out.2.1.cell f1 (fun e=>by have:=hrb.out;change M=rb at e;omega);have hsz5:=hid H.out.2.2;clear H f0 f1;refine hid ?_;go_wp2_with fail
 rw [rounds_succ];go_wp2_with (refine wpList_update rfl _ _ _ 498 _ rfl (keyOk_string Tryz.underlying9) Tryz.underlying498 hm5.out Y (.bool false) rfl rfl rfl (fun w6 H=>Hid.out ?_))
 have hm6:=hid H.out.1;have hx6:=hid (hx5.out.then H.out.2.1 (fun k hk e=>by have:=hMw.out;omega));have g50:w6.cell? ⟨rb,ro,none⟩=some (.string X):=H.out.2.1.cell g40 (fun e=>by have:=hrb.out;change M=rb at e;omega);have g51:w6.cell? ⟨rb,ro+1,none⟩=some (.string Y):=H.out.2.1.cell g41 (fun e=>by have:=hrb.out;change M=rb at e;omega);have hsz6:=hid H.out.2.2;clear H g40 g41;refine hid ?_;go_wp2_with fail
 rw [rounds_succ];go_wp2_with fail
 refine wp_loop_rounds 1 ?_;rw [rounds_succ];go_wp2_with fail
 have hd:=hid (fun (x:ByteArray)=>show (assoc (upd (upd ([]:List (ByteArray × Value)) X (.bool false)) Y (.bool false)) x).getD (.bool false)=.bool false by
  rw [assoc_upd,assoc_upd];repeat' split
  all_goals first | rfl | simp [assoc])
 have hz6:Hid (M+1<=w6.heap.size):=hid (by have:=hz4.out;have:=hsz5.out;have:=hsz6.out;omega);have ho6:=hid (Own.nil w6 (M+1) 9 1 baC);refine wp_loop_rounds 3 ?_;rw [rounds_succ];have hlk6:=run_lookupM (P:=Tryz.prog) (t:=498) (keyOk_string Tryz.underlying9) Tryz.underlying498 hm6.out X (zero_bool w6) false;rw [hd.out X] at hlk6;simp only [Bool.false_eq_true,if_false] at hlk6;have hxA6:=Mod.alloc (Mod.refl (fun _=>False) w6) (.cells #[.string X] 9);have hr6:=hid (RowIs.new w6 [.string X] 9);have hoA6:=hid (ho6.out.ext hxA6);have hsA6:=hxA6.size;have p60:(w6.alloc (.cells #[.string X] 9)).cell? ⟨rb,ro,none⟩=some (.string X):=hxA6.cell g50 (fun h=>h);have p61:(w6.alloc (.cells #[.string X] 9)).cell? ⟨rb,ro+1,none⟩=some (.string Y):=hxA6.cell g51 (fun h=>h);have hmA6:=hid (hm6.out.mod hxA6 (fun h=>h));have hxA6':=hid (hx6.out.trans hxA6);have hbs6:M+1<=(w6.alloc (.cells #[.string X] 9)).heap.size:=by have:=hz6.out;omega
 replace hbs6:=hid hbs6;clear hxA6 hsA6;go_wp2_with (at_builtin;refine wpList_app (f:=baC) (base:=M+1) rfl _ _ 40 rfl Tryz.underlying40 elS rfl hoA6.out _ 1 1 rfl [X] rfl hr6.out baC_len (fun y hy u hu=>by simp only [List.mem_singleton] at hy;subst hy;simp [baC] at hu;subst hu;rfl) (by simp) hbs6.out (fun e=>nomatch e) (fun v7 w7 H=>?_))
 have ho7:=hid H.out.1;have hB6:=hid (fun k (e:_=some k)=>(hoA6.out.block k e).1);have hm7:=hid (hmA6.out.mod H.out.2 (fun e=>by have:=hB6.out _ e;omega));have hx7:=hid (hxA6'.out.then H.out.2 (fun k hk e=>by have:=hB6.out _ e;have:=hMw.out;omega));have g60:w7.cell? ⟨rb,ro,none⟩=some (.string X):=H.out.2.cell p60 (fun e=>by have h1:M+1<=rb:=hB6.out _ e;have:=hrb.out;omega);have g61:w7.cell? ⟨rb,ro+1,none⟩=some (.string Y):=H.out.2.cell p61 (fun e=>by have h1:M+1<=rb:=hB6.out _ e;have:=hrb.out;omega);have hz7:Hid (M+1<=w7.heap.size):=hid (Nat.le_trans hbs6.out H.out.2.size);clear H g50 g51 p60 p61 hlk6 hmA6 hxA6' hbs6 hr6;obtain ⟨a7,c7,rfl,-,-⟩:=ho7.out.row;go_wp2_with fail
 rw [rounds_succ];have hlk7:=run_lookupM (P:=Tryz.prog) (t:=498) (keyOk_string Tryz.underlying9) Tryz.underlying498 hm7.out Y (zero_bool w7) false;rw [hd.out Y] at hlk7;simp only [Bool.false_eq_true,if_false] at hlk7;have hxA7:=Mod.alloc (Mod.refl (fun _=>False) w7) (.cells #[.string Y] 9);have hr7:=hid (RowIs.new w7 [.string Y] 9);have hoA7:=hid (ho7.out.ext hxA7);have hsA7:=hxA7.size;have p70:(w7.alloc (.cells #[.string Y] 9)).cell? ⟨rb,ro,none⟩=some (.string X):=hxA7.cell g60 (fun h=>h);have p71:(w7.alloc (.cells #[.string Y] 9)).cell? ⟨rb,ro+1,none⟩=some (.string Y):=hxA7.cell g61 (fun h=>h);have hmA7:=hid (hm7.out.mod hxA7 (fun h=>h));have hxA7':=hid (hx7.out.trans hxA7);have hbs7:M+1<=(w7.alloc (.cells #[.string Y] 9)).heap.size:=by have:=hz7.out;omega
 replace hbs7:=hid hbs7;clear hxA7 hsA7;go_wp2_with (at_builtin;refine wpList_app (f:=baC) (base:=M+1) rfl _ _ 40 rfl Tryz.underlying40 elS rfl hoA7.out _ 1 1 rfl [Y] rfl hr7.out baC_len (fun y hy u hu=>by simp only [List.mem_singleton] at hy;subst hy;simp [baC] at hu;subst hu;rfl) (by simp) hbs7.out (fun e=>nomatch e) (fun v8 w8 H=>?_))
 have ho8:=hid H.out.1;have hB7:=hid (fun k (e:_=some k)=>(hoA7.out.block k e).1);have hm8:=hid (hmA7.out.mod H.out.2 (fun e=>by have:=hB7.out _ e;omega));have hx8:=hid (hxA7'.out.then H.out.2 (fun k hk e=>by have:=hB7.out _ e;have:=hMw.out;omega));have g70:w8.cell? ⟨rb,ro,none⟩=some (.string X):=H.out.2.cell p70 (fun e=>by have h1:M+1<=rb:=hB7.out _ e;have:=hrb.out;omega);have g71:w8.cell? ⟨rb,ro+1,none⟩=some (.string Y):=H.out.2.cell p71 (fun e=>by have h1:M+1<=rb:=hB7.out _ e;have:=hrb.out;omega);have hz8:Hid (M+1<=w8.heap.size):=hid (Nat.le_trans hbs7.out H.out.2.size);clear H g60 g61 p70 p71 hlk7 hmA7 hxA7' hbs7 hr7;obtain ⟨a8,c8,rfl,hR8,hob8⟩:=ho8.out.row;replace hob8:=hid hob8;go_wp2_with fail
 rw [rounds_succ];go_wp2_with fail
 obtain ⟨fb,fo,rfl,hrc⟩:=hR8.at (by simp [baC]);have hc0:w8.cell? ⟨fb,fo,none⟩=some (.string X):=hrc 0 _ rfl;have hc1:w8.cell? ⟨fb,fo+1,none⟩=some (.string Y):=hrc 1 _ rfl;have hsd:=sortedc_any fb fo c8 w8 (hG.ext hx8.out) (by rw [hX.out] at hc0;exact hc0) (by rw [hY.out] at hc1;exact hc1);unfold staleF at hsd;replace hsd:=hid hsd;refine hsd.out.mono ?_;rintro e w9 ⟨rfl,hx9⟩;have d0:=hx9.cell hc0 (fun h=>h);have d1:=hx9.cell hc1 (fun h=>h);have hxf:=hid (hx8.out.trans hx9);have hn:=hid (fun fv=>sortedNil_any fv w9);clear hc0 hc1 hrc hR8 hx9;go_wp2_with fail
 refine (hn.out _).mono ?_;rintro e w10 ⟨rfl,rfl⟩;go_wp2_with fail
 go_ret2
 have hcap:=Cdk.own_cap ho8.out;refine ⟨⟨fb,fo,c8,rfl,?_,?_,?_,hcap.2.1,hcap.2.2.1⟩,hxf.out⟩
 ·rw [d0,hX.out];rfl
 ·rw [d1,hY.out];rfl
 ·have:=(ho8.out.block fb (hob8.out fb fo rfl)).1;have:=hMw.out;omega
theorem fresh_any (a1 a2:Option Addr) (c1 c2 m:Nat) (w:World) (hG:Gl w) (hm:MapAt w Value.string m ([]:List (ByteArray × Value))):Calls Tryz.prog 158 #[.map (some m),stV a1 a2 c1 c2] w fun e w'=>
  (∃ k b off cap,e=.returned (.tuple #[.map (some k),.slice (some ⟨b,off,none⟩) 2 cap])/\w.heap.size<=k/\MapAt w' Value.string k ([]:List (ByteArray × Value))/\w'.cell? ⟨b,off,none⟩=some (strV (adrB 1))/\w'.cell? ⟨b,off+1,none⟩=some (strV (adrB 6))/\w.heap.size<=b/\b < k/\2<=cap/\cap<=9223372036854775807)/\Ext w w':=by
 have hpn:=hid (fun W (h:MapAt W Value.string m ([]:List (ByteArray × Value)))=>pagesNone_any m W h);have hst:=hid (fun W (h:Gl W)=>stale_any a1 a2 c1 c2 W h);unfold stV at hst ⊢;have hmm:=@run_makeMap Tryz.prog;have hx1:=Mod.alloc (Mod.refl (fun _=>False) w) (.cells #[.slice a1 0 c1,.slice a2 0 c2] 235);have hA:=heap_alloc_new w (.cells #[.slice a1 0 c1,.slice a2 0 c2] 235);have hm1:=hid (hm.mod hx1 (fun h=>h));replace hm:=hid hm;obtain ⟨A,hAe⟩:∃ A,A=w.heap.size:=⟨_,rfl⟩;go_enter Tryz.func158,Tryz.ntmps158;go_upto_region 1 with fail
 try simp only [<- hAe]
 rw [<- hAe] at hA;replace hAe:=hid hAe;generalize w.alloc (.cells #[.slice a1 0 c1,.slice a2 0 c2] 235)=w1 at hx1 hA hm1 ⊢;have a0:=hid (show w1.cell? ⟨A,0,none⟩=some (.slice a1 0 c1) from cellN hA 0);have a0':=hid (show w1.cell? ⟨A,1,none⟩=some (.slice a2 0 c2) from cellN hA 1);replace hx1:=hid hx1;clear hA;go_upto_region 1 with fail
 try simp only [List.append_eq,List.cons_append,List.nil_append]
 refine wp_region_tree (.s (.q 0 (.q 2 (.c1 1 (.c1 3 (.q 4 (.q 5 (.q 6 (.q 7 (.q 8 .done)))))))))) (by as_aux_lemma=>kernel_rfl) (by as_aux_lemma=>kernel_rfl) (by as_aux_lemma=>kernel_rfl) (by decide) ?_;have hv0:=hid (Mod.drew0 (fun _=>False) w1);refine wpTr_s (fun Wx=>Ext w1 Wx) (fun _ _=>trivial) hv0.out ?_;generalize hWd:World.drew w1=V0 at hv0 ⊢
 iterate 2 (refine wpTr_q _ (by simp only [List.getD_cons_succ,List.getD_cons_zero];rfl) (by rfl) ?_ (fun w' hC=>?_) ?_;rotate_left;(have q0:w'.cell? ⟨A,0,none⟩=some (.slice a1 0 c1):=hC.cell a0.out (fun h=>h);have q1:w'.cell? ⟨A,1,none⟩=some (.slice a2 0 c2):=hC.cell a0'.out (fun h=>h);go_simp;first | done | with_reducible rfl | exact rfl);try simp only [Act.put,sA,sZ,sS])
 refine wpTr_c1 _ (by simp only [List.getD_cons_succ,List.getD_cons_zero];rfl) ?_;refine wpN_c (by rfl) (fun K hK=>?_);go_simp;refine (hpn.out V0 (hm1.out.mod hv0.out (fun h=>h))).mono ?_;rintro e V1 ⟨rfl,hxn⟩;have hv1:=hid (hv0.out.trans hxn);refine hK.out _ _ hv1.out ?_;clear hxn;clear hK K;try simp only [Act.put,sA,sZ,sS]
 refine wpTr_c1 _ (by simp only [List.getD_cons_succ,List.getD_cons_zero];rfl) ?_;refine wpN_c (by rfl) (fun K hK=>?_);go_simp;refine (hst.out V1 (hG.ext (hx1.out.trans hv1.out))).mono ?_;rintro e V2 ⟨⟨rb,ro,rc,rfl,e0,e1,hrbl,hcp⟩,hxn⟩;replace hcp:=hid hcp;have hrw:w.heap.size<=rb:=Nat.le_trans (hx1.out.trans hv1.out).size hrbl;have hv2:=hid (hv1.out.trans hxn);refine hK.out _ _ hv2.out ?_;have hx2:=hid (hx1.out.trans hv2.out);have hm2:=hid (hm1.out.mod hv2.out (fun h=>h));clear hxn;clear hK K;try simp only [Act.put,sA,sZ,sS]
 iterate 5 (refine wpTr_q _ (by simp only [List.getD_cons_succ,List.getD_cons_zero];rfl) (by rfl) ?_ (fun w' hC=>?_) ?_;rotate_left;(have q0:w'.cell? ⟨A,0,none⟩=some (.slice a1 0 c1):=hC.cell a0.out (fun h=>h);have q1:w'.cell? ⟨A,1,none⟩=some (.slice a2 0 c2):=hC.cell a0'.out (fun h=>h);go_simp;first | done | with_reducible rfl | exact rfl);try simp only [Act.put,sA,sZ,sS])
 refine wpTr_done ?_;generalize V2=w2 at hx2 hm2 e0 e1 hv2 ⊢;clear hv0 hv1 hv2;replace hrw:=hid hrw;have hcp':=hid hcp.out;clear hcp;clear hrbl;replace e0:=hid e0;replace e1:=hid e1;obtain ⟨k,hk⟩:∃ k,k=w2.heap.size:=⟨_,rfl⟩;have hx3:=hx2.out.alloc (.map #[] 0);have hxa:=Mod.alloc (Mod.refl (fun _=>False) w2) (.map #[] 0);have hk3:=MapAt.made w2 Value.string;rw [<- hk] at hk3;have hm3:=hid (hm2.out.mod hxa (fun h=>h));have g0:=hxa.cell e0.out (fun h=>h);have g1:=hxa.cell e1.out (fun h=>h);have hrb:Hid (rb < k):=hid (by rw [hk];exact World.block_lt_of_cell? _ _ e0.out);have hkw:Hid (w.heap.size<=k):=hid (by rw [hk];exact hx2.out.size);replace hk:=hid hk;clear hxa;go_upto_region 3 with fail
 try simp only [<- hk.out]
 generalize w2.alloc (.map #[] 0)=w3 at hx3 hk3 hm3 g0 g1 ⊢;have hcp:=hid (copyNone_page m (.map (some k)) w3 hm3.out);replace hx3:=hid hx3;go_wp2_with fail
 refine hcp.out.mono ?_;rintro e w4 ⟨rfl,hxc⟩;have hx4:=hid (hx3.out.trans hxc);have hk4:=hid (hk3.mod hxc (fun h=>h));have r30:=hxc.cell g0 (fun h=>h);have r31:=hxc.cell g1 (fun h=>h);obtain ⟨X,hX⟩:∃ X,X=S1:=⟨_,rfl⟩;obtain ⟨Y,hY⟩:∃ Y,Y=S6:=⟨_,rfl⟩;change w4.cell? ⟨rb,ro,none⟩=some (.string S1) at r30;change w4.cell? ⟨rb,ro+1,none⟩=some (.string S6) at r31;rw [<- hX] at r30;rw [<- hY] at r31;replace hX:=hid hX;replace hY:=hid hY;clear hxc g0 g1 hk3 hcp;go_wp2_with fail
 refine wp_loop_rounds 3 ?_;rw [rounds_succ];go_wp2_with (refine wpList_delete rfl _ _ 243 _ _ rfl (keyOk_string Tryz.underlying9) Tryz.underlying243 hk4.out X rfl rfl (fun w5 H=>Hid.out ?_))
 have hk5:Hid (MapAt w5 Value.string k ([]:List (ByteArray × Value))):=hid H.out.1;have hx5:=hid (hx4.out.then H.out.2.1 (fun j hj e=>by have:=hkw.out;omega));have r40:w5.cell? ⟨rb,ro,none⟩=some (.string X):=H.out.2.1.cell r30 (fun e=>by have:=hrb.out;change k=rb at e;omega);have r41:w5.cell? ⟨rb,ro+1,none⟩=some (.string Y):=H.out.2.1.cell r31 (fun e=>by have:=hrb.out;change k=rb at e;omega);clear H r30 r31;refine hid ?_;go_wp2_with fail
 rw [rounds_succ];go_wp2_with (refine wpList_delete rfl _ _ 243 _ _ rfl (keyOk_string Tryz.underlying9) Tryz.underlying243 hk5.out Y rfl rfl (fun w6 H=>Hid.out ?_))
 have hk6:Hid (MapAt w6 Value.string k ([]:List (ByteArray × Value))):=hid H.out.1;have hx6:=hid (hx5.out.then H.out.2.1 (fun j hj e=>by have:=hkw.out;omega));have r50:w6.cell? ⟨rb,ro,none⟩=some (.string X):=H.out.2.1.cell r40 (fun e=>by have:=hrb.out;change k=rb at e;omega);have r51:w6.cell? ⟨rb,ro+1,none⟩=some (.string Y):=H.out.2.1.cell r41 (fun e=>by have:=hrb.out;change k=rb at e;omega);clear H r40 r41;refine hid ?_;go_wp2_with fail
 rw [rounds_succ];go_wp2_with fail
 refine wp_loop_rounds 1 ?_;rw [rounds_succ];go_wp2_with fail
 go_ret2
 refine ⟨⟨k,rb,ro,rc,rfl,hkw.out,hk6.out,?_,?_,hrw.out,hrb.out,hcp'.out⟩,hx6.out⟩
 ·rw [r50,hX.out];rfl
 ·rw [r51,hY.out];rfl
def JobAt (w:World) (J st k:Nat) (rest:Value):Prop:=w.heap[J]?=some (.cells #[.pointer (some ⟨st,0,none⟩),.map (some k),rest] 338 (0,0))
theorem finish_some (b M J st k:Nat) (last:Value) (ad:Addr) (n cap:Nat) (hn:1<=n/\n<=10) (w:World) (hB:BldrAt w b M (.pointer (some ⟨J,0,none⟩)) last) (hJ:JobAt w J st k (.slice (some ad) n cap)):
  Calls Tryz.prog 173 #[.pointer (some ⟨b,0,none⟩)] w fun e w'=>e=.returned (.tuple #[])/\w=w':=by
 have b0:w.cell? ⟨b,0,none⟩=some (.pointer (some ⟨J,0,none⟩)):=cellN hB 0;have j2:w.cell? ⟨J,2,none⟩=some (.slice (some ad) n cap):=cellN hJ 2;have hn0:¬ (n:Int)=0:=by omega
 have hnb:((n:Int)==0)=false:=beq_eq_false_iff_ne.2 hn0;clear hB hJ;go_enter Tryz.func173,Tryz.ntmps173;go_wp2_with fail
 go_end0
 exact ⟨rfl,rfl⟩
theorem finish_none (b M J st k:Nat) (last:Value) (ao:Option Addr) (cap:Nat) (w:World) (hB:BldrAt w b M (.pointer (some ⟨J,0,none⟩)) last) (hJ:JobAt w J st k (.slice ao 0 cap)) (hne:b ≠ J):
  Calls Tryz.prog 173 #[.pointer (some ⟨b,0,none⟩)] w fun e w'=>e=.returned (.tuple #[])/\BldrAt w' b k (.pointer none) last/\Cdk.Mod (Eq b) w w':=by
 have b0:w.cell? ⟨b,0,none⟩=some (.pointer (some ⟨J,0,none⟩)):=cellN hB 0;have f0:=freeN hB 0;have b1:w.cell? ⟨b,1,none⟩=some (.map (some M)):=cellN hB 1;have f1:=freeN hB 1;have j1:w.cell? ⟨J,1,none⟩=some (.map (some k)):=cellN hJ 1;have j2:w.cell? ⟨J,2,none⟩=some (.slice ao 0 cap):=cellN hJ 2;have hW1:(w.setCell ⟨b,1,none⟩ (.map (some k))).heap[b]?=some (.cells #[.pointer (some ⟨J,0,none⟩),.map (some k),last] 246 (0,0)):=put_at' hB 1 _;have g0:=cellN hW1 0;have h0:=freeN hW1 0;have hW2:=hid (put_at' hW1 0 (.pointer none));have hmm:=hid (((Mod.refl (Eq b) w).setCell (a:=⟨b,1,none⟩) (fun _=>rfl) (.map (some k))).setCell (a:=⟨b,0,none⟩) (fun _=>rfl) (.pointer none));clear hW1 hB hJ;go_enter Tryz.func173,Tryz.ntmps173;go_wp2_with fail
 go_end0
 exact ⟨rfl,hW2.out,hmm.out⟩
def BgC (w1:World) (J st:Nat) (Wx:World):Prop:=Cdk.Mod (fun k=>k=J) w1 Wx/\Wx.cell? ⟨J,0,none⟩=some (.pointer (some ⟨st,0,none⟩))
theorem begin_any (b M st m:Nat) (a1 a2:Option Addr) (c1 c2:Nat) (jb:Value) (w:World) (hG:Gl w) (hB:BldrAt w b M jb (.pointer (some ⟨st,0,none⟩))) (hS:w.heap[st]?=some (.cells #[.slice a1 0 c1,.slice a2 0 c2] 235 (0,0))) (hm:MapAt w Value.string m ([]:List (ByteArray × Value))) (hmb:m ≠ b) (h12:12<=b):
  Calls Tryz.prog 160 #[.pointer (some ⟨b,0,none⟩),.map (some m)] w fun e w'=>e=.returned (.tuple #[]) ∧
   (∃ J k rb ro rc,BldrAt w' b M (.pointer (some ⟨J,0,none⟩)) (.pointer (some ⟨st,0,none⟩))/\JobAt w' J st k (.slice (some ⟨rb,ro,none⟩) 2 rc)/\MapAt w' Value.string k ([]:List (ByteArray × Value))/\w'.cell? ⟨rb,ro,none⟩=some (strV (adrB 1))/\w'.cell? ⟨rb,ro+1,none⟩=some (strV (adrB 6))/\w.heap.size<=J/\J < rb/\rb < k/\2<=rc/\rc<=9223372036854775807)/\Cdk.Mod (fun k=>k=b \/ w.heap.size<=k) w w':=by
 have hlb:b < w.heap.size:=lt_of_at hB;have hls:st < w.heap.size:=lt_of_at hS;have hbs:st ≠ b:=fun e=>by subst e;unfold BldrAt at hB;rw [hS] at hB;injection hB with hB;injection hB with _ hB _;exact absurd hB (by decide)
 obtain ⟨J,hJe⟩:∃ J,J=w.heap.size:=⟨_,rfl⟩;have b2:w.cell? ⟨b,2,none⟩=some (.pointer (some ⟨st,0,none⟩)):=cellN hB 2;have hx0:=(Mod.refl (fun k=>k=b \/ w.heap.size<=k) w).setCell (a:=⟨b,0,none⟩) (fun _=>.inl rfl) (.pointer (some ⟨J,0,none⟩));have hmod:=hx0.alloc (.cells #[.pointer (some ⟨st,0,none⟩),.map none,.slice none 0 0] 338);have hz:(w.setCell ⟨b,0,none⟩ (.pointer (some ⟨J,0,none⟩))).heap.size=J:=by rw [hJe];simp [World.setCell]
 have hJ':=heap_alloc_new (w.setCell ⟨b,0,none⟩ (.pointer (some ⟨J,0,none⟩))) (.cells #[.pointer (some ⟨st,0,none⟩),.map none,.slice none 0 0] 338);rw [hz] at hJ';have hxn:=Mod.alloc (Mod.refl (fun _=>False) (w.setCell ⟨b,0,none⟩ (.pointer (some ⟨J,0,none⟩)))) (.cells #[.pointer (some ⟨st,0,none⟩),.map none,.slice none 0 0] 338);have hb1':=hxn.at (put_at' hB 0 (.pointer (some ⟨J,0,none⟩))) (fun h=>h);have f0:=freeN hB 0;have hc0:=cellN hB 0;have hm1:=hm.mod (hmod.mono' (T:=Eq b) (fun k hk e=>by rcases e with e | e <;> omega)) (fun e=>hmb e.symm);have hS1:=hmod.at hS (by omega);have hG1:=hid (hG.mod hmod (by omega));clear hx0 hxn hz;go_enter Tryz.func160,Tryz.ntmps160;go_upto_region 1 with fail
 try simp only [<- hJe]
 generalize (w.setCell ⟨b,0,none⟩ (.pointer (some ⟨J,0,none⟩))).alloc (.cells #[.pointer (some ⟨st,0,none⟩),.map none,.slice none 0 0] 338)=w1 at hb1' hJ' hmod hm1 hS1 hG1 ⊢;have hb1:Hid (w1.heap[b]?=some (.cells #[.pointer (some ⟨J,0,none⟩),.map (some M),.pointer (some ⟨st,0,none⟩)] 246 (0,0))):=hid hb1';have b0:=hid (show w1.cell? ⟨b,0,none⟩=some (.pointer (some ⟨J,0,none⟩)) from cellN hb1.out 0);have s0:=hid (show w1.cell? ⟨st,0,none⟩=some (.slice a1 0 c1) from cellN hS1 0);have s1:=hid (show w1.cell? ⟨st,1,none⟩=some (.slice a2 0 c2) from cellN hS1 1);have hJ:=hid hJ';have j0:=hid (show w1.cell? ⟨J,0,none⟩=some (.pointer (some ⟨st,0,none⟩)) from cellN hJ' 0);have nbJ:Hid (b ≠ J):=hid (by omega);have nsJ:Hid (st ≠ J):=hid (by omega);have hJw:Hid (w.heap.size<=J):=hid (by omega);have hfr:=hid (fun W (h:BgC w1 J st W)=>fresh_any a1 a2 c1 c2 m W (hG1.out.mod h.1 (fun k e=>by omega)) (hm1.mod h.1 (fun e=>by have:=hm.lt;omega)));unfold stV at hfr;have hJsz:J < w1.heap.size:=lt_of_at hJ';have hwsz:w.heap.size<=w1.heap.size:=hmod.size;have hMw:=hid hmod;replace hJe:=hid hJe;clear hb1' hJ' hmod hS1 f0 hc0 b2;try simp only [List.append_eq,List.cons_append,List.nil_append]
 refine wp_region_tree (.s (.q 0 (.q 1 (.q 2 (.q 3 (.q 4 (.q 5 (.q 6 (.q 7 (.q 8 (.q 9 (.q 10 (.q 11 (.q 12 (.q 13 (.q 14 (.q 15 (.q 16 (.q 17 (.c1 18 (.q 19 (.q 20 (.q 21 (.q 22 (.q 23 (.c1 24 (.q 25 (.q 26 (.c1 27 .done))))))))))))))))))))))))))))) (by as_aux_lemma=>kernel_rfl) (by as_aux_lemma=>kernel_rfl) (by as_aux_lemma=>kernel_rfl) (by decide) ?_;have hv0:=hid (show BgC w1 J st (World.drew w1) from ⟨Mod.drew0 _ w1,j0.out⟩);have hvx:=hid (Mod.drew0 (fun _=>False) w1);have hJ0:Hid ((World.drew w1).heap[J]?=some (.cells #[.pointer (some ⟨st,0,none⟩),.map none,.slice none 0 0] 338 (0,0))):=hJ;refine wpTr_s (fun Wx=>BgC w1 J st Wx) (fun _ _=>trivial) hv0.out ?_;generalize hWd:World.drew w1=V0 at hv0 hvx hJ0 ⊢
 iterate 18 (refine wpTr_q _ (by simp only [List.getD_cons_succ,List.getD_cons_zero];rfl) (by rfl) ?_ (fun w' hC=>?_) ?_;rotate_left;(have q0:w'.cell? ⟨b,0,none⟩=some (.pointer (some ⟨J,0,none⟩)):=hC.1.cell b0.out (fun e=>nbJ.out e);have q1:w'.cell? ⟨st,0,none⟩=some (.slice a1 0 c1):=hC.1.cell s0.out (fun e=>nsJ.out e);have q2:w'.cell? ⟨st,1,none⟩=some (.slice a2 0 c2):=hC.1.cell s1.out (fun e=>nsJ.out e);have q3:w'.cell? ⟨J,0,none⟩=some (.pointer (some ⟨st,0,none⟩)):=hC.2;go_simp;first | done | with_reducible rfl | exact rfl);try simp only [Act.put,sA,sZ,sS])
 refine wpTr_c1 _ (by simp only [List.getD_cons_succ,List.getD_cons_zero];rfl) ?_;refine wpN_c (by rfl) (fun K hK=>?_);go_simp;refine (hfr.out V0 (hv0.out)).mono ?_;rintro e V1 ⟨⟨k,rb,ro,rc,rfl,hkV,hmk,e0,e1,hrV,hrk,hcap⟩,hxn⟩;have hv1:=hid (show BgC w1 J st V1 from ⟨hv0.out.1.then hxn (fun _ _ h=>h.elim),hxn.cell hv0.out.2 (fun h=>h)⟩);have hJ1:V1.heap[J]?=some (.cells #[.pointer (some ⟨st,0,none⟩),.map none,.slice none 0 0] 338 (0,0)):=hxn.at hJ0.out (fun h=>h);have hsz:=hvx.out.size;replace hcap:=hid hcap;have hJk:J < k:=by omega
 have hJr:J < rb:=by omega
 have hkW:w.heap.size<=k:=by omega
 refine hK.out _ _ hv1.out ?_;replace hJ1:=hid hJ1;clear hxn hkV hrV;clear hK K;try simp only [Act.put,sA,sZ,sS]
 iterate 5 (refine wpTr_q _ (by simp only [List.getD_cons_succ,List.getD_cons_zero];rfl) (by rfl) ?_ (fun w' hC=>?_) ?_;rotate_left;(have q0:w'.cell? ⟨b,0,none⟩=some (.pointer (some ⟨J,0,none⟩)):=hC.1.cell b0.out (fun e=>nbJ.out e);have q1:w'.cell? ⟨st,0,none⟩=some (.slice a1 0 c1):=hC.1.cell s0.out (fun e=>nsJ.out e);have q2:w'.cell? ⟨st,1,none⟩=some (.slice a2 0 c2):=hC.1.cell s1.out (fun e=>nsJ.out e);have q3:w'.cell? ⟨J,0,none⟩=some (.pointer (some ⟨st,0,none⟩)):=hC.2;go_simp;first | done | with_reducible rfl | exact rfl);try simp only [Act.put,sA,sZ,sS])
 refine wpTr_c1 _ (by simp only [List.getD_cons_succ,List.getD_cons_zero];rfl) ?_;refine wpN_c (by rfl) (fun K hK=>?_);refine wp_storeM 243 _ _ rfl J 1 #[.pointer (some ⟨st,0,none⟩),.map none,.slice none 0 0] (.map (some k)) _ rfl rfl hJ1.out (by show 1+1<=3;omega) (by kernel_rfl) rfl (fun V2 hn hmn=>?_);have hv2:=hid (show BgC w1 J st V2 from ⟨hv1.out.1.then hmn (fun j _ h=>h.symm),(cellN hn 0)⟩);have hJ2:V2.heap[J]?=some (.cells #[.pointer (some ⟨st,0,none⟩),.map (some k),.slice none 0 0] 338 (0,0)):=hn;have hmk1:=hmk.mod hmn (fun e=>by omega);have e01:=hmn.cell e0 (fun e=>by change J=rb at e;omega);have e11:=hmn.cell e1 (fun e=>by change J=rb at e;omega);refine hK.out _ _ hv2.out ?_;replace hJ2:=hid hJ2;clear hn hmn;clear hK K;try simp only [Act.put,sA,sZ,sS]
 iterate 2 (refine wpTr_q _ (by simp only [List.getD_cons_succ,List.getD_cons_zero];rfl) (by rfl) ?_ (fun w' hC=>?_) ?_;rotate_left;(have q0:w'.cell? ⟨b,0,none⟩=some (.pointer (some ⟨J,0,none⟩)):=hC.1.cell b0.out (fun e=>nbJ.out e);have q1:w'.cell? ⟨st,0,none⟩=some (.slice a1 0 c1):=hC.1.cell s0.out (fun e=>nsJ.out e);have q2:w'.cell? ⟨st,1,none⟩=some (.slice a2 0 c2):=hC.1.cell s1.out (fun e=>nsJ.out e);have q3:w'.cell? ⟨J,0,none⟩=some (.pointer (some ⟨st,0,none⟩)):=hC.2;go_simp;first | done | with_reducible rfl | exact rfl);try simp only [Act.put,sA,sZ,sS])
 refine wpTr_c1 _ (by simp only [List.getD_cons_succ,List.getD_cons_zero];rfl) ?_;refine wpN_c (by rfl) (fun K hK=>?_);refine wp_storeM 40 _ _ rfl J 2 #[.pointer (some ⟨st,0,none⟩),.map (some k),.slice none 0 0] (.slice (some ⟨rb,ro,none⟩) 2 rc) _ rfl rfl hJ2.out (by show 2+1<=3;omega) (by kernel_rfl) rfl (fun V3 hn hmn=>?_);have hv3:=hid (show BgC w1 J st V3 from ⟨hv2.out.1.then hmn (fun j _ h=>h.symm),(cellN hn 0)⟩);have hJ3:V3.heap[J]?=some (.cells #[.pointer (some ⟨st,0,none⟩),.map (some k),.slice (some ⟨rb,ro,none⟩) 2 rc] 338 (0,0)):=hn;have hmk2:=hmk1.mod hmn (fun e=>by omega);have e02:=hmn.cell e01 (fun e=>by change J=rb at e;omega);have e12:=hmn.cell e11 (fun e=>by change J=rb at e;omega);refine hK.out _ _ hv3.out ?_;replace hJ3:=hid hJ3;clear hn hmn;clear hK K;try simp only [Act.put,sA,sZ,sS]
 refine wpTr_done ?_;have hMf:=hid (hMw.out.trans (hv3.out.1.mono (T:=fun k=>k=b \/ w.heap.size<=k) (fun k e=>.inr (by have:=hJw.out;omega))));have hbf:=hid (hv3.out.1.at hb1.out (fun e=>nbJ.out e));have hjf:=hJ3;generalize V3=w2 at hMf hbf hjf hmk2 e02 e12 ⊢;clear hJ1 hJ2 hmk hmk1 e0 e1 e01 e11;replace e02:=hid e02;replace e12:=hid e12;replace hmk2:=hid hmk2;go_wp2_with fail
 refine (finish_some b M J st k (.pointer (some ⟨st,0,none⟩)) ⟨rb,ro,none⟩ 2 rc (by decide) w2 hbf.out hjf.out).mono ?_;rintro e w3 ⟨rfl,rfl⟩;go_wp2_with fail
 go_end0
 exact ⟨rfl,⟨J,k,rb,ro,rc,hbf.out,hjf.out,hmk2.out,e02.out,e12.out,hJw.out,hJr,hrk,hcap.out⟩,hMf.out⟩
end Go.Proofs.YtcopgcdhkgenkaaGreatDoor
