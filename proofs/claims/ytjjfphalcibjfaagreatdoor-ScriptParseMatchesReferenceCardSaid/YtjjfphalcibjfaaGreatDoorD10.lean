import Derived.Test.YtjjfphalcibjfaaGreatDoorRegIn
set_option maxRecDepth 100000
set_option maxHeartbeats 16000000
namespace Go.Proofs.YtjjfphalcibjfaaGreatDoor
open Go.Shelf Go.RowKit Cdk Scr
attribute [local go_sem] Oper.semAt_some
theorem elI:El Tryz.prog 3 (.int .i64 0) 1 8:=⟨by kernel_rfl,rfl,by decide,by decide⟩
theorem zid:∀ (p:List Bs) (x:Bs) (r:Rd),zbh (p++[x]) r=((zbh p r).1++[(zbn x (zbh p r).2).1],(zbn x (zbh p r).2).2)
 | [],x,r=>rfl
 | y::p,x,r=>by
  have:=zid p x (zbn y r).2;simp only [List.cons_append,zbh,this]
theorem zfJ:∀ (p:List Bs) (r:Rd),(zbh p r).1.length=p.length
 | [],_=>rfl
 | y::p,r=>by simp [zbh,zfJ p]
theorem zel:∀ (p:List Bs) (r:Rd),(zbh p r).2.rest=r.rest
 | [],_=>rfl
 | y::p,r=>by rw [zbh];rw [zel p,zcE]
theorem zjA {R:Nat} {w W W':World} {row:Option Nat} (h:RdM R w W) (hg:W.grownBy W' row) (hr:∀ r,row=some r -> w.heap.size<=r):RdM R w W':=
 ⟨hg.os.trans h.os,hg.tape.trans h.tape,hg.output.trans h.output,Nat.le_trans h.size hg.size,fun k hk hs=>(hg.block k (Nat.lt_of_lt_of_le hk h.size) (fun e=>by have:=hr k e.symm;omega)).trans (h.block k hk hs)⟩
theorem zcA {α:Type} {W W':World} {row:Option Nat} (hg:W.grownBy W' row) (hrow:∀ r,row=some r -> ∃ o:Obj,W.heap[r]?=some o/\o.isCells=false) {base:Nat} {e:TypeId} {size:Nat} {f:α -> List Value} {v:Value} {xs:List α}
  (h:Cdk.Own W base e size f v xs):Cdk.Own W' base e size f v xs:=by
 refine ⟨h.1,?_⟩;rcases h.2 with h2 | ⟨g,cap,cur,rfl,h3,h4,h5⟩
 ·exact .inl h2
 ·exact .inr ⟨g,cap,cur,rfl,h3,zaq hg hrow h4,h5⟩
theorem zbN {S:Nat -> Prop} {w w':World} (hm:Mod S w w') (hS:∀ k o,w.heap[k]?=some o -> o.isCells=false -> ¬ S k):KeepsOthers w w':=
 ⟨hm.size,fun k o hk ho=>hm.at hk (hS k o hk ho)⟩
theorem zbV {α:Type} {f:α -> List Value} {w:World} {B:Nat} {e:TypeId} {size:Nat} {v:Value} {l:List α} (h:Cdk.Own w B e size f v l) (hl:l.length<=140737488355328):zac (fun k=>B<=k/\k < w.heap.size) w f v l:=by
 obtain ⟨ao,cap,rfl,hr,hb⟩:=h.row;obtain ⟨-,h2,h3,h4⟩:=zhh h;exact ⟨ao,cap,rfl,hr,fun b off e _=>h.block b (hb b off e),h2,⟨hl,h3⟩,h4⟩
theorem own_ne {α:Type} {W:World} {base:Nat} {e t:TypeId} {size:Nat} {f:α -> List Value} {v:Value} {xs:List α} (h:Cdk.Own W base e size f v xs) {k:Nat} {c:Array Value} {fr:Nat × Nat} (hk:W.heap[k]?=some (.cells c t fr)) (hne:t ≠ e):v.ownBlock ≠ some k:=by
 intro hv;obtain ⟨c',hc⟩:=h.cells hv;rw [hk] at hc;injection hc with hc;injection hc with _ hc _
 exact hne hc
structure LsN (w:World) (R:Nat) (r:Rd) (L:Nat) (pre:List Bs) (W:World):Prop where
 mod:RdM R w W
 size:L+5<=W.heap.size
 rd:zbE W R (zbh pre r).2
 fn:W.heap[L]?=some (.cells #[.func (.func 177) #[.pointer (some ⟨R,0,none⟩)] #[]] 107 (0,0))
 box:∃ v,W.heap[L+1]?=some (.cells #[v] 24 (0,0))/\Cdk.Own W (L+5) 3 1 zcZ v ((zbh pre r).1)
 bz:∃ u:Value,W.heap[L+2]?=some (.cells #[u] 9 (0,0))
theorem zoa (w:World) (R:Nat) (r:Rd) (L B:Nat) (hL:w.heap.size<=L) (hB:L<=B):OwnFrom B (fun p W=>LsN w R r L p W):=by
 intro p W W' row h hg hrow;have hr:=fun r e=>(hrow r e).2
 obtain ⟨v,h1,h2⟩:=h.box;obtain ⟨sv,h3⟩:=h.bz;exact ⟨zjA h.mod hg (fun r e=>by have:=(hrow r e).1;omega),Nat.le_trans h.size hg.size,zaq hg hr h.rd,zaq hg hr h.fn,⟨v,zaq hg hr h1,zcA hg hr h2⟩,⟨sv,zaq hg hr h3⟩⟩
theorem znV {w:World} {R:Nat} {r:Rd} {L:Nat} (hL:w.heap.size<=L) (hR:R < w.heap.size) {p:List Bs} {W:World} (v:Value) (h:LsN w R r L p W):LsN w R r L p (W.setCell ⟨L+2,0,none⟩ v):=by
 obtain ⟨u,h1,h2⟩:=h.box;obtain ⟨sv,h3⟩:=h.bz;refine ⟨h.mod.setCell (fun e=>by have:L+2 < w.heap.size:=e;omega) _,by simpa [World.setCell] using h.size,(zan W (k:=R) 0 _ (by omega)).trans h.rd,(zan W (k:=L) 0 _ (by omega)).trans h.fn,⟨u,(zan W (k:=L+1) 0 _ (by omega)).trans h1,?_⟩,⟨v,zdX h3⟩⟩;refine h2.mod ((Mod.refl (Eq (L+2)) W).setCell (fun _=>rfl) _) (fun k hk e=>?_);subst e;exact absurd (h2.block _ hk).1 (by omega)
def NmP (w:World) (R:Nat) (l:List Int) (r':Rd) (e:Ending) (w':World):Prop:=∃ (ao:Option Addr) (cap:Nat),e=.returned (.slice ao l.length cap)/\zaF (fun k=>w.heap.size<=k/\k < w'.heap.size) w' (.slice ao l.length cap) l/\zbE w' R r'/\RdM R w w'
theorem zeM (R:Nat) (r:Rd) (s:Bs) (hs:s.length<=1000000) (w:World) (hG:Gl w) (hR:10<=R) (h:zbE w R r):
  Calls Tryz.prog 185 #[.string ⟨s.toArray⟩,.func (.func 177) #[.pointer (some ⟨R,0,none⟩)] #[]] w (NmP w R (numsOf s r).1 (numsOf s r).2):=by
 by_cases hst:s=[42]
 ·subst hst
  have e0:numsOf [42] r=([],r):=rfl;rw [e0];have hx:=Mod.alloc (Mod.refl (fun _=>False) w) (.cells #[.func (.func 177) #[.pointer (some ⟨R,0,none⟩)] #[]] 107);have h1:=h.ext hx;replace h1:=Y h1;replace hx:=Y hx;replace h:=Y h;go_enter Tryz.func185,Tryz.ntmps185;go_wp2_with fail
  go_ret;exact ⟨none,0,rfl,zac.nil _ _ _,h1.o,RdM.ofExt hx.o⟩
 ·have e0:numsOf s r=zbh (parts 44 s) r:=by unfold numsOf;rw [if_neg hst]
  rw [e0];have hse:(s==[42])=false:=by rw [beq_eq_false_iff_ne];exact hst
  have hRlt:=h.lt;refine (callsIn_wide (n:=3)).1 ?_;refine callsIn_of_wp_marks Tryz.func185 rfl trivial ?_ rfl;simp only [Tryz.ntmps185,List.size_toArray,List.length_cons,List.length_nil,Nat.reduceAdd,Nat.reduceSub,Array.replicate_succ,Array.replicate_zero,List.push_toArray,List.append_toArray,List.nil_append,List.cons_append];refine (wpIn_wide (n:=3)).2 ?_;go_wp2_with fail
  refine (zeG 44 s _).mono ?_;rintro e w1 ⟨rfl,rfl⟩;go_wp2_with fail
  try simp only [World.size_alloc]
  obtain ⟨L,hL⟩:∃ L,L=w.heap.size:=⟨_,rfl⟩;simp only [<- hL];have hx4:=((((Mod.refl (fun _=>False) w).alloc (.cells #[.func (.func 177) #[.pointer (some ⟨R,0,none⟩)] #[]] 107)).alloc (.cells #[.slice none 0 0] 24)).alloc (.cells #[.string ⟨s.toArray⟩] 9)).alloc (.cells #[.string ⟨#[44]⟩] 9);have hx5:=hx4.alloc (.cells #[.int .i64 0] 3);have hg4:∀ k,(((((w.alloc (.cells #[.func (.func 177) #[.pointer (some ⟨R,0,none⟩)] #[]] 107)).alloc (.cells #[.slice none 0 0] 24)).alloc (.cells #[.string ⟨s.toArray⟩] 9)).alloc (.cells #[.string ⟨#[44]⟩] 9)).alloc (.cells #[.int .i64 0] 3)).heap[k]?=
    if k=L+4 then some (.cells #[.int .i64 0] 3 (0,0)) else if k=L+3 then some (.cells #[.string ⟨#[44]⟩] 9 (0,0)) else if k=L+2 then some (.cells #[.string ⟨s.toArray⟩] 9 (0,0)) else if k=L+1 then some (.cells #[.slice none 0 0] 24 (0,0)) else if k=L then some (.cells #[.func (.func 177) #[.pointer (some ⟨R,0,none⟩)] #[]] 107 (0,0)) else w.heap[k]?:=by
   intro k;simp only [zaG,World.size_alloc,<- hL]
  have hs4:(((((w.alloc (.cells #[.func (.func 177) #[.pointer (some ⟨R,0,none⟩)] #[]] 107)).alloc (.cells #[.slice none 0 0] 24)).alloc (.cells #[.string ⟨s.toArray⟩] 9)).alloc (.cells #[.string ⟨#[44]⟩] 9)).alloc (.cells #[.int .i64 0] 3)).heap.size=L+5:=by simp only [World.size_alloc,<- hL]
  clear hx4;generalize (((((w.alloc (.cells #[.func (.func 177) #[.pointer (some ⟨R,0,none⟩)] #[]] 107)).alloc (.cells #[.slice none 0 0] 24)).alloc (.cells #[.string ⟨s.toArray⟩] 9)).alloc (.cells #[.string ⟨#[44]⟩] 9)).alloc (.cells #[.int .i64 0] 3))=w4 at hx5 hg4 hs4 ⊢;have b0:=hg4 L;have b1:=hg4 (L+1);have b2:=hg4 (L+1+1);have b3:=hg4 (L+1+1+1);have b4:=hg4 (L+1+1+1+1);simp at b0 b1 b2 b3 b4;clear hg4;have hwL:w.heap.size<=L:=Nat.le_of_eq hL.symm;have hRL:R < L:=by omega
  have hI0:LsN w R r L [] w4:=⟨RdM.ofExt hx5,by omega,h.ext hx5,b0,⟨_,b1,Own.nil _ _ _ _ _⟩,⟨_,b2⟩⟩;have hG4:=Y (hG.ext hx5);replace hL:=Y hL;replace h:=Y h;have hseq:=zhT 2 (L+1+1) (L+1+1+1) (L+1+1+1+1) (by omega) ⟨by omega,by omega⟩ 44 s hs w4 b2 b3 b4;refine (wpIn_wide (n:=3)).1 ?_;refine zbX (F:=Fence.wide) rfl (by omega) (gf:=264) (lb:=#[.pointer (some ⟨L+1+1+1,0,none⟩),.pointer (some ⟨L+1+1,0,none⟩),.pointer (some ⟨L+1+1+1+1,0,none⟩)]) rfl trivial (enters_of Tryz.func264 (by kernel_rfl) rfl)
   hseq (fun k hk=>by rcases hk with rfl | rfl | rfl <;> omega) (by omega) (Below.refl _ _) (fun _=>rfl) (fun pre W=>LsN w R r L pre W) (fun _ _ _=>False)
   (zoa w R r L w4.heap.size hwL (by omega)) (fun p A v hh=>znV hwL hRlt v hh) (fun c s W W' row h _ _=>h) hI0 ?aa ?assign ?body ?done (fun D c pre W _ _ h=>h.elim)
  case assign=>
   intro l x W K hK
   gi_wp2
   exact hK
  case body=>
   rintro l pre x W hI hlen hxl;obtain ⟨v,hb1,hown⟩:=hI.box;obtain ⟨av,cv,rfl,-,-⟩:=hown.row;have q0:=cS hI.fn 0;have q1:=cS hb1 0;have z1:=zad hb1;have hsz:Hid (L+5<=W.heap.size):=Y hI.size;have hplen:pre.length<=1000001:=by have:=zcw 44 s;omega
   have hce:=enters_of Tryz.func177 (by kernel_rfl) rfl;replace hI:=Y hI;replace hown:=Y hown;replace hb1:=Y hb1;refine wpIn_block ?_;refine zch (fun W'=>W'.heap[L]?=some (.cells #[.func (.func 177) #[.pointer (some ⟨R,0,none⟩)] #[]] 107 (0,0))/\W'.heap[L+1]?=some (.cells #[.slice av (zbh pre r).1.length cv] 24 (0,0))) [(0,true),(1,true),(2,true),(3,false),(4,false),(5,false),(6,false)]
    (by as_aux_lemma=>kernel_rfl) (by as_aux_lemma=>kernel_rfl) (by as_aux_lemma=>kernel_rfl) (by as_aux_lemma=>kernel_rfl) (by decide) (fun ⟨a,w,h⟩=>h) ⟨hI.o.fn,hb1.o⟩ ?_
   simp only [zah,List.map_cons,List.map_nil,List.getD_cons_zero,List.getD_cons_succ];have hW0:=Mod.drew0 (fun _=>False) W;have hI0:=hI.o;have hrd0:=zbE.ext hI.o.rd hW0;have hm0:=hI.o.mod.drew;have ho0:=hown.o.ext hW0;have hsz0:L+5<=W.drew.heap.size:=hsz.o;have hGW:=hG.rd hR hm0;have hC0:W.drew.heap[L]?=some (.cells #[.func (.func 177) #[.pointer (some ⟨R,0,none⟩)] #[]] 107 (0,0))/\W.drew.heap[L+1]?=some (.cells #[.slice av (zbh pre r).1.length cv] 24 (0,0)):=⟨hI.o.fn,hb1.o⟩;have hk0:=KeepsOthers.drew W;have hs0:∀ k:Nat,W.drew.heap[k]?=W.heap[k]?:=fun _=>rfl
   have hrest:(zbh pre r).2.rest=r.rest:=zel pre r;generalize W.drew=W0 at hrd0 hm0 ho0 hsz0 hGW hC0 hk0 hs0 ⊢;have htn:=Y (zc0 R (zbh pre r).2 x hxl W0 hGW hrd0);replace hrd0:=Y hrd0;replace hm0:=Y hm0;replace ho0:=Y ho0;replace hk0:=Y hk0;replace hs0:=Y hs0;replace hC0:=Y hC0;clear hGW q0 q1 hW0 hI0;repeat (first | (refine zia (by rfl) (by rfl) ?_ (fun w' hC=>?_) ?_;rotate_left;(obtain ⟨hC1,hC2⟩:=hC;have q0:=cS hC1 0;have q1:=cS hC2 0;go_simp;try with_reducible rfl);try simp only [Act.put,sA,sZ,sS]) | (refine ziJ (by rfl) (by rfl) ?_ (fun w' hC=>?_) ?_;rotate_left;(go_simp;try with_reducible rfl);try simp only [Act.put,sA,sZ,sS]))
   refine zdF (by rfl) (fun K hK=>?_);go_simp;refine htn.o.mono ?_;rintro e W1 ⟨rfl,hr1,hm1⟩;have hC1:W1.heap[L]?=some (.cells #[.func (.func 177) #[.pointer (some ⟨R,0,none⟩)] #[]] 107 (0,0))/\W1.heap[L+1]?=some (.cells #[.slice av (zbh pre r).1.length cv] 24 (0,0)):=⟨hm1.at hC0.o.1 (by omega),hm1.at hC0.o.2 (by omega)⟩;refine hK.o _ _ hC1 ?_;have hO1:=Y (ho0.o.mod hm1 (fun k hk e=>by have:=(ho0.o.block k hk).1;omega));have hk1:=Y (hk0.o.trans (zbN hm1 (fun k o hk ho e=>by subst e;rw [hrd0.o] at hk;cases hk;cases ho)));have hs1:=Y (show ∀ k:Nat,k ≠ R -> k < W0.heap.size -> W1.heap[k]?=W.heap[k]? from fun k hk hkl=>(hm1.block k hkl hk).trans (hs0.o k));have hmm:=Y (hm0.o.trans hm1);have hsz1:L+5<=W1.heap.size:=Nat.le_trans hsz0 hm1.size;have hszW:W0.heap.size<=W1.heap.size:=hm1.size;replace hr1:=Y hr1;replace hC1:=Y hC1;clear hK K htn hC0 ho0 hk0 hs0 hm0 hm1 hrd0;try simp only [Act.put,sA,sZ,sS]
   refine zdF (by rfl) (fun K hK=>?_);go_simp;have hxA:=Mod.alloc (Mod.refl (fun _=>False) W1) (.cells #[.int .i64 (zbn x (zbh pre r).2).1] 3);refine hK.o _ _ ⟨hxA.at hC1.o.1 id,hxA.at hC1.o.2 id⟩ ?_;clear hK K;try simp only [Act.put,sA,sZ,sS]
   refine zdF (by rfl) (fun K hK=>?_);refine zdU _ _ 24 rfl Tryz.underlying24 elI rfl (hO1.o.ext hxA) _ 1 1 rfl [(zbn x (zbh pre r).2).1] rfl (by exact zaJ.new _ _ _) zbv (fun y hy u hu=>by simp only [List.mem_singleton] at hy;subst hy;simp [zcZ] at hu;subst hu;rfl) (by rw [zfJ];simp only [List.length_singleton];omega) (by rw [World.size_alloc];omega) (fun e=>nomatch e) (fun v6 w6 H6=>?_);obtain ⟨hO6,hm6⟩:=H6.o;have hC6:w6.heap[L]?=some (.cells #[.func (.func 177) #[.pointer (some ⟨R,0,none⟩)] #[]] 107 (0,0))/\w6.heap[L+1]?=some (.cells #[.slice av (zbh pre r).1.length cv] 24 (0,0)):=
    ⟨hm6.at (hxA.at hC1.o.1 id) (fun e=>by have:=(hO1.o.block _ e).1;omega),hm6.at (hxA.at hC1.o.2 id) (fun e=>by have:=(hO1.o.block _ e).1;omega)⟩
   refine hK.o _ _ hC6 ?_;clear hK K H6;have hlen6:((zbh pre r).1++[(zbn x (zbh pre r).2).1]).length=(zbh pre r).1.length+1:=by simp
   obtain ⟨av6,cv6,rfl,-,-⟩:=hO6.row;rw [hlen6] at hO6;try simp only [Act.put,sA,sZ,sS]
   refine zkd (by rfl) (fun K hK=>?_);have z6:=zad hC6.2;have q6:=cS hC6.2 0;go_simp;refine hK.o _ _ ?_;clear hK K;have hma:Mod (fun k=>(Value.slice av (zbh pre r).1.length cv).ownBlock=some k) W1 w6:=(((Mod.refl _ W1).alloc _)).trans hm6;have hsz6:W1.heap.size<=w6.heap.size:=hma.size;show KeepsOthers W _/\_/\_
   refine ⟨(hk1.o.trans (zbN hma (fun k o hk ho e=>?_))).trans (KeepsOthers.setCell _ _ _),fun k hk=>?_,?_⟩
   ·obtain ⟨c,hc⟩:=hO1.o.cells e
    rw [hk] at hc;cases hc;cases ho
   ·have hk2:k ≠ L+1/\k ≠ R/\k < L+5:=by rcases hk with rfl | rfl | rfl <;> omega
    rw [zan w6 0 _ hk2.1,hma.block k (by omega) (fun e=>by have:=(hO1.o.block _ e).1;omega),hs1.o k hk2.2.1 (by omega)]
   ·have hres:zbh (pre++[x]) r=((zbh pre r).1++[(zbn x (zbh pre r).2).1],(zbn x (zbh pre r).2).2):=zid pre x r
    have hmf:RdM R w (w6.setCell ⟨L+1,0,none⟩ (.slice av6 ((zbh pre r).1.length+1) cv6)):=(hmm.o.then hma (fun k hk e=>by have:=(hO1.o.block _ e).1;omega)).setCell (fun e=>by have:L+1 < w.heap.size:=e;omega) _;have hszf:L+5<=(w6.setCell ⟨L+1,0,none⟩ (.slice av6 ((zbh pre r).1.length+1) cv6)).heap.size:=by
     have:(w6.setCell ⟨L+1,0,none⟩ (.slice av6 ((zbh pre r).1.length+1) cv6)).heap.size=w6.heap.size:=by simp [World.setCell]
     omega
    refine ⟨hmf,hszf,?_,(zan w6 0 _ (by omega)).trans hC6.1,⟨_,zdX hC6.2,?_⟩,?_⟩
    ·rw [hres]
     exact (zan w6 0 _ (by omega)).trans (hma.at hr1.o (fun e=>by have:=(hO1.o.block _ e).1;omega))
    ·rw [hres]
     exact hO6.mod ((Mod.refl (Eq (L+1)) w6).setCell (a:=⟨L+1,0,none⟩) (fun _=>rfl) _) (fun k hk e=>by have:=(hO6.block _ hk).1;omega)
    ·obtain ⟨u,hu⟩:=hI.o.bz
     refine ⟨u,(zan w6 0 _ (by omega)).trans ?_⟩;rw [hma.block (L+2) (by omega) (fun e=>by have:=(hO1.o.block _ e).1;omega),hs1.o (L+2) (by omega) (by omega)];exact hu
  case done=>
   rintro D xs W hD hxs hI hK;obtain ⟨v,hb1,hown⟩:=hI.box;obtain ⟨av,cv,rfl,-,-⟩:=hown.row;have q1:=cS hb1 0;have hnl:(zbh xs r).1.length<=140737488355328:=by rw [zfJ,hxs];have:=zcw 44 s;omega
   have hrow:=Y (zbV hown hnl);replace hI:=Y hI;replace hown:=Y hown;replace hK:=Y hK;replace hxs:=Y hxs;replace hb1:=Y hb1;go_wp2_with fail
   have hgD:W.grownBy (W.putObj D (.deferred none)) (some D):=grownBy_putObj' W D _;have hrD:∀ r,some D=some r -> ∃ o:Obj,W.heap[r]?=some o/\o.isCells=false:=fun r e=>by cases e;exact ⟨_,hK.o,rfl⟩
   refine ⟨by simp,.inl ⟨_,_,rfl,run_takeDeferred hK.o,?_⟩⟩;refine ⟨_,by simp [results,go_sem];rfl,?_⟩;rw [<- hxs.o];have hszD:(W.putObj D (.deferred none)).heap.size=W.heap.size:=by simp
   refine ⟨av,cv,rfl,?_,zaq hgD hrD hI.o.rd,zjA hI.o.mod hgD (fun r e=>by cases e;omega)⟩;exact zac.mono (zbV (zcA hgD hrD hown.o) hnl) (fun k hk=>⟨by omega,hk.2⟩)
theorem zkV (st:St):∀ e,(mI st).2=.error e -> (mI st).1=0:=by
 intro e h;unfold mI mR at h ⊢;cases st with
 | error _=>rfl
 | ok r=>
  simp only at h ⊢;cases hr:rbI r with
  | error _=>rfl
  | ok x=>rw [hr] at h;cases h
theorem zgO (st:St):-4611686018427387903<=(mI st).1/\(mI st).1<=4611686018427387903:=by
 unfold mI mR;cases st with
 | error _=>exact ⟨by show _<=(0:Int);decide,by show (0:Int)<=_;decide⟩
 | ok r=>
  simp only;unfold rbI;cases hg:zdt r with
  | none=>exact ⟨by show _<=(0:Int);decide,by show (0:Int)<=_;decide⟩
  | some x=>
   obtain ⟨n,u⟩:=x;exact zjU hg
def LiP (w:World) (R:Nat) (t:Bs) (T:List Int × St) (e:Ending) (w':World):Prop:=∃ v,e=.returned v/\Cdk.Own w' w.heap.size 3 1 zcZ v T.1/\zd2 w' R t T.2/\RdM R w w'
theorem zl6 (most:Int) (hmost:0<=most/\most<=1000) (R:Nat) (t:Bs) (st:St) (hs:t.length<=1000000) (w:World) (h:zd2 w R t st):
  Calls Tryz.prog 242 #[.pointer (some ⟨R,0,none⟩),.int .i64 most,.func (.func 240) #[] #[]] w (LiP w R t (mL most mI st)):=by
 have hRlt:=h.lt;have h1:=Y (zfA R t st hs w h);have hrng:=zgO st;have hce:=enters_of Tryz.func240 (by kernel_rfl) rfl;obtain ⟨T,hT⟩:∃ T,T=mL most mI st:=⟨_,rfl⟩;rw [<- hT];unfold mL at hT;have hz:=zkV st;generalize (mI st).1=c at h1 hrng hT hz;generalize (mI st).2=s1 at h1 hT hz;have hc1:=hrng.1;have hc2:=hrng.2;clear hrng h;replace hT:=Y hT;replace hz:=Y hz;go_enter Tryz.func242,Tryz.ntmps242;go_wp2_with fail
 refine h1.o.mono ?_;rintro e w1 ⟨rfl,hb1,hm1⟩;clear h1;have c2:=hb1.err;have hsz1:w.heap.size<=w1.heap.size:=hm1.size;cases s1 with
 | error er=>
  have hT2:=Y (show T=([],.error er) from hT.o);obtain rfl:c=0:=hz.o er rfl;have hne:=hb1.ne;have he1:(er==0)=false:=by rw [beq_eq_false_iff_ne];exact hne
  have he2:(er !=0)=true:=by rw [bne_iff_ne];exact hne
  simp only [stE] at c2;replace hb1:=Y hb1;replace hm1:=Y hm1;go_wp2_with fail
  go_loopg [8,9] 1 (fun g l i wr=>wr=w1/\l=.slice none 0 0/\i=.int .i64 0)
  case atStart=>exact ⟨rfl,rfl,rfl⟩
  case round=>
   obtain ⟨rfl,rfl,rfl⟩:=hrel;go_wp2_with fail
   go_ret;rw [hT2.o];exact ⟨_,rfl,Own.nil _ _ _ _ _,hb1.o,hm1.o⟩
 | ok r=>
  simp only [stE] at c2
  by_cases hbad:c < 0 \/ most < c
  ·have hT2:=Y (show T=([],.error 30) by rw [hT.o];simp only;rw [if_pos hbad])
   obtain ⟨a,ha,hra,hb2⟩:=hb1;have z2:=zad hb2;have p2:=zai hb2 2 (.int .i64 30);have m2:=Y (hm1.setCell (a:=⟨R,2,none⟩) (fun _=>rfl) (.int .i64 30));have d2:(w1.setCell ⟨R,2,none⟩ (.int .i64 30)).cell? ⟨R,2,none⟩=some (.int .i64 30):=zaa p2 2;have hbb:Hid (zd2 (w1.setCell ⟨R,2,none⟩ (.int .i64 30)) R t (.error 30)):=Y ⟨a,ha,by decide,p2⟩;replace p2:=Y p2;replace hb2:=Y hb2;replace hm1:=Y hm1;clear hT hz hra;have key:True:=trivial
   by_cases hneg:c < 0
   ·have hn1:¬ (0:Int) < c:=by omega
    replace hbad:=Y hbad;go_wp2_with fail
    go_loopg [8,9] 1 (fun g l i wr=>wr=w1.setCell ⟨R,2,none⟩ (.int .i64 30)/\l=.slice none 0 0/\i=.int .i64 0)
    case atStart=>exact ⟨rfl,rfl,rfl⟩
    case round=>
     obtain ⟨rfl,rfl,rfl⟩:=hrel;go_wp2_with fail
     go_ret;rw [hT2.o];exact ⟨_,rfl,Own.nil _ _ _ _ _,hbb.o,m2.o⟩
   ·have hm0:=hmost.1
    have hn2:most < c:=by rcases hbad with hb | hb <;> omega
    have hn1:(0:Int) < c:=by omega
    replace hbad:=Y hbad;go_wp2_with fail
    go_loopg [8,9] 1 (fun g l i wr=>wr=w1.setCell ⟨R,2,none⟩ (.int .i64 30)/\l=.slice none 0 0/\i=.int .i64 0)
    case atStart=>exact ⟨rfl,rfl,rfl⟩
    case round=>
     obtain ⟨rfl,rfl,rfl⟩:=hrel;go_wp2_with fail
     go_ret;rw [hT2.o];exact ⟨_,rfl,Own.nil _ _ _ _ _,hbb.o,m2.o⟩
  ·have hm1000:=hmost.2
   have hm0:=hmost.1;have hT2:=Y (show T=mN mI c.toNat (.ok r) by rw [hT.o];simp only;rw [if_neg hbad]);have hn1:¬ c < 0:=by omega
   have hn2:¬ most < c:=by omega
   obtain ⟨n,rfl⟩:∃ n:Nat,c=n:=⟨c.toNat,by omega⟩;rw [Int.toNat_natCast] at hT2;replace hb1:=Y hb1;replace hm1:=Y hm1;clear hT hz hbad;go_wp2_with fail
   go_loopg [8,9] n (fun g l i wr=>∃ (j:Nat) (pre:List Int) (av:Option Addr) (cv:Nat) (st':St),j+g=n/\i=.int .i64 j/\l=.slice av pre.length cv/\Cdk.Own wr w.heap.size 3 1 zcZ (.slice av pre.length cv) pre/\zd2 wr R t st'/\RdM R w wr/\T=(pre++(mN mI g st').1,(mN mI g st').2)/\pre.length=j)
   case atStart=>exact ⟨0,[],none,0,.ok r,by omega,rfl,rfl,Own.nil _ _ _ _ _,hb1.o,hm1.o,by rw [hT2.o];rfl,rfl⟩
   case round=>
    clear hT2 hm1 hb1 c2;obtain ⟨j,pre,av,cv,st',hj,rfl,rfl,hO,hb,hm,hTj,hlj⟩:=hrel;have d2:=hb.err
    by_cases hlt:j < n
    ·have hd:decide ((j:Int) < (n:Int))=true:=decide_eq_true (by omega)
     have hdi:(j:Int) < (n:Int):=by omega
     cases st' with
     | error er=>
      have hne:=hb.ne;have he1:(er==0)=false:=by rw [beq_eq_false_iff_ne];exact hne
      simp only [stE] at d2;rw [zh9] at hTj;replace hTj:=Y hTj;replace hO:=Y hO;replace hb:=Y hb;replace hm:=Y hm;replace hj:=Y hj;replace hlj:=Y hlj;go_wp2_with fail
      go_ret;rw [hTj.o];exact ⟨_,rfl,by simpa using hO.o,hb.o,hm.o⟩
     | ok u=>
      simp only [stE] at d2;obtain ⟨g,rfl⟩:∃ g,gk=g+1:=⟨gk - 1,by omega⟩;rw [mN] at hTj;have hel:=Y (zbp R t (.ok u) hs wr hb);generalize mI (.ok u)=xs at hel hTj;obtain ⟨x,st2⟩:=xs;simp only at hel hTj;have hszr:w.heap.size<=wr.heap.size:=hm.size;have hpl:pre.length<=9000000000000000000:=by omega
      have hjw:IntKind.i64.wrap ((j:Int)+1)=(j:Int)+1:=IntWalk.i64_in _ (by omega);replace hTj:=Y hTj;replace hO:=Y hO;replace hb:=Y hb;replace hm:=Y hm;replace hj:=Y hj;replace hlj:=Y hlj;go_wp2_with fail
      refine hel.o.mono ?_;rintro e w2 ⟨rfl,hb2,hm2⟩;have hO2:=Y (hO.o.mod hm2 (fun k hk e=>by have:=(hO.o.block _ hk).1;omega));have hm2:=Y (hm.o.trans hm2);have hsz2:w.heap.size<=w2.heap.size:=hm2.o.size;have hxa:=Mod.alloc (Mod.refl (fun _=>False) w2) (.cells #[.int .i64 x] 3);replace hb2:=Y hb2;clear hel hO hm hb;go_wp2_with (at_builtin;refine zaI rfl _ _ _ rfl Tryz.underlying24 elI rfl (hO2.o.ext hxa) _ 1 1 rfl [x] rfl (by exact zaJ.new _ _ _) zbv (fun y hy u hu=>by simp only [List.mem_singleton] at hy;subst hy;simp [zcZ] at hu;subst hu;rfl) (by have:=hlj.o;simp only [List.length_singleton];omega) (by rw [World.size_alloc];omega) (fun e=>nomatch e) (fun v6 w6 H6=>?_);skip)
      obtain ⟨hO6,hm6⟩:=H6.o;have hmx:Mod (fun k=>(Value.slice av pre.length cv).ownBlock=some k) w2 w6:=(hxa.mono (fun _ h=>h.elim)).trans hm6;have hRo:(Value.slice av pre.length cv).ownBlock ≠ some R:=fun e=>by have:=(hO2.o.block _ e).1;omega
      have hb6:=Y (hb2.o.mod hmx hRo);have hm7:=Y (hm2.o.then hmx (fun k hk e=>by have:=(hO2.o.block _ e).1;omega));obtain ⟨av6,cv6,rfl,-⟩:=hO6.row;have hl6:(pre++[x]).length=pre.length+1:=by simp
      rw [hl6];rw [hl6] at hO6;clear H6 hm6 hmx hxa;replace hO6:=Y hO6;go_wp2_with fail
      go_roundg g
      case measure=>omega
      case rel=>exact ⟨j+1,pre++[x],av6,cv6,st2,by have:=hj.o;omega,by go_num,by rw [hl6],by rw [hl6];exact hO6.o,hb6.o,hm7.o,by rw [hTj.o];simp,by rw [hl6,hlj.o]⟩
    ·obtain rfl:gk=0:=by omega
     obtain rfl:j=n:=by omega
     have hdi:¬ (j:Int) < (j:Int):=by omega
     have hd:decide ((j:Int) < (j:Int))=false:=decide_eq_false hdi;replace hTj:=Y hTj;replace hO:=Y hO;replace hb:=Y hb;replace hm:=Y hm;replace hj:=Y hj;replace hlj:=Y hlj;go_wp2_with fail
     go_ret;rw [hTj.o];exact ⟨_,rfl,by simpa [mN] using hO.o,hb.o,hm.o⟩
end Go.Proofs.YtjjfphalcibjfaaGreatDoor
