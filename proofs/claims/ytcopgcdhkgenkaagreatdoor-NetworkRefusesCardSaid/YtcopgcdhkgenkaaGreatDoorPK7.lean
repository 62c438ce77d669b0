import Derived.Test.YtcopgcdhkgenkaaGreatDoorPK6
set_option linter.all false
set_option maxRecDepth 100000
set_option maxHeartbeats 16000000
namespace Go.Proofs.YtcopgcdhkgenkaaGreatDoor.Ps
open Go.RowKit Cdk Tpl
attribute [local go_sem] Oper.semAt_some
theorem wpListIn_app {α:Type} {F:Fence} {nF:Nat} {P:Program} {f:α -> List Value} {base:Nat} {e:TypeId} {z:Value} {size bytes:Nat} {w:World} {v:Value} {xs:List α}
  {ops:Array Oper} {rest:List Oper} {o:Oper} {a:Act} {Q:Exit -> Act -> World -> Prop} (hg:o.guard=none) (s x:Operand) (t:TypeId)
  (ho:o.op=.call { callee:=.builtin .append,args:=#[s,x],argTypes:=#[t,t] }) (ht:P.underlying t=some (.slice e)) (el:El P e z size bytes)
  (hs:a.eval s=v) (hown:Cdk.Own w base e size f v xs) (ad:Addr) (m c:Nat) (hx:a.eval x=.slice (some ad) m c) (ys:List α) (hm:ys.length=m) (hrow:RowIs w (some ad) (ys.flatMap f))
  (hf:∀ y,(f y).length=size) (h1:∀ y ∈ ys,∀ u ∈ f y,u.oneCell'=true) (hlen:xs.length+ys.length<=137438953472) (hbase:base<=w.heap.size) (n:Nat) (hn:xs.length+m=n)
  (hK:∀ ao' cap' w',Hid (Cdk.Own w' base e size f (.slice ao' n cap') (xs++ys)/\Mod (fun k=>v.ownBlock=some k) w w') -> wpListIn F nF P ops Q rest (a.put o.dst (.slice ao' n cap')) w'):wpListIn F nF P ops Q (o::rest) a w:=by
 obtain ⟨i0,hi,hz0,hz1,hz2⟩:=info_parts el.row;have hflat:=fun l:List α=>flat_length f size hf l
 have hcells:∀ j u,(ys.flatMap f)[j]?=some u -> w.cell? (ad.add j)=some u:=by
  intro j u hu;obtain ⟨b,off,he,hcc⟩:=hrow j u hu;simp only [Option.some.injEq] at he;subst he;rw [Addr.add_lit];exact hcc
 have hb:(xs.length+m)*bytes<=140737488355328:=by
  have h1:=el.small;have:(xs.length+m)*bytes<=137438953472*1024:=Nat.mul_le_mul (by omega) h1;omega
 refine wpListIn_append_own w hg s x t ho base e i0 z size bytes ht hi hz0 hz1 hz2 el.cells el.pos v xs.length (xs.flatMap f) hs hown ad m c (ys.flatMap f) hx (by rw [hflat,hm]) hcells ?_ (by simp only [maxLen];omega) hb hbase ?_
 ·intro u hu
  obtain ⟨y,hy,hu⟩:=List.mem_flatMap.1 hu;exact h1 y hy u hu
 ·intro v' w' h2 h3 _
  have hO:Cdk.Own w' base e size f v' (xs++ys):=by
   subst hm;unfold Cdk.Own;rw [List.length_append,List.flatMap_append];exact h2
  have hMm:Mod (fun k=>v.ownBlock=some k) w w':=Mod.ofGrown h3 (fun k hk=>hk);obtain ⟨ao',cap',hv,-,-⟩:=hO.row;rw [List.length_append,hm,hn] at hv;subst hv;exact hK ao' cap' w' ⟨hO,hMm⟩
def tokC (t:Tk):List Value:=[.int .i64 t.kind,.string ⟨t.text.toArray⟩,.int .i64 t.off]
theorem tokC_len (t:Tk):(tokC t).length=3:=rfl
theorem el69:El Tryz.prog 669 (.agg #[.int .i64 0,.string .empty,.int .i64 0]) 3 32:=⟨by kernel_rfl,rfl,by decide,by decide⟩
theorem scan_made (s:ByteArray) (w:World):Calls Tryz.prog 486 #[.string s] w fun e w'=>e=.returned (.func (.func 559) #[] #[.pointer (some ⟨w.heap.size,0,none⟩)])/\w'=w.alloc (.cells #[.string s] 9):=by
 go_enter Tryz.func486,Tryz.ntmps486;have hmf:∀ (fn:Fn) (first cap:Array Value) (w:World),(Instr.makeFunc fn first cap).run Tryz.prog w=.ok (.func fn first cap) w:=fun _ _ _ _=>rfl
 go_wp2;go_ret;exact ⟨rfl,rfl⟩
theorem scan_len:∀ (f:Nat) (l:Bs) (off:Nat) (tg:Option Nat),(scan f l off tg).length<=f:=by
 intro f
 induction f with
 | zero=>intro l off tg;simp [scan]
 | succ f ih=>
  intro l off tg;cases l with
  | nil=>cases tg <;> simp [scan]
  | cons c r=>
   cases tg with
   | none=>
    cases hb:opensB (c::r) with
    | true=>
     rw [scan_open hb];have:=ih r (off+1) (some off);simp only [List.length_cons];omega
    | false=>
     rw [scan_lit hb];split
     ·have:=ih (lit (c::r)).2.2.1 (off+(lit (c::r)).2.1) none
      simp only [List.length_cons];omega
     ·simp
   | some tag=>
    by_cases h:c.toNat=32 \/ c.toNat=10
    ·have e:scan (f+1) (c::r) off (some tag)=scan f r (off+1) (some tag):=by simp only [scan,h,if_true]
     rw [e];have:=ih r (off+1) (some tag);omega
    ·cases hp:Tpl.part c r with
     | none=>
      have e:scan (f+1) (c::r) off (some tag)=[⟨0,[],off⟩]:=by simp only [scan,h,if_false,hp]
      rw [e];simp
     | some y=>
      obtain ⟨k,w,n,t⟩:=y;have e:scan (f+1) (c::r) off (some tag)=⟨k,w,off⟩::scan f t (off+n) (if k=7 then none else some tag):=by simp only [scan,h,if_false,hp]
      rw [e];have:=ih t (off+n) (if k=7 then none else some tag);simp only [List.length_cons];omega
theorem scan_seq (n Bn:Nat) (hn:1<=n) (s:ByteArray) (hs:s.size<=1000) (w:World) (hB:Bn < w.heap.size) (hc:w.cell? ⟨Bn,0,none⟩=some (.string s)):
  SeqT Fence.wide n Tryz.prog 559 #[.pointer (some ⟨Bn,0,none⟩)] (fun x:Tk=>#[tokV x]) (fun k=>k=Bn) (fun ys=>ys=scan (s.size+1) s.data.toList 0 none) (fun pre=>pre <+:scan (s.size+1) s.data.toList 0 none)
   (scan (s.size+1) s.data.toList 0 none).length w:=fun l J Jx W hW hJ hY h0=>
 scanIn n l Bn hn s hs J Jx hJ hY W ((hW.cell (p:=⟨Bn,0,none⟩) hB).trans hc) h0
theorem grown_cells {W W':World} {row:Option Nat} (hg:W.grownBy W' row) (hrow:∀ r,row=some r -> ∃ o:Obj,W.heap[r]?=some o/\o.isCells=false) {k:Nat} {c:Array Value} {t:TypeId} {fr:Nat × Nat}
  (hk:W.heap[k]?=some (.cells c t fr)):W'.heap[k]?=some (.cells c t fr):=(grownBy_keeps_cells hg hrow hk rfl).trans hk
theorem own_grown {α:Type} {W W':World} {row:Option Nat} (hg:W.grownBy W' row) (hrow:∀ r,row=some r -> ∃ o:Obj,W.heap[r]?=some o/\o.isCells=false) {base:Nat} {e:TypeId} {size:Nat} {f:α -> List Value} {v:Value} {xs:List α}
  (h:Cdk.Own W base e size f v xs):Cdk.Own W' base e size f v xs:=by
 refine ⟨h.1,?_⟩;rcases h.2 with h2 | ⟨g,cap,cur,rfl,h3,h4,h5⟩
 ·exact .inl h2
 ·exact .inr ⟨g,cap,cur,rfl,h3,grown_cells hg hrow h4,h5⟩
theorem ext_grown {w W W':World} {row:Option Nat} (h:Ext w W) (hg:W.grownBy W' row) (hr:∀ r,row=some r -> w.heap.size<=r):Ext w W':=
 ⟨hg.os.trans h.os,hg.tape.trans h.tape,hg.output.trans h.output,Nat.le_trans h.size hg.size,fun k hk _=>(hg.block k (Nat.lt_of_lt_of_le hk h.size) (fun e=>by have:=hr k e.symm;omega)).trans (h.block k hk (fun h=>h))⟩
structure TokI (w:World) (R:Nat) (pre:List Tk) (M:Nat) (W:World):Prop where
 ok:∀ t ∈ pre,t.kind ≠ 0
 ext:Ext w W
 box:∃ v,W.heap[R+3]?=some (.cells #[v] 599 (0,0))/\Cdk.Own W R 669 3 tokC v pre/\(∀ k,v.ownBlock=some k -> R+5<=k/\k < M)
 r2:W.heap[R]?=some (.cells #[.slice none 0 0] 599 (0,0))
 r3:W.heap[R+1]?=some (.cells #[.int .i64 0] 3 (0,0))
 r4:W.heap[R+2]?=some (.cells #[.int .i64 0] 26 (0,0))
 r5:∃ s,W.heap[R+4]?=some (.cells #[s] 9 (0,0))
structure TokX (w:World) (R:Nat) (pre:List Tk) (W:World):Prop where
 last:∃ p t,pre=p++[t]/\t.kind=0/\(∀ u ∈ p,u.kind ≠ 0)/\W.heap[R+1]?=some (.cells #[.int .i64 t.off] 3 (0,0))
 ext:Ext w W
 r2:W.heap[R]?=some (.cells #[.slice none 0 0] 599 (0,0))
 r4:W.heap[R+2]?=some (.cells #[.int .i64 90] 26 (0,0))
theorem tokI_own (w:World) (R B:Nat) (hR:w.heap.size<=R) (hB:R<=B) (M:Nat):OwnFrom B (fun p W=>TokI w R p M W):=by
 intro p W W' row h hg hrow;have hr:=fun r e=>(hrow r e).2
 obtain ⟨v,h1,h2,h3⟩:=h.box;obtain ⟨sv,h5⟩:=h.r5;exact ⟨h.ok,ext_grown h.ext hg (fun r e=>by have:=(hrow r e).1;omega),⟨v,grown_cells hg hr h1,own_grown hg hr h2,h3⟩,grown_cells hg hr h.r2,grown_cells hg hr h.r3,grown_cells hg hr h.r4,⟨sv,grown_cells hg hr h5⟩⟩
theorem tokX_own (w:World) (R B:Nat) (hR:w.heap.size<=R) (hB:R<=B) (c:Code):OwnFrom B (fun p W=>c=.ret/\TokX w R p W):=by
 rintro p W W' row ⟨hc,h⟩ hg hrow;have hr:=fun r e=>(hrow r e).2
 obtain ⟨q,t,h1,h2,h3,h4⟩:=h.last;exact ⟨hc,⟨q,t,h1,h2,h3,grown_cells hg hr h4⟩,ext_grown h.ext hg (fun r e=>by have:=(hrow r e).1;omega),grown_cells hg hr h.r2,grown_cells hg hr h.r4⟩
theorem put1 {w:World} {b:Nat} {x v:Value} {t:TypeId} {fr:Nat × Nat} (h:w.heap[b]?=some (.cells #[x] t fr)):(w.setCell ⟨b,0,none⟩ v).heap[b]?=some (.cells #[v] t fr):=by
 simp only [World.setCell,Array.getElem?_modify,if_true];rw [h];simp
theorem put_ne (w:World) {b k:Nat} (j:Nat) (v:Value) (h:k ≠ b):(w.setCell ⟨b,j,none⟩ v).heap[k]?=w.heap[k]?:=Below.heap_setCell w ⟨b,j,none⟩ v k h
theorem tok_bad {w W:World} {R M:Nat} {pre:List Tk} {x:Tk} (hRw:w.heap.size<=R) (h:TokI w R pre M W) (hk:x.kind=0):
  KeepsOthers W ((((W.setCell ⟨R,0,none⟩ (.slice none 0 0)).setCell ⟨R+1,0,none⟩ (.int .i64 x.off)).setCell ⟨R+1+1,0,none⟩ (.int .i64 90)).drew) ∧
   TokX w R (pre++[x]) ((((W.setCell ⟨R,0,none⟩ (.slice none 0 0)).setCell ⟨R+1,0,none⟩ (.int .i64 x.off)).setCell ⟨R+1+1,0,none⟩ (.int .i64 90)).drew):=by
 have h0:(W.setCell ⟨R,0,none⟩ (.slice none 0 0)).heap[R]?=_:=put1 h.r2;have h1:(W.setCell ⟨R,0,none⟩ (.slice none 0 0)).heap[R+1]?=_:=(put_ne W 0 _ (by omega)).trans h.r3;have h2:(W.setCell ⟨R,0,none⟩ (.slice none 0 0)).heap[R+2]?=_:=(put_ne W 0 _ (by omega)).trans h.r4;have hx:=h.ext.setCell (a:=⟨R,0,none⟩) (fun e=>by have:R < w.heap.size:=e;omega) (.slice none 0 0);have k1:=KeepsOthers.setCell W ⟨R,0,none⟩ (.slice none 0 0);generalize (W.setCell ⟨R,0,none⟩ (.slice none 0 0))=A at h0 h1 h2 hx k1 ⊢;have g0:(A.setCell ⟨R+1,0,none⟩ (.int .i64 x.off)).heap[R]?=_:=(put_ne A 0 _ (by omega)).trans h0;have g1:(A.setCell ⟨R+1,0,none⟩ (.int .i64 x.off)).heap[R+1]?=some (.cells #[.int .i64 x.off] 3 (0,0)):=put1 h1;have g2:(A.setCell ⟨R+1,0,none⟩ (.int .i64 x.off)).heap[R+2]?=_:=(put_ne A 0 _ (by omega)).trans h2;have hy:=hx.setCell (a:=⟨R+1,0,none⟩) (fun e=>by have:R+1 < w.heap.size:=e;omega) (.int .i64 x.off);have k2:=k1.trans (KeepsOthers.setCell A ⟨R+1,0,none⟩ (.int .i64 x.off));generalize (A.setCell ⟨R+1,0,none⟩ (.int .i64 x.off))=B at g0 g1 g2 hy k2 ⊢;refine ⟨(k2.trans (KeepsOthers.setCell B ⟨R+2,0,none⟩ (.int .i64 90))).trans (KeepsOthers.drew _),⟨⟨pre,x,rfl,hk,h.ok,(put_ne B 0 _ (by omega)).trans g1⟩,?_,(put_ne B 0 _ (by omega)).trans g0,put1 g2⟩⟩;exact (hy.setCell (a:=⟨R+2,0,none⟩) (fun e=>by have:R+2 < w.heap.size:=e;omega) (.int .i64 90)).drew
theorem tok_good {w W w6:World} {R M B n cap:Nat} {ao:Option Addr} {pre:List Tk} {x:Tk} {v:Value} {o:Obj} (hRw:w.heap.size<=R) (h:TokI w R pre M W) (hk:x.kind ≠ 0)
  (hown:Cdk.Own W R 669 3 tokC v pre) (hvb:∀ k,v.ownBlock=some k -> R+5<=k/\k < M) (hb3:W.heap[R+3]?=some (.cells #[v] 599 (0,0))) (hM5:R+5<=M) (hMB:M<=B) (hBW:B < W.heap.size)
  (H:Cdk.Own w6 R 669 3 tokC (.slice ao n cap) (pre++[x])/\Mod (fun k=>v.ownBlock=some k) (W.alloc o) w6):
  KeepsOthers W (w6.setCell ⟨R+1+1+1,0,none⟩ (.slice ao n cap))/\(∀ k,k=R+4 -> (w6.setCell ⟨R+1+1+1,0,none⟩ (.slice ao n cap)).heap[k]?=W.heap[k]?) ∧
   (∀ k,M<=k -> k < B -> (w6.setCell ⟨R+1+1+1,0,none⟩ (.slice ao n cap)).heap[k]?=W.heap[k]?)/\TokI w R (pre++[x]) (w6.setCell ⟨R+1+1+1,0,none⟩ (.slice ao n cap)).heap.size (w6.setCell ⟨R+1+1+1,0,none⟩ (.slice ao n cap)):=by
 obtain ⟨hO,hm⟩:=H;have hma:Mod (fun k=>v.ownBlock=some k) W w6:=(((Mod.refl _ W).alloc o)).trans hm;have hR3:=lt_of_at hb3;have hlow:∀ k,k < R+5 -> k < W.heap.size -> w6.heap[k]?=W.heap[k]?:=fun k hk hkW=>hma.block k hkW (fun e=>by have:=(hvb k e).1;omega)
 have hsz:(w6.setCell ⟨R+1+1+1,0,none⟩ (.slice ao n cap)).heap.size=w6.heap.size:=by simp [World.setCell]
 obtain ⟨sv,h5⟩:=h.r5;have hfresh:∀ k,(Value.slice ao n cap).ownBlock=some k -> R+5<=k:=by
  intro k hk;obtain ⟨c,hc⟩:=hO.cells hk;have hb:=(hO.block k hk).1;have no:∀ {k':Nat} {c':Array Value} {t':TypeId},W.heap[k']?=some (.cells c' t' (0,0)) -> k' < R+5 -> t' ≠ 669 -> k ≠ k':=by
   intro k' c' t' hk' hl ht e;rw [e,hlow k' hl (lt_of_at hk'),hk'] at hc;injection hc with hc;injection hc with _ hc _
   exact ht hc
  have n0:=no h.r2 (by omega) (by decide);have n1:=no h.r3 (by omega) (by decide);have n2:=no h.r4 (by omega) (by decide);have n3:=no hb3 (by omega) (by decide);have n4:=no h5 (by omega) (by decide);omega
 refine ⟨?_,?_,?_,?_⟩
 ·refine KeepsOthers.trans ⟨hma.size,fun k o' hk ho=>?_⟩ (KeepsOthers.setCell _ _ _)
  have hkW:=lt_of_at hk
  rw [hma.block k hkW (fun e=>by
   obtain ⟨c,hc⟩:=hown.cells e
   rw [hk] at hc;injection hc with hc;subst hc;cases ho)]
  exact hk
 ·intro k hk
  rw [put_ne w6 0 _ (by omega)];exact hlow k (by omega) (by omega)
 ·intro k hMk hkB
  rw [put_ne w6 0 _ (by omega)];exact hma.block k (by omega) (fun e=>by have:=(hvb k e).2;omega)
 ·refine ⟨?_,?_,⟨_,put1 (x:=v) ((hlow (R+3) (by omega) hR3).trans hb3),?_,?_⟩,?_,?_,?_,?_⟩
  ·intro t ht
   rcases List.mem_append.1 ht with ht | ht
   ·exact h.ok t ht
   ·simp only [List.mem_singleton] at ht;subst ht;exact hk
  ·exact (h.ext.then hma (fun k hkw e=>by have:=(hvb k e).1;omega)).setCell (fun e=>by have:R+1+1+1 < w.heap.size:=e;omega) _
  ·refine hO.mod ((Mod.refl (Eq (R+3)) w6).setCell (fun _=>rfl) _) (fun k hk e=>?_)
   have:=hfresh k hk;omega
  ·intro k hk
   rw [hsz];exact ⟨hfresh k hk,(hO.block k hk).2⟩
  ·rw [put_ne w6 0 _ (by omega)];exact (hlow R (by omega) (lt_of_at h.r2)).trans h.r2
  ·rw [put_ne w6 0 _ (by omega)];exact (hlow (R+1) (by omega) (lt_of_at h.r3)).trans h.r3
  ·rw [put_ne w6 0 _ (by omega)];exact (hlow (R+2) (by omega) (lt_of_at h.r4)).trans h.r4
  ·exact ⟨sv,by rw [put_ne w6 0 _ (by omega)];exact (hlow (R+4) (by omega) (lt_of_at h5)).trans h5⟩
def TokPost (w:World) (s:Bs) (e:Ending) (w':World):Prop:=Ext w w' ∧
  (match tokens s with
   | .error a=>e=.returned (.tuple #[.slice none 0 0,.int .i64 (a:Nat),.int .i64 90])
   | .ok ts=>∃ v,e=.returned (.tuple #[v,.int .i64 0,.int .i64 0])/\Cdk.Own w' w.heap.size 669 3 tokC v ts)
theorem find_none {l:List Tk} (h:∀ t ∈ l,t.kind ≠ 0):l.find? (fun t=>decide (t.kind=0))=none:=by
 rw [List.find?_eq_none];intro t ht;simpa using h t ht
theorem tokens_ok {s:Bs} (h1:s.length<=1000) (h:∀ t ∈ scan (s.length+1) s 0 none,t.kind ≠ 0):tokens s=.ok (scan (s.length+1) s 0 none):=by
 unfold tokens;rw [if_neg (by omega)];simp only [find_none h]
theorem tokens_bad {s:Bs} (h1:s.length<=1000) {p:List Tk} {t:Tk} (hp:p++[t] <+:scan (s.length+1) s 0 none) (ht:t.kind=0) (h:∀ u ∈ p,u.kind ≠ 0):tokens s=.error t.off:=by
 unfold tokens;rw [if_neg (by omega)];obtain ⟨r,hr⟩:=hp;have:(scan (s.length+1) s 0 none).find? (fun t=>decide (t.kind=0))=some t:=by
  rw [<- hr,List.append_assoc,List.find?_append,find_none h];simp [ht]
 simp only [this]
theorem run_loadVar_one {P:Program} {t:TypeId} {d:TypeDesc} {w:World} {a:Addr} {v:Value} (hu:P.underlying t=some d) (hd:(match d with | .struct _ | .array _ _=>true | _=>false)=false) (hc:w.cell? a=some v):(loadVar t a).run P w=.ok v w:=by
 have:(isAgg t).run P w=.ok false w:=by
  simp only [isAgg,Sem.run_bind,run_underlying hu,Result.andThen_ok];cases d <;> simp_all
 simp only [loadVar,Sem.run_bind,this,Result.andThen_ok];simp [load,Sem.run,hc]
theorem ret_cells3 {P:Program} {fn:Func} {p q u:Tmp} {tp tq tu:TypeId} {dp dq du:TypeDesc} (h:fn.results=#[.cell p tp,.cell q tq,.cell u tu]) (tmps:Array Value) (w:World) (a b c:Addr) (va vb vc:Value)
  (hp:tmps.getD p undef=.pointer (some a)) (hq:tmps.getD q undef=.pointer (some b)) (hr:tmps.getD u undef=.pointer (some c))
  (up:P.underlying tp=some dp) (uq:P.underlying tq=some dq) (uu:P.underlying tu=some du)
  (kp:(match dp with | .struct _ | .array _ _=>true | _=>false)=false) (kq:(match dq with | .struct _ | .array _ _=>true | _=>false)=false) (ku:(match du with | .struct _ | .array _ _=>true | _=>false)=false)
  (ha:w.cell? a=some va) (hb:w.cell? b=some vb) (hc:w.cell? c=some vc):
  (results fn tmps).run P w=.ok (.tuple #[va,vb,vc]) w:=by
 have hp':tmps[p]?.getD undef=.pointer (some a):=by simpa using hp
 have hq':tmps[q]?.getD undef=.pointer (some b):=by simpa using hq
 have hr':tmps[u]?.getD undef=.pointer (some c):=by simpa using hr
 simp [results,h,asAddr,hp',hq',hr',run_loadVar_one up kp ha,run_loadVar_one uq kq hb,run_loadVar_one uu ku hc,Result.andThen]
theorem Tokens_any (s:ByteArray) (w:World):Calls Tryz.prog 397 #[.string s] w (TokPost w s.data.toList):=by
 have hlen:s.data.toList.length=s.size:=rfl
 by_cases h1000:s.size<=1000
 ·refine (callsIn_wide (n:=3)).1 ?_
  refine callsIn_of_wp_marks Tryz.func397 rfl trivial ?_ rfl;simp only [Tryz.ntmps397,List.size_toArray,List.length_cons,List.length_nil,Nat.reduceAdd,Nat.reduceSub,Array.replicate_succ,Array.replicate_zero,List.push_toArray,List.append_toArray,List.nil_append,List.cons_append];refine (wpIn_wide (n:=3)).2 ?_;go_wp2_with fail
  refine (scan_made s _).mono ?_;rintro e w' ⟨rfl,rfl⟩;go_wp2_with fail
  try simp only [World.size_alloc]
  obtain ⟨R,hR⟩:∃ R,R=w.heap.size:=⟨_,rfl⟩;simp only [<- hR];have hx5:=((((((Mod.refl (fun _=>False) w).alloc (.cells #[.slice none 0 0] 599)).alloc (.cells #[.int .i64 0] 3)).alloc (.cells #[.int .i64 0] 26)).alloc (.cells #[.slice none 0 0] 599)).alloc (.cells #[.string s] 9));have hg5:∀ k,(((((w.alloc (.cells #[.slice none 0 0] 599)).alloc (.cells #[.int .i64 0] 3)).alloc (.cells #[.int .i64 0] 26)).alloc (.cells #[.slice none 0 0] 599)).alloc (.cells #[.string s] 9)).heap[k]?=
    if k=R+4 then some (.cells #[.string s] 9 (0,0)) else if k=R+3 then some (.cells #[.slice none 0 0] 599 (0,0)) else if k=R+2 then some (.cells #[.int .i64 0] 26 (0,0)) else if k=R+1 then some (.cells #[.int .i64 0] 3 (0,0)) else if k=R then some (.cells #[.slice none 0 0] 599 (0,0)) else w.heap[k]?:=by
   intro k;simp only [alloc_get,World.size_alloc,<- hR]
  have hs5:(((((w.alloc (.cells #[.slice none 0 0] 599)).alloc (.cells #[.int .i64 0] 3)).alloc (.cells #[.int .i64 0] 26)).alloc (.cells #[.slice none 0 0] 599)).alloc (.cells #[.string s] 9)).heap.size=R+5:=by
   simp only [World.size_alloc,<- hR]
  generalize (((((w.alloc (.cells #[.slice none 0 0] 599)).alloc (.cells #[.int .i64 0] 3)).alloc (.cells #[.int .i64 0] 26)).alloc (.cells #[.slice none 0 0] 599)).alloc (.cells #[.string s] 9))=w5 at hx5 hg5 hs5 ⊢;have k0:=hg5 R;have k1:=hg5 (R+1);have k2:=hg5 (R+2);have k3:=hg5 (R+3);have k4:=hg5 (R+4);simp at k0 k1 k2 k3 k4;have hcs:w5.cell? ⟨R+4,0,none⟩=some (.string s):=by rw [cell_of' k4];rfl
  have hRw:w.heap.size<=R:=Nat.le_of_eq hR.symm;have hI0:TokI w R [] (w5.heap.size+2) w5:=⟨by simp,hx5,⟨_,k3,Own.nil _ _ _ _ _,by simp [Value.ownBlock]⟩,k0,k1,k2,⟨_,k4⟩⟩;clear hg5;replace hR:=hid hR;obtain ⟨SC,hSC⟩:∃ SC,SC=scan (s.size+1) s.data.toList 0 none:=⟨_,rfl⟩;have hSCl:SC.length<=1001:=by rw [hSC];have:=scan_len (s.size+1) s.data.toList 0 none;omega
  have hseq:=scan_seq 2 (R+4) (by omega) s h1000 w5 (by omega) hcs;rw [<- hSC] at hseq;refine (wpIn_wide (n:=3)).1 ?_;refine wpIn_rangeFunc_T (F:=Fence.wide) rfl (by omega) (gf:=559) (lb:=#[.pointer (some ⟨R+4,0,none⟩)]) rfl trivial (enters_of Tryz.func559 (by kernel_rfl) rfl)
   hseq (fun k hk=>by omega) (Below.refl _ _) (fun _=>rfl) (fun pre M W=>TokI w R pre M W) (fun c pre W=>c=.ret/\TokX w R pre W)
   (fun M=>tokI_own w R w5.heap.size hRw (by omega) M) (fun c=>tokX_own w R w5.heap.size hRw (by omega) c) hI0
   (fun x=>#[.int .i64 x.kind,.string ⟨x.text.toArray⟩,.int .i64 x.off]) 669
   (fun x B=>{ tmps:=#[.string s,undef,.pointer (some ⟨R,0,none⟩),.pointer (some ⟨R+1,0,none⟩),.pointer (some ⟨R+1+1,0,none⟩),.pointer (some ⟨R+1+1+1,0,none⟩),.pointer (some ⟨B,0,none⟩),.string s,.int .i64 s.size,.bool (decide ((1000:Int) < (s.size:Int))),.string s,.func (.func 559) #[] #[.pointer (some ⟨R+4,0,none⟩)],tokV x,undef,undef,undef,undef,undef,undef,undef,undef,undef,undef],defers:=[] }) ?assign ?body ?done ?stop
  case assign=>
   intro l x W K hK;unfold tokV
   gi_wp2
   exact hK
  case body=>
   rintro l pre x M B W hI hMB hM hB hbox hlen;obtain ⟨v,hb3,hown,hvb⟩:=hI.box;have b0:W.cell? ⟨B,0,none⟩=some (.int .i64 x.kind):=cell_of' hbox 0;have b1:W.cell? ⟨B,1,none⟩=some (.string ⟨x.text.toArray⟩):=cell_of' hbox 1;have b2:W.cell? ⟨B,2,none⟩=some (.int .i64 x.off):=cell_of' hbox 2;have c0:W.cell? ⟨R,0,none⟩=some (.slice none 0 0):=cell_of' hI.r2 0;have c1:W.cell? ⟨R+1,0,none⟩=some (.int .i64 0):=cell_of' hI.r3 0;have c2:W.cell? ⟨R+1+1,0,none⟩=some (.int .i64 0):=cell_of' hI.r4 0;have c3:W.cell? ⟨R+1+1+1,0,none⟩=some v:=cell_of' hb3 0;have z0:=free_of' hI.r2;have z1:=free_of' hI.r3;have z2:∀ j,W.frozen? ⟨R+1+1,j,none⟩=false:=free_of' hI.r4;have z3:∀ j,W.frozen? ⟨R+1+1+1,j,none⟩=false:=free_of' hb3;replace hI:=hid hI;replace hown:=hid hown;replace hvb:=hid hvb;replace hb3:=hid hb3;replace hbox:=hid hbox
   by_cases hk:x.kind=0
   ·have hkb:((x.kind:Int)==0)=true:=by rw [hk];rfl
    replace hk:=hid hk
    gi_wp2
    gi_region
    all_goals gi_wp2
    all_goals
     have hb:=tok_bad hRw hI.out hk.out;exact ⟨hb.1,rfl,hb.2⟩
   ·have hkb:((x.kind:Int)==0)=false:=by rw [beq_eq_false_iff_ne];omega
    replace hk:=hid hk;have hx1:=(Mod.refl (fun _=>False) W).alloc (.cells #[.int .i64 x.kind,.string ⟨x.text.toArray⟩,.int .i64 x.off] 669);have hWR:R<=W.heap.size:=by have:=lt_of_at hbox.out;have:=hI.out.ext.size;omega
    gi_wp2_with (gi_at_builtin;refine wpListIn_app rfl _ _ _ rfl Tryz.underlying599 el69 rfl (hown.out.ext hx1) _ 1 1 rfl [x] rfl (by exact RowIs.new _ _ _) tokC_len (fun y hy u hu=>?_) (by simp only [List.length_singleton];omega) (by rw [World.size_alloc];omega) (pre.length+1) rfl (fun ao6 cap6 w6 H6=>?_);rotate_left;have hnb:=fun k' (hk':k' < R+5) (e:v.ownBlock=some k')=>Nat.lt_irrefl k' (Nat.lt_of_lt_of_le hk' (hvb.out k' e).1);have c36:=H6.out.2.cell (hx1.cell c3 (fun h=>h)) (hnb (R+1+1+1) (by omega));have z36:∀ j,w6.frozen? ⟨R+1+1+1,j,none⟩=false:=free_of' (H6.out.2.at (hx1.at hb3.out (fun h=>h)) (hnb (R+3) (by omega)));replace hnb:=hid hnb)
    ·have hb:=tok_good hRw hI.out hk.out hown.out hvb.out hb3.out (by omega) hMB hB H6.out
     exact ⟨hb.1,hb.2.1,hb.2.2.1,hb.2.2.2⟩
    ·simp only [List.mem_singleton] at hy;subst hy
     simp [tokC] at hu;rcases hu with rfl | rfl | rfl <;> rfl
  case done=>
   rintro D xs M W hD hxs hI hK;obtain ⟨v,hb3,hown,hvb⟩:=hI.box;obtain ⟨aov,capv,hv,-,-⟩:=hown.row;have c0:W.cell? ⟨R,0,none⟩=some (.slice none 0 0):=cell_of' hI.r2 0;have c1:W.cell? ⟨R+1,0,none⟩=some (.int .i64 0):=cell_of' hI.r3 0;have c2:W.cell? ⟨R+1+1,0,none⟩=some (.int .i64 0):=cell_of' hI.r4 0;have c3:W.cell? ⟨R+1+1+1,0,none⟩=some v:=cell_of' hb3 0;have z0:=free_of' hI.r2;have z1:=free_of' hI.r3;have z2:∀ j,W.frozen? ⟨R+1+1,j,none⟩=false:=free_of' hI.r4;rw [hv] at c3;obtain ⟨nl,hnl⟩:∃ nl,nl=xs.length:=⟨_,rfl⟩;rw [<- hnl] at c3 hv;replace hI:=hid hI;replace hown:=hid hown;replace hv:=hid hv;replace hnl:=hid hnl;replace hb3:=hid hb3;replace hxs:=hid hxs;clear hvb;go_wp2_with fail
   have hW0:=put1 (v:=.slice aov nl capv) hI.out.r2;have y1:=(put_ne W (b:=R) (k:=R+1) 0 (.slice aov nl capv) (by omega)).trans hI.out.r3;have y2:=(put_ne W (b:=R) (k:=R+2) 0 (.slice aov nl capv) (by omega)).trans hI.out.r4;have yD:=(put_ne W (b:=R) (k:=D) 0 (.slice aov nl capv) (by omega)).trans hK;have hx1:=hI.out.ext.setCell (a:=⟨R,0,none⟩) (fun e=>by have:R < w.heap.size:=e;omega) (.slice aov nl capv)
   have ho1:=hown.out.mod ((Mod.refl (Eq R) W).setCell (a:=⟨R,0,none⟩) (fun _=>rfl) (.slice aov nl capv)) (fun k hk e=>by
    obtain ⟨c,hc⟩:=hown.out.cells hk
    rw [<- e,hI.out.r2] at hc;injection hc with hc;injection hc with _ hc _;revert hc;decide)
   generalize (W.setCell ⟨R,0,none⟩ (.slice aov nl capv))=X at hW0 y1 y2 yD hx1 ho1 ⊢;have x0:=(put_ne X (b:=R+1) (k:=R) 0 (.int .i64 0) (by omega)).trans hW0;have x1:(X.setCell ⟨R+1,0,none⟩ (.int .i64 0)).heap[R+1]?=some (.cells #[.int .i64 0] 3 (0,0)):=put1 y1;have x2:=(put_ne X (b:=R+1) (k:=R+2) 0 (.int .i64 0) (by omega)).trans y2;have xD:=(put_ne X (b:=R+1) (k:=D) 0 (.int .i64 0) (by omega)).trans yD;have hx2:=hx1.setCell (a:=⟨R+1,0,none⟩) (fun e=>by have:R+1 < w.heap.size:=e;omega) (.int .i64 0)
   have ho2:=ho1.mod ((Mod.refl (Eq (R+1)) X).setCell (a:=⟨R+1,0,none⟩) (fun _=>rfl) (.int .i64 0)) (fun k hk e=>by
    obtain ⟨c,hc⟩:=ho1.cells hk
    rw [<- e,y1] at hc;injection hc with hc;injection hc with _ hc _;revert hc;decide)
   generalize (X.setCell ⟨R+1,0,none⟩ (.int .i64 0))=Y at x0 x1 x2 xD hx2 ho2 ⊢;have w0:=(put_ne Y (b:=R+2) (k:=R) 0 (.int .i64 0) (by omega)).trans x0;have w1:=(put_ne Y (b:=R+2) (k:=R+1) 0 (.int .i64 0) (by omega)).trans x1;have w2:(Y.setCell ⟨R+2,0,none⟩ (.int .i64 0)).heap[R+2]?=some (.cells #[.int .i64 0] 26 (0,0)):=put1 x2;have wD:=(put_ne Y (b:=R+2) (k:=D) 0 (.int .i64 0) (by omega)).trans xD;have hx3:=hx2.setCell (a:=⟨R+2,0,none⟩) (fun e=>by have:R+2 < w.heap.size:=e;omega) (.int .i64 0)
   have ho3:=ho2.mod ((Mod.refl (Eq (R+2)) Y).setCell (a:=⟨R+2,0,none⟩) (fun _=>rfl) (.int .i64 0)) (fun k hk e=>by
    obtain ⟨c,hc⟩:=ho2.cells hk
    rw [<- e,x2] at hc;injection hc with hc;injection hc with _ hc _;revert hc;decide)
   show bodyPostM _ _ _ _ _ _ _ (Y.setCell ⟨R+2,0,none⟩ (.int .i64 0))
   generalize (Y.setCell ⟨R+2,0,none⟩ (.int .i64 0))=Z at w0 w1 w2 wD hx3 ho3 ⊢;have hgD:Z.grownBy (Z.putObj D (.deferred none)) (some D):=grownBy_putObj' Z D _;have hrD:∀ r,some D=some r -> ∃ o:Obj,Z.heap[r]?=some o/\o.isCells=false:=fun r e=>by cases e;exact ⟨_,wD,rfl⟩
   refine ⟨by simp,.inl ⟨_,_,rfl,run_takeDeferred wD,?_⟩⟩
   refine ⟨_,ret_cells3 rfl _ _ ⟨R,0,none⟩ ⟨R+1,0,none⟩ ⟨R+1+1,0,none⟩ (.slice aov nl capv) (.int .i64 0) (.int .i64 0) rfl rfl rfl Tryz.underlying599 Tryz.underlying3 Tryz.underlying26 rfl rfl rfl
    (cell_of' (grown_cells hgD hrD w0) 0) (cell_of' (grown_cells hgD hrD w1) 0) (cell_of' (grown_cells hgD hrD w2) 0),?_⟩
   have htok:tokens s.data.toList=.ok xs:=by
    have h1:=tokens_ok (s:=s.data.toList) (by omega) (by rw [hlen,<- hSC,<- hxs.out];exact hI.out.ok);rw [hlen,<- hSC,<- hxs.out] at h1;exact h1
   refine ⟨ext_grown hx3 hgD (fun r e=>by cases e;omega),?_⟩;rw [htok];have ho4:=own_grown hgD hrD ho3;rw [hv.out,hR.out] at ho4;exact ⟨_,rfl,ho4⟩
  case stop=>
   rintro D c pre W hD hpre ⟨rfl,hX⟩ hK;obtain ⟨p,t,hpt,ht0,hp0,h1⟩:=hX.last;have htok:tokens s.data.toList=.error t.off:=by
    refine tokens_bad (by omega) (p:=p) ?_ ht0 hp0;rw [hlen,<- hSC,<- hpt];exact hpre
   refine (wpIn_wide (n:=3)).2 ?_;go_wp2_with fail
   have hgD:W.grownBy (W.putObj D (.deferred none)) (some D):=grownBy_putObj' W D _;have hrD:∀ r,some D=some r -> ∃ o:Obj,W.heap[r]?=some o/\o.isCells=false:=fun r e=>by cases e;exact ⟨_,hK,rfl⟩
   refine ⟨by simp,.inl ⟨_,_,rfl,run_takeDeferred hK,?_⟩⟩
   refine ⟨_,ret_cells3 rfl _ _ ⟨R,0,none⟩ ⟨R+1,0,none⟩ ⟨R+1+1,0,none⟩ (.slice none 0 0) (.int .i64 t.off) (.int .i64 90) rfl rfl rfl Tryz.underlying599 Tryz.underlying3 Tryz.underlying26 rfl rfl rfl
    (cell_of' (grown_cells hgD hrD hX.r2) 0) (cell_of' (grown_cells hgD hrD h1) 0) (cell_of' (grown_cells hgD hrD hX.r4) 0),?_⟩
   refine ⟨ext_grown hX.ext hgD (fun r e=>by cases e;omega),?_⟩;rw [htok]
 ·have htok:tokens s.data.toList=.error 1000:=by unfold tokens;rw [if_pos (by omega)]
  have hbig:(1000:Int) < (s.size:Int):=by omega
  replace htok:=hid htok;go_enter Tryz.func397,Tryz.ntmps397;go_wp2_with fail
  obtain ⟨R,hR⟩:∃ R,R=w.heap.size:=⟨_,rfl⟩;have hg3:∀ k,(((w.alloc (.cells #[.slice none 0 0] 599)).alloc (.cells #[.int .i64 1000] 3)).alloc (.cells #[.int .i64 90] 26)).heap[k]?=
    if k=R+1+1 then some (.cells #[.int .i64 90] 26 (0,0)) else if k=R+1 then some (.cells #[.int .i64 1000] 3 (0,0)) else if k=R then some (.cells #[.slice none 0 0] 599 (0,0)) else w.heap[k]?:=by
   intro k;simp only [alloc_get,World.size_alloc,<- hR]
  have hx3:=(((Mod.refl (fun _=>False) w).alloc (.cells #[.slice none 0 0] 599)).alloc (.cells #[.int .i64 1000] 3)).alloc (.cells #[.int .i64 90] 26);rw [<- hR];generalize (((w.alloc (.cells #[.slice none 0 0] 599)).alloc (.cells #[.int .i64 1000] 3)).alloc (.cells #[.int .i64 90] 26))=W3 at hg3 hx3 ⊢;have h0:=hg3 R;have h1:=hg3 (R+1);have h2:=hg3 (R+1+1);rw [if_neg (by omega),if_neg (by omega),if_pos rfl] at h0;rw [if_neg (by omega),if_pos rfl] at h1;rw [if_pos rfl] at h2
  refine bodyPost_ret (ret_cells3 rfl _ _ ⟨R,0,none⟩ ⟨R+1,0,none⟩ ⟨R+1+1,0,none⟩ (.slice none 0 0) (.int .i64 1000) (.int .i64 90) rfl rfl rfl Tryz.underlying599 Tryz.underlying3 Tryz.underlying26 rfl rfl rfl
    (by rw [cell_of' h0];rfl) (by rw [cell_of' h1];rfl) (by rw [cell_of' h2];rfl)) rfl ?_
  refine ⟨hx3,?_⟩;rw [htok.out]
  rfl
end Go.Proofs.YtcopgcdhkgenkaaGreatDoor.Ps
