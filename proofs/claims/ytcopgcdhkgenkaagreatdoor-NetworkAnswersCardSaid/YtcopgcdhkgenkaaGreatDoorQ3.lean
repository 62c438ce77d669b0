import Derived.Test.YtcopgcdhkgenkaaGreatDoorP7
set_option linter.all false
set_option maxRecDepth 100000
set_option maxHeartbeats 16000000
namespace Go.Proofs.YtcopgcdhkgenkaaGreatDoor
open Go.Shelf Go.RowKit Cdk Scr
section
variable {V:Array Value} {j s:Nat} {now tick:Int} {cl:Nat -> Array Value} {out:Value} {built:Int}
theorem set_ne {V:Array Value} {i k:Nat} (v:Value) (h:i ≠ k):(V.setIfInBounds i v)[k]?=V[k]?:=Array.getElem?_setIfInBounds_ne h
theorem set_self {V:Array Value} {i:Nat} (v:Value) (h:i < V.size):(V.setIfInBounds i v)[i]?=some v:=by simp [h]
theorem NrV.setNow (h:NrV V j s now tick cl out built) (x:Int):NrV (V.setIfInBounds 2 (.int .i64 x)) j s x tick cl out built:=
 ⟨by rw [Array.size_setIfInBounds];exact h.size,(set_ne _ (by decide)).trans h.c0,(set_ne _ (by decide)).trans h.c1,set_self _ (by rw [h.size];decide),(set_ne _ (by decide)).trans h.c3,fun c hc=>⟨(h.cls c hc).1,fun i hi=>(set_ne _ (by omega)).trans ((h.cls c hc).2 i hi)⟩,fun i hi=>(set_ne _ (by omega)).trans (h.sen i hi),(set_ne _ (by decide)).trans h.out,(set_ne _ (by decide)).trans h.built⟩
theorem NrV.setTick (h:NrV V j s now tick cl out built) (x:Int):NrV (V.setIfInBounds 3 (.int .i64 x)) j s now x cl out built:=
 ⟨by rw [Array.size_setIfInBounds];exact h.size,(set_ne _ (by decide)).trans h.c0,(set_ne _ (by decide)).trans h.c1,(set_ne _ (by decide)).trans h.c2,set_self _ (by rw [h.size];decide),fun c hc=>⟨(h.cls c hc).1,fun i hi=>(set_ne _ (by omega)).trans ((h.cls c hc).2 i hi)⟩,fun i hi=>(set_ne _ (by omega)).trans (h.sen i hi),(set_ne _ (by decide)).trans h.out,(set_ne _ (by decide)).trans h.built⟩
theorem NrV.setOut (h:NrV V j s now tick cl out built) (v:Value):NrV (V.setIfInBounds 297 v) j s now tick cl v built:=
 ⟨by rw [Array.size_setIfInBounds];exact h.size,(set_ne _ (by decide)).trans h.c0,(set_ne _ (by decide)).trans h.c1,(set_ne _ (by decide)).trans h.c2,(set_ne _ (by decide)).trans h.c3,fun c hc=>⟨(h.cls c hc).1,fun i hi=>(set_ne _ (by omega)).trans ((h.cls c hc).2 i hi)⟩,fun i hi=>(set_ne _ (by omega)).trans (h.sen i hi),set_self _ (by rw [h.size];decide),(set_ne _ (by decide)).trans h.built⟩
theorem NrV.setBuilt (h:NrV V j s now tick cl out built) (x:Int):NrV (V.setIfInBounds 298 (.int .i64 x)) j s now tick cl out x:=
 ⟨by rw [Array.size_setIfInBounds];exact h.size,(set_ne _ (by decide)).trans h.c0,(set_ne _ (by decide)).trans h.c1,(set_ne _ (by decide)).trans h.c2,(set_ne _ (by decide)).trans h.c3,fun c hc=>⟨(h.cls c hc).1,fun i hi=>(set_ne _ (by omega)).trans ((h.cls c hc).2 i hi)⟩,fun i hi=>(set_ne _ (by omega)).trans (h.sen i hi),(set_ne _ (by decide)).trans h.out,set_self _ (by rw [h.size];decide)⟩
theorem NrAt.keep {w w':World} {r:Nat} (h:NrAt w r j s now tick cl out built) (hm:Mod (Eq r) w w'):(∃ en d size,JnAt w' j 1 (.slice none 0 0) en d size 0 false)/\(∃ a b c d m,w'.heap[s]?=some (.cells (siteC a b c d m) 217 (0,0))):=by
 have h1:=h.js;have h2:=h.sr;obtain ⟨en,d,size,h3⟩:=h.jn;obtain ⟨a,b,c,d',m,h4⟩:=h.st;exact ⟨⟨en,d,size,hm.at h3 (by omega)⟩,⟨a,b,c,d',m,hm.at h4 (by omega)⟩⟩
theorem nrMissing_any {r:Nat} (w:World) (h:NrAt w r j s now tick cl out built):Calls Tryz.prog 68 #[.pointer (some ⟨r,0,none⟩)] w fun e w'=>e=.returned (.bool false)/\w=w':=by
 obtain ⟨V,hV,hN⟩:=h.at_;have c0:w.cell? ⟨r,0,none⟩=some (.pointer (some ⟨j,0,none⟩)):=(cellN hV 0).trans hN.c0;go_enter Tryz.func68,Tryz.ntmps68;go_wp2_with fail
 go_ret;exact ⟨rfl,rfl⟩
theorem output_nil {r:Nat} (w:World) (h:NrAt w r j s now tick cl (.slice none 0 0) built):Calls Tryz.prog 40 #[.pointer (some ⟨r,0,none⟩)] w fun e w'=>e=.returned (.slice none 0 0)/\NrAt w' r j s now tick cl (.slice none 0 0) built/\Mod (Eq r) w w':=by
 have hm:=hid (nrMissing_any w h);have hk:=hid (fun w'=>@NrAt.keep j s now tick cl _ built w w' r h);have hjs:=h.js;have hsr:=h.sr;obtain ⟨V,hV,hN⟩:=h.at_;have c297:w.cell? ⟨r,297,none⟩=some (.slice none 0 0):=(cellN hV 297).trans hN.out;have z297:=freeN hV 297;have hV2:=hid (put_at' hV 297 (.slice none 0 0));have hmod:=hid ((Mod.refl (Eq r) w).setCell (a:=⟨r,297,none⟩) (fun _=>rfl) (.slice none 0 0));replace hN:=hid hN;replace hV:=hid hV;go_enter Tryz.func40,Tryz.ntmps40;go_wp2_with fail
 refine hm.out.mono ?_;rintro e w1 ⟨rfl,rfl⟩;go_wp2_with fail
 go_ret;exact ⟨rfl,⟨⟨_,hV2.out,hN.out.setOut _⟩,(hk.out _ hmod.out).1,(hk.out _ hmod.out).2,hjs,hsr⟩,hmod.out⟩
theorem pass_any {r:Nat} (x:Int) (w:World) (h:NrAt w r j s now tick cl out built):Calls Tryz.prog 63 #[.pointer (some ⟨r,0,none⟩),.int .i64 x] w fun e w'=>e=.returned (.tuple #[])/\NrAt w' r j s (max now x) tick cl out built/\Mod (Eq r) w w':=by
 have hk:=hid (fun w'=>@NrAt.keep j s now tick cl out built w w' r h);have hjs:=h.js;have hsr:=h.sr;obtain ⟨V,hV,hN⟩:=h.at_;have c2:w.cell? ⟨r,2,none⟩=some (.int .i64 now):=(cellN hV 2).trans hN.c2;have z2:=freeN hV 2;replace hN:=hid hN;replace hV:=hid hV;go_enter Tryz.func63,Tryz.ntmps63;go_wp2_with fail
 all_goals
  go_end0
  have hmod:Mod (Eq r) w (w.setCell ⟨r,2,none⟩ (.int .i64 (max now x))):=(Mod.refl (Eq r) w).setCell (a:=⟨r,2,none⟩) (fun _=>rfl) _;have hfin:NrAt (w.setCell ⟨r,2,none⟩ (.int .i64 (max now x))) r j s (max now x) tick cl out built:=⟨⟨_,put_at' hV.out 2 _,hN.out.setNow _⟩,(hk.out _ hmod).1,(hk.out _ hmod).2,hjs,hsr⟩
  first | exact ⟨rfl,hfin,hmod⟩ | (rw [show max now x=x by omega] at hmod hfin ⊢;exact ⟨rfl,hfin,hmod⟩) | (rw [show max now x=now by omega] at hmod hfin ⊢;exact ⟨rfl,hfin,hmod⟩)
end
theorem nrReceive_any {r j s:Nat} {now tick:Int} {cl:Nat -> Array Value} {out:Value} {built:Int} (x:Int) (hx:0<=x/\x<=1000000000) (kd sq st ba ve:Int) (p:Nat) (hp:1<=p/\p<=8) (dv:ByteArray) (w:World) (h:NrAt w r j s now tick cl out built):
  Calls Tryz.prog 67 #[.pointer (some ⟨r,0,none⟩),.int .i64 x,.agg #[.int .i64 kd,.int .i64 p,.int .i64 sq,.int .i64 st,.int .i64 ba,.int .i64 ve,.string dv]] w fun e w'=>e=.returned (.tuple #[])/\NrAt w' r j s (max now x) tick cl out built/\Mod (Eq r) w w':=by
 have hxa:=Mod.alloc (Mod.refl (fun _=>False) w) (.cells #[.int .i64 kd,.int .i64 p,.int .i64 sq,.int .i64 st,.int .i64 ba,.int .i64 ve,.string dv] 45);have hT:=heap_alloc_new w (.cells #[.int .i64 kd,.int .i64 p,.int .i64 sq,.int .i64 st,.int .i64 ba,.int .i64 ve,.string dv] 45);have h1:=h.ext hxa;have hrT:r < w.heap.size:=by obtain ⟨V,hV,-⟩:=h.at_;exact lt_of_at hV
 have hp1:¬ (p:Int) < 1:=by omega
 have hp2:¬ (8:Int) < (p:Int):=by omega
 have hp0:(0:Int)<=(p:Int):=by omega
 have hp9:(p:Int) < 9:=by omega
 go_enter Tryz.func67,Tryz.ntmps67;go_upto_region 1 with fail
 generalize w.heap.size=T at hT hrT ⊢;generalize w.alloc (.cells #[.int .i64 kd,.int .i64 p,.int .i64 sq,.int .i64 st,.int .i64 ba,.int .i64 ve,.string dv] 45)=w1 at hxa hT h1 ⊢;have hm:=hid (nrMissing_any w1 h1);have hit:=hid (isTime_any x hx w1);have hps:=hid (pass_any x w1 h1);replace hxa:=hid hxa;replace hT:=hid hT;clear h1 h;go_wp2_with fail
 refine hm.out.mono ?_;rintro e w2 ⟨rfl,rfl⟩;go_wp2_with fail
 refine hit.out.mono ?_;rintro e w2 ⟨rfl,rfl⟩;go_wp2_with fail
 refine hps.out.mono ?_;rintro e w3 ⟨rfl,hNr,hmr⟩;have hT2:=hid (hmr.at hT.out (by omega));have hM2:Hid (Mod (Eq r) w w3):=hid ((hxa.out.mono (fun _ h=>h.elim)).trans hmr);obtain ⟨V,hV,hN⟩:=hNr.at_;have hV2:=hid hV;have hN2:=hid hN;replace hNr:=hid hNr;have t1:w3.cell? ⟨T,1,none⟩=some (.int .i64 p):=cellN hT2.out 1;clear hV hN hmr;go_upto_region 4 with fail
 try simp only [List.append_eq,List.cons_append,List.nil_append]
 refine wp_region_tree (.s (.q 0 (.q 1 (.q 2 (.q 3 (.q 4 (.q 5 (.q 6 (.q 7 .done))))))))) (by as_aux_lemma=>kernel_rfl) (by as_aux_lemma=>kernel_rfl) (by as_aux_lemma=>kernel_rfl) (by decide) ?_;have hv0:=hid (Mod.drew0 (fun _=>False) w3);refine wpTr_s (fun Wx=>Ext w3 Wx) (fun _ _=>trivial) hv0.out ?_;generalize hWd:World.drew w3=W0 at hv0 ⊢
 iterate 8 (refine wpTr_q _ (by simp only [List.getD_cons_succ,List.getD_cons_zero];rfl) (by rfl) ?_ (fun w' hC=>?_) ?_;rotate_left;(have q_1:w'.cell? ⟨T,1,none⟩=some (.int .i64 p):=hC.cell (cellN hT2.out 1) (fun h=>h);have q_s:w'.cell? ⟨r,288+p,none⟩=some (.pointer none):=(hC.cell ((cellN hV2.out (288+p)).trans (hN2.out.sen p (by omega))) (fun h=>h));go_simp;try with_reducible rfl);try simp only [Act.put,sA,sZ,sS])
 refine wpTr_done ?_;have hNf:=hid (hNr.out.ext hv0.out);have hMf:Hid (Mod (Eq r) w W0):=hid (hM2.out.then hv0.out (fun _ _ h=>h.elim));clear hv0 hWd;go_wp2_with fail
 go_end0
 exact ⟨rfl,hNf.out,hMf.out⟩
end Go.Proofs.YtcopgcdhkgenkaaGreatDoor
namespace Nt
open Scr
theorem unheld_id {t se:Int} {q:List PLt} (h:∀ l ∈ q,l.he=false):unheld t se q=q:=by
 unfold unheld;rw [List.map_congr_left (g:=id) (fun l hl=>by rw [h l hl];rfl),List.map_id]
def dq (n:Ns):List PLt:=n.q.filter fun l=>l.c.isD
theorem unheld_filter (t se:Int) (q:List PLt):(unheld t se q).filter (fun l=>l.c.isD)=unheld t se (q.filter fun l=>l.c.isD):=by
 induction q with
 | nil=>rfl
 | cons a r ih=>
  unfold unheld at ih ⊢;rw [List.map_cons,List.filter_cons,List.filter_cons];have e:((if (a.he && decide (a.se < se))=true then { a with he:=false,du:=t+1 } else a:PLt).c.isD)=a.c.isD:=by split <;> rfl
  rw [e];split
  ·rw [List.map_cons,ih]
  ·exact ih
theorem addP_filter:∀ (xs:List PLt) (s:Nat) (q:List PLt),(∀ x ∈ xs,x.c.isD=false) -> (addP s q xs).1.filter (fun l=>l.c.isD)=q.filter fun l=>l.c.isD
 | [],s,q,h=>rfl
 | x::r,s,q,h=>by
  rw [addP];split
  ·rfl
  ·rw [addP_filter r _ _ (fun y hy=>h y (List.mem_cons_of_mem _ hy)),List.filter_append]
   have:=h x (List.mem_cons_self ..);simp [this]
theorem fatedP_ans {f:Int} {x:PLt} (h:x.c.isD=false):∀ y ∈ fatedP f x,y.c.isD=false:=by
 intro y hy;unfold fatedP at hy;repeat' split at hy
 all_goals simp only [List.mem_singleton,List.mem_cons,List.not_mem_nil,or_false,or_self] at hy
 all_goals subst hy
 all_goals first | exact h | rfl
theorem sendA_dq (n:Ns) (m:Ms):dq (sendP n (.ans m))=dq n:=addP_filter _ _ _ (fatedP_ans rfl)
abbrev SK:=(Nat -> Int -> Int) × (Nat -> Int -> Option Bs)
def recvSK (z:SK) (l:PLt):SK:=match l.c with
 | .dlv pa sq st x=>if z.1 pa st < sq then (setf z.1 pa st sq,setf z.2 pa st (some x)) else z
 | _=>z
theorem delivP_dq (n:Ns) (l:PLt):dq (delivP n l)=unheld n.t l.se (dq n):=by
 unfold delivP;split
 ·rw [sendA_dq]
  unfold dq recvN;split <;> exact unheld_filter _ _ _
 ·exact unheld_filter _ _ _
theorem delivP_sk (n:Ns) (l:PLt):((delivP n l).σ,(delivP n l).κ)=recvSK (n.σ,n.κ) l:=by
 obtain ⟨c,rc,du,he,se⟩:=l;cases c with
 | dlv pa sq st x=>
  unfold delivP sendP recvN recvSK;simp only
  by_cases h:n.σ pa st < sq
  ·rw [if_pos h,if_pos h]
  ·rw [if_neg h,if_neg h]
 | ans m=>rfl
 | bad m=>rfl
theorem foldl_sk:∀ (ls:List PLt) (n:Ns),((ls.foldl delivP n).σ,(ls.foldl delivP n).κ)=(ls.filter fun l=>l.c.isD).foldl recvSK (n.σ,n.κ)
 | [],n=>rfl
 | l::r,n=>by
  rw [List.foldl_cons,foldl_sk r,delivP_sk,List.filter_cons];split
  ·rfl
  ·rename_i h
   unfold recvSK;cases hc:l.c with
   | dlv pa sq st x=>rw [hc] at h;exact absurd rfl h
   | ans m=>rfl
   | bad m=>rfl
theorem foldl_dq:∀ (ls:List PLt) (n:Ns),(∀ l ∈ dq n,l.he=false) -> dq (ls.foldl delivP n)=dq n
 | [],n,_=>rfl
 | l::r,n,h=>by
  have e:dq (delivP n l)=dq n:=by rw [delivP_dq,unheld_id h]
  rw [List.foldl_cons,foldl_dq r _ (by rw [e];exact h),e]
theorem tick_dq {n:Ns} (h:∀ l ∈ dq n,l.he=false):dq (tickP n)=(dq n).filter fun l=>!due (n.t+1) l:=by
 unfold tickP;rw [foldl_dq]
 ·unfold dq
  simp only;rw [List.filter_filter,List.filter_filter];congr 1;funext l;rw [Bool.and_comm]
 ·intro l hl
  refine h l ?_;unfold dq at hl ⊢;simp only [List.mem_filter] at hl ⊢;exact ⟨hl.1.1,hl.2⟩
theorem tick_sk (n:Ns):((tickP n).σ,(tickP n).κ)=((dq n).filter (due (n.t+1))).foldl recvSK (n.σ,n.κ):=by
 unfold tickP;rw [foldl_sk];unfold dq;simp only;rw [List.filter_filter,List.filter_filter];congr 1;congr 1;funext l;rw [Bool.and_comm]
theorem tick_sk_none {n:Ns} (h:∀ l ∈ dq n,due (n.t+1) l=false):(tickP n).σ=n.σ/\(tickP n).κ=n.κ:=by
 have e:=tick_sk n;have h0:(dq n).filter (due (n.t+1))=[]:=List.filter_eq_nil_iff.2 (fun l hl=>by rw [h l hl];decide);rw [h0] at e;exact ⟨congrArg Prod.fst e,congrArg Prod.snd e⟩
def ticks:Nat -> Ns -> Ns
 | 0,n=>n
 | k+1,n=>tickP (ticks k n)
theorem ticks_t:∀ (k:Nat) (n:Ns),(ticks k n).t=n.t+k
 | 0,n=>by simp [ticks]
 | k+1,n=>by
  rw [ticks,(tickP_t _).1,ticks_t k n];omega
theorem ticks_good:∀ (k:Nat) {n:Ns},n.good -> (ticks k n).good
 | 0,n,h=>h
 | k+1,n,h=>tickP_good (ticks_good k h)
theorem tick_nil {n:Ns} (h:n.q=[]):tickP n={ n with t:=n.t+1,c:=min (n.c+1) 1000000000 }:=by
 unfold tickP;rw [h];simp [h]
theorem ticks_new:∀ (k:Nat) (n:Ns),n.q=[] -> (ticks k n).q=[]/\(ticks k n).fs=n.fs/\(ticks k n).s=n.s/\(ticks k n).σ=n.σ/\(ticks k n).κ=n.κ
 | 0,n,h=>⟨h,rfl,rfl,rfl,rfl⟩
 | k+1,n,h=>by
  have h1:=ticks_new k n h;rw [ticks,tick_nil h1.1];exact h1
theorem ticks_none:∀ (k:Nat) {n:Ns},dq n=[] -> dq (ticks k n)=[]/\(ticks k n).σ=n.σ/\(ticks k n).κ=n.κ
 | 0,n,h=>⟨h,rfl,rfl⟩
 | k+1,n,h=>by
  obtain ⟨h1,h2,h3⟩:=ticks_none k h;have e1:=tick_dq (n:=ticks k n) (by rw [h1];exact fun l hl=>nomatch hl);have e2:=tick_sk_none (n:=ticks k n) (by rw [h1];exact fun l hl=>nomatch hl);rw [h1] at e1;exact ⟨e1,e2.1.trans h2,e2.2.trans h3⟩
theorem ticks_wait:∀ (k:Nat) {n:Ns} {x:PLt},dq n=[x] -> x.he=false -> n.t+k < x.du -> dq (ticks k n)=[x]/\(ticks k n).σ=n.σ/\(ticks k n).κ=n.κ
 | 0,n,x,h,_,_=>⟨h,rfl,rfl⟩
 | k+1,n,x,h,hh,hd=>by
  obtain ⟨h1,h2,h3⟩:=ticks_wait k h hh (by omega);have ht:=ticks_t k n;have hdue:due ((ticks k n).t+1) x=false:=by
   unfold due;rw [hh,ht,decide_eq_false (by omega)];rfl
  have e1:=tick_dq (n:=ticks k n) (by rw [h1];intro l hl;rw [List.mem_singleton] at hl;rw [hl];exact hh);have e2:=tick_sk_none (n:=ticks k n) (by rw [h1];intro l hl;rw [List.mem_singleton] at hl;rw [hl];exact hdue);rw [h1,List.filter_cons,hdue] at e1;exact ⟨e1,e2.1.trans h2,e2.2.trans h3⟩
theorem tick_all {n:Ns} (h:∀ l ∈ dq n,l.he=false/\l.du<=n.t+1):dq (tickP n)=[]/\((tickP n).σ,(tickP n).κ)=(dq n).foldl recvSK (n.σ,n.κ):=by
 have hd:∀ l ∈ dq n,due (n.t+1) l=true:=fun l hl=>by
  unfold due;rw [(h l hl).1,decide_eq_true (h l hl).2];rfl
 refine ⟨?_,?_⟩
 ·rw [tick_dq (fun l hl=>(h l hl).1),List.filter_eq_nil_iff]
  intro l hl;rw [hd l hl];decide
 ·rw [tick_sk,List.filter_eq_self.2 hd]
def arrives (f:Int):Int:=if f=1 \/ f=4 \/ f=3 then 99 else if 4 < f then 1+f - 4 else 1
theorem delay_law {n0:Ns} (hq:n0.q=[]) (hs:n0.s=0) (f:Int) (hf:n0.fs=[f]) (h0:0<=f/\f<=24) (pa st:Nat) (x:Bs) (hσ:n0.σ=fun _ _=>0) (hκ:n0.κ=fun _ _=>none) (i:Nat) (hi:i<=24):
  (ticks i (sendP n0 (.dlv pa 1 st x))).κ pa st=if arrives f<=i then some x else none:=by
 obtain ⟨n,hn⟩:∃ n,n=sendP n0 (.dlv pa 1 st x):=⟨_,rfl⟩;rw [<- hn];have ht:n.t=n0.t:=by rw [hn];rfl
 have hs':n.σ=fun _ _=>0:=by rw [hn];exact hσ
 have hk':n.κ=fun _ _=>none:=by rw [hn];exact hκ
 have hqe:n.q=(addP 0 [] (fatedP f (letP n0.t (.dlv pa 1 st x)))).1:=by rw [hn];unfold sendP;rw [hf,hq,hs];rfl
 have never:dq n=[] -> arrives f=99 -> (ticks i n).κ pa st=if arrives f<=i then some x else none:=fun hd ha=>by
  rw [(ticks_none i hd).2.2,hk',ha,if_neg (by omega)]
 have once:∀ (y:PLt) (d:Nat),(dq n=[y] \/ dq n=[y,{ y with se:=2 }]) -> y.c=.dlv pa 1 st x -> y.he=false -> y.du=n.t+1+d -> (d=0 \/ dq n=[y]) -> arrives f=1+d -> (ticks i n).κ pa st=if arrives f<=i then some x else none:=fun y d hd hc hh hdu hd0 ha=>by
  have hw:∀ k,k<=d -> (ticks k n).κ=n.κ/\(ticks k n).σ=n.σ/\dq (ticks k n)=dq n:=fun k hk=>by
   rcases hd0 with h0 | h0
   ·obtain rfl:k=0:=by omega
    exact ⟨rfl,rfl,rfl⟩
   ·obtain ⟨a,b,c⟩:=ticks_wait k h0 hh (by omega)
    exact ⟨c,b,a.trans h0.symm⟩
  rw [ha]
  by_cases hlt:i<=d
  ·rw [(hw i hlt).1,hk',if_neg (by omega)]
  ·rw [if_pos (by omega)]
   obtain ⟨e,rfl⟩:∃ e,i=e+(d+1):=⟨i - (d+1),by omega⟩;obtain ⟨w1,w2,w3⟩:=hw d (Nat.le_refl _);have htd:=ticks_t d n
   have hall:=tick_all (n:=ticks d n) (by
    rw [w3];intro l hl;rcases hd with h | h
    ·rw [h,List.mem_singleton] at hl;subst hl;exact ⟨hh,by omega⟩
    ·rw [h] at hl
     simp only [List.mem_cons,List.not_mem_nil,or_false] at hl;rcases hl with rfl | rfl
     ·exact ⟨hh,by omega⟩
     ·exact ⟨hh,by show y.du<=_;omega⟩)
   have hkk:(tickP (ticks d n)).κ pa st=some x:=by
    have h2:=congrArg Prod.snd hall.2;simp only at h2;rw [h2,w3,w1,w2,hs',hk'];rcases hd with h | h
    ·rw [h]
     simp [recvSK,hc,setf]
    ·rw [h]
     simp [recvSK,hc,setf]
   have hsum:∀ e,ticks (e+(d+1)) n=ticks e (ticks (d+1) n):=fun e=>by
    induction e with
    | zero=>rw [Nat.zero_add];rfl
    | succ e ih=>rw [show e+1+(d+1)=(e+(d+1))+1 by omega];show tickP _=tickP _;rw [ih]
   rw [hsum];exact (congrFun (congrFun (ticks_none e (n:=ticks (d+1) n) hall.1).2.2 pa) st).trans hkk
 have hf6:f=0 \/ f=1 \/ f=2 \/ f=3 \/ f=4 \/ 5<=f:=by omega
 rcases hf6 with rfl | rfl | rfl | rfl | rfl | h5
 ·exact once ⟨.dlv pa 1 st x,pa,n0.t+1,false,1⟩ 0 (.inl (by unfold dq;rw [hqe];rfl)) rfl rfl (by rw [ht];simp) (.inl rfl) rfl
 ·exact never (by unfold dq;rw [hqe];rfl) rfl
 ·exact once ⟨.dlv pa 1 st x,pa,n0.t+1,false,1⟩ 0 (.inr (by unfold dq;rw [hqe];rfl)) rfl rfl (by rw [ht];simp) (.inl rfl) rfl
 ·obtain ⟨y,hy⟩:∃ y:PLt,y=⟨.dlv pa 1 st x,pa,n0.t+1,true,1⟩:=⟨_,rfl⟩
  have hqy:n.q=[y]:=by rw [hqe,hy];rfl
  have hall:∀ k,(ticks k n).q=[y]/\(ticks k n).κ=n.κ:=fun k=>by
   induction k with
   | zero=>exact ⟨hqy,rfl⟩
   | succ k ih=>
    have hnd:∀ t,due t y=false:=fun t=>by rw [hy];rfl
    show (tickP (ticks k n)).q=[y]/\(tickP (ticks k n)).κ=n.κ
    unfold tickP;rw [ih.1];simp only [List.filter_cons,hnd,List.filter_nil,Bool.not_false,if_true,List.foldl_nil,Bool.false_eq_true,if_false];exact ⟨trivial,ih.2⟩
  rw [(hall i).2,hk',if_neg (by show ¬ (99:Int)<=i;omega)]
 ·exact never (by unfold dq;rw [hqe];rfl) rfl
 ·obtain ⟨d,hd⟩:∃ d:Nat,(d:Int)=f - 4:=⟨(f - 4).toNat,by omega⟩
  have e:fatedP f (letP n0.t (.dlv pa 1 st x))=[⟨.dlv pa 1 st x,pa,n0.t+1+(f - 4),false,0⟩]:=by
   unfold fatedP;rw [if_neg (by omega),if_neg (by omega),if_neg (by omega),if_neg (by omega),if_neg (by omega)];rfl
  have hq1:dq n=[⟨.dlv pa 1 st x,pa,n0.t+1+(f - 4),false,1⟩]:=by unfold dq;rw [hqe,e];rfl
  refine once ⟨.dlv pa 1 st x,pa,n0.t+1+(f - 4),false,1⟩ d (.inl hq1) rfl rfl (by show n0.t+1+(f - 4)=n.t+1+d;rw [ht];omega) (.inr hq1) ?_;unfold arrives;rw [if_neg (by omega),if_pos (by omega)];omega
end Nt
namespace Go.Proofs.YtcopgcdhkgenkaaGreatDoor
open Go.Shelf Go.RowKit Cdk Scr Nt
theorem flat_set {α:Type} (f:α -> List Value) (size:Nat) (hf:∀ y,(f y).length=size) {j:Nat} (hj:j < size) {u:Value}:∀ (xs:List α) (i:Nat) (x:α) {y:α},xs[i]?=some x -> f y=(f x).set j u -> (xs.flatMap f).set (i*size+j) u=(xs.set i y).flatMap f
 | [],i,x,y,hx,_=>by simp at hx
 | a::r,0,x,y,hx,hy=>by
  simp only [List.getElem?_cons_zero,Option.some.injEq] at hx;subst hx;rw [List.set_cons_zero,List.flatMap_cons,List.flatMap_cons,hy,Nat.zero_mul,Nat.zero_add,List.set_append_left _ _ (by rw [hf];exact hj)]
 | a::r,i+1,x,y,hx,hy=>by
  simp only [List.getElem?_cons_succ] at hx;have ih:=flat_set f size hf hj r i x hx hy;rw [List.set_cons_succ,List.flatMap_cons,List.flatMap_cons,List.set_append_right _ _ (by rw [hf,Nat.succ_mul];omega),hf,show (i+1)*size+j - size=i*size+j by rw [Nat.succ_mul];omega,ih]
theorem own_put {α:Type} {f:α -> List Value} {base:Nat} {e:TypeId} {size:Nat} {w:World} {v:Value} {xs:List α} (h:Cdk.Own w base e size f v xs) (hf:∀ y,(f y).length=size) {i j:Nat} {x y:α} {u:Value} {g:Nat} (hg:v.ownBlock=some g)
  (hx:xs[i]?=some x) (hj:j < size) (hy:f y=(f x).set j u):Cdk.Own (w.setCell ⟨g,i*size+j,none⟩ u) base e size f v (xs.set i y):=by
 refine ⟨by first | rw [flat_length f size hf,List.length_set] | rw [flat_length f size hf],?_⟩;rcases h.2 with ⟨rfl,hn⟩ | ⟨g',cap,cur,rfl,hb,hh,hle,hcm,hcs,ht⟩
 ·simp [Value.ownBlock] at hg
 ·simp only [Value.ownBlock,Option.some.injEq] at hg
  subst hg;refine .inr ⟨g',cap,cur.setIfInBounds (i*size+j) u,by rw [List.length_set],hb,put_at' hh _ u,by rw [List.length_set];exact hle,hcm,by simpa using hcs,?_⟩;rw [Array.toList_setIfInBounds,List.take_set,List.length_set,ht,flat_set f size hf hj xs i x hx hy]
structure ClDone (w:World) (r m:Nat) (C:Array Value) (b:Nat):Prop where
 size:C.size=71
 c0:C[0]?=some (.pointer (some ⟨b,0,none⟩))
 c2:C[2]?=some (.slice none 0 0)
 c3:C[3]?=some (.bool true)
 c4:C[4]?=some (.bool true)
 bld:∃ M last,BldrAt w b M (.pointer none) last
 rb:r < b
 bm:b < m
theorem ClDone.mod {S:Nat -> Prop} {w w':World} {r m:Nat} {C:Array Value} {b:Nat} (h:ClDone w r m C b) (hx:Mod S w w') (hS:¬ S b):ClDone w' r m C b:=by
 obtain ⟨M,l,hb⟩:=h.bld;exact ⟨h.size,h.c0,h.c2,h.c3,h.c4,⟨M,l,hx.at hb hS⟩,h.rb,h.bm⟩
def RoomAt (U m:Nat) (w:World) (r:Nat) (tk:Int):Prop:=∃ (j s:Nat) (now built:Int) (cl:Nat -> Array Value) (bf xf mf:Nat -> Nat),NrAt w r j s now tk cl (.slice none 0 0) built/\U<=j/\r < m/\(0<=now/\now<=1000000000)/\(0<=built/\built<=1000) ∧
 ((built=0/\(∀ c,c < 4 -> ClNew w r (cl c) c (bf c) (xf c) (mf c))/\(∀ c,c+1 < 4 -> bf c < mf (c+1))/\bf 3 < m) \/ (∀ c,c < 4 -> ClDone w r m (cl c) (bf c)))
theorem NrAt.mod {S:Nat -> Prop} {w w':World} {r j s:Nat} {now tick:Int} {cl:Nat -> Array Value} {out:Value} {built:Int} (h:NrAt w r j s now tick cl out built) (hx:Mod S w w') (h1:¬ S r) (h2:¬ S j) (h3:¬ S s):NrAt w' r j s now tick cl out built:=by
 obtain ⟨⟨V,a,b⟩,⟨en,d,size,c⟩,⟨x1,x2,x3,x4,x5,e⟩,f,g⟩:=h;exact ⟨⟨V,hx.at a h1,b⟩,⟨en,d,size,hx.at c h2⟩,⟨x1,x2,x3,x4,x5,hx.at e h3⟩,f,g⟩
theorem ClNew.mod {S:Nat -> Prop} {w w':World} {r:Nat} {C:Array Value} {c:Int} {b x m:Nat} (h:ClNew w r C c b x m) (hx:Mod S w w') (h1:¬ S b) (h2:¬ S m):ClNew w' r C c b x m:=⟨h.cells,hx.at h.bld h1,h.map.mod hx h2,h.rm,h.mb⟩
theorem RoomAt.mod {S:Nat -> Prop} {U m:Nat} {w w':World} {r:Nat} {tk:Int} (h:RoomAt U m w r tk) (hx:Mod S w w') (hS:∀ k,U<=k -> k < m -> ¬ S k):RoomAt U m w' r tk:=by
 obtain ⟨j,s,now,built,cl,bf,xf,mf,h1,h2,h3,h4,h5,h6⟩:=h;have hj:=h1.js;have hs:=h1.sr;refine ⟨j,s,now,built,cl,bf,xf,mf,h1.mod hx (hS _ (by omega) h3) (hS _ h2 (by omega)) (hS _ (by omega) (by omega)),h2,h3,h4,h5,?_⟩;rcases h6 with ⟨e,a,b,c⟩ | a
 ·have hm:∀ c,c < 4 -> bf c < m:=fun k hk=>by
   have g1:mf 1 < bf 1:=(a 1 (by decide)).mb;have g2:mf 2 < bf 2:=(a 2 (by decide)).mb;have g3:mf 3 < bf 3:=(a 3 (by decide)).mb;have b0:bf 0 < mf 1:=b 0 (by decide);have b1:bf 1 < mf 2:=b 1 (by decide);have b2:bf 2 < mf 3:=b 2 (by decide)
   match k,hk with
   | 0,_=>omega
   | 1,_=>omega
   | 2,_=>omega
   | 3,_=>exact c
  exact .inl ⟨e,fun c hc=>(a c hc).mod hx (hS _ (by have:=(a c hc).rm;have:=(a c hc).mb;omega) (hm c hc)) (hS _ (by have:=(a c hc).rm;omega) (by have:=(a c hc).mb;have:=hm c hc;omega)),b,c⟩
 ·exact .inr (fun c hc=>(a c hc).mod hx (hS _ (by have:=(a c hc).rb;omega) (a c hc).bm))
theorem PsAt.mod {S:Nat -> Prop} {w w':World} {m B k:Nat} {pf lo:Nat -> Nat} {σ:Nat -> Int -> Int} {κ:Nat -> Int -> Option Bs} (h:PsAt w m B k pf lo σ κ) (hx:Mod S w w') (hm:¬ S m) (hS:∀ q,lo 1<=q -> q < lo (k+1) -> ¬ S q):PsAt w' m B k pf lo σ κ:=by
 obtain ⟨ds,h1,h2,h3⟩:=h.map;refine ⟨⟨ds,h1.mod hx hm,h2,h3⟩,fun id a b=>(h.ps id a b).mod hx (fun q hq e=>?_),h.mono,h.base,h.mB⟩;have l1:=h.mono 1 id (by omega) a (by omega);have l2:=h.mono (id+1) (k+1) (by omega) (by omega) (by omega);exact hS q (by omega) (by omega) e
def NetQ (U Z:Nat) (tk:Int) (w:World) (b:Nat) (n:Ns) (qa:Value):Prop:=∃ (d r m f0 f1:Nat) (fa:Value) (pf lo:Nat -> Nat),
 NetB w b n.t n.c (.pointer (some ⟨d,0,none⟩)) (.pointer (some ⟨r,0,none⟩)) m fa qa n.s/\RoomAt U m w r tk/\(U<=m/\m < b/\b < Z/\lo 9<=Z/\Z<=f0/\f0<=f1/\f1<=w.heap.size)/\PsAt w m (b+1) 8 pf lo n.σ n.κ ∧
 RowAt (fun k=>f0<=k/\k < f1) w intC fa n.fs/\(∀ k,qa.ownBlock=some k -> k < f0 \/ f1<=k)/\LtsAt w Z qa (n.q.map PLt.lt)/\n.good
theorem NetQ.ext {tk:Int} {U Z:Nat} {w w':World} {b:Nat} {n:Ns} {qa:Value} (h:NetQ U Z tk w b n qa) (hx:Ext w w'):NetQ U Z tk w' b n qa:=by
 obtain ⟨d,r,m,f0,f1,fa,pf,lo,h1,h2,⟨a1,a2,a3,a4,a5,a6,a7⟩,h4,h5,h6,h7,h8⟩:=h;have:=hx.size;exact ⟨d,r,m,f0,f1,fa,pf,lo,hx.at h1 (fun h=>h),h2.mod hx (fun _ _ _ h=>h),⟨a1,a2,a3,a4,a5,a6,by omega⟩,h4.ext hx,h5.mod hx (fun _ _ h=>h),h6,h7.ext hx,h8⟩
def relL (t se:Int) (h:Lt):Lt:=if h.he && decide (h.se < se) then { h with he:=false,du:=t+1 } else h
theorem unheld_lt (t se:Int) (q:List PLt):(unheld t se q).map PLt.lt=(q.map PLt.lt).map (relL t se):=by
 unfold unheld;rw [List.map_map,List.map_map];refine List.map_congr_left (fun x _=>?_);show PLt.lt (if x.he && decide (x.se < se) then _ else x)=(if x.he && decide (x.se < se) then _ else _)
 by_cases h:(x.he && decide (x.se < se))=true
 ·rw [if_pos h,if_pos h];rfl
 ·rw [if_neg h,if_neg h]
theorem rel_get {t se:Int} {q:List Lt} {j:Nat} (hj:j < q.length):((q.take j).map (relL t se)++q.drop j)[j]?=some q[j]:=by
 have hl:((q.take j).map (relL t se)).length=j:=by rw [List.length_map,List.length_take];omega
 rw [List.getElem?_append_right (by omega),hl,Nat.sub_self,List.getElem?_drop,Nat.add_zero,List.getElem?_eq_getElem hj]
theorem rel_set {t se:Int} {q:List Lt} {j:Nat} (hj:j < q.length):((q.take j).map (relL t se)++q.drop j).set j (relL t se q[j])=(q.take (j+1)).map (relL t se)++q.drop (j+1):=by
 have hl:((q.take j).map (relL t se)).length=j:=by rw [List.length_map,List.length_take];omega
 rw [List.set_append_right _ _ (by omega),hl,Nat.sub_self,List.drop_eq_getElem_cons hj,List.set_cons_zero,List.take_succ_eq_append_getElem hj,List.map_append,List.append_assoc]
 rfl
theorem rel_same {t se:Int} {q:List Lt} {j:Nat} (hj:j < q.length) (h:relL t se q[j]=q[j]):(q.take j).map (relL t se)++q.drop j=(q.take (j+1)).map (relL t se)++q.drop (j+1):=by
 rw [<- rel_set hj,h];have hg:=rel_get (t:=t) (se:=se) hj;obtain ⟨hl,he⟩:=List.getElem?_eq_some_iff.1 hg;rw [<- he,List.set_getElem_self]
theorem pl_not_bad {p:Pl} (h:(∃ pa sq st x,p=.dlv pa sq st x) \/ (∃ m,p=.ans m/\(m.kd=3 \/ m.kd=4))):p.tx=encM p.ms:=by
 rcases h with ⟨pa,sq,st,x,rfl⟩ | ⟨m,rfl,-⟩ <;> rfl
theorem send_map (n:Ns) {p:Pl} (h:(∃ pa sq st x,p=.dlv pa sq st x) \/ (∃ m,p=.ans m/\(m.kd=3 \/ m.kd=4))):addL n.s (n.q.map PLt.lt) (fated (nextF n.fs).1 (letL n.t p.ms))=((sendP n p).q.map PLt.lt,(sendP n p).s):=by
 rw [letP_lt n.t p h,fatedP_lt _ _ (pl_not_bad h),addP_lt]
 rfl
theorem netQ_ofSend {tk:Int} {U Z b d r m f0 f1:Nat} {fa qa:Value} {pf lo:Nat -> Nat} {w w':World} {n:Ns} {p:Pl} {e:Ending} (hp:p.ok) (hf:(∃ pa sq st x,p=.dlv pa sq st x) \/ (∃ m,p=.ans m/\(m.kd=3 \/ m.kd=4)))
  (h2:RoomAt U m w r tk) (hb:U<=m/\m < b/\b < Z/\lo 9<=Z/\Z<=f0/\f0<=f1/\f1<=w.heap.size) (h4:PsAt w m (b+1) 8 pf lo n.σ n.κ) (h6:∀ k,qa.ownBlock=some k -> k < f0 \/ f1<=k) (hq:LtsAt w Z qa (n.q.map PLt.lt)) (hg:n.good)
  (hS:SendP w b n.t n.c (.pointer (some ⟨d,0,none⟩)) (.pointer (some ⟨r,0,none⟩)) m Z qa (n.q.map PLt.lt) n.s n.fs (fun k=>f0<=k/\k < f1) p.ms e w'):
  (∃ qa',NetQ U Z tk w' b (sendP n p) qa'/\(qa'.ownBlock=qa.ownBlock \/ ∀ k,qa'.ownBlock=some k -> w.heap.size<=k))/\Mod (fun k=>k=b \/ qa.ownBlock=some k) w w':=by
 obtain ⟨-,⟨fa',qa',a1,a2,a3,a4⟩,hM⟩:=hS;rw [send_map n hf] at a1 a2;have hz:=hM.size;have hqb:=fun k e=>hq.block k e
 refine ⟨⟨qa',⟨d,r,m,f0,f1,fa',pf,lo,a1,h2.mod hM (fun k h1 h3 h=>?_),⟨hb.1,hb.2.1,hb.2.2.1,hb.2.2.2.1,hb.2.2.2.2.1,hb.2.2.2.2.2.1,by omega⟩,?_,a3,?_,a2,sendP_good hg hp⟩,a4⟩,hM⟩
 ·rcases h with h | h
  ·omega
  ·have:=hqb k h;omega
 ·refine h4.mod hM (fun h=>?_) (fun k h1 h3 h=>?_)
  ·rcases h with h | h
   ·omega
   ·have:=hqb _ h;omega
  ·have:=h4.base
   have h9:k < lo 9:=h3;rcases h with h | h
   ·omega
   ·have:=hqb _ h;omega
 ·intro k e
  rcases a4 with a4 | a4
  ·rw [a4] at e;exact h6 k e
  ·have:=a4 k e;omega
theorem netSend_any {tk:Int} {U Z b:Nat} {n:Ns} {qa:Value} (p:Pl) (hp:p.ok) (hf:(∃ pa sq st x,p=.dlv pa sq st x) \/ (∃ m,p=.ans m/\(m.kd=3 \/ m.kd=4))) (ab off cap:Nat) (w:World) (hG:Gl w) (hN:NetQ U Z tk w b n qa) (hx:RowIs w (some ⟨ab,off,none⟩) (msC p.ms)) (hs:n.s<=1000000) (ht:n.t<=1000000):
  Calls Tryz.prog 39 #[.pointer (some ⟨b,0,none⟩),.slice (some ⟨ab,off,none⟩) 1 cap] w fun e w'=>e=.returned (.tuple #[])/\(∃ qa',NetQ U Z tk w' b (sendP n p) qa'/\(qa'.ownBlock=qa.ownBlock \/ ∀ k,qa'.ownBlock=some k -> w.heap.size<=k))/\Mod (fun k=>k=b \/ qa.ownBlock=some k) w w':=by
 obtain ⟨d,r,m,f0,f1,fa,pf,lo,h1,h2,hb,h4,h5,h6,h7,h8⟩:=hN;refine (send_any (F:=fun k=>f0<=k/\k < f1) Z p.ms ab off cap w hG (ok_v hp) h1 h7 (by omega) h5 (fun k hk=>⟨by omega,fun e=>by have:=h6 k e;omega,by omega⟩) hx ⟨hs,by rw [List.length_map];exact h8.ql⟩ ⟨h8.t,ht⟩ h8.fs).mono ?_;intro e w' hS;exact ⟨hS.1,netQ_ofSend (fa:=fa) hp hf h2 hb h4 h6 h7 h8 hS⟩
theorem netInject_any {tk:Int} {U Z b:Nat} {n:Ns} {qa:Value} (p:Pl) (hp:p.ok) (hf:(∃ pa sq st x,p=.dlv pa sq st x) \/ (∃ m,p=.ans m/\(m.kd=3 \/ m.kd=4))) (w:World) (hG:Gl w) (hN:NetQ U Z tk w b n qa) (hs:n.s<=1000000) (ht:n.t<=1000000):
  Calls Tryz.prog 15 #[.pointer (some ⟨b,0,none⟩),.string ⟨p.tx.toArray⟩] w fun e w'=>e=.returned (.int .i64 0)/\(∃ qa',NetQ U Z tk w' b (sendP n p) qa'/\(qa'.ownBlock=qa.ownBlock \/ ∀ k,qa'.ownBlock=some k -> w.heap.size<=k))/\Mod (fun k=>k=b \/ qa.ownBlock=some k) w w':=by
 obtain ⟨d,r,m,f0,f1,fa,pf,lo,h1,h2,hb,h4,h5,h6,h7,h8⟩:=hN;have hl:=encM_len (ok_v hp);rw [<- pl_not_bad hf] at hl;refine (inject_any (F:=fun k=>f0<=k/\k < f1) Z p.tx hl.2 w hG h1 h7 (by omega) h5 (fun k hk=>⟨by omega,fun e=>by have:=h6 k e;omega,by omega⟩) ⟨hs,by rw [List.length_map];exact h8.ql⟩ ⟨h8.t,ht⟩ h8.fs).mono ?_;intro e w' hS;have hd:decM p.tx=.ok p.ms:=by rw [pl_not_bad hf];exact decM_encM (ok_v hp)
 rw [hd] at hS;exact ⟨hS.1,netQ_ofSend (fa:=fa) hp hf h2 hb h4 h6 h7 h8 hS.2⟩
theorem delivP_dlv {n:Ns} {l:PLt} {pa sq st:Nat} {x:Bs} (h:l.c=.dlv pa sq st x):delivP n l=sendP (recvN { n with q:=unheld n.t l.se n.q } pa sq st x) (.ans (recvA { n with q:=unheld n.t l.se n.q } pa sq st x)):=by
 unfold delivP;rw [h]
theorem delivP_ans {n:Ns} {l:PLt} {m:Ms} (h:l.c=.ans m):delivP n l={ n with q:=unheld n.t l.se n.q }:=by
 unfold delivP;rw [h]
theorem delivP_bad {n:Ns} {l:PLt} {m:Ms} (h:l.c=.bad m):delivP n l={ n with q:=unheld n.t l.se n.q }:=by
 unfold delivP;rw [h]
theorem netQ_unheld {tk:Int} {U Z b:Nat} {n:Ns} {qa:Value} {w w':World} (t se:Int) (hN:NetQ U Z tk w b n qa) (hM:Mod (fun k=>qa.ownBlock=some k) w w') (hq:LtsAt w' Z qa ((unheld t se n.q).map PLt.lt)):NetQ U Z tk w' b { n with q:=unheld t se n.q } qa:=by
 obtain ⟨d,r,m,f0,f1,fa,pf,lo,h1,h2,hb,h4,h5,h6,h7,h8⟩:=hN;have hz:=hM.size;have hqb:=fun k e=>h7.block k e
 refine ⟨d,r,m,f0,f1,fa,pf,lo,hM.at h1 (own_ne7 h7 h1 (by decide)),h2.mod hM (fun k a c e=>by have:=hqb k e;omega),⟨hb.1,hb.2.1,hb.2.2.1,hb.2.2.2.1,hb.2.2.2.2.1,hb.2.2.2.2.2.1,by omega⟩,h4.mod hM (fun e=>by have:=hqb _ e;omega) (fun k a c e=>by have:=hqb k e;have c9:k < lo 9:=c;omega),h5.mod hM (fun k hk e=>by have:=h6 k e;omega),h6,hq,unheld_good h8 t se⟩
theorem netQ_recv {tk:Int} {U Z b d r m f0 f1:Nat} {fa qa:Value} {pf lo:Nat -> Nat} {w w':World} {n:Ns} {pa sq st:Nat} {x:Bs} (hok:(Pl.dlv pa sq st x).ok) (h1:NetB w b n.t n.c (.pointer (some ⟨d,0,none⟩)) (.pointer (some ⟨r,0,none⟩)) m fa qa n.s) (h2:RoomAt U m w r tk) (hb:U<=m/\m < b/\b < Z/\lo 9<=Z/\Z<=f0/\f0<=f1/\f1<=w.heap.size)
  (h4:PsAt w m (b+1) 8 pf lo n.σ n.κ) (h5:RowAt (fun k=>f0<=k/\k < f1) w intC fa n.fs) (h6:∀ k,qa.ownBlock=some k -> k < f0 \/ f1<=k) (h7:LtsAt w Z qa (n.q.map PLt.lt)) (h8:n.good)
  (hP:PartIs (fun k=>lo pa<=k/\k < lo (pa+1)) w' (pf pa) pa ((recvN n pa sq st x).σ pa) ((recvN n pa sq st x).κ pa)) (hM:Mod (fun k=>lo pa<=k/\k < lo (pa+1)) w w'):NetQ U Z tk w' b (recvN n pa sq st x) qa:=by
 have hz:=hM.size;have l1:=h4.mono 1 pa (by decide) hok.1 (by have:=hok.2.1;omega);have l2:=h4.mono (pa+1) 9 (by omega) (by have:=hok.2.1;omega) (by decide);have l3:=h4.base;have hqb:=fun k e=>h7.block k e
 have hot:∀ id,id ≠ pa -> (recvN n pa sq st x).σ id=n.σ id/\(recvN n pa sq st x).κ id=n.κ id:=fun id hne=>by
  unfold recvN;split
  ·exact ⟨by funext k;simp [setf,hne],by funext k;simp [setf,hne]⟩
  ·exact ⟨rfl,rfl⟩
 have hfl:(recvN n pa sq st x).t=n.t/\(recvN n pa sq st x).c=n.c/\(recvN n pa sq st x).fs=n.fs/\(recvN n pa sq st x).q=n.q/\(recvN n pa sq st x).s=n.s:=by
  unfold recvN;split <;> exact ⟨rfl,rfl,rfl,rfl,rfl⟩
 obtain ⟨e1,e2,e3,e4,e5⟩:=hfl;obtain ⟨ds,g1,g2,g3⟩:=h4.map;have hPs:PsAt w' m (b+1) 8 pf lo (recvN n pa sq st x).σ (recvN n pa sq st x).κ:=by
  refine ⟨⟨ds,g1.mod hM (fun h=>by omega),g2,g3⟩,fun id a c=>?_,h4.mono,h4.base,h4.mB⟩
  by_cases e:id=pa
  ·subst e;exact hP
  ·rw [(hot id e).1,(hot id e).2]
   refine (h4.ps id a c).mod hM (fun q hq h=>?_);rcases Nat.lt_or_gt_of_ne e with g | g
   ·have:=h4.mono (id+1) pa (by omega) (by omega) (by have:=hok.2.1;omega);omega
   ·have:=h4.mono (pa+1) id (by omega) (by omega) (by omega);omega
 refine ⟨d,r,m,f0,f1,fa,pf,lo,?_,?_,⟨hb.1,hb.2.1,hb.2.2.1,hb.2.2.2.1,hb.2.2.2.2.1,hb.2.2.2.2.2.1,by omega⟩,hPs,?_,h6,?_,recvN_good h8 hok⟩
 ·rw [e1,e2,e5];exact hM.at h1 (fun h=>by omega)
 ·exact h2.mod hM (fun k a c h=>by omega)
 ·rw [e3];exact h5.mod hM (fun k hk h=>by omega)
 ·rw [e4];exact h7.mod hM (fun k hk h=>by have:=hqb k hk;omega)
theorem netQ_room {tk:Int} {U Z b:Nat} {n:Ns} {qa:Value} {w:World} (hN:NetQ U Z tk w b n qa):∃ (r j s:Nat) (now built:Int) (cl:Nat -> Array Value),w.cell? ⟨b,3,none⟩=some (.pointer (some ⟨r,0,none⟩))/\w.cell? ⟨b,1,none⟩=some (.int .i64 n.c)/\NrAt w r j s now tk cl (.slice none 0 0) built ∧
  (U<=r/\r < b/\b < Z/\Z<=w.heap.size)/\(0<=now/\now<=1000000000)/\(∀ k,qa.ownBlock=some k -> k ≠ r/\k ≠ b)/\n.good ∧
  (∀ w' now',NrAt w' r j s now' tk cl (.slice none 0 0) built -> (0<=now'/\now'<=1000000000) -> Mod (Eq r) w w' -> NetQ U Z tk w' b n qa):=by
 obtain ⟨d,r,m,f0,f1,fa,pf,lo,h1,h2,hb,h4,h5,h6,h7,h8⟩:=hN;obtain ⟨j,s,now,built,cl,bf,xf,mf,g1,g2,g3,g4,g5,g6⟩:=h2;have hj:=g1.js;have hs:=g1.sr;have hqb:=fun k e=>(h7.block k e).1
 refine ⟨r,j,s,now,built,cl,cellN h1 3,cellN h1 1,g1,⟨by omega,by omega,by omega,by omega⟩,g4,fun k e=>⟨by have:=hqb k e;omega,by have:=hqb k e;omega⟩,h8,fun w' now' k1 k2 k3=>?_⟩;have hz:=k3.size;refine ⟨d,r,m,f0,f1,fa,pf,lo,k3.at h1 (by omega),⟨j,s,now',built,cl,bf,xf,mf,k1,g2,g3,k2,g5,?_⟩,⟨hb.1,hb.2.1,hb.2.2.1,hb.2.2.2.1,hb.2.2.2.2.1,hb.2.2.2.2.2.1,by omega⟩,h4.mod k3 (by omega) (fun q a c e=>by have:=h4.base;omega),h5.mod k3 (fun k hk e=>by omega),h6,h7.mod k3 (fun k hk e=>by have:=hqb k hk;omega),h8⟩;rcases g6 with ⟨e,a,b',c⟩ | a
 ·exact .inl ⟨e,fun c hc=>(a c hc).mod k3 (by have:=(a c hc).rm;have:=(a c hc).mb;omega) (by have:=(a c hc).rm;omega),b',c⟩
 ·exact .inr (fun c hc=>(a c hc).mod k3 (by have:=(a c hc).rb;omega))
theorem netQ_part {tk:Int} {U Z b:Nat} {n:Ns} {qa:Value} {w:World} (hN:NetQ U Z tk w b n qa) (pa sq st:Nat) (x:Bs) (hok:(Pl.dlv pa sq st x).ok):∃ (m p:Nat) (F:Nat -> Prop),w.cell? ⟨b,4,none⟩=some (.map (some m)) ∧
  (∀ (S:Nat -> Prop) w',Mod S w w' -> ¬ S m -> (Instr.lookup 73 (.map (some m)) (.int .i64 pa) false).run Tryz.prog w'=.ok (.pointer (some ⟨p,0,none⟩)) w') ∧
  PartIs F w p pa (n.σ pa) (n.κ pa)/\(∀ k,F k -> b < k/\k < Z/\k < w.heap.size)/\(U<=m/\m < b/\b < Z/\Z<=w.heap.size)/\(∀ k,qa.ownBlock=some k -> Z<=k/\k < w.heap.size)/\n.good ∧
  (∀ w',PartIs F w' p pa ((recvN n pa sq st x).σ pa) ((recvN n pa sq st x).κ pa) -> Mod F w w' -> NetQ U Z tk w' b (recvN n pa sq st x) qa):=by
 obtain ⟨d,r,m,f0,f1,fa,pf,lo,h1,h2,hb,h4,h5,h6,h7,h8⟩:=hN;have l1:=h4.mono 1 pa (by decide) hok.1 (by have:=hok.2.1;omega);have l2:=h4.mono (pa+1) 9 (by omega) (by have:=hok.2.1;omega) (by decide);have l3:=h4.base;obtain ⟨ds,g1,g2,g3⟩:=h4.map;refine ⟨m,pf pa,fun k=>lo pa<=k/\k < lo (pa+1),cellN h1 4,fun S w' hM hS=>?_,h4.ps pa hok.1 hok.2.1,fun k hk=>⟨by omega,by omega,by omega⟩,⟨by omega,by omega,by omega,by omega⟩,h7.block,h8,fun w' k1 k2=>netQ_recv hok h1 h2 hb h4 h5 h6 h7 h8 k1 k2⟩;have h:=run_lookupM (P:=Tryz.prog) (t:=73) (keyOk_int Tryz.underlying3) Tryz.underlying73 (g1.mod hM hS) (pa:Int) (zero_ptr w') false;rw [g2 pa hok.1 hok.2.1] at h;exact h
end Go.Proofs.YtcopgcdhkgenkaaGreatDoor
