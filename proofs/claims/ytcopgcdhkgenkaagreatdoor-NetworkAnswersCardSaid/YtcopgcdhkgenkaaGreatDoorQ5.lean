import Derived.Test.YtcopgcdhkgenkaaGreatDoorE2
set_option linter.all false
set_option maxRecDepth 100000
set_option maxHeartbeats 16000000
namespace Go.Proofs.YtcopgcdhkgenkaaGreatDoor
open Go.Shelf Go.RowKit Cdk Scr Nt
def TickP (U Z b:Nat) (n:Ns) (w:World) (e:Ending) (w':World):Prop:=e=.returned (.int .i64 0)/\(∃ qa,NetQ U Z (n.t+1) w' b (tickP n) qa/\∀ k,qa.ownBlock=some k -> w.heap.size<=k)/\Mod (fun k=>U<=k/\k < Z) w w'
theorem filter_snoc {α:Type} (p:α -> Bool) (q:List α) {j:Nat} (hj:j < q.length):(q.take (j+1)).filter p=(q.take j).filter p++(if p q[j] then [q[j]] else []):=by
 rw [List.take_succ_eq_append_getElem hj,List.filter_append];congr 1;rw [List.filter_cons,List.filter_nil]
theorem wpList_appAt {α:Type} {P:Program} {f:α -> List Value} {base:Nat} {e:TypeId} {z:Value} {size bytes:Nat} {w:World} {v:Value} {xs:List α} {ops:Array Oper} {rest:List Oper} {o:Oper} {a:Act} {Q:Exit -> Act -> World -> Prop} (hg:o.guard=none) (s x:Operand) (t:TypeId)
  (ho:o.op=.call { callee:=.builtin .append,args:=#[s,x],argTypes:=#[t,t] }) (ht:P.underlying t=some (.slice e)) (el:El P e z size bytes)
  (hs:a.eval s=v) (hown:Cdk.Own w base e size f v xs) (ad:Addr) (m c:Nat) (hx:a.eval x=.slice (some ad) m c) (ys:List α) (hm:ys.length=m) (hrow:RowIs w (some ad) (ys.flatMap f))
  (hf:∀ y,(f y).length=size) (h1:∀ y ∈ ys,∀ u ∈ f y,u.oneCell'=true) (hlen:xs.length+ys.length<=137438953472) (hbase:base<=w.heap.size)
  (hK:∀ v' w',Hid (Cdk.Own w' base e size f v' (xs++ys)/\Cdk.Mod (fun k=>v.ownBlock=some k) w w'/\(v'.ownBlock=v.ownBlock \/ v'.ownBlock=some w.heap.size)) -> wpList P ops Q rest (a.put o.dst v') w'):wpList P ops Q (o::rest) a w:=
 wpList_plain hg fun _ hKK=>wp_appAt s x t ho ht el hs hown ad m c hx ys hm hrow hf h1 hlen hbase (fun v' w' H=>hKK _ _ (hK v' w' H))
theorem tick_any (hNT:NrTickSpec) {U Z b:Nat} {n:Ns} {qa:Value} (w:World) (hG:Gl w) (hU:12<=U) (hN:NetQ U Z n.t w b n qa) (hs:n.s<=990000) (ht:n.t<=999000):
  Calls Tryz.prog 13 #[.pointer (some ⟨b,0,none⟩)] w (TickP U Z b n w):=by
 obtain ⟨R,hR⟩:∃ R,R=TickP U Z b n w:=⟨_,rfl⟩;rw [<- hR];replace hR:=hid hR;obtain ⟨d,r,m,f0,f1,fa,pf,lo,hB,hRm,hbo,hPs,hFa,hap,hq,hgood⟩:=hN;have ht0:=hgood.t;have hc0:=hgood.c;have hbw:b < w.heap.size:=lt_of_at hB;obtain ⟨Q,hQ⟩:∃ Q,Q=n.q.map PLt.lt:=⟨_,rfl⟩;rw [<- hQ] at hq;obtain ⟨N,hNe⟩:∃ N,N=Q.length:=⟨_,rfl⟩;have hN1:N<=1024:=by rw [hNe,hQ,List.length_map];exact hgood.ql
 obtain ⟨aq,cq,rfl,hrow0,-⟩:=hq.row;rw [<- hNe] at hq hB;have hqlt:=hid (fun k e=>(hq.block k e));have hBn:=hid (own_ne7 hq hB (by decide));obtain ⟨T,hTe⟩:∃ T,T=w.heap.size:=⟨_,rfl⟩;have hT0:=heap_alloc_new w (.cells #[.pointer (some ⟨b,0,none⟩)] 25);have hx0:=Mod.alloc (Mod.refl (fun _=>False) w) (.cells #[.pointer (some ⟨b,0,none⟩)] 25);have hmf:∀ (fn:Fn) (first cap:Array Value) (w:World),(Instr.makeFunc fn first cap).run Tryz.prog w=.ok (.func fn first cap) w:=fun _ _ _ _=>rfl
 have hen:=enters_of Tryz.func36 (by kernel_rfl) rfl;have hrowq:=hid (hq.ext hx0);have hms:=hid (missing_any _ (hx0.at hB (fun h=>h)));replace hQ:=hid hQ;replace hNe:=hid hNe;go_enter Tryz.func13,Tryz.ntmps13;go_upto_region 1 with fail
 rw [<- hTe] at hT0 ⊢;generalize w.alloc (.cells #[.pointer (some ⟨b,0,none⟩)] 25)=w1 at hT0 hx0 hrowq hms ⊢;have hTle:w.heap.size<=T:=Nat.le_of_eq hTe.symm;replace hTe:=hid hTe;have hT:=hid hT0;have hx1:=hid hx0;have hB1:=hid (hx0.at hB (fun h=>h));have tp:w1.cell? ⟨T,0,none⟩=some (.pointer (some ⟨b,0,none⟩)):=cellN hT0 0;have had:=hid (advance_any w1 hB1.out (by omega) hc0);clear hT0 hx0;go_wp2_with fail
 refine hms.out.mono ?_;rintro e w1' ⟨rfl,rfl⟩;go_wp2_with fail
 refine had.out.mono ?_;rintro e w2 ⟨rfl,hB2,hm2⟩;have hT2:=hid (hm2.at hT.out (by omega));have hq2:=hid (hrowq.out.mod hm2 (fun k hk e=>by have:=hqlt.out k hk;have:=hbo;omega));have hM2:=hid (hx1.out.mono (T:=Eq b) (fun _ h=>h.elim) |>.trans hm2);have tp2:w2.cell? ⟨T,0,none⟩=some (.pointer (some ⟨b,0,none⟩)):=cellN hT2.out 0;have b6:w2.cell? ⟨b,6,none⟩=some (.slice aq N cq):=cellN hB2 6;have hBc:=hid hB2;have hTw2:T < w2.heap.size:=lt_of_at hT2.out;obtain ⟨B0,hB0⟩:∃ B0,B0=w2.heap.size:=⟨_,rfl⟩;have hBw:B0<=w2.heap.size:=Nat.le_of_eq hB0;have hBT:T < B0:=by omega
 replace hB0:=hid hB0;clear hm2 hB2 had tp hT hx1 hB1 hrowq hms hB;go_wp2_with fail
 go_loopg [4,5,7,23] N (fun g s4 s5 s7 i wr=>∃ j:Nat,j+g=N/\i=.int .i64 j/\LtsAt wr B0 s4 ((Q.take j).filter (dueL (n.t+1)))/\LtsAt wr B0 s5 ((Q.take j).filter fun y=>!dueL (n.t+1) y)/\(∀ k,s4.ownBlock=some k -> s5.ownBlock ≠ some k)/\Ext w2 wr)
 case atStart=>exact ⟨0,by omega,rfl,Own.nil _ _ _ _ _,Own.nil _ _ _ _ _,(fun k e=>by cases e),Mod.refl _ _⟩
 case round=>
  clear b6 tp2;obtain ⟨j,hj,rfl,hO4,hO5,hdis,hx⟩:=hrel;replace hj:=hid hj;have hszr:B0<=wr.heap.size:=Nat.le_trans hBw hx.size
  by_cases hlt:j < N
  ·have hjl:j < Q.length:=by have:=hNe.out;omega
   have hdi:(j:Int) < (N:Int):=by omega
   have hd:decide ((j:Int) < (N:Int))=true:=decide_eq_true hdi;have hOq:=hq2.out.ext hx;have hOs:∃ g cap' cur,Value.slice aq N cq=.slice (some ⟨g,0,none⟩) Q.length cap'/\Z<=g/\wr.heap[g]?=some (.cells cur 82 (0,0)):=by
    rcases hOq.2 with ⟨e,hn⟩ | ⟨g',cap,cur,e,hb,hh,-⟩
    ·rw [<- hNe.out] at hn;omega
    ·exact ⟨g',cap,cur,e,hb,hh⟩
   obtain ⟨g,cap',cur,hve,hgZ,hgc⟩:=hOs;rw [<- hNe.out] at hve;injection hve with hv1 hv2 hv3
   subst hv1;obtain ⟨y,hy⟩:∃ y,y=Q[j]:=⟨_,rfl⟩;have hgt:Q[j]?=some y:=by rw [hy];exact List.getElem?_eq_getElem hjl
   have hrow:∀ i u,i < 5 -> (ltC y)[i]?=some u -> wr.cell? ⟨g,j*5+i,none⟩=some u:=fun i u hi hu=>by
    obtain ⟨a1,c1,e1,hr,-⟩:=hOq.row;injection e1 with e1 e2 e3;subst e1
    have hfg:=flat_get ltC 5 ltC_len Q j i y hgt hi;obtain ⟨b1,o1,e,hc⟩:=hr (j*5+i) u (hfg.trans hu);injection e with e;injection e with e1 e2;subst e1 e2
    rw [Nat.zero_add] at hc;exact hc
   obtain ⟨ytx,yrc,ydu,yhe,yse⟩:=y;have g0:wr.cell? ⟨g,j*5,none⟩=some (.string ⟨ytx.toArray⟩):=hrow 0 _ (by decide) rfl;have g1:wr.cell? ⟨g,j*5+1,none⟩=some (.int .i64 yrc):=hrow 1 _ (by decide) rfl;have g2:wr.cell? ⟨g,j*5+2,none⟩=some (.int .i64 ydu):=hrow 2 _ (by decide) rfl;have g3:wr.cell? ⟨g,j*5+3,none⟩=some (.bool yhe):=hrow 3 _ (by decide) rfl;have g4:wr.cell? ⟨g,j*5+4,none⟩=some (.int .i64 yse):=hrow 4 _ (by decide) rfl;obtain ⟨M1,hM1e⟩:∃ M1,M1=wr.heap.size:=⟨_,rfl⟩;have hM10:=heap_alloc_new wr (.cells #[.string ⟨ytx.toArray⟩,.int .i64 yrc,.int .i64 ydu,.bool yhe,.int .i64 yse] 82);have hxM:=Mod.alloc (Mod.refl (fun _=>False) wr) (.cells #[.string ⟨ytx.toArray⟩,.int .i64 yrc,.int .i64 ydu,.bool yhe,.int .i64 yse] 82);obtain ⟨y,hye⟩:∃ y:Lt,y=⟨ytx,yrc,ydu,yhe,yse⟩:=⟨_,rfl⟩;rw [<- hye] at hy;replace hx:=hid hx;replace hy:=hid hy;clear hrow hOq hgt hv3 hv2;go_upto_region 9 with fail
   rw [<- hM1e] at hM10 ⊢;generalize w1_:wr.alloc (.cells #[.string ⟨ytx.toArray⟩,.int .i64 yrc,.int .i64 ydu,.bool yhe,.int .i64 yse] 82)=wr2 at hM10 hxM ⊢;clear w1_ g0 g1 g2 g3 g4;replace hM1e:=hid hM1e;have hM1:=hid hM10;have y0:wr2.cell? ⟨M1,0,none⟩=some (.string ⟨ytx.toArray⟩):=cellN hM10 0;have y1:wr2.cell? ⟨M1,1,none⟩=some (.int .i64 yrc):=cellN hM10 1;have y2:wr2.cell? ⟨M1,2,none⟩=some (.int .i64 ydu):=cellN hM10 2;have y3:wr2.cell? ⟨M1,3,none⟩=some (.bool yhe):=cellN hM10 3;have y4:wr2.cell? ⟨M1,4,none⟩=some (.int .i64 yse):=cellN hM10 4;have hTr:wr2.cell? ⟨T,0,none⟩=some (.pointer (some ⟨b,0,none⟩)):=cellN (hxM.at (hx.out.at hT2.out (fun h=>h)) (fun h=>h)) 0;have hbr:wr2.cell? ⟨b,0,none⟩=some (.int .i64 (n.t+1)):=cellN (hxM.at (hx.out.at hBc.out (fun h=>h)) (fun h=>h)) 0;have hdu:Hid (Calls Tryz.prog 36 #[.agg #[.string ⟨ytx.toArray⟩,.int .i64 yrc,.int .i64 ydu,.bool yhe,.int .i64 yse],.pointer (some ⟨T,0,none⟩)] wr2 fun e w'=>e=.returned (.bool (dueL (n.t+1) y))/\Ext wr2 w'):=hid (by rw [hye];exact isDue_any ⟨ytx,yrc,ydu,yhe,yse⟩ T b (n.t+1) wr2 hTr hbr);replace hye:=hid hye;clear hM10 hTr hbr;go_wp2_with fail
   refine hdu.out.mono ?_;rintro e wr3 ⟨rfl,hx3⟩;have hx23:=hxM.trans hx3;have hM3:=hid (hx3.at hM1.out (fun h=>h));replace hM1:=hM3;clear hM3 hx3 hxM y0 y1 y2 y3 y4 hdu;cases hD:dueL (n.t+1) y with
   | true=>
    have hfm:(Q.take (j+1)).filter (dueL (n.t+1))=(Q.take j).filter (dueL (n.t+1))++[y]:=by rw [filter_snoc _ _ hjl,<- hy.out];simp [hD]
    have hfo:(Q.take (j+1)).filter (fun y=>!dueL (n.t+1) y)=(Q.take j).filter (fun y=>!dueL (n.t+1) y):=by rw [filter_snoc _ _ hjl,<- hy.out];simp [hD]
    obtain ⟨xm,hxm⟩:∃ xm,xm=(Q.take j).filter (dueL (n.t+1)):=⟨_,rfl⟩;have hlm:xm.length<=1024:=by rw [hxm];exact Nat.le_trans (List.length_filter_le _ _) (by rw [List.length_take];omega)
    rw [<- hxm] at hO4 hfm;obtain ⟨am,cm,rfl,-,-⟩:=hO4.row;have hyc:(ltC y).toArray=#[.string ⟨ytx.toArray⟩,.int .i64 yrc,.int .i64 ydu,.bool yhe,.int .i64 yse]:=by rw [hye.out];rfl
    have hxA:=Mod.alloc (Mod.refl (fun _=>False) wr3) (.cells #[.string ⟨ytx.toArray⟩,.int .i64 yrc,.int .i64 ydu,.bool yhe,.int .i64 yse] 82);have hrA:=heap_alloc_new wr3 (.cells #[.string ⟨ytx.toArray⟩,.int .i64 yrc,.int .i64 ydu,.bool yhe,.int .i64 yse] 82);have hOm:=hid ((hO4.ext hx23).ext hxA);have hOo:=hid ((hO5.ext hx23).ext hxA);have hrow:=hid (RowIs.block (cs:=[y].flatMap ltC) (by rw [show ([y].flatMap ltC).toArray=#[.string ⟨ytx.toArray⟩,.int .i64 yrc,.int .i64 ydu,.bool yhe,.int .i64 yse] by rw [List.flatMap_singleton];exact hyc];exact hrA));have hE:=hid ((hx.out.trans hx23).trans hxA);have hszA:(wr3.alloc (.cells #[.string ⟨ytx.toArray⟩,.int .i64 yrc,.int .i64 ydu,.bool yhe,.int .i64 yse] 82)).heap.size=wr3.heap.size+1:=by simp
    have hoz:=hid (fun k e=>(hO5.block k e).2);have hmz:=hid (fun k e=>(hO4.block k e).1);have hfm':=hid hfm;have hfo':=hid hfo;have hsz23:wr.heap.size<=wr3.heap.size:=hx23.size;have hdis':=hid hdis;have hB3:B0<=wr3.heap.size:=by have:=hE.out.size;omega
    replace hD:=hid hD;replace hxm:=hid hxm;have hszA':=hid hszA;clear hxA hrA hO4 hO5 hdis hfm hfo hszA;have y0:wr3.cell? ⟨M1,0,none⟩=some (.string ⟨ytx.toArray⟩):=cellN hM1.out 0;have y1:wr3.cell? ⟨M1,1,none⟩=some (.int .i64 yrc):=cellN hM1.out 1;have y2:wr3.cell? ⟨M1,2,none⟩=some (.int .i64 ydu):=cellN hM1.out 2;have y3:wr3.cell? ⟨M1,3,none⟩=some (.bool yhe):=cellN hM1.out 3;have y4:wr3.cell? ⟨M1,4,none⟩=some (.int .i64 yse):=cellN hM1.out 4;go_wp2_with (first | (refine wpList_slice1 rfl _ _ rfl Tryz.underlying76 elLt (by decide) #[.string ⟨ytx.toArray⟩,.int .i64 yrc,.int .i64 ydu,.bool yhe,.int .i64 yse] rfl rfl ?_) | (at_builtin;refine wpList_appAt rfl _ _ 76 rfl Tryz.underlying76 elLt rfl hOm.out _ 1 1 rfl [y] rfl hrow.out ltC_len (fun y _ u hu=>ltC_one y u hu) (by simp only [List.length_singleton];omega) (by rw [hszA'.out];omega) (fun v6 w6 H6=>Hid.out ?_)))
    obtain ⟨hO6,hM6,hP6⟩:=H6.out;have hO6':LtsAt w6 B0 v6 ((Q.take (j+1)).filter (dueL (n.t+1))):=by rw [hfm'.out];exact hO6
    have hOo6:LtsAt w6 B0 u5 ((Q.take (j+1)).filter (fun y=>!dueL (n.t+1) y)):=by rw [hfo'.out];exact hOo.out.mod hM6 (fun k e h=>hdis'.out k h e)
    have hE6:=hid (hE.out.then hM6 (fun k hk e=>by have:=hmz.out k e;have:=hB0.out;omega))
    have hd6:Hid (∀ k,v6.ownBlock=some k -> u5.ownBlock ≠ some k):=hid (by
     intro k e h;rcases hP6 with hP | hP
     ·rw [hP] at e;exact hdis'.out k e h
     ·rw [hP,hszA'.out] at e
      injection e with e9
      have:=hoz.out k h;omega)
    obtain ⟨a6,c6,rfl,-,-⟩:=hO6.row;replace hO6':=hid hO6';replace hOo6:=hid hOo6;clear H6 hO6 hM6 hP6 hOm hOo hrow hE hoz hmz hdis' y0 y1 y2 y3 y4;refine hid ?_;go_wp2_with fail
    go_roundg (gk - 1)
    case measure=>have:=hj.out;omega
    case rel=>exact ⟨j+1,by have:=hj.out;omega,by go_num,hO6'.out,hOo6.out,hd6.out,hE6.out⟩
   | false=>
    have hfm:(Q.take (j+1)).filter (fun y=>!dueL (n.t+1) y)=(Q.take j).filter (fun y=>!dueL (n.t+1) y)++[y]:=by rw [filter_snoc _ _ hjl,<- hy.out];simp [hD]
    have hfo:(Q.take (j+1)).filter (dueL (n.t+1))=(Q.take j).filter (dueL (n.t+1)):=by rw [filter_snoc _ _ hjl,<- hy.out];simp [hD]
    obtain ⟨xm,hxm⟩:∃ xm,xm=(Q.take j).filter (fun y=>!dueL (n.t+1) y):=⟨_,rfl⟩;have hlm:xm.length<=1024:=by rw [hxm];exact Nat.le_trans (List.length_filter_le _ _) (by rw [List.length_take];omega)
    rw [<- hxm] at hO5 hfm;obtain ⟨am,cm,rfl,-,-⟩:=hO5.row;have hyc:(ltC y).toArray=#[.string ⟨ytx.toArray⟩,.int .i64 yrc,.int .i64 ydu,.bool yhe,.int .i64 yse]:=by rw [hye.out];rfl
    have hxA:=Mod.alloc (Mod.refl (fun _=>False) wr3) (.cells #[.string ⟨ytx.toArray⟩,.int .i64 yrc,.int .i64 ydu,.bool yhe,.int .i64 yse] 82);have hrA:=heap_alloc_new wr3 (.cells #[.string ⟨ytx.toArray⟩,.int .i64 yrc,.int .i64 ydu,.bool yhe,.int .i64 yse] 82);have hOm:=hid ((hO5.ext hx23).ext hxA);have hOo:=hid ((hO4.ext hx23).ext hxA);have hrow:=hid (RowIs.block (cs:=[y].flatMap ltC) (by rw [show ([y].flatMap ltC).toArray=#[.string ⟨ytx.toArray⟩,.int .i64 yrc,.int .i64 ydu,.bool yhe,.int .i64 yse] by rw [List.flatMap_singleton];exact hyc];exact hrA));have hE:=hid ((hx.out.trans hx23).trans hxA);have hszA:(wr3.alloc (.cells #[.string ⟨ytx.toArray⟩,.int .i64 yrc,.int .i64 ydu,.bool yhe,.int .i64 yse] 82)).heap.size=wr3.heap.size+1:=by simp
    have hoz:=hid (fun k e=>(hO4.block k e).2);have hmz:=hid (fun k e=>(hO5.block k e).1);have hfm':=hid hfm;have hfo':=hid hfo;have hsz23:wr.heap.size<=wr3.heap.size:=hx23.size;have hdis':=hid hdis;have hB3:B0<=wr3.heap.size:=by have:=hE.out.size;omega
    replace hD:=hid hD;replace hxm:=hid hxm;have hszA':=hid hszA;clear hxA hrA hO4 hO5 hdis hfm hfo hszA;have y0:wr3.cell? ⟨M1,0,none⟩=some (.string ⟨ytx.toArray⟩):=cellN hM1.out 0;have y1:wr3.cell? ⟨M1,1,none⟩=some (.int .i64 yrc):=cellN hM1.out 1;have y2:wr3.cell? ⟨M1,2,none⟩=some (.int .i64 ydu):=cellN hM1.out 2;have y3:wr3.cell? ⟨M1,3,none⟩=some (.bool yhe):=cellN hM1.out 3;have y4:wr3.cell? ⟨M1,4,none⟩=some (.int .i64 yse):=cellN hM1.out 4;go_wp2_with (first | (refine wpList_slice1 rfl _ _ rfl Tryz.underlying76 elLt (by decide) #[.string ⟨ytx.toArray⟩,.int .i64 yrc,.int .i64 ydu,.bool yhe,.int .i64 yse] rfl rfl ?_) | (at_builtin;refine wpList_appAt rfl _ _ 76 rfl Tryz.underlying76 elLt rfl hOm.out _ 1 1 rfl [y] rfl hrow.out ltC_len (fun y _ u hu=>ltC_one y u hu) (by simp only [List.length_singleton];omega) (by rw [hszA'.out];omega) (fun v6 w6 H6=>Hid.out ?_)))
    obtain ⟨hO6,hM6,hP6⟩:=H6.out;have hO6':LtsAt w6 B0 v6 ((Q.take (j+1)).filter (fun y=>!dueL (n.t+1) y)):=by rw [hfm'.out];exact hO6
    have hOo6:LtsAt w6 B0 u4 ((Q.take (j+1)).filter (dueL (n.t+1))):=by rw [hfo'.out];exact hOo.out.mod hM6 (fun k e h=>hdis'.out k e h)
    have hE6:=hid (hE.out.then hM6 (fun k hk e=>by have:=hmz.out k e;have:=hB0.out;omega))
    have hd6:Hid (∀ k,u4.ownBlock=some k -> v6.ownBlock ≠ some k):=hid (by
     intro k e h;rcases hP6 with hP | hP
     ·rw [hP] at h;exact hdis'.out k e h
     ·rw [hP,hszA'.out] at h
      injection h with e9
      have:=hoz.out k e;omega)
    obtain ⟨a6,c6,rfl,-,-⟩:=hO6.row;replace hO6':=hid hO6';replace hOo6:=hid hOo6;clear H6 hO6 hM6 hP6 hOm hOo hrow hE hoz hmz hdis' y0 y1 y2 y3 y4;refine hid ?_;go_wp2_with fail
    go_roundg (gk - 1)
    case measure=>have:=hj.out;omega
    case rel=>exact ⟨j+1,by have:=hj.out;omega,by go_num,hOo6.out,hO6'.out,hd6.out,hE6.out⟩
  ·have hj0:j=N:=by have:=hj.out;omega
   have hndi:¬ (j:Int) < (N:Int):=by omega
   have hd:decide ((j:Int) < (N:Int))=false:=decide_eq_false hndi;have hjq:Q.take j=Q:=by rw [hj0,hNe.out,List.take_length]
   rw [hjq] at hO4 hO5;obtain ⟨L,hL⟩:∃ L,L=n.q.filter (Nt.due (n.t+1)):=⟨_,rfl⟩;obtain ⟨n1,hn1⟩:∃ n1:Ns,n1={ n with t:=n.t+1,c:=min (n.c+1) 1000000000,q:=n.q.filter fun l=>!Nt.due (n.t+1) l }:=⟨_,rfl⟩;have hgood1:n1.good:=by rw [hn1];exact tick0_good hgood
   have hLq:Q.filter (dueL (n.t+1))=L.map PLt.lt:=by rw [hQ.out,hL,filter_lt]
   have hRq:(Q.filter fun y=>!dueL (n.t+1) y)=n1.q.map PLt.lt:=by rw [hQ.out,hn1,filter_nlt]
   rw [hLq] at hO4;rw [hRq] at hO5;obtain ⟨NL,hNL⟩:∃ NL,NL=L.length:=⟨_,rfl⟩;have hNL1:NL<=1024:=by rw [hNL,hL];exact Nat.le_trans (List.length_filter_le _ _) hgood.ql
   have hLok:∀ l ∈ L,l.ok:=fun l hl=>hgood.q l (by rw [hL] at hl;exact (List.mem_filter.1 hl).1)
   obtain ⟨a4,c4,rfl,-,-⟩:=hO4.row;obtain ⟨a5,c5,rfl,-,-⟩:=hO5.row;rw [List.length_map,<- hNL] at hO4 hdis ⊢;obtain ⟨n5,hn5⟩:∃ n5,n5=(n1.q.map PLt.lt).length:=⟨_,rfl⟩;rw [<- hn5] at hO5 hdis ⊢;replace hn5:=hid hn5;have hBr:=hx.at hBc.out (fun h=>h);have hTr:=hx.at hT2.out (fun h=>h);have tp:wr.cell? ⟨T,0,none⟩=some (.pointer (some ⟨b,0,none⟩)):=cellN hTr 0;have b6:wr.cell? ⟨b,6,none⟩=some (.slice aq N cq):=cellN hBr 6;have z6:=freeN hBr 6;have hBA:=put_at' hBr 6 (.slice a5 n5 c5);have hmA:=(Mod.refl (Eq b) wr).setCell (a:=⟨b,6,none⟩) (fun _=>rfl) (.slice a5 n5 c5);have hMA:=(hM2.out.trans (hx.mono (T:=Eq b) (fun _ h=>h.elim))).trans hmA;have hwB0:w.heap.size<=B0:=by omega
   have hb4:=hO4.block;have hb5:=hO5.block;have hO4A:=hO4.mod hmA (fun k hk e=>by have:=hb4 k hk;omega);have hO5A:=(hO5.mod hmA (fun k hk e=>by have:=hb5 k hk;omega)).weaken (base':=Z) (by omega);have hTA:=hmA.at hTr (by omega);have hszA:(wr.setCell ⟨b,6,none⟩ (.slice a5 n5 c5)).heap.size=wr.heap.size:=by simp [World.setCell]
   have hNA:NetQ U Z n.t (wr.setCell ⟨b,6,none⟩ (.slice a5 n5 c5)) b n1 (.slice a5 n5 c5):=by
    refine ⟨d,r,m,f0,f1,fa,pf,lo,?_,hRm.mod hMA (fun k h1 h2 h=>by omega),⟨hbo.1,hbo.2.1,hbo.2.2.1,hbo.2.2.2.1,hbo.2.2.2.2.1,hbo.2.2.2.2.2.1,by omega⟩,?_,?_,(fun k hk=>by have:=hb5 k hk;omega),hO5A,hgood1⟩
    ·rw [hn1];exact hBA
    ·rw [hn1];exact hPs.mod hMA (by omega) (fun k h1 h2 h=>by have:=hPs.base;omega)
    ·rw [hn1];exact hFa.mod hMA (fun k hk e=>by omega)
   have hMU:Mod (fun k=>U<=k/\k < Z) w (wr.setCell ⟨b,6,none⟩ (.slice a5 n5 c5)):=hMA.mono (fun k e=>by show U<=k/\k < Z;omega);have hq5:∀ x,(Value.slice a5 n5 c5).ownBlock=some x -> B0<=x/\(Value.slice a4 NL c4).ownBlock ≠ some x:=fun x e=>⟨(hb5 x e).1,fun h=>hdis x h e⟩
   have hn1s:n1.s=n.s/\n1.t=n.t+1:=by rw [hn1];exact ⟨rfl,rfl⟩
   have htk:Hid (L.foldl delivP n1=tickP n):=hid (by rw [hL,hn1];rfl);have hO4h:=hid hO4A;have hTAh:=hid hTA;have hNAh:=hid hNA;have hMUh:=hid hMU;have hq5h:=hid hq5;have hLh:=hid hL;have hn1h:=hid hn1;have hNLh:=hid hNL;have hLokh:=hid hLok;clear hO4A hO5A hNA hMU hq5 hL hn1 hNL hLok hO4 hO5 hdis hb4 hb5 hBA hmA hMA hTA hszA hLq hRq hjq hx hBr hTr;go_wp2_with fail
   go_loopg [9,45] NL (fun g s9 i wr=>∃ (k:Nat) (qa':Value),k+g=NL/\i=.int .i64 k/\NetQ U Z n.t wr b ((L.take k).foldl delivP n1) qa'/\LtsAt wr B0 (.slice a4 NL c4) (L.map PLt.lt)/\(∀ x,qa'.ownBlock=some x -> B0<=x/\(Value.slice a4 NL c4).ownBlock ≠ some x)/\Mod (fun k=>U<=k/\k < Z) w wr/\wr.heap[T]?=some (.cells #[.pointer (some ⟨b,0,none⟩)] 25 (0,0)))
   case atStart=>exact ⟨0,_,by omega,rfl,hNAh.out,hO4h.out,hq5h.out,hMUh.out,hTAh.out⟩
   case round=>
    clear hNAh hO4h hq5h hMUh hTAh;obtain ⟨k,qa',hk,rfl,hNx,hOx,hqx,hMx,hTx⟩:=hrel;replace hk:=hid hk;have hTxh:=hid hTx;have tpx:wr.cell? ⟨T,0,none⟩=some (.pointer (some ⟨b,0,none⟩)):=cellN hTx 0
    by_cases hlk:k < NL
    ·have hkL:k < L.length:=by have:=hNLh.out;omega
     have hdi:(k:Int) < (NL:Int):=by omega
     have hd:decide ((k:Int) < (NL:Int))=true:=decide_eq_true hdi;have hOs:∃ g cap' cur,Value.slice a4 NL c4=.slice (some ⟨g,0,none⟩) (L.map PLt.lt).length cap'/\B0<=g/\wr.heap[g]?=some (.cells cur 82 (0,0)):=by
      rcases hOx.2 with ⟨e,hn⟩ | ⟨g',cap,cur,e,hb,hh,-⟩
      ·rw [List.length_map] at hn;omega
      ·exact ⟨g',cap,cur,e,hb,hh⟩
     obtain ⟨g,cap',cur,hve,hgZ,hgc⟩:=hOs;rw [List.length_map,<- hNLh.out] at hve;injection hve with hv1 hv2 hv3
     subst hv1;obtain ⟨l,hl⟩:∃ l,l=L[k]:=⟨_,rfl⟩;have hlok:l.ok:=hLokh.out l (by rw [hl];exact List.getElem_mem _);have hgt:(L.map PLt.lt)[k]?=some l.lt:=by rw [List.getElem?_map,List.getElem?_eq_getElem hkL,<- hl];rfl
     obtain ⟨y,hye⟩:∃ y:Lt,y=l.lt:=⟨_,rfl⟩;rw [<- hye] at hgt;have hrow:∀ i u,i < 5 -> (ltC y)[i]?=some u -> wr.cell? ⟨g,k*5+i,none⟩=some u:=fun i u hi hu=>by
      obtain ⟨a1,c1,e1,hr,-⟩:=hOx.row;injection e1 with e1 e2 e3;subst e1
      have hfg:=flat_get ltC 5 ltC_len (L.map PLt.lt) k i y hgt hi;obtain ⟨b1,o1,e,hc⟩:=hr (k*5+i) u (hfg.trans hu);injection e with e;injection e with e1 e2;subst e1 e2
      rw [Nat.zero_add] at hc;exact hc
     obtain ⟨ytx,yrc,ydu,yhe,yse⟩:=y;have g0:wr.cell? ⟨g,k*5,none⟩=some (.string ⟨ytx.toArray⟩):=hrow 0 _ (by decide) rfl;have g1:wr.cell? ⟨g,k*5+1,none⟩=some (.int .i64 yrc):=hrow 1 _ (by decide) rfl;have g2:wr.cell? ⟨g,k*5+2,none⟩=some (.int .i64 ydu):=hrow 2 _ (by decide) rfl;have g3:wr.cell? ⟨g,k*5+3,none⟩=some (.bool yhe):=hrow 3 _ (by decide) rfl;have g4:wr.cell? ⟨g,k*5+4,none⟩=some (.int .i64 yse):=hrow 4 _ (by decide) rfl;obtain ⟨M1,hM1e⟩:∃ M1,M1=wr.heap.size:=⟨_,rfl⟩;have hM10:=heap_alloc_new wr (.cells #[.string ⟨ytx.toArray⟩,.int .i64 yrc,.int .i64 ydu,.bool yhe,.int .i64 yse] 82);have hxM:=Mod.alloc (Mod.refl (fun _=>False) wr) (.cells #[.string ⟨ytx.toArray⟩,.int .i64 yrc,.int .i64 ydu,.bool yhe,.int .i64 yse] 82);have harg:(ltC l.lt).toArray=#[.string ⟨ytx.toArray⟩,.int .i64 yrc,.int .i64 ydu,.bool yhe,.int .i64 yse]:=by rw [<- hye];rfl
     obtain ⟨nk,hnk⟩:∃ nk,nk=(L.take k).foldl delivP n1:=⟨_,rfl⟩;have hnk1:(L.take (k+1)).foldl delivP n1=delivP nk l:=by rw [List.take_succ_eq_append_getElem hkL,List.foldl_append,<- hnk,<- hl];rfl
     have hnks:nk.s<=999000:=by
      have h1:=foldl_s (L.take k) n1 hgood1 (fun l hl=>hLokh.out l (List.mem_of_mem_take hl));rw [<- hnk,List.length_take,hn1s.1] at h1;omega
     have hnkt:nk.t<=999999:=by
      have h1:=(foldl_t (L.take k) n1).1;rw [<- hnk,hn1s.2] at h1;omega
     rw [<- hnk] at hNx
     have hdl:Hid (∀ W,Ext wr W -> Calls Tryz.prog 37 #[.pointer (some ⟨b,0,none⟩),.agg #[.string ⟨ytx.toArray⟩,.int .i64 yrc,.int .i64 ydu,.bool yhe,.int .i64 yse]] W (DlvP U Z n.t b nk l qa' W)):=hid (fun W hW=>by
      rw [<- harg]
      exact deliver_any l hlok W (hG.mod (hMx.trans (hW.mono (fun _ h=>h.elim))) (fun k hk=>by have hk:U<=k:=hk.1;omega)) hU (hNx.ext hW) hnks hnkt)
     have hMxh:=hid hMx;have hOxh:=hid hOx;have hqxh:=hid hqx;have hgw:g < wr.heap.size:=lt_of_at hgc;have hTw:T < wr.heap.size:=lt_of_at hTx;have hnk1h:=hid hnk1;clear hrow hgt hv3 hv2 hNx hMx hOx hqx hTx hnk1 hnks hnkt hnk harg hye hlok;go_upto_region 17 with fail
     rw [<- hM1e] at hM10 ⊢;generalize w1_:wr.alloc (.cells #[.string ⟨ytx.toArray⟩,.int .i64 yrc,.int .i64 ydu,.bool yhe,.int .i64 yse] 82)=wy at hM10 hxM ⊢;clear w1_ g0 g1 g2 g3 g4;replace hM1e:=hid hM1e;have y0:wy.cell? ⟨M1,0,none⟩=some (.string ⟨ytx.toArray⟩):=cellN hM10 0;have y1:wy.cell? ⟨M1,1,none⟩=some (.int .i64 yrc):=cellN hM10 1;have y2:wy.cell? ⟨M1,2,none⟩=some (.int .i64 ydu):=cellN hM10 2;have y3:wy.cell? ⟨M1,3,none⟩=some (.bool yhe):=cellN hM10 3;have y4:wy.cell? ⟨M1,4,none⟩=some (.int .i64 yse):=cellN hM10 4;have tpy:wy.cell? ⟨T,0,none⟩=some (.pointer (some ⟨b,0,none⟩)):=hxM.cell tpx (fun h=>h);have hxMh:=hid hxM;clear hM10 hxM;go_wp2_with fail
     refine (hdl.out wy hxMh.out).mono ?_;rintro e wz hDz;obtain ⟨rfl,⟨qb,hNz,hoz⟩,hmz⟩:=hDz;have hmz2:Mod (fun k=>(U<=k/\k < Z) \/ qa'.ownBlock=some k) wr wz:=(hxMh.out.mono (fun _ h=>h.elim)).trans hmz;have hNz2:Hid (NetQ U Z n.t wz b ((L.take (k+1)).foldl delivP n1) qb):=hid (by rw [hnk1h.out];exact hNz);have hszy:wr.heap.size<=wy.heap.size:=hxMh.out.size
     have hOz:=hid (hOxh.out.mod hmz2 (fun q hq e=>by
      rcases e with e | e
      ·have:some g=some q:=hq
       injection this with this;omega
      ·exact (hqxh.out q e).2 hq))
     have hTz:=hid (hmz2.at hTxh.out (fun e=>by
      rcases e with e | e
      ·omega
      ·have:=(hqxh.out T e).1;omega))
     have hqz:Hid (∀ x,qb.ownBlock=some x -> B0<=x/\(Value.slice (some ⟨g,0,none⟩) NL c4).ownBlock ≠ some x):=hid (by
      intro x e;rcases hoz with h | h
      ·rw [h] at e;exact hqxh.out x e
      ·have h1:=h x e
       refine ⟨by omega,fun h2=>?_⟩;have:some g=some x:=h2
       injection this with this;omega)
     have hMz:=hid (hMxh.out.then hmz2 (fun q hq e=>by
      rcases e with e | e
      ·exact e
      ·have:=(hqxh.out q e).1;omega))
     clear hNz hoz hmz hmz2 y0 y1 y2 y3 y4 tpy hdl;go_wp2_with fail
     go_roundg (gk - 1)
     case measure=>have:=hk.out;omega
     case rel=>exact ⟨k+1,qb,by have:=hk.out;omega,by go_num,hNz2.out,hOz.out,hqz.out,hMz.out,hTz.out⟩
    ·have hk0:k=NL:=by have:=hk.out;omega
     have hndi:¬ (k:Int) < (NL:Int):=by omega
     have hd:decide ((k:Int) < (NL:Int))=false:=decide_eq_false hndi;have hkL:L.take k=L:=by rw [hk0,hNLh.out,List.take_length]
     rw [hkL,htk.out] at hNx;obtain ⟨rr,mm,c3,c1,hRB,hmb,hgdB,hbackB⟩:=netQ_tick hNx;have c3h:=hid c3;have c1h:=hid c1;have hTB:=hid hTx;have hMB:=hid hMx;replace hRB:=hid hRB;replace hbackB:=hid hbackB;have hTZ:Z<=T:=by omega
     have hqf:=hid (fun x e=>(hqx x e).1);clear hNx hOx hqx hMx hTx c1 hTxh hkL;generalize wr=wB at*;go_wp2_with fail
     go_upto_region 21 with fail
     try simp only [List.append_eq,List.cons_append,List.nil_append]
     refine wp_region_tree (.s (.q 0 (.q 1 (.q 2 (.q 3 (.q 4 (.q 5 (.q 6 (.q 7 (.q 8 (.c1 9 (.q 10 .done)))))))))))) (by as_aux_lemma=>kernel_rfl) (by as_aux_lemma=>kernel_rfl) (by as_aux_lemma=>kernel_rfl) (by decide) ?_;have hs0:=hid (Mod.drew0 (fun k=>U<=k/\k < mm) wB);refine wpTr_s (fun Wx=>Mod (fun k=>U<=k/\k < mm) wB Wx) (fun _ _=>trivial) hs0.out ?_;have hx0:=hid (Mod.drew0 (fun _=>False) wB);generalize hWd:World.drew wB=S0 at hs0 hx0 ⊢
     iterate 9 (refine wpTr_q _ (by simp only [List.getD_cons_succ,List.getD_cons_zero];rfl) (by rfl) ?_ (fun w' hC=>?_) ?_;rotate_left;(have q_T:w'.cell? ⟨T,0,none⟩=some (.pointer (some ⟨b,0,none⟩)):=hC.cell (cellN hTB.out 0) (fun h=>by have h:U<=T/\T < mm:=h;omega);have q_3:w'.cell? ⟨b,3,none⟩=some (.pointer (some ⟨rr,0,none⟩)):=hC.cell c3h.out (fun h=>by have h:U<=b/\b < mm:=h;omega);have q_1:w'.cell? ⟨b,1,none⟩=some (.int .i64 (tickP n).c):=hC.cell c1h.out (fun h=>by have h:U<=b/\b < mm:=h;omega);go_simp;first | done | with_reducible rfl | exact rfl);try simp only [Act.put,sA,sZ,sS])
     refine wpTr_c1 _ (by simp only [List.getD_cons_succ,List.getD_cons_zero];rfl) ?_;refine wpN_c (by rfl) (fun K hK=>?_);go_simp;refine (hNT U mm S0 rr n.t (tickP n).c ((hG.mod hMB.out (fun k hk=>by have hk:U<=k:=hk.1;omega)).ext hx0.out) hU (Nat.le_trans hmb.2.2.1 hx0.out.size) (hRB.out.mod hx0.out (fun _ _ _ h=>h)) hgdB.c (by omega)).mono ?_;rintro e wC ⟨rfl,hRC,hmC⟩;have hs1:=hid (hs0.out.trans hmC);refine hK.out _ _ hs1.out ?_;clear hK K;try simp only [Act.put,sA,sZ,sS]
     iterate 1 (refine wpTr_q _ (by simp only [List.getD_cons_succ,List.getD_cons_zero];rfl) (by rfl) ?_ (fun w' hC=>?_) ?_;rotate_left;(go_simp;first | done | with_reducible rfl | exact rfl);try simp only [Act.put,sA,sZ,sS])
     refine wpTr_done ?_;have hNC:=hid (hbackB.out wC (n.t+1) hRC hs1.out);have hMC:=hid (hMB.out.trans (hs1.out.mono (fun k h=>⟨h.1,by have h:U<=k/\k < mm:=h;omega⟩)));have hTC:=hid (hs1.out.at hTB.out (fun h=>by omega));clear hs0 hs1 hx0 hWd hRC hmC;obtain ⟨r2,j2,s2,now2,built2,cl2,d3,d1,hNr2,hrb2,hnow2,hqne2,hgd2,hback2⟩:=netQ_room hNC.out;have d3h:=hid d3;replace hNr2:=hid hNr2;replace hback2:=hid hback2;clear d3 d1;go_upto_region 22 with fail
     try simp only [List.append_eq,List.cons_append,List.nil_append]
     refine wp_region_tree (.s (.q 0 (.q 1 (.q 2 (.q 3 (.q 4 (.c1 5 (.c1 6 .done)))))))) (by as_aux_lemma=>kernel_rfl) (by as_aux_lemma=>kernel_rfl) (by as_aux_lemma=>kernel_rfl) (by decide) ?_;have hs0:=hid (Mod.drew0 (Eq r2) wC);refine wpTr_s (fun Wx=>Mod (Eq r2) wC Wx) (fun _ _=>trivial) hs0.out ?_;have hNr0:=hid (hNr2.out.ext (Mod.drew0 (fun _=>False) wC));generalize hWd:World.drew wC=S0 at hs0 hNr0 ⊢
     iterate 5 (refine wpTr_q _ (by simp only [List.getD_cons_succ,List.getD_cons_zero];rfl) (by rfl) ?_ (fun w' hC=>?_) ?_;rotate_left;(have q_T:w'.cell? ⟨T,0,none⟩=some (.pointer (some ⟨b,0,none⟩)):=hC.cell (cellN hTC.out 0) (fun h=>by have h:r2=T:=h;omega);have q_3:w'.cell? ⟨b,3,none⟩=some (.pointer (some ⟨r2,0,none⟩)):=hC.cell d3h.out (fun h=>by have h:r2=b:=h;omega);go_simp;first | done | with_reducible rfl | exact rfl);try simp only [Act.put,sA,sZ,sS])
     refine wpTr_c1 _ (by simp only [List.getD_cons_succ,List.getD_cons_zero];rfl) ?_;refine wpN_c (by rfl) (fun K hK=>?_);go_simp;refine (output_nil S0 hNr0.out).mono ?_;rintro e wD ⟨rfl,hND,hmD⟩;have hs1:=hid (hs0.out.trans hmD);refine hK.out _ _ hs1.out ?_;clear hK K;try simp only [Act.put,sA,sZ,sS]
     refine wpTr_c1 _ (by simp only [List.getD_cons_succ,List.getD_cons_zero];rfl) ?_;refine wpN_c (by rfl) (fun K hK=>?_);go_simp;refine (send_nil b wD).mono ?_;rintro e wE ⟨rfl,rfl⟩;refine hK.out _ _ hs1.out ?_;clear hK K;try simp only [Act.put,sA,sZ,sS]
     refine wpTr_done ?_;have hNE:=hid (hback2.out _ now2 hND hnow2 hs1.out);have hME:=hid (hMC.out.trans (hs1.out.mono (fun k e=>by have e:r2=k:=e;show U<=k/\k < Z;omega)));clear hs0 hs1 hWd hND hmD hNr0;go_wp2_with fail
     try go_ret
     rw [hR.out];exact ⟨rfl,⟨_,hNE.out,fun k e=>by have:=hqf.out k e;omega⟩,hME.out⟩
end Go.Proofs.YtcopgcdhkgenkaaGreatDoor
