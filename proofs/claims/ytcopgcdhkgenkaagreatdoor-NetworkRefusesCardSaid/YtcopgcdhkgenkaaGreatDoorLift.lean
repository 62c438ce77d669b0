import Derived.Test.YtcopgcdhkgenkaaGreatDoorV49
import Derived.Test.YtcopgcdhkgenkaaGreatDoorQ5
import Derived.ProofKit
set_option linter.all false
set_option maxRecDepth 100000
set_option maxHeartbeats 16000000
namespace Go.Proofs.YtcopgcdhkgenkaaGreatDoor
open Go.Shelf Go.RowKit Cdk Scr Nt
def Net (U:Nat) (w:World) (b:Nat) (n:Ns):Prop:=12<=U/\∃ Z qa,NetQ U Z n.t w b n qa
theorem Net.ext {U b:Nat} {w w':World} {n:Ns} (h:Net U w b n) (hx:Ext w w'):Net U w' b n:=by
 obtain ⟨h1,Z,qa,h2⟩:=h;exact ⟨h1,Z,qa,h2.ext hx⟩
theorem Net.good {U b:Nat} {w:World} {n:Ns} (h:Net U w b n):n.good:=by
 obtain ⟨-,Z,qa,d,r,m,f0,f1,fa,pf,lo,h1,h2,hb,h4,h5,h6,h7,h8⟩:=h;exact h8
theorem PsAt.clip {w:World} {m B:Nat} {pf lo:Nat -> Nat} {σ:Nat -> Int -> Int} {κ:Nat -> Int -> Option Bs} (h:PsAt w m B 8 pf lo σ κ) (hB:B<=w.heap.size):PsAt w m B 8 pf (fun i=>min (lo i) w.heap.size) σ κ:=by
 refine ⟨h.map,fun id a b=>?_,fun id id' a b c=>?_,?_,h.mB⟩
 ·obtain ⟨sm,cm,ds,dc,hp⟩:=h.ps id a b
  have l1:=lt_of_at hp.at_;have l2:sm < w.heap.size:=by obtain ⟨es,cl,hh,_⟩:=hp.seqs;exact lt_of_at hh
  have l3:cm < w.heap.size:=by obtain ⟨es,cl,hh,_⟩:=hp.copies;exact lt_of_at hh
  obtain ⟨f1,f2,f3⟩:=hp.foot;exact ⟨sm,cm,ds,dc,⟨hp.at_,hp.seqs,hp.vals,hp.copies,hp.texts,⟨by show min (lo id) w.heap.size<=_/\_ < min (lo (id+1)) w.heap.size;omega,by show min (lo id) w.heap.size<=_/\_ < min (lo (id+1)) w.heap.size;omega,by show min (lo id) w.heap.size<=_/\_ < min (lo (id+1)) w.heap.size;omega⟩,hp.ne⟩⟩
 ·have:=h.mono id id' a b c
  show min (lo id) w.heap.size<=min (lo id') w.heap.size
  omega
 ·have:=h.base
  show B<=min (lo 1) w.heap.size
  omega
theorem net_newQ (w:World) (hG:Gl w):Calls Tryz.prog 12 #[.int .i64 65536] w fun e w'=>(∃ b,e=.returned (.tuple #[.pointer (some ⟨b,0,none⟩),.int .i64 0])/\NetQ w.heap.size w'.heap.size 0 w' b Ns.new (.slice none 0 0)/\w.heap.size<=b)/\Ext w w':=by
 refine (netNew_any (n:=65536) (h:=32768) rfl (by decide) w hG).mono ?_;rintro e w' ⟨⟨b,d,r,j,s,m,cl,bf,xf,mf,pf,lo,rfl,hB,hN,hC,hO,h3,hmb,hP,hj⟩,hx⟩;have hbl:=lt_of_at hB;have hjs:=hN.js;have hsr:=hN.sr;have h0:=(hC 0 (by decide)).rm;have h0b:=(hC 0 (by decide)).mb;have hoo:=cls_order (fun c hc=>(hC c hc).mb) hO 0 3 (by decide) (by decide);have h3m:=(hC 3 (by decide)).mb;have hP':=hP.clip (by omega);refine ⟨⟨b,rfl,⟨d,r,m,w'.heap.size,w'.heap.size,.slice none 0 0,pf,_,hB,⟨j,s,0,0,cl,bf,xf,mf,hN,hj,by omega,by decide,by decide,.inl ⟨rfl,hC,hO,h3⟩⟩,⟨by omega,hmb,hbl,Nat.min_le_right _ _,Nat.le_refl _,Nat.le_refl _,Nat.le_refl _⟩,hP',?_,(fun k e=>nomatch e),?_,new_good⟩,by omega⟩,hx⟩
 ·exact RowAt.nil _ _ _
 ·exact Own.nil _ _ _ _ _
theorem net_new (w:World) (hG:Gl w):Calls Tryz.prog 12 #[.int .i64 65536] w fun e w'=>(∃ b,e=.returned (.tuple #[.pointer (some ⟨b,0,none⟩),.int .i64 0])/\Net w.heap.size w' b Ns.new/\w.heap.size<=b)/\Ext w w':=by
 refine (net_newQ w hG).mono ?_;rintro e w' ⟨⟨b,rfl,h,hb⟩,hx⟩;exact ⟨⟨b,rfl,⟨hG.size,_,_,h⟩,hb⟩,hx⟩
theorem net_time {U b:Nat} {n:Ns} (w:World) (h:Net U w b n):Calls Tryz.prog 24 #[.pointer (some ⟨b,0,none⟩)] w fun e w'=>e=.returned (.int .i64 n.t)/\w=w':=by
 obtain ⟨-,Z,qa,d,r,m,f0,f1,fa,pf,lo,h1,-⟩:=h;exact time_any w h1
theorem net_now {U b:Nat} {n:Ns} (w:World) (h:Net U w b n):Calls Tryz.prog 23 #[.pointer (some ⟨b,0,none⟩)] w fun e w'=>e=.returned (.int .i64 n.c)/\w=w':=by
 obtain ⟨-,Z,qa,d,r,m,f0,f1,fa,pf,lo,h1,-⟩:=h;exact now_any w h1
theorem net_clock {U b:Nat} {n:Ns} (x:Int) (w:World) (h:Net U w b n):Calls Tryz.prog 22 #[.pointer (some ⟨b,0,none⟩),.int .i64 x] w fun e w'=>e=.returned (.tuple #[])/\Net U w' b { n with c:=clampT x }/\Cdk.Mod (fun k=>U<=k) w w':=by
 obtain ⟨hU,Z,qa,d,r,m,f0,f1,fa,pf,lo,h1,h2,⟨a1,a2,a3,a4,a5,a6,a7⟩,h4,h5,h6,h7,h8⟩:=h;refine (clock_any x w h1).mono ?_;rintro e w' ⟨rfl,hB,hm⟩;have hqb:=fun k e=>(h7.block k e).1
 have hb1:=h4.base;refine ⟨rfl,⟨hU,Z,qa,d,r,m,f0,f1,fa,pf,lo,hB,h2.mod hm (fun k h1 h2 e=>by omega),⟨a1,a2,a3,a4,a5,a6,by have:=hm.size;omega⟩,h4.mod hm (by omega) (fun q h1 h2 e=>by omega),h5.mod hm (fun k h1 e=>by omega),h6,h7.mod hm (fun k e1 e2=>by have:=hqb k e1;omega),?_⟩,hm.mono (fun q e=>by omega)⟩;exact ⟨h8.t,⟨by show 0<=clampT x;unfold clampT;omega,by show clampT x<=1000000000;unfold clampT;omega⟩,h8.fs,h8.q,h8.ql,h8.σ,h8.κ⟩
def SetP (U b:Nat) (n:Ns) (l:List Int) (w:World) (e:Ending) (w':World):Prop:=
 if okF l then (e=.returned (.int .i64 0)/\Net U w' b { n with fs:=l }/\Cdk.Mod (fun k=>U<=k) w w') else (e=.returned (.int .i64 270)/\w=w')
theorem net_set {U b:Nat} {n:Ns} {F:Nat -> Prop} (v:Value) (l:List Int) (w:World) (h:Net U w b n) (hv:RowAt F w intC v l) (hl:l.length<=1000000):Calls Tryz.prog 14 #[.pointer (some ⟨b,0,none⟩),v] w (SetP U b n l w):=by
 obtain ⟨hU,Z,qa,d,r,m,f0,f1,fa,pf,lo,h1,h2,⟨a1,a2,a3,a4,a5,a6,a7⟩,h4,h5,h6,h7,h8⟩:=h;refine (setFates_any v l w h1 hv hl).mono ?_;intro e w' hS;unfold SfP at hS;unfold SetP;cases hok:okF l with
 | false=>rw [hok] at hS;exact hS
 | true=>
  rw [hok] at hS;simp only [if_true] at hS ⊢;obtain ⟨rfl,⟨fa',hB,hr⟩,hm⟩:=hS;have hqb:=fun k e=>h7.block k e
  have hb1:=h4.base;refine ⟨rfl,⟨hU,Z,qa,d,r,m,w.heap.size,w'.heap.size,fa',pf,lo,hB,h2.mod hm (fun k h1 h2 e=>by omega),⟨a1,a2,a3,a4,by omega,hm.size,Nat.le_refl _⟩,h4.mod hm (by omega) (fun q h1 h2 e=>by omega),hr,fun k e=>.inl (hqb k e).2,h7.mod hm (fun k e1 e2=>by have:=(hqb k e1).1;omega),?_⟩,hm.mono (fun q e=>by omega)⟩;refine ⟨h8.t,h8.c,fun f hf=>?_,h8.q,h8.ql,h8.σ,h8.κ⟩;unfold okF at hok;simp only [Bool.and_eq_true,List.all_eq_true,decide_eq_true_eq] at hok;exact hok.2 f hf
theorem net_pending {U b:Nat} {n:Ns} (w:World) (h:Net U w b n):Calls Tryz.prog 21 #[.pointer (some ⟨b,0,none⟩)] w fun e w'=>(∃ v,e=.returned v/\StrsAt (fun k=>w.heap.size<=k/\k < w'.heap.size) w' v (n.q.map (fun l=>l.c.tx)))/\Ext w w':=by
 obtain ⟨hU,Z,qa,d,r,m,f0,f1,fa,pf,lo,h1,h2,⟨a1,a2,a3,a4,a5,a6,a7⟩,h4,h5,h6,h7,h8⟩:=h;refine (pending_any (n.q.map PLt.lt) w h1 h7 (by rw [List.length_map];exact h8.ql)).mono ?_;rintro e w' ⟨⟨v,rfl,hv⟩,hx⟩;rw [List.map_map] at hv;exact ⟨⟨v,rfl,hv⟩,hx⟩
theorem net_inject {U b:Nat} {n:Ns} (p:Pl) (hp:p.ok) (hf:(∃ pa sq st x,p=.dlv pa sq st x) \/ (∃ m,p=.ans m/\(m.kd=3 \/ m.kd=4))) (w:World) (hG:Gl w) (h:Net U w b n) (hs:n.s<=1000000) (ht:n.t<=1000000):
  Calls Tryz.prog 15 #[.pointer (some ⟨b,0,none⟩),.string ⟨p.tx.toArray⟩] w fun e w'=>e=.returned (.int .i64 0)/\Net U w' b (sendP n p)/\Cdk.Mod (fun k=>U<=k) w w':=by
 obtain ⟨hU,Z,qa,hN⟩:=h;have hN':=hN;obtain ⟨d,r,m,f0,f1,fa,pf,lo,h1,h2,⟨a1,a2,a3,a4,a5,a6,a7⟩,h4,h5,h6,h7,h8⟩:=hN';have hqb:=fun k e=>(h7.block k e).1
 refine (netInject_any p hp hf w hG hN hs ht).mono ?_;rintro e w' ⟨rfl,⟨qa',hq,-⟩,hm⟩;exact ⟨rfl,⟨hU,Z,qa',hq⟩,hm.mono (fun k h=>by rcases h with rfl | h;omega;have:=hqb k h;omega)⟩
theorem net_tick {U b:Nat} {n:Ns} (w:World) (hG:Gl w) (h:Net U w b n) (hs:n.s<=990000) (ht:n.t<=999000):
  Calls Tryz.prog 13 #[.pointer (some ⟨b,0,none⟩)] w fun e w'=>e=.returned (.int .i64 0)/\Net U w' b (tickP n)/\Cdk.Mod (fun k=>U<=k) w w':=by
 obtain ⟨hU,Z,qa,hN⟩:=h;refine (tick_any nrTick_any w hG hU hN hs ht).mono ?_;rintro e w' ⟨rfl,⟨qa',hq,-⟩,hm⟩;exact ⟨rfl,⟨hU,Z,qa',by rw [(tickP_t n).1];exact hq⟩,hm.mono (fun k h=>h.1)⟩
theorem net_partner {U b:Nat} {n:Ns} (id:Nat) (hid1:1<=id/\id<=8) (w:World) (h:Net U w b n):Calls Tryz.prog 25 #[.pointer (some ⟨b,0,none⟩),.int .i64 id] w fun e w'=>(∃ p,e=.returned (.tuple #[.pointer (some ⟨p,0,none⟩),.bool true])/\∃ F,PartIs F w p id (n.σ id) (n.κ id))/\w=w':=by
 obtain ⟨hU,Z,qa,d,r,m,f0,f1,fa,pf,lo,h1,h2,hb,h4,h5,h6,h7,h8⟩:=h;refine (partner_any id hid1 w h1 h4).mono ?_;rintro e w' ⟨rfl,rfl⟩;exact ⟨⟨_,rfl,_,h4.ps id hid1.1 hid1.2⟩,rfl⟩
theorem net_partnerNone {U b:Nat} {n:Ns} (x:Int) (hx:x < 1 \/ 8 < x) (w:World) (h:Net U w b n):Calls Tryz.prog 25 #[.pointer (some ⟨b,0,none⟩),.int .i64 x] w fun e w'=>e=.returned (.tuple #[.pointer none,.bool false])/\w=w':=by
 obtain ⟨hU,Z,qa,d,r,m,f0,f1,fa,pf,lo,h1,h2,hb,h4,h5,h6,h7,h8⟩:=h;exact partner_none x hx w h1 h4
theorem net_injectBad {U b:Nat} {n:Ns} (tx:Bs) (htx:tx.length<=1000000) (er:Int) (hd:decM tx=.error er) (w:World) (hG:Gl w) (h:Net U w b n) (hs:n.s<=1000000) (ht:n.t<=1000000):
  Calls Tryz.prog 15 #[.pointer (some ⟨b,0,none⟩),.string ⟨tx.toArray⟩] w fun e w'=>e=.returned (.int .i64 er)/\er ≠ 0/\Ext w w':=by
 obtain ⟨hU,Z,qa,d,r,m,f0,f1,fa,pf,lo,h1,h2,⟨a1,a2,a3,a4,a5,a6,a7⟩,h4,h5,h6,h7,h8⟩:=h;have hb1:=h4.base;have hl1:=h4.mono 1 9 (by decide) (by decide) (by decide);refine (inject_any (F:=fun k=>f0<=k/\k < f1) Z tx htx w hG h1 h7 (by omega) h5 (fun k hk=>⟨by omega,fun e=>by have:=h6 k e;omega,by omega⟩) ⟨hs,by rw [List.length_map];exact h8.ql⟩ ⟨h8.t,ht⟩ h8.fs).mono ?_;intro e w' hI;rw [hd] at hI;exact hI
theorem deliver_law (pa sq st:Nat) (x:Bs) (hp:(Pl.dlv pa sq st x).ok) (w:World) (hG:Gl w):
  Calls Tryz.prog 16 #[.int .i64 pa,.int .i64 sq,.int .i64 st,.string ⟨x.toArray⟩] w fun e w'=>e=.returned (.string ⟨(Pl.dlv pa sq st x).tx.toArray⟩)/\Ext w w':=by
 have hxl:x.length<=8192:=hp.2.2.2.2.2.2;have hsm:=hid (sum_any x w hG (by omega));have hdf:=hid (Dw.diff_any x hxl w hG);have hen:=hid (fun W (h:Gl W)=>msgEncode_any (dlvM pa sq st x) W h (dlv_v hp));have hms:(msC (dlvM pa sq st x)).toArray=#[.int .i64 1,.int .i64 pa,.int .i64 sq,.int .i64 st,.int .i64 0,.int .i64 (crc x),.string ⟨(diff0 x).toArray⟩]:=rfl;rw [hms] at hen;have htx:(Pl.dlv pa sq st x).tx=encM (dlvM pa sq st x):=rfl;rw [htx];obtain ⟨T,hT⟩:∃ T,T=(⟨(encM (dlvM pa sq st x)).toArray⟩:ByteArray):=⟨_,rfl⟩;rw [<- hT] at hen ⊢;obtain ⟨X,hX⟩:∃ X,X=(⟨x.toArray⟩:ByteArray):=⟨_,rfl⟩;rw [<- hX] at hsm hdf ⊢;obtain ⟨D,hD⟩:∃ D,D=(⟨(diff0 x).toArray⟩:ByteArray):=⟨_,rfl⟩;rw [<- hD] at hdf hen;obtain ⟨C,hC⟩:∃ C,C=crc x:=⟨_,rfl⟩;rw [<- hC] at hsm hen;replace hT:=hid hT;replace hX:=hid hX;replace hD:=hid hD;replace hC:=hid hC;clear hms htx hp;go_enter Tryz.func16,Tryz.ntmps16;go_wp2_with fail
 refine hsm.out.mono ?_;rintro e w0 ⟨rfl,hw0⟩;obtain rfl:w=w0:=hw0;go_wp2_with fail
 refine hdf.out.mono ?_;rintro e w1 ⟨rfl,hx1⟩;have hx1':=hid hx1;clear hx1;go_wp2_with fail
 refine (hen.out w1 (hG.ext hx1'.out)).mono ?_;rintro e w2 ⟨rfl,hx2⟩;have hx2':=hid (hx1'.out.trans hx2);clear hx2;go_wp2_with fail
 go_ret;exact ⟨rfl,hx2'.out⟩
theorem holds_law {U b:Nat} {n:Ns} (pa st:Nat) (hpa:1<=pa/\pa<=8) (w:World) (h:Net U w b n):
  Calls Tryz.prog 17 #[.pointer (some ⟨b,0,none⟩),.int .i64 pa,.int .i64 st] w fun e w'=>e=.returned (.tuple #[strV ((n.κ pa st).getD []),.bool (n.κ pa st).isSome])/\w=w':=by
 have hpt:=hid (net_partner pa hpa w h);clear h;unfold strV;generalize hκ:n.κ pa st=o;have hκ':=hid hκ;clear hκ;go_enter Tryz.func17,Tryz.ntmps17;go_wp2_with fail
 refine hpt.out.mono ?_;rintro e w0 ⟨⟨p,rfl,F,hF⟩,hw0⟩;obtain rfl:w=w0:=hw0;have htx:=hid (partText_any (st:Int) w hF);unfold strV at htx;rw [hκ'.out] at htx;clear hF;go_wp2_with fail
 refine htx.out.mono ?_;rintro e w0 ⟨rfl,hw0⟩;obtain rfl:w=w0:=hw0;go_wp2_with fail
 go_ret2
 exact ⟨rfl,rfl⟩
def sRain:Bs:=[114,97,105,110]
def sLost:Bs:=[108,111,115,116]
def sn1:Ns:={ Ns.new with fs:=[6,1] }
def sn2:Ns:=sendP sn1 (.dlv 3 1 2 sRain)
def sn3:Ns:=sendP sn2 (.dlv 3 2 2 sLost)
def sn4:Ns:=tickP sn3
def sn5:Ns:=tickP sn4
def sn6:Ns:=tickP sn5
theorem sn_facts:sn3.q.length=1/\sn5.κ 3 2=none/\sn6.κ 3 2=some sRain/\sn6.q.length=1/\sn6.t=3/\sn6.c=3:=⟨by kernel_rfl,by kernel_rfl,by kernel_rfl,by kernel_rfl,by kernel_rfl,by kernel_rfl⟩
theorem sn_nums:(sn1.s=0/\sn1.t=0)/\(sn2.s=1/\sn2.t=0)/\(sn3.s=1/\sn3.t=0)/\(sn4.s=1/\sn4.t=1)/\(sn5.s=1/\sn5.t=2):=⟨⟨by kernel_rfl,by kernel_rfl⟩,⟨by kernel_rfl,by kernel_rfl⟩,⟨by kernel_rfl,by kernel_rfl⟩,⟨by kernel_rfl,by kernel_rfl⟩,⟨by kernel_rfl,by kernel_rfl⟩⟩
theorem ints_new (w:World) (l:List Int) (n:Nat) (hn:l.length=n) (h:n<=1000):RowAt (fun _=>True) (w.alloc (.cells (l.map (Value.int .i64)).toArray 3)) intC (.slice (some ⟨w.heap.size,0,none⟩) n n) l:=by
 subst hn;have:=RowIs.new w (l.map (Value.int .i64)) 3;rw [<- flat_ints] at this ⊢;exact ⟨_,_,rfl,this,fun _ _ _ _=>trivial,Nat.le_refl _,⟨by omega,by omega⟩,fun e=>nomatch e⟩
theorem okF_3:okF [6,1,25]=false:=by kernel_rfl
theorem okF_2:okF [6,1]=true:=by kernel_rfl
theorem decM_x:∃ er,decM [120]=.error er:=by
 have h:(match decM [120] with | .error _=>true | .ok _=>false)=true:=by kernel_rfl
 cases hd:decM [120] with
 | error er=>exact ⟨er,rfl⟩
 | ok m=>rw [hd] at h;cases h
theorem sane_law (w:World) (hG:Gl w):Calls Tryz.prog 9 #[] w fun e w'=>e=.returned (.bool true)/\Ext w w':=by
 obtain ⟨U,hU⟩:∃ U,U=w.heap.size:=⟨_,rfl⟩;have hnew:=hid (net_new w hG);rw [<- hU] at hnew;have hUw:=hid hU;have hG0:=hid hG;have hz:=hid (fun W=>netNew_zero W);have hpr:(Pl.dlv 3 1 2 sRain).ok:=⟨by decide,by decide,by decide,by decide,by decide,by decide,by decide⟩;have hpl:(Pl.dlv 3 2 2 sLost).ok:=⟨by decide,by decide,by decide,by decide,by decide,by decide,by decide⟩;have hd1:=hid (fun W (h:Gl W)=>deliver_law 3 1 2 sRain hpr W h);have hd2:=hid (fun W (h:Gl W)=>deliver_law 3 2 2 sLost hpl W h);obtain ⟨er,her⟩:=decM_x;have hset3:=hid (fun (b:Nat) (W:World) (h:Net U W b Ns.new)=>net_set (.slice (some ⟨W.heap.size,0,none⟩) 3 3) [6,1,25] (W.alloc (.cells #[.int .i64 6,.int .i64 1,.int .i64 25] 3)) (h.ext (Mod.alloc (Mod.refl (fun _=>False) W) _)) (ints_new W [6,1,25] 3 rfl (by decide)) (by decide));have hset2:=hid (fun (b:Nat) (W:World) (h:Net U W b Ns.new)=>net_set (.slice (some ⟨W.heap.size,0,none⟩) 2 2) [6,1] (W.alloc (.cells #[.int .i64 6,.int .i64 1] 3)) (h.ext (Mod.alloc (Mod.refl (fun _=>False) W) _)) (ints_new W [6,1] 2 rfl (by decide)) (by decide));unfold SetP at hset3 hset2;simp only [okF_3,okF_2,if_true,Bool.false_eq_true,if_false] at hset3 hset2;obtain ⟨⟨s1,t1⟩,⟨s2,t2⟩,⟨s3,t3⟩,⟨s4,t4⟩,⟨s5,t5⟩⟩:=sn_nums;obtain ⟨f1,f2,f3,f4,f5,f6⟩:=sn_facts;have hin1:=hid (fun (b:Nat) (W:World) (hG:Gl W) (h:Net U W b sn1)=>net_inject (.dlv 3 1 2 sRain) hpr (.inl ⟨_,_,_,_,rfl⟩) W hG h (by omega) (by omega));have hin2:=hid (fun (b:Nat) (W:World) (hG:Gl W) (h:Net U W b sn2)=>net_inject (.dlv 3 2 2 sLost) hpl (.inl ⟨_,_,_,_,rfl⟩) W hG h (by omega) (by omega));have hin3:=hid (fun (b:Nat) (W:World) (hG:Gl W) (h:Net U W b sn3)=>net_injectBad [120] (by decide) er her W hG h (by omega) (by omega));have htk3:=hid (fun (b:Nat) (W:World) (hG:Gl W) (h:Net U W b sn3)=>net_tick W hG h (by omega) (by omega));have htk4:=hid (fun (b:Nat) (W:World) (hG:Gl W) (h:Net U W b sn4)=>net_tick W hG h (by omega) (by omega));have htk5:=hid (fun (b:Nat) (W:World) (hG:Gl W) (h:Net U W b sn5)=>net_tick W hG h (by omega) (by omega));have hh5:=hid (fun (b:Nat) (W:World) (h:Net U W b sn5)=>holds_law 3 2 (by decide) W h);have hh6:=hid (fun (b:Nat) (W:World) (h:Net U W b sn6)=>holds_law 3 2 (by decide) W h);simp only [show ((3:Nat):Int)=3 from rfl,show ((2:Nat):Int)=2 from rfl,f2,f3,Option.getD_none,Option.getD_some,Option.isSome_none,Option.isSome_some,strV] at hh5 hh6;have hpd:=hid (fun (b:Nat) (n:Ns) (W:World) (h:Net U W b n)=>net_pending W h);have hpn:=hid (fun (b:Nat) (W:World) (h:Net U W b sn6)=>net_partnerNone 9 (.inr (by decide)) W h);have htm:=hid (fun (b:Nat) (W:World) (h:Net U W b sn6)=>net_time W h);have hnw:=hid (fun (b:Nat) (W:World) (h:Net U W b sn6)=>net_now W h);rw [f5] at htm;rw [f6] at hnw;obtain ⟨T1,hT1⟩:∃ T,T=(⟨(Pl.dlv 3 1 2 sRain).tx.toArray⟩:ByteArray):=⟨_,rfl⟩;obtain ⟨T2,hT2⟩:∃ T,T=(⟨(Pl.dlv 3 2 2 sLost).tx.toArray⟩:ByteArray):=⟨_,rfl⟩;rw [<- hT1] at hd1 hin1;rw [<- hT2] at hd2 hin2;obtain ⟨R,hR⟩:∃ R,R=(⟨sRain.toArray⟩:ByteArray):=⟨_,rfl⟩;rw [<- hR] at hd1 hh6;have hRe:(R.toList==(⟨#[114,97,105,110]⟩:ByteArray).toList)=true:=by rw [hR];kernel_rfl
 have hRq:R=(⟨#[114,97,105,110]⟩:ByteArray):=by rw [hR];rfl
 subst hRq;have herr:=hid her;replace hT1:=hid hT1;replace hT2:=hid hT2;have hf1:=hid f1;have hf4:=hid f4;clear hG hpr hpl her s1 s2 s3 s4 s5 t1 t2 t3 t4 t5 f1 f2 f3 f4 f5 f6 hU hR hRe;go_enter Tryz.func9,Tryz.ntmps9;go_wp2_with fail
 refine hnew.out.mono ?_;rintro e w1 ⟨⟨b,rfl,hN,hbU⟩,hx⟩;have hN1:=hid hN;have hx1:=hid hx;clear hN hx hnew hbU;go_wp2_with fail
 refine (hz.out w1).mono ?_;rintro e w0 ⟨rfl,hw0⟩;obtain rfl:w1=w0:=hw0;go_wp2_with fail
 refine (hd1.out w1 (hG0.out.ext hx1.out)).mono ?_;rintro e w2 ⟨rfl,hx⟩;have hx2:=hid (hx1.out.trans hx);have hN2:=hid (hN1.out.ext hx);clear hx hN1 hx1;go_wp2_with fail
 have hxA:=Mod.alloc (Mod.refl (fun _=>False) w2) (.cells #[.int .i64 6,.int .i64 1,.int .i64 25] 3);refine (hset3.out b w2 hN2.out).mono ?_;rintro e w3 ⟨rfl,hw3⟩;rw [hw3] at hxA;have hN3:=hid (hN2.out.ext hxA);have hx3:=hid (hx2.out.trans hxA);clear hxA hN2 hx2 hw3 hset3;go_wp2_with fail
 have hxA:=hid (Mod.alloc (Mod.refl (fun _=>False) w3) (.cells #[.int .i64 6,.int .i64 1] 3));refine (hset2.out b w3 hN3.out).mono ?_;rintro e w4 ⟨rfl,hN,hm⟩;have hN4:Hid (Net U w4 b sn1):=hid hN;have hx4:Hid (Ext w w4):=hid ((hx3.out.trans hxA.out).then hm (fun k hk e=>by have:=hUw.out;omega));clear hxA hN hm hN3 hx3 hset2;go_wp2_with fail
 refine (hin1.out b w4 (hG0.out.ext hx4.out) hN4.out).mono ?_;rintro e w5 ⟨rfl,hN,hm⟩;have hN5:Hid (Net U w5 b sn2):=hid hN;have hx5:Hid (Ext w w5):=hid (hx4.out.then hm (fun k hk e=>by have:=hUw.out;omega));clear hN hm hN4 hx4;go_wp2_with fail
 refine (hd2.out w5 (hG0.out.ext hx5.out)).mono ?_;rintro e w6 ⟨rfl,hx⟩;have hx6:=hid (hx5.out.trans hx);have hN6:=hid (hN5.out.ext hx);clear hx hN5 hx5;go_wp2_with fail
 refine (hin2.out b w6 (hG0.out.ext hx6.out) hN6.out).mono ?_;rintro e w7 ⟨rfl,hN,hm⟩;have hN7:Hid (Net U w7 b sn3):=hid hN;have hx7:Hid (Ext w w7):=hid (hx6.out.then hm (fun k hk e=>by have:=hUw.out;omega));clear hN hm hN6 hx6;go_wp2_with fail
 refine (hin3.out b w7 (hG0.out.ext hx7.out) hN7.out).mono ?_;rintro e w8 ⟨rfl,hne,hx⟩;have hne':(er !=0)=true:=bne_iff_ne.2 hne;have hne2:(er==0)=false:=beq_eq_false_iff_ne.2 hne;have hx8:=hid (hx7.out.trans hx);have hN8:=hid (hN7.out.ext hx);clear hx hN7 hx7;go_wp2_with fail
 refine (hpd.out b sn3 w8 hN8.out).mono ?_;rintro e w9 ⟨⟨v,rfl,hv⟩,hx⟩;obtain ⟨ao,cp,rfl,-⟩:=hv;rw [List.length_map,hf1.out];have hx9:=hid (hx8.out.trans hx);have hN9:=hid (hN8.out.ext hx);clear hx hN8 hx8;go_wp2_with fail
 refine (htk3.out b w9 (hG0.out.ext hx9.out) hN9.out).mono ?_;rintro e w10 ⟨rfl,hN,hm⟩;have hN10:Hid (Net U w10 b sn4):=hid hN;have hx10:Hid (Ext w w10):=hid (hx9.out.then hm (fun k hk e=>by have:=hUw.out;omega));clear hN hm hN9 hx9;go_wp2_with fail
 refine (htk4.out b w10 (hG0.out.ext hx10.out) hN10.out).mono ?_;rintro e w11 ⟨rfl,hN,hm⟩;have hN11:Hid (Net U w11 b sn5):=hid hN;have hx11:Hid (Ext w w11):=hid (hx10.out.then hm (fun k hk e=>by have:=hUw.out;omega));clear hN hm hN10 hx10;go_wp2_with fail
 refine (hh5.out b w11 hN11.out).mono ?_;rintro e w0 ⟨rfl,hw0⟩;obtain rfl:w11=w0:=hw0;go_wp2_with fail
 refine (htk5.out b w11 (hG0.out.ext hx11.out) hN11.out).mono ?_;rintro e w12 ⟨rfl,hN,hm⟩;have hN12:Hid (Net U w12 b sn6):=hid hN;have hx12:Hid (Ext w w12):=hid (hx11.out.then hm (fun k hk e=>by have:=hUw.out;omega));clear hN hm hN11 hx11;go_wp2_with fail
 refine (hh6.out b w12 hN12.out).mono ?_;rintro e w0 ⟨rfl,hw0⟩;obtain rfl:w12=w0:=hw0;go_wp2_with fail
 refine (hpd.out b sn6 w12 hN12.out).mono ?_;rintro e w13 ⟨⟨v,rfl,hv⟩,hx⟩;obtain ⟨ao',cp',rfl,-⟩:=hv;rw [List.length_map,hf4.out];have hx13:=hid (hx12.out.trans hx);have hN13:=hid (hN12.out.ext hx);clear hx hN12 hx12;go_wp2_with fail
 refine (hpn.out b w13 hN13.out).mono ?_;rintro e w0 ⟨rfl,hw0⟩;obtain rfl:w13=w0:=hw0;go_wp2_with fail
 refine (htm.out b w13 hN13.out).mono ?_;rintro e w0 ⟨rfl,hw0⟩;obtain rfl:w13=w0:=hw0;go_wp2_with fail
 refine (hnw.out b w13 hN13.out).mono ?_;rintro e w0 ⟨rfl,hw0⟩;obtain rfl:w13=w0:=hw0;go_wp2_with fail
 go_ret;exact ⟨rfl,hx13.out⟩
open Go.ChangeShapes Go.WideShapes Go.ChangeAt Go.RowKit Cdk Scr
def Wl {H:Type} (t:TypeId) (d:DataW H):Prop:=∀ n ∈ d.weights Tryz.prog t,n<=140737488351232
theorem Wl.mem {H:Type} {e:TypeId} {n:Nat}:∀ {l:List (DataW H)} {d:DataW H},d ∈ l -> n ∈ d.weights Tryz.prog e -> n ∈ DataW.weightsAll Tryz.prog e l
 | x::r,d,h,hn=>by
  simp only [DataW.weightsAll,List.mem_append];rcases List.mem_cons.1 h with rfl | h
  ·exact Or.inl hn
  ·exact Or.inr (Wl.mem h hn)
theorem Wl.slice {H:Type} {t e:TypeId} {len m:Nat} {D:Nat -> DataW H} (hu:Tryz.prog.underlying t=some (.slice e)) (h:Wl t (.slice ((List.range len).map D) ((List.range m).map fun j=>D (len+j)))):(len+m)*Tryz.prog.bytesOf e<=140737488351232/\∀ i,i < len -> Wl e (D i):=by
 constructor
 ·have:=h ((len+m)*Tryz.prog.bytesOf e) (by simp [DataW.weights,hu])
  exact this
 ·intro i hi n hn
  refine h n ?_;simp only [DataW.weights,hu,List.mem_cons,List.mem_append];exact Or.inr (Or.inl (Wl.mem (List.mem_map.2 ⟨i,List.mem_range.2 hi,rfl⟩) hn))
theorem Wl.string {H:Type} {t:TypeId} {b:List UInt8} (h:Wl (H:=H) t (.lit (.string b))):b.length<=140737488351232:=h b.length (by simp [DataW.weights])
theorem Wl.of_each {H:Type} {ts:List TypeId} {ds:List (DataW H)} (h:(DataW.weightsEach Tryz.prog ts ds).all (·<=reachBytes)=true) {j:Nat} {t:TypeId} {d:DataW H} (ht:ts[j]?=some t) (hd:ds[j]?=some d):Wl t d:=fun n hn=>by
 have:=List.all_eq_true.1 h n (DataW.weights_mem_each ht hd n hn)
 exact of_decide_eq_true (p:=n<=reachBytes) this
abbrev OkIs (l:List Int):Prop:=∀ x ∈ l,I64 x
theorem i64_of_wf {n:Int} (h:(Lit.int .i64 n).wf=true):I64 n:=by
 simp only [Lit.wf,Bool.and_eq_true,decide_eq_true_eq] at h;exact h
section
variable {H:Type} {enc:TypeId × Value -> H} {W:World}
theorem one_int {n:Nat} {cs:List Value} {x:DataW H × List MemPlace} (h:DataW.trod enc Tryz.prog W 0 (fun _=>true) true n 3 cs=some x):∃ a,cs=[.int .i64 a]/\I64 a:=by
 obtain ⟨a,ha,_,wa⟩:=DataW.trod_int Tryz.underlying3 h;exact ⟨a,ha,i64_of_wf wa⟩
theorem rows_open {α:Type} [Inhabited α] {f:α -> List Value} {size:Nat} (hfl:∀ x,(f x).length=size) (hs:0 < size) {Q:α -> Prop} {e t:TypeId} (ht:Tryz.prog.underlying t=some (.slice e)) (hc:Tryz.prog.cellsOf e=size) (hb:0 < Tryz.prog.bytesOf e)
  (hel:∀ n cs (x:DataW H × List MemPlace),DataW.trod enc Tryz.prog W 0 (fun _=>true) true n e cs=some x -> Wl e x.1 -> ∃ o,cs=f o/\Q o) {n:Nat} {cs:List Value} {x:DataW H × List MemPlace} (h:DataW.trod enc Tryz.prog W 0 (fun _=>true) true n t cs=some x) (hl:Wl t x.1):
  ∃ v l,cs=[v]/\RowAt (fun k=>k < W.heap.size) W f v l/\∀ o ∈ l,Q o:=by
 rcases Go.Deep.open_slice ht h with ⟨rfl,rfl⟩ | ⟨a,len,cap,m,n',D,Pl,rfl,-,hlc,hm,hmm,rfl,hx⟩
 ·exact ⟨_,[],rfl,RowAt.nil _ _ _,fun _ h=>nomatch h⟩
 ·rw [if_pos rfl] at hmm
  subst hmm;obtain ⟨hw1,hw2⟩:=Wl.slice ht hl;rw [hc] at hx;have hw3:len+(m - len)<=140737488351232:=Nat.le_trans (Nat.le_mul_of_pos_right _ hb) hw1;have hmx:maxLen=9223372036854775807:=by decide
  obtain ⟨V,hV⟩:=Go.Deep.choose_lt (α:=List Value) (p:=fun i o=>W.cells? 0 (a.add (i*size)) size=some o/\DataW.trod enc Tryz.prog W 0 (fun _=>true) true n' e o=some (D i,Pl i)) (n:=m) (fun i hi=>by
   obtain ⟨cs',h1,h2⟩:=hx i hi
   exact ⟨cs',h1,h2⟩)
  obtain ⟨U,hU⟩:=Go.Deep.choose_lt (α:=α) (p:=fun i o=>V i=f o/\Q o) (n:=len) (fun i hi=>hel n' _ _ (hV i (by omega)).2 (hw2 i hi));have hsp:0 < m -> a.spot=none/\a.block < W.heap.size:=fun h0=>by
   have h00:=(World.cells?_some (hV 0 h0).1).2.2 0 hs;have hlen:=(World.cells?_some (hV 0 h0).1).2.1;have hv:(V 0)[0]?=some ((V 0)[0]'(by omega)):=List.getElem?_eq_getElem (by omega);rw [hv] at h00;obtain ⟨b,off,spot⟩:=a;cases spot with
   | none=>
    refine ⟨rfl,?_⟩;unfold World.cell? at h00;simp only [Addr.add] at h00;split at h00
    ·rename_i hh
     have:=lt_of_at hh;simpa [Addr.add] using this
    ·cases h00
   | some s=>
    simp [Addr.add,World.cell?] at h00;split at h00 <;> simp at h00
  refine ⟨_,(List.range len).map U,rfl,⟨some a,m,by rw [List.length_map,List.length_range],fun j u hj=>?_,fun b off e h0=>?_,by rw [List.length_map,List.length_range];exact hlc,⟨by rw [List.length_map,List.length_range];omega,by omega⟩,fun e=>nomatch e⟩,fun o ho=>?_⟩
  ·have hj':j < len*size:=by
    have:=(List.getElem?_eq_some_iff.1 hj).1;rw [flat_length _ size hfl,List.length_map,List.length_range] at this;exact this
   have hk:j / size < len:=Nat.div_lt_of_lt_mul (by rw [Nat.mul_comm];exact hj');have hg:=flat_get f size hfl ((List.range len).map U) (j / size) (j % size) (U (j / size)) (by rw [List.getElem?_map,List.getElem?_range hk];rfl) (Nat.mod_lt _ hs);have hjj:j / size*size+j % size=j:=by rw [Nat.mul_comm];exact Nat.div_add_mod j size
   rw [hjj,hj,<- (hU _ hk).1] at hg;have hkm:j / size < m:=Nat.lt_of_lt_of_le hk (by omega);have hcc:=(World.cells?_some (hV (j / size) hkm).1).2.2 (j % size) (Nat.mod_lt _ hs);rw [<- hg,Go.Deep.add_add,hjj] at hcc;obtain ⟨hs0,-⟩:=hsp (Nat.lt_of_le_of_lt (Nat.zero_le _) hkm);obtain ⟨b,off,spot⟩:=a;simp only at hs0;subst hs0;rw [Addr.add_lit] at hcc;exact ⟨b,off,rfl,hcc⟩
  ·have e':a=⟨b,off,none⟩:=Option.some.inj e
   have:=(hsp h0).2;rw [e'] at this;exact this
  ·obtain ⟨i,hi,rfl⟩:=List.mem_map.1 ho
   exact (hU i (List.mem_range.1 hi)).2
theorem hints_row {n:Nat} {cs:List Value} {x:DataW H × List MemPlace} (h:DataW.trod enc Tryz.prog W 0 (fun _=>true) true n 31 cs=some x) (hl:Wl 31 x.1):∃ v l,cs=[v]/\IntsAt (fun k=>k < W.heap.size) W v l/\OkIs l:=
 rows_open (f:=intC) (Q:=I64) intC_len (by decide) Tryz.underlying31 (by kernel_rfl) (by decide+kernel) (fun n cs x h _=>one_int h) h hl
end
section
variable {H:Type} {enc:TypeId × Value -> H} {W:World}
end
theorem string_open {H:Type} {enc:TypeId × Value -> H} {W:World} {v:Value} {d:DataW H} {p:List MemPlace} {b0:Nat} (hval:Value.okWide Tryz.prog W .any b0 9 v) (h:DataW.Trod enc Tryz.prog W 0 (fun _=>true) true 9 v d p) (hl:Wl 9 d):
  ∃ s:ByteArray,v=.string s/\s.size<=140737488351232:=by
 obtain ⟨s,rfl⟩:=okWide_string Tryz.underlying9 hval;obtain ⟨n,h⟩:=h;obtain ⟨s',h1,h2,-⟩:=DataW.trod_string Tryz.underlying9 h;have:(Value.string s).cells.toList=[Value.string s]:=rfl;rw [this] at h1;injection h1 with h1 _
 injection h1 with h1
 subst h1;have h3:d=.lit (.string s.data.toList):=congrArg Prod.fst h2;subst h3;have:=Wl.string hl;exact ⟨s,rfl,by simpa using this⟩
end Go.Proofs.YtcopgcdhkgenkaaGreatDoor
namespace Cdk
open Go Go.ChangeShapes Go.WideShapes Go.ChangeAt Go.RowKit
theorem carried {P:Program} (hl:laidOutB P=true) {H:Type} {enc:TypeId × Value -> H} {W W':World} (hx:Ext W W'):∀ (ts:List TypeId) (vs:List Value) (ds:List (DataW H)) (ps:List MemPlace),
  ts.all (fun t=>P.readableRec t && decide (t < P.types.size))=true -> DataW.TrodAll enc P W 0 (fun _=>true) true ts vs ds ps →
  DataW.TrodAll enc P W' 0 (fun b=>decide (b < W.heap.size)) true ts vs ds ps
 | [],_,_,_,_,h=>by
  obtain ⟨rfl,rfl,rfl⟩:=trodAll_nil h
  rfl
 | t::ts,_,_,_,hr,h=>by
  have hlt:=DataW.TrodAll.lt h;obtain ⟨v,vs,d,ds,p,q,rfl,rfl,rfl,h1,h2⟩:=trodAll_cons h;rw [List.all_cons,Bool.and_eq_true,Bool.and_eq_true,decide_eq_true_eq] at hr;exact ⟨p,q,Below.trod hl hr.1.1 hr.1.2 h1 (hx.below (Nat.le_refl _) (fun _ hk=>nomatch hk)) (fun x hp=>hlt x (List.mem_append_left _ hp)),carried hl hx ts vs ds q hr.2 h2,rfl⟩
theorem post_true {P:Program} (hl:laidOutB P=true) {tb:TypeId} (htb:P.underlying tb=some .bool) {H:Type} {enc:TypeId × Value -> H} {f:Func} {s:ChangeSpec} {apart fresh handsOn:Bool} {W W':World} {args:Array Value} {ds gs:List (DataW H)} {before:List MemPlace}
  (hW:DataW.Whole enc P f.params.toList s.vars apart W args.toList ds gs before) (hr:f.params.toList.all (fun t=>P.readableRec t && decide (t < P.types.size))=true)
  (hv:s.vars=[]) (hf:f.resultTypes=#[tb]) (h1:(s.fn H (ds++gs)).results=[.lit (.bool true)]) (h2:(s.fn H (ds++gs)).args=ds) (h3:(s.fn H (ds++gs)).vars=[]) (hx:Ext W W'):
  s.post enc P f apart fresh handsOn false W args (.bool true) W':=by
 have hW':=hW;obtain ⟨p,q,hA,hV,rfl,-,-⟩:=hW;refine ⟨ds,gs,_,[],p,[],hW',?_,?_,?_,Below.frame (hx.below (Nat.le_refl _) (fun _ hk=>nomatch hk)) _,fun h=>nomatch h⟩
 ·rw [h1,hf]
  exact trodAll_mk1 (shut_bool htb true)
 ·rw [h2]
  exact carried hl hx _ _ _ _ hr hA
 ·rw [hv,h3]
  rfl
end Cdk
