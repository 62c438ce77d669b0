import Derived.Test.YtjjfphalcibjfaaGreatDoorU1
import Derived.Test.YtjjfphalcibjfaaGreatDoorLoadQ
import Derived.Test.YtjjfphalcibjfaaGreatDoorC15
set_option maxRecDepth 100000
set_option maxHeartbeats 16000000
namespace Go.Proofs.YtjjfphalcibjfaaGreatDoor
open Go.RowKit Cdk Scr
theorem zkt (a1:Option Addr) (n1 c1:Nat) (a2:Option Addr) (n2 c2:Nat) (a3:Option Addr) (n3 c3:Nat) (f:Fc) (w:World) (h:FcAt (fun k=>k < w.heap.size) w ⟨.slice a1 n1 c1,.slice a2 n2 c2,.slice a3 n3 c3⟩ f):
  Calls Tryz.prog 27 #[.agg (fcA a1 n1 c1 a2 n2 c2 a3 n3 c3 f)] w fun e w'=>e=.returned (.bool (vFc f))/\Ext w w':=by
 obtain ⟨r,hr⟩:∃ r,r=vFc f:=⟨_,rfl⟩;rw [<- hr];unfold vFc at hr;have k1:=Y (fun W=>zaT f.n 0 500 W);have k2:=Y (fun W=>zaT f.tm 0 1000000000 W);have k3:=Y (fun W (hX:Ext w W)=>zlS a1 n1 c1 a2 n2 c2 a3 n3 c3 f W ((h.ext hX).mono (fun k hk=>Nat.lt_of_lt_of_le hk hX.size)));have k4:=Y (fun W (hX:Ext w W)=>(h.ext hX).mono (F':=fun k=>k < W.heap.size) (fun k hk=>Nat.lt_of_lt_of_le hk hX.size));obtain ⟨u,hu⟩:∃ u,u=zaO f:=⟨_,rfl⟩;unfold zn0 at k3;rw [<- hu] at hr k3;clear h hu;generalize rng f.n 0 500=b1 at k1 hr;generalize rng f.tm 0 1000000000=b2 at k2 hr;obtain ⟨u,ub⟩:=u;simp only at k3 hr;generalize hd:decide (f=u)=bs at hr;replace hd:=Y hd;replace hr:=Y hr;unfold fcA;go_enter Tryz.func27,Tryz.ntmps27;go_upto_region 1 with (fail)
 have hA:=heap_alloc_new w (.cells (y0 f a1 n1 c1 a2 n2 c2 a3 n3 c3) 28);have hx:=Mod.alloc (Mod.refl (fun _=>False) w) (.cells (y0 f a1 n1 c1 a2 n2 c2 a3 n3 c3) 28);have hsz:(w.alloc (.cells (y0 f a1 n1 c1 a2 n2 c2 a3 n3 c3) 28)).heap.size=w.heap.size+1:=World.size_alloc _ _;generalize (w.alloc (.cells (y0 f a1 n1 c1 a2 n2 c2 a3 n3 c3) 28))=W at hA hx hsz ⊢;generalize w.heap.size=R at hA hsz ⊢;have p0:=cS hA 0;have p1:=cS hA 1;replace hA:=Y hA;replace hx:=Y hx;replace hsz:=Y hsz;go_wp2_with fail
 refine (k1.o _).mono ?_;rintro e w' ⟨rfl,rfl⟩;cases b1 with
 | false=>
  go_wp2_with fail
  go_ret;exact ⟨by rw [hr.o];rfl,hx.o⟩
 | true=>
 go_wp2_with fail
 refine (k2.o _).mono ?_;rintro e w' ⟨rfl,rfl⟩;cases b2 with
 | false=>
  go_wp2_with fail
  go_ret;exact ⟨by rw [hr.o];rfl,hx.o⟩
 | true=>
 clear p0 p1;unfold fcA at k3;go_upto_region 3 with (fail)
 refine zaX ?_;simp only [List.map_cons,List.map_nil,zcJ];go_wp2_with (first | (refine zaW (by rfl) 28 _ rfl R 0 [] (y1 f a1 n1 c1 a2 n2 c2 a3 n3 c3) [] _ _ _ rfl rfl hA.o Tryz.underlying28 rfl (by kernel_rfl) ?_) | fail)
 refine (k3.o _ hx.o).mono ?_;rintro e W2 ⟨d1,m1,l1,d2,m2,l2,d3,m3,l3,rfl,hFu,hx2⟩;replace hA:=Y (hx2.at hA.o id);have hFf:=Y (k4.o W2 (hx.o.trans hx2));have hFu:=Y (hFu.mono (F':=fun k=>k < W2.heap.size) (fun k hk=>Nat.lt_of_lt_of_le hk hx2.size));replace hx:=Y (hx.o.trans hx2);clear k3 k4 hsz hx2 k1 k2;unfold fcA at*;cases ub with
 | false=>
  go_wp2_with (first | (refine zab rfl 28 _ _ rfl W2.heap.size _ _ 28 rfl rfl (heap_alloc_new W2 _) rfl (by kernel_rfl) rfl (fun W3 H3=>?_);have hA3:=Y (H3.o.2.at ((Mod.alloc (Mod.refl (fun _=>False) W2) (.cells zF9 28)).at hA.o id) (by have:=zas hA.o;omega));have hU3:=Y H3.o.1;have hx3:=Y (((Mod.alloc (Mod.refl (fun _=>False) W2) (.cells zF9 28)).mono (T:=fun k=>W2.heap.size<=k) (fun _ h=>h.elim)).then H3.o.2 (fun k _ e=>by omega))) | (refine zaW (by rfl) 28 _ rfl R 0 [] (y1 f a1 n1 c1 a2 n2 c2 a3 n3 c3) [] _ _ _ rfl rfl hA3.o Tryz.underlying28 rfl (by kernel_rfl) ?_) | (refine zaW (by rfl) 28 _ rfl W2.heap.size 0 [] [.int .i64 u.n,.int .i64 u.tm,.int .i64 u.kd,.int .i64 u.st,.string ⟨u.lg.toArray⟩,.int .i64 u.rv,.int .i64 u.bs,.string ⟨u.ti.toArray⟩,.string ⟨u.au.toArray⟩,.slice d1 m1 l1,.slice d2 m2 l2,.int .i64 u.lb.til,.slice d3 m3 l3,.int .i64 u.lb.app,.int .i64 u.lb.den,.int .i64 u.ed,.int .i64 u.bk,.int .i64 u.se,.string ⟨u.tx.toArray⟩,.string ⟨u.nm.toArray⟩,.int .i64 u.pa,.int .i64 u.cl,.int .i64 u.un] [] _ _ _ rfl rfl hU3.o Tryz.underlying28 rfl (by kernel_rfl) ?_))
  go_ret;exact ⟨by rw [hr.o];rfl,hx.o.then hx3.o (fun k h1 h2=>by have:=hx.o.size;omega)⟩
 | true=>
  go_wp2_with (first | (refine zab rfl 28 _ _ rfl W2.heap.size _ _ 28 rfl rfl (heap_alloc_new W2 _) rfl (by kernel_rfl) rfl (fun W3 H3=>?_);have hA3:=Y (H3.o.2.at ((Mod.alloc (Mod.refl (fun _=>False) W2) (.cells zF9 28)).at hA.o id) (by have:=zas hA.o;omega));have hU3:=Y H3.o.1;have hx3:=Y (((Mod.alloc (Mod.refl (fun _=>False) W2) (.cells zF9 28)).mono (T:=fun k=>W2.heap.size<=k) (fun _ h=>h.elim)).then H3.o.2 (fun k _ e=>by omega))) | (refine zaW (by rfl) 28 _ rfl R 0 [] (y1 f a1 n1 c1 a2 n2 c2 a3 n3 c3) [] _ _ _ rfl rfl hA3.o Tryz.underlying28 rfl (by kernel_rfl) ?_) | (refine zaW (by rfl) 28 _ rfl W2.heap.size 0 [] [.int .i64 u.n,.int .i64 u.tm,.int .i64 u.kd,.int .i64 u.st,.string ⟨u.lg.toArray⟩,.int .i64 u.rv,.int .i64 u.bs,.string ⟨u.ti.toArray⟩,.string ⟨u.au.toArray⟩,.slice d1 m1 l1,.slice d2 m2 l2,.int .i64 u.lb.til,.slice d3 m3 l3,.int .i64 u.lb.app,.int .i64 u.lb.den,.int .i64 u.ed,.int .i64 u.bk,.int .i64 u.se,.string ⟨u.tx.toArray⟩,.string ⟨u.nm.toArray⟩,.int .i64 u.pa,.int .i64 u.cl,.int .i64 u.un] [] _ _ _ rfl rfl hU3.o Tryz.underlying28 rfl (by kernel_rfl) ?_))
  have hX3:Ext W2 W3:=hx3.o.mono' (fun k h1 h2=>by omega);have k5:=Y (zeH (F:=fun k=>k < W2.heap.size) a1 n1 c1 a2 n2 c2 a3 n3 c3 f d1 m1 l1 d2 m2 l2 d3 m3 l3 u W3 (hFf.o.ext hX3) (hFu.o.ext hX3));replace hx:=Y (hx.o.trans hX3);unfold fcA at k5;rw [hd.o] at k5;refine k5.o.mono ?_;rintro e W4 ⟨rfl,hx4⟩;clear k5 hX3 hx3 hU3 hA3;replace hx:=Y (hx.o.trans hx4);cases bs with
  | false=>
   go_wp2_with fail
   go_ret;exact ⟨by rw [hr.o];rfl,hx.o⟩
  | true=>
   go_wp2_with fail
   go_ret;exact ⟨by rw [hr.o];rfl,hx.o⟩
def OnP (F:Nat -> Prop) (w:World) (U:Nat) (r:Bool) (a:Ac):Prop:=∃ (a1:Option Addr) (n1 c1:Nat) (a2:Option Addr) (n2 c2:Nat) (a3:Option Addr) (n3 c3:Nat) (a4:Option Addr) (n4 c4:Nat) (a5:Option Addr) (n5 c5:Nat) (p:Ac),w.heap[U]?=some (.cells (acA a1 n1 c1 a2 n2 c2 a3 n3 c3 a4 n4 c4 a5 n5 c5 p) 32 (0,0))/\AcAt F w ⟨⟨.slice a1 n1 c1,.slice a2 n2 c2,.slice a3 n3 c3⟩,.slice a4 n4 c4,.slice a5 n5 c5⟩ p/\r=decide (a=p)
theorem zlD (a1:Option Addr) (n1 c1:Nat) (a2:Option Addr) (n2 c2:Nat) (a3:Option Addr) (n3 c3:Nat) (a4:Option Addr) (n4 c4:Nat) (a5:Option Addr) (n5 c5:Nat) (a:Ac) (w:World) (h:AcAt (fun k=>k < w.heap.size) w ⟨⟨.slice a1 n1 c1,.slice a2 n2 c2,.slice a3 n3 c3⟩,.slice a4 n4 c4,.slice a5 n5 c5⟩ a):
  Calls Tryz.prog 28 #[.agg (acA a1 n1 c1 a2 n2 c2 a3 n3 c3 a4 n4 c4 a5 n5 c5 a)] w fun e w'=>e=.returned (.bool (decide (a=zfE a)))/\Ext w w':=by
 obtain ⟨kd,fc,n,cl,tx,fa,ke,ms⟩:=a;obtain ⟨r,hr⟩:∃ r,r=decide ((⟨kd,fc,n,cl,tx,fa,ke,ms⟩:Ac)=zfE ⟨kd,fc,n,cl,tx,fa,ke,ms⟩):=⟨_,rfl⟩;rw [<- hr];obtain ⟨VA,hVA⟩:∃ V,V=acA a1 n1 c1 a2 n2 c2 a3 n3 c3 a4 n4 c4 a5 n5 c5 ⟨kd,fc,n,cl,tx,fa,ke,ms⟩:=⟨_,rfl⟩;obtain ⟨VZ,hVZ⟩:∃ V,V=acA none 0 0 none 0 0 none 0 0 none 0 0 none 0 0 ⟨kd,Fc.zero,0,0,[],[],[],Ms.zero⟩:=⟨_,rfl⟩;have hz:=Y (zaV w (acA a1 n1 c1 a2 n2 c2 a3 n3 c3 a4 n4 c4 a5 n5 c5 ⟨kd,fc,n,cl,tx,fa,ke,ms⟩) zA9 32 32);have q0:=(zaa (heap_alloc_new w (.cells (acA a1 n1 c1 a2 n2 c2 a3 n3 c3 a4 n4 c4 a5 n5 c5 ⟨kd,fc,n,cl,tx,fa,ke,ms⟩) 32)) 0).trans (show _=some (.int .i64 kd) from rfl);rw [<- hVA] at hz q0 ⊢;have h2:=Y (fun W (hX:Mod (fun k=>w.heap.size<=k) w W)=>h.mod hX (fun k h1 h2=>by omega));have hfin:Hid (∀ w',Mod (fun k=>w.heap.size<=k) w w' -> Ext w w'):=Y (fun w' h=>h.mono' (fun k hk e=>by omega));clear h;replace hr:=Y hr;replace hVA:=Y hVA;replace hVZ:=Y hVZ;go_enter Tryz.func28,Tryz.ntmps28;go_upto_region 2 with (refine zab rfl 32 _ _ rfl (w.heap.size+1) _ _ 32 rfl rfl hz.o.2.2.1 rfl (by kernel_rfl) rfl (fun W H1=>?_))
 have hA:=Y (H1.o.2.at hz.o.2.1 (by omega));have hU:Hid (W.heap[w.heap.size+1]?=some (.cells VZ 32 (0,0))):=Y (by rw [hVZ.o];exact H1.o.1);have hm:=Y ((hz.o.1.mono (T:=fun k=>w.heap.size<=k) (fun _ h=>h.elim)).then H1.o.2 (fun k _ e=>by omega));clear H1 hz q0;have q_kd:W.cell? ⟨w.heap.size,0,none⟩=some (.int .i64 kd):=(zaa hA.o 0).trans (by rw [hVA.o];rfl);go_upto_region 3 with fail
 clear q_kd;obtain ⟨R,hR⟩:∃ R,R=w.heap.size:=⟨_,rfl⟩;rw [<- hR] at hA hU ⊢;have hRw:w.heap.size<=R/\R<=w.heap.size:=by omega
 replace hR:=Y hR;rcases (show kd=1 \/ kd=2 \/ kd=3 \/ kd=10 \/ kd=4 \/ kd=5 \/ kd=6 \/ kd=7 \/ kd=8 \/ kd=9 \/ (¬ kd=1/\¬ kd=2/\¬ kd=3/\¬ kd=10/\¬ kd=4/\¬ kd=5/\¬ kd=6/\¬ kd=7/\¬ kd=8/\¬ kd=9) by omega) with rfl | rfl | rfl | rfl | rfl | rfl | rfl | rfl | rfl | rfl | ⟨g1,g2,g3,g10,g4,g5,g6,g7,g8,g9⟩
 case' inl=>
  have hTl:=Y (zaD (n:=1) (k:=23) (cs:=(fcA a1 n1 c1 a2 n2 c2 a3 n3 c3 fc).toList) hA.o (by rw [hVA.o];rfl));have hUl:=Y (show W.heap[R+1]?=some (.cells ((VZ.toList.take 1++((fcA none 0 0 none 0 0 none 0 0 Fc.zero).toList++VZ.toList.drop 24))).toArray 32 (0,0)) by rw [hU.o,hVZ.o];rfl);have hl0:Hid (1=(VZ.toList.take 1).length):=Y (by rw [hVZ.o];rfl);go_upto_region 23 with (first | (refine zaM (by rfl) 28 _ rfl R 1 (fcA a1 n1 c1 a2 n2 c2 a3 n3 c3 fc) _ rfl hTl.o Tryz.underlying28 rfl (by kernel_rfl) ?_) | (refine zbH rfl 28 _ _ rfl (R+1) 1 _ _ _ (fcA a1 n1 c1 a2 n2 c2 a3 n3 c3 fc).toList 32 hl0.o rfl rfl hUl.o rfl (by kernel_rfl) rfl (fun WS HS=>?_)))
  have hU2:=HS.o.1;have hA2:=HS.o.2.at hA.o (by omega);have hm2:=hm.o.then HS.o.2 (fun k _ e=>by omega);clear HS hTl hUl hl0;have hh:=h2.o WS hm2;have hfi:Hid (OnP (fun k=>k < w.heap.size) WS (R+1) r ⟨1,fc,n,cl,tx,fa,ke,ms⟩):=Y ⟨a1,n1,c1,a2,n2,c2,a3,n3,c3,none,0,0,none,0,0,⟨1,fc,0,0,[],[],[],Ms.zero⟩,by rw [hU2];try rw [hVZ.o];try rfl,⟨hh.fc,zac.nil _ _ _,zac.nil _ _ _⟩,hr.o⟩;clear hh hU2 hA hm hU;have hA:=Y hA2;have hm:=Y hm2;clear hA2 hm2
 case' inr.inl=>
  have s_n:W.cell? ⟨R,24,none⟩=some (.int .i64 n):=(zaa hA.o 24).trans (by rw [hVA.o];rfl);have o_n:W.cell? ⟨R+1,24,none⟩=some (.int .i64 0):=(zaa hU.o 24).trans (by rw [hVZ.o];rfl);have zU:=zad hU.o;go_upto_region 23 with fail
  clear zU s_n o_n;have hU2:=(zai hU.o 24 (.int .i64 n));have hA2:=((za1 _ 24 (.int .i64 n) (show R+1 ≠ R by omega)).trans hA.o);have hm2:=(hm.o.setCell (a:=⟨R+1,24,none⟩) (fun _=>by show w.heap.size<=R+1;omega) (.int .i64 n));generalize (W.setCell ⟨R+1,24,none⟩ (.int .i64 n))=WS at hU2 hA2 hm2 ⊢;have hh:=h2.o WS hm2;have hfi:Hid (OnP (fun k=>k < w.heap.size) WS (R+1) r ⟨2,fc,n,cl,tx,fa,ke,ms⟩):=Y ⟨none,0,0,none,0,0,none,0,0,none,0,0,none,0,0,⟨2,Fc.zero,n,0,[],[],[],Ms.zero⟩,by rw [hU2];try rw [hVZ.o];try rfl,⟨zax _ _ _ rfl rfl rfl,zac.nil _ _ _,zac.nil _ _ _⟩,hr.o⟩;clear hh hU2 hA hm hU;have hA:=Y hA2;have hm:=Y hm2;clear hA2 hm2
 case' inr.inr.inl=>
  have s_n:W.cell? ⟨R,24,none⟩=some (.int .i64 n):=(zaa hA.o 24).trans (by rw [hVA.o];rfl);have o_n:W.cell? ⟨R+1,24,none⟩=some (.int .i64 0):=(zaa hU.o 24).trans (by rw [hVZ.o];rfl);have zU:=zad hU.o;go_upto_region 23 with fail
  clear zU s_n o_n;have hU2:=(zai hU.o 24 (.int .i64 n));have hA2:=((za1 _ 24 (.int .i64 n) (show R+1 ≠ R by omega)).trans hA.o);have hm2:=(hm.o.setCell (a:=⟨R+1,24,none⟩) (fun _=>by show w.heap.size<=R+1;omega) (.int .i64 n));generalize (W.setCell ⟨R+1,24,none⟩ (.int .i64 n))=WS at hU2 hA2 hm2 ⊢;have hh:=h2.o WS hm2;have hfi:Hid (OnP (fun k=>k < w.heap.size) WS (R+1) r ⟨3,fc,n,cl,tx,fa,ke,ms⟩):=Y ⟨none,0,0,none,0,0,none,0,0,none,0,0,none,0,0,⟨3,Fc.zero,n,0,[],[],[],Ms.zero⟩,by rw [hU2];try rw [hVZ.o];try rfl,⟨zax _ _ _ rfl rfl rfl,zac.nil _ _ _,zac.nil _ _ _⟩,hr.o⟩;clear hh hU2 hA hm hU;have hA:=Y hA2;have hm:=Y hm2;clear hA2 hm2
 case' inr.inr.inr.inl=>
  have s_n:W.cell? ⟨R,24,none⟩=some (.int .i64 n):=(zaa hA.o 24).trans (by rw [hVA.o];rfl);have o_n:W.cell? ⟨R+1,24,none⟩=some (.int .i64 0):=(zaa hU.o 24).trans (by rw [hVZ.o];rfl);have zU:=zad hU.o;go_upto_region 23 with fail
  clear zU s_n o_n;have hU2:=(zai hU.o 24 (.int .i64 n));have hA2:=((za1 _ 24 (.int .i64 n) (show R+1 ≠ R by omega)).trans hA.o);have hm2:=(hm.o.setCell (a:=⟨R+1,24,none⟩) (fun _=>by show w.heap.size<=R+1;omega) (.int .i64 n));generalize (W.setCell ⟨R+1,24,none⟩ (.int .i64 n))=WS at hU2 hA2 hm2 ⊢;have hh:=h2.o WS hm2;have hfi:Hid (OnP (fun k=>k < w.heap.size) WS (R+1) r ⟨10,fc,n,cl,tx,fa,ke,ms⟩):=Y ⟨none,0,0,none,0,0,none,0,0,none,0,0,none,0,0,⟨10,Fc.zero,n,0,[],[],[],Ms.zero⟩,by rw [hU2];try rw [hVZ.o];try rfl,⟨zax _ _ _ rfl rfl rfl,zac.nil _ _ _,zac.nil _ _ _⟩,hr.o⟩;clear hh hU2 hA hm hU;have hA:=Y hA2;have hm:=Y hm2;clear hA2 hm2
 case' inr.inr.inr.inr.inl=>
  have s_fa:W.cell? ⟨R,27,none⟩=some (.slice a4 n4 c4):=(zaa hA.o 27).trans (by rw [hVA.o];rfl);have o_fa:W.cell? ⟨R+1,27,none⟩=some (.slice none 0 0):=(zaa hU.o 27).trans (by rw [hVZ.o];rfl);have zU:=zad hU.o;go_upto_region 23 with fail
  clear zU s_fa o_fa;have hU2:=(zai hU.o 27 (.slice a4 n4 c4));have hA2:=((za1 _ 27 (.slice a4 n4 c4) (show R+1 ≠ R by omega)).trans hA.o);have hm2:=(hm.o.setCell (a:=⟨R+1,27,none⟩) (fun _=>by show w.heap.size<=R+1;omega) (.slice a4 n4 c4));generalize (W.setCell ⟨R+1,27,none⟩ (.slice a4 n4 c4))=WS at hU2 hA2 hm2 ⊢;have hh:=h2.o WS hm2;have hfi:Hid (OnP (fun k=>k < w.heap.size) WS (R+1) r ⟨4,fc,n,cl,tx,fa,ke,ms⟩):=Y ⟨none,0,0,none,0,0,none,0,0,a4,n4,c4,none,0,0,⟨4,Fc.zero,0,0,[],fa,[],Ms.zero⟩,by rw [hU2];try rw [hVZ.o];try rfl,⟨zax _ _ _ rfl rfl rfl,hh.fa,zac.nil _ _ _⟩,hr.o⟩;clear hh hU2 hA hm hU;have hA:=Y hA2;have hm:=Y hm2;clear hA2 hm2
 case' inr.inr.inr.inr.inr.inl=>
  have s_n:W.cell? ⟨R,24,none⟩=some (.int .i64 n):=(zaa hA.o 24).trans (by rw [hVA.o];rfl);have o_n:W.cell? ⟨R+1,24,none⟩=some (.int .i64 0):=(zaa hU.o 24).trans (by rw [hVZ.o];rfl);have s_ke:W.cell? ⟨R,28,none⟩=some (.slice a5 n5 c5):=(zaa hA.o 28).trans (by rw [hVA.o];rfl);have o_ke:W.cell? ⟨R+1,28,none⟩=some (.slice none 0 0):=(zaa hU.o 28).trans (by rw [hVZ.o];rfl);have zU:=zad hU.o;go_upto_region 23 with fail
  clear zU s_n o_n s_ke o_ke;have hU2:=(zai (zai hU.o 24 (.int .i64 n)) 28 (.slice a5 n5 c5));have hA2:=((za1 _ 28 (.slice a5 n5 c5) (show R+1 ≠ R by omega)).trans ((za1 _ 24 (.int .i64 n) (show R+1 ≠ R by omega)).trans hA.o));have hm2:=((hm.o.setCell (a:=⟨R+1,24,none⟩) (fun _=>by show w.heap.size<=R+1;omega) (.int .i64 n)).setCell (a:=⟨R+1,28,none⟩) (fun _=>by show w.heap.size<=R+1;omega) (.slice a5 n5 c5));generalize ((W.setCell ⟨R+1,24,none⟩ (.int .i64 n)).setCell ⟨R+1,28,none⟩ (.slice a5 n5 c5))=WS at hU2 hA2 hm2 ⊢;have hh:=h2.o WS hm2;have hfi:Hid (OnP (fun k=>k < w.heap.size) WS (R+1) r ⟨5,fc,n,cl,tx,fa,ke,ms⟩):=Y ⟨none,0,0,none,0,0,none,0,0,none,0,0,a5,n5,c5,⟨5,Fc.zero,n,0,[],[],ke,Ms.zero⟩,by rw [hU2];try rw [hVZ.o];try rfl,⟨zax _ _ _ rfl rfl rfl,zac.nil _ _ _,hh.ke⟩,hr.o⟩;clear hh hU2 hA hm hU;have hA:=Y hA2;have hm:=Y hm2;clear hA2 hm2
 case' inr.inr.inr.inr.inr.inr.inl=>
  have s_cl:W.cell? ⟨R,25,none⟩=some (.int .i64 cl):=(zaa hA.o 25).trans (by rw [hVA.o];rfl);have o_cl:W.cell? ⟨R+1,25,none⟩=some (.int .i64 0):=(zaa hU.o 25).trans (by rw [hVZ.o];rfl);have s_tx:W.cell? ⟨R,26,none⟩=some (.string ⟨tx.toArray⟩):=(zaa hA.o 26).trans (by rw [hVA.o];rfl);have o_tx:W.cell? ⟨R+1,26,none⟩=some (.string ⟨#[]⟩):=(zaa hU.o 26).trans (by rw [hVZ.o];rfl);have zU:=zad hU.o;go_upto_region 23 with fail
  clear zU s_cl o_cl s_tx o_tx;have hU2:=(zai (zai hU.o 25 (.int .i64 cl)) 26 (.string ⟨tx.toArray⟩));have hA2:=((za1 _ 26 (.string ⟨tx.toArray⟩) (show R+1 ≠ R by omega)).trans ((za1 _ 25 (.int .i64 cl) (show R+1 ≠ R by omega)).trans hA.o));have hm2:=((hm.o.setCell (a:=⟨R+1,25,none⟩) (fun _=>by show w.heap.size<=R+1;omega) (.int .i64 cl)).setCell (a:=⟨R+1,26,none⟩) (fun _=>by show w.heap.size<=R+1;omega) (.string ⟨tx.toArray⟩));generalize ((W.setCell ⟨R+1,25,none⟩ (.int .i64 cl)).setCell ⟨R+1,26,none⟩ (.string ⟨tx.toArray⟩))=WS at hU2 hA2 hm2 ⊢;have hh:=h2.o WS hm2;have hfi:Hid (OnP (fun k=>k < w.heap.size) WS (R+1) r ⟨6,fc,n,cl,tx,fa,ke,ms⟩):=Y ⟨none,0,0,none,0,0,none,0,0,none,0,0,none,0,0,⟨6,Fc.zero,0,cl,tx,[],[],Ms.zero⟩,by rw [hU2];try rw [hVZ.o];try rfl,⟨zax _ _ _ rfl rfl rfl,zac.nil _ _ _,zac.nil _ _ _⟩,hr.o⟩;clear hh hU2 hA hm hU;have hA:=Y hA2;have hm:=Y hm2;clear hA2 hm2
 case' inr.inr.inr.inr.inr.inr.inr.inl=>
  have s_cl:W.cell? ⟨R,25,none⟩=some (.int .i64 cl):=(zaa hA.o 25).trans (by rw [hVA.o];rfl);have o_cl:W.cell? ⟨R+1,25,none⟩=some (.int .i64 0):=(zaa hU.o 25).trans (by rw [hVZ.o];rfl);have s_n:W.cell? ⟨R,24,none⟩=some (.int .i64 n):=(zaa hA.o 24).trans (by rw [hVA.o];rfl);have o_n:W.cell? ⟨R+1,24,none⟩=some (.int .i64 0):=(zaa hU.o 24).trans (by rw [hVZ.o];rfl);have s_tx:W.cell? ⟨R,26,none⟩=some (.string ⟨tx.toArray⟩):=(zaa hA.o 26).trans (by rw [hVA.o];rfl);have o_tx:W.cell? ⟨R+1,26,none⟩=some (.string ⟨#[]⟩):=(zaa hU.o 26).trans (by rw [hVZ.o];rfl);have zU:=zad hU.o;go_upto_region 23 with fail
  clear zU s_cl o_cl s_n o_n s_tx o_tx;have hU2:=(zai (zai (zai hU.o 25 (.int .i64 cl)) 24 (.int .i64 n)) 26 (.string ⟨tx.toArray⟩));have hA2:=((za1 _ 26 (.string ⟨tx.toArray⟩) (show R+1 ≠ R by omega)).trans ((za1 _ 24 (.int .i64 n) (show R+1 ≠ R by omega)).trans ((za1 _ 25 (.int .i64 cl) (show R+1 ≠ R by omega)).trans hA.o)));have hm2:=(((hm.o.setCell (a:=⟨R+1,25,none⟩) (fun _=>by show w.heap.size<=R+1;omega) (.int .i64 cl)).setCell (a:=⟨R+1,24,none⟩) (fun _=>by show w.heap.size<=R+1;omega) (.int .i64 n)).setCell (a:=⟨R+1,26,none⟩) (fun _=>by show w.heap.size<=R+1;omega) (.string ⟨tx.toArray⟩));generalize (((W.setCell ⟨R+1,25,none⟩ (.int .i64 cl)).setCell ⟨R+1,24,none⟩ (.int .i64 n)).setCell ⟨R+1,26,none⟩ (.string ⟨tx.toArray⟩))=WS at hU2 hA2 hm2 ⊢;have hh:=h2.o WS hm2;have hfi:Hid (OnP (fun k=>k < w.heap.size) WS (R+1) r ⟨7,fc,n,cl,tx,fa,ke,ms⟩):=Y ⟨none,0,0,none,0,0,none,0,0,none,0,0,none,0,0,⟨7,Fc.zero,n,cl,tx,[],[],Ms.zero⟩,by rw [hU2];try rw [hVZ.o];try rfl,⟨zax _ _ _ rfl rfl rfl,zac.nil _ _ _,zac.nil _ _ _⟩,hr.o⟩;clear hh hU2 hA hm hU;have hA:=Y hA2;have hm:=Y hm2;clear hA2 hm2
 case' inr.inr.inr.inr.inr.inr.inr.inr.inl=>
  have hTl:=Y (zaD (n:=29) (k:=7) (cs:=((msC ms).toArray).toList) hA.o (by rw [hVA.o];rfl));have hUl:=Y (show W.heap[R+1]?=some (.cells ((VZ.toList.take 29++(msC Ms.zero++VZ.toList.drop 36))).toArray 32 (0,0)) by rw [hU.o,hVZ.o];rfl);have hl0:Hid (29=(VZ.toList.take 29).length):=Y (by rw [hVZ.o];rfl);go_upto_region 23 with (first | (refine zaM (by rfl) 30 _ rfl R 29 ((msC ms).toArray) _ rfl hTl.o Tryz.underlying30 rfl (by kernel_rfl) ?_) | (refine zbH rfl 30 _ _ rfl (R+1) 29 _ _ _ ((msC ms).toArray).toList 32 hl0.o rfl rfl hUl.o rfl (by kernel_rfl) rfl (fun WS HS=>?_)))
  have hU2:=HS.o.1;have hA2:=HS.o.2.at hA.o (by omega);have hm2:=hm.o.then HS.o.2 (fun k _ e=>by omega);clear HS hTl hUl hl0;have hh:=h2.o WS hm2;have hfi:Hid (OnP (fun k=>k < w.heap.size) WS (R+1) r ⟨8,fc,n,cl,tx,fa,ke,ms⟩):=Y ⟨none,0,0,none,0,0,none,0,0,none,0,0,none,0,0,⟨8,Fc.zero,0,0,[],[],[],ms⟩,by rw [hU2];try rw [hVZ.o];try rfl,⟨zax _ _ _ rfl rfl rfl,zac.nil _ _ _,zac.nil _ _ _⟩,hr.o⟩;clear hh hU2 hA hm hU;have hA:=Y hA2;have hm:=Y hm2;clear hA2 hm2
 case' inr.inr.inr.inr.inr.inr.inr.inr.inr.inl=>
  go_upto_region 23 with fail
  obtain ⟨WS,hWS⟩:∃ WS,WS=W:=⟨_,rfl⟩;subst hWS;have hU2:=hU.o;have hA2:=hA.o;have hm2:=hm.o;have hh:=h2.o WS hm2;have hfi:Hid (OnP (fun k=>k < w.heap.size) WS (R+1) r ⟨9,fc,n,cl,tx,fa,ke,ms⟩):=Y ⟨none,0,0,none,0,0,none,0,0,none,0,0,none,0,0,⟨9,Fc.zero,0,0,[],[],[],Ms.zero⟩,by rw [hU2];try rw [hVZ.o];try rfl,⟨zax _ _ _ rfl rfl rfl,zac.nil _ _ _,zac.nil _ _ _⟩,hr.o⟩;clear hh hU2 hA hm hU;have hA:=Y hA2;have hm:=Y hm2;clear hA2 hm2
 case' inr.inr.inr.inr.inr.inr.inr.inr.inr.inr=>
  have e1:(kd==1)=false:=by rw [beq_eq_false_iff_ne];exact g1
  have e2:(kd==2)=false:=by rw [beq_eq_false_iff_ne];exact g2
  have e3:(kd==3)=false:=by rw [beq_eq_false_iff_ne];exact g3
  have e4:(kd==4)=false:=by rw [beq_eq_false_iff_ne];exact g4
  have e5:(kd==5)=false:=by rw [beq_eq_false_iff_ne];exact g5
  have e6:(kd==6)=false:=by rw [beq_eq_false_iff_ne];exact g6
  have e7:(kd==7)=false:=by rw [beq_eq_false_iff_ne];exact g7
  have e8:(kd==8)=false:=by rw [beq_eq_false_iff_ne];exact g8
  have e9:(kd==9)=false:=by rw [beq_eq_false_iff_ne];exact g9
  have e10:(kd==10)=false:=by rw [beq_eq_false_iff_ne];exact g10
  have ho:zfE ⟨kd,fc,n,cl,tx,fa,ke,ms⟩=⟨kd,Fc.zero,0,0,[],[],[],Ms.zero⟩:=by unfold zfE;simp only [g1,g2,g3,g4,g5,g6,g7,g8,g10,if_false,or_self];rfl
  rw [ho] at hr;replace hr:=Y hr.o;replace g1:=Y g1;replace g2:=Y g2;replace g3:=Y g3;replace g4:=Y g4;replace g5:=Y g5;replace g6:=Y g6;replace g7:=Y g7;replace g8:=Y g8;replace g9:=Y g9;replace g10:=Y g10;go_upto_region 23 with fail
  clear e1 e2 e3 e4 e5 e6 e7 e8 e9 e10;obtain ⟨WS,hWS⟩:∃ WS,WS=W:=⟨_,rfl⟩;subst hWS;have hU2:=hU.o;have hA2:=hA.o;have hm2:=hm.o;have hh:=h2.o WS hm2;have hfi:Hid (OnP (fun k=>k < w.heap.size) WS (R+1) r ⟨kd,fc,n,cl,tx,fa,ke,ms⟩):=Y ⟨none,0,0,none,0,0,none,0,0,none,0,0,none,0,0,⟨kd,Fc.zero,0,0,[],[],[],Ms.zero⟩,by rw [hU2];try rw [hVZ.o];try rfl,⟨zax _ _ _ rfl rfl rfl,zac.nil _ _ _,zac.nil _ _ _⟩,hr.o⟩;clear hh hU2 hA hm hU;have hA:=Y hA2;have hm:=Y hm2;clear hA2 hm2
 all_goals
  obtain ⟨b1,m1,d1,b2,m2,d2,b3,m3,d3,b4,m4,d4,b5,m5,d5,p,hU,hp,hrp⟩:=hfi.o;have hS:=zdE _ _ _ _ _ _ _ _ _ _ _ _ _ _ _ _ _ _ _ _ _ _ _ _ _ _ _ _ _ _ _ p WS (h2.o WS hm.o) hp;rw [<- hrp,<- hVA.o] at hS;replace hS:=Y hS;replace hU:=Y hU;clear hfi hp hrp;go_wp2_with (first | (refine zae (by rfl) 32 _ rfl R _ _ _ _ rfl hA.o Tryz.underlying32 rfl (by rw [hVA.o];kernel_rfl) ?_) | (refine zae (by rfl) 32 _ rfl (R+1) _ _ _ _ rfl hU.o Tryz.underlying32 rfl (by kernel_rfl) ?_))
  refine hS.o.mono ?_;rintro e WE ⟨rfl,hxe⟩;go_wp2_with fail
  go_ret;exact ⟨rfl,hfin.o _ (hm.o.then hxe (fun _ _ h=>h.elim))⟩
theorem zey (a1:Option Addr) (n1 c1:Nat) (a2:Option Addr) (n2 c2:Nat) (a3:Option Addr) (n3 c3:Nat) (a4:Option Addr) (n4 c4:Nat) (a5:Option Addr) (n5 c5:Nat) (a:Ac) (w:World) (h:AcAt (fun k=>k < w.heap.size) w ⟨⟨.slice a1 n1 c1,.slice a2 n2 c2,.slice a3 n3 c3⟩,.slice a4 n4 c4,.slice a5 n5 c5⟩ a):
  Calls Tryz.prog 14 #[.agg (acA a1 n1 c1 a2 n2 c2 a3 n3 c3 a4 n4 c4 a5 n5 c5 a)] w fun e w'=>e=.returned (.bool (vAc a))/\Ext w w':=by
 have hO:=Y (fun W (hX:Ext w W)=>zlD a1 n1 c1 a2 n2 c2 a3 n3 c3 a4 n4 c4 a5 n5 c5 a W ((h.ext hX).mono (fun k hk=>Nat.lt_of_lt_of_le hk hX.size)));obtain ⟨kd,fc,n,cl,tx,fa,ke,ms⟩:=a;obtain ⟨r,hr⟩:∃ r,r=vAc ⟨kd,fc,n,cl,tx,fa,ke,ms⟩:=⟨_,rfl⟩;rw [<- hr];obtain ⟨od,hod⟩:∃ od,decide ((⟨kd,fc,n,cl,tx,fa,ke,ms⟩:Ac)=zfE ⟨kd,fc,n,cl,tx,fa,ke,ms⟩)=od:=⟨_,rfl⟩;rw [hod] at hO;obtain ⟨VA,hVA⟩:∃ V,V=acA a1 n1 c1 a2 n2 c2 a3 n3 c3 a4 n4 c4 a5 n5 c5 ⟨kd,fc,n,cl,tx,fa,ke,ms⟩:=⟨_,rfl⟩;rw [<- hVA] at hO ⊢;have hA:=Y (heap_alloc_new w (.cells VA 32));have hx:=Y (Mod.alloc (Mod.refl (fun _=>False) w) (.cells VA 32));have q_kd:=(zaa (heap_alloc_new w (.cells VA 32)) 0).trans (show _=some (.int .i64 kd) by rw [hVA];rfl);have iA:=Y (show (Tryz.prog.info? 32).map (·.size)=some VA.size by rw [hVA];kernel_rfl);replace hr:=Y hr;replace hod:=Y hod;replace hVA:=Y hVA;replace h:=Y h;go_enter Tryz.func14,Tryz.ntmps14;go_upto_region 2 with fail
 generalize (w.alloc _)=W at hA hx q_kd ⊢;generalize w.heap.size=R at hA q_kd ⊢;clear q_kd;rcases (show kd=1 \/ kd=2 \/ kd=3 \/ kd=10 \/ kd=4 \/ kd=5 \/ kd=6 \/ kd=7 \/ kd=8 \/ kd=9 \/ (¬ kd=1/\¬ kd=2/\¬ kd=3/\¬ kd=10/\¬ kd=4/\¬ kd=5/\¬ kd=6/\¬ kd=7/\¬ kd=8/\¬ kd=9) by omega) with rfl | rfl | rfl | rfl | rfl | rfl | rfl | rfl | rfl | rfl | ⟨g1,g2,g3,g10,g4,g5,g6,g7,g8,g9⟩
 case' inl=>
  replace hr:r=(decide (fc.n=0) && (decide (fc.tm=0) && (!decide (fc.kd=10) && (vFc fc && od)))):=by rw [hr.o];unfold vAc;rw [hod.o];simp only [zaS];first | rfl | (simp [Bool.and_assoc])
  have c_v:=Y (fun W (hX:Ext w W)=>zkt a1 n1 c1 a2 n2 c2 a3 n3 c3 fc W ((h.o.fc.ext hX).mono (fun k hk=>Nat.lt_of_lt_of_le hk hX.size)));have e_n:=zaj fc.n 0;have e_t:=zaj fc.tm 0;have e_k:=zdu fc.kd 10;generalize decide (fc.n=0)=b_n at hr e_n;generalize decide (fc.tm=0)=b_t at hr e_t;generalize decide (fc.kd=10)=b_k at hr e_k;generalize vFc fc=b_v at hr c_v;replace hr:=Y hr;obtain ⟨FV,hFV⟩:∃ FV,FV=fcA a1 n1 c1 a2 n2 c2 a3 n3 c3 fc:=⟨_,rfl⟩;have iF:=Y (show (Tryz.prog.info? 28).map (·.size)=some FV.size by rw [hFV];kernel_rfl);have sF:=Y (show FV.size=(zF9:Array Value).size by rw [hFV];rfl);have oF:=Y (show FV.toList.all (·.oneCell')=true by rw [hFV];rfl);rw [<- hFV] at c_v;replace hFV:=Y hFV;have hTl:=Y (zaD (n:=1) (k:=23) (cs:=FV.toList) hA.o (by rw [hVA.o,hFV.o];rfl));go_upto_region 4 with (first | (refine zaM (by rfl) 28 _ rfl R 1 FV _ rfl hTl.o Tryz.underlying28 rfl iF.o ?_) | (refine zab rfl 28 _ _ rfl W.heap.size _ FV 28 rfl rfl (heap_alloc_new W _) (by rw [sF.o]) iF.o oF.o (fun WS HS=>?_)))
  have hm2:=((Mod.alloc (Mod.refl (fun _=>False) W) (.cells zF9 28)).mono (T:=fun k=>W.heap.size<=k) (fun _ h=>h.elim)).then HS.o.2 (fun k _ e=>by omega);have hX2:Ext W WS:=hm2.mono' (fun k h1 h2=>by omega);have hU:=Y HS.o.1;generalize W.heap.size=R2 at hU ⊢;clear hm2 HS hTl;replace hA:=Y (hX2.at hA.o id);replace hx:=Y (hx.o.trans hX2);clear hX2;have u_n:WS.cell? ⟨R2,0,none⟩=some (.int .i64 fc.n):=(zaa hU.o 0).trans (by rw [hFV.o];rfl);have u_tm:WS.cell? ⟨R2,1,none⟩=some (.int .i64 fc.tm):=(zaa hU.o 1).trans (by rw [hFV.o];rfl);have u_kd:WS.cell? ⟨R2,2,none⟩=some (.int .i64 fc.kd):=(zaa hU.o 2).trans (by rw [hFV.o];rfl);cases b_n
  case false=>
   go_wp2_with fail
   go_ret;exact ⟨by rw [hr.o];first | rfl | simp,hx.o⟩
  cases b_t
  case false=>
   go_wp2_with fail
   go_ret;exact ⟨by rw [hr.o];first | rfl | simp,hx.o⟩
  cases b_k
  case true=>
   go_wp2_with fail
   go_ret;exact ⟨by rw [hr.o];first | rfl | simp,hx.o⟩
  go_wp2_with (refine zae (by rfl) 28 _ rfl R2 _ _ _ _ rfl hU.o Tryz.underlying28 rfl iF.o ?_)
  refine (c_v.o _ hx.o).mono ?_;rintro e W5 ⟨rfl,hxn⟩;replace hA:=Y (hxn.at hA.o id);replace hx:=Y (hx.o.trans hxn);clear hxn hU u_n u_tm u_kd;cases b_v
  case false=>
   go_wp2_with fail
   go_ret;exact ⟨by rw [hr.o];first | rfl | simp,hx.o⟩
 case' inr.inl=>
  replace hr:r=(rng n 1 500 && od):=by rw [hr.o];unfold vAc;rw [hod.o];simp only [zaS];first | rfl | (simp [Bool.and_assoc])
  have c_n:=Y (fun W (hX:Ext w W)=>zbo n 1 500 W);generalize rng n 1 500=b_n at hr c_n;replace hr:=Y hr;have s_n:W.cell? ⟨R,24,none⟩=some (.int .i64 n):=(zaa hA.o 24).trans (by rw [hVA.o];rfl);go_wp2_with fail
  refine (c_n.o _ hx.o).mono ?_;rintro e w' ⟨rfl,rfl⟩;cases b_n
  case false=>
   go_wp2_with fail
   go_ret;exact ⟨by rw [hr.o];first | rfl | simp,hx.o⟩
  clear s_n
 case' inr.inr.inl=>
  replace hr:r=(rng n 0 1000000000 && od):=by rw [hr.o];unfold vAc;rw [hod.o];simp only [zaS];first | rfl | (simp [Bool.and_assoc])
  have c_n:=Y (fun W (hX:Ext w W)=>zbo n 0 1000000000 W);generalize rng n 0 1000000000=b_n at hr c_n;replace hr:=Y hr;have s_n:W.cell? ⟨R,24,none⟩=some (.int .i64 n):=(zaa hA.o 24).trans (by rw [hVA.o];rfl);go_wp2_with fail
  refine (c_n.o _ hx.o).mono ?_;rintro e w' ⟨rfl,rfl⟩;cases b_n
  case false=>
   go_wp2_with fail
   go_ret;exact ⟨by rw [hr.o];first | rfl | simp,hx.o⟩
  clear s_n
 case' inr.inr.inr.inl=>
  replace hr:r=(rng n 0 10000 && od):=by rw [hr.o];unfold vAc;rw [hod.o];simp only [zaS];first | rfl | (simp [Bool.and_assoc])
  have c_n:=Y (fun W (hX:Ext w W)=>zbo n 0 10000 W);generalize rng n 0 10000=b_n at hr c_n;replace hr:=Y hr;have s_n:W.cell? ⟨R,24,none⟩=some (.int .i64 n):=(zaa hA.o 24).trans (by rw [hVA.o];rfl);go_wp2_with fail
  refine (c_n.o _ hx.o).mono ?_;rintro e w' ⟨rfl,rfl⟩;cases b_n
  case false=>
   go_wp2_with fail
   go_ret;exact ⟨by rw [hr.o];first | rfl | simp,hx.o⟩
  clear s_n
 case' inr.inr.inr.inr.inl=>
  replace hr:r=(zg5 fa 64 24 && od):=by rw [hr.o];unfold vAc;rw [hod.o];simp only [zaS];first | rfl | (simp [Bool.and_assoc])
  have c_f:=Y (fun W (hX:Ext w W)=>zhx (.slice a4 n4 c4) fa 64 24 W (h.o.fa.ext hX));generalize zg5 fa 64 24=b_f at hr c_f;replace hr:=Y hr;have s_fa:W.cell? ⟨R,27,none⟩=some (.slice a4 n4 c4):=(zaa hA.o 27).trans (by rw [hVA.o];rfl);go_wp2_with fail
  refine (c_f.o _ hx.o).mono ?_;rintro e W0 ⟨rfl,hxn⟩;replace hA:=Y (hxn.at hA.o id);replace hx:=Y (hx.o.trans hxn);clear hxn s_fa;have s_fa:W0.cell? ⟨R,27,none⟩=some (.slice a4 n4 c4):=(zaa hA.o 27).trans (by rw [hVA.o];rfl);cases b_f
  case false=>
   go_wp2_with fail
   go_ret;exact ⟨by rw [hr.o];first | rfl | simp,hx.o⟩
  clear s_fa
 case' inr.inr.inr.inr.inr.inl=>
  replace hr:r=(rng n (-1) 4194304 && (zg5 ke 64 1000 && od)):=by rw [hr.o];unfold vAc;rw [hod.o];simp only [zaS];first | rfl | (simp [Bool.and_assoc])
  have c_n:=Y (fun W (hX:Ext w W)=>zbo n (-1) 4194304 W);generalize rng n (-1) 4194304=b_n at hr c_n;have c_k:=Y (fun W (hX:Ext w W)=>zhx (.slice a5 n5 c5) ke 64 1000 W (h.o.ke.ext hX));generalize zg5 ke 64 1000=b_k at hr c_k;replace hr:=Y hr;have s_n:W.cell? ⟨R,24,none⟩=some (.int .i64 n):=(zaa hA.o 24).trans (by rw [hVA.o];rfl);have s_ke:W.cell? ⟨R,28,none⟩=some (.slice a5 n5 c5):=(zaa hA.o 28).trans (by rw [hVA.o];rfl);go_wp2_with fail
  refine (c_n.o _ hx.o).mono ?_;rintro e w' ⟨rfl,rfl⟩;cases b_n
  case false=>
   go_wp2_with fail
   go_ret;exact ⟨by rw [hr.o];first | rfl | simp,hx.o⟩
  go_wp2_with fail
  refine (c_k.o _ hx.o).mono ?_;rintro e W1 ⟨rfl,hxn⟩;replace hA:=Y (hxn.at hA.o id);replace hx:=Y (hx.o.trans hxn);clear hxn s_n s_ke;have s_n:W1.cell? ⟨R,24,none⟩=some (.int .i64 n):=(zaa hA.o 24).trans (by rw [hVA.o];rfl);have s_ke:W1.cell? ⟨R,28,none⟩=some (.slice a5 n5 c5):=(zaa hA.o 28).trans (by rw [hVA.o];rfl);cases b_k
  case false=>
   go_wp2_with fail
   go_ret;exact ⟨by rw [hr.o];first | rfl | simp,hx.o⟩
  clear s_n s_ke
 case' inr.inr.inr.inr.inr.inr.inl=>
  replace hr:r=(rng cl 0 3 && (zf7 tx 1 100 33 && od)):=by rw [hr.o];unfold vAc;rw [hod.o];simp only [zaS];first | rfl | (simp [Bool.and_assoc])
  have c_c:=Y (fun W (hX:Ext w W)=>zf3 cl W);generalize rng cl 0 3=b_c at hr c_c;have c_x:=Y (fun W (hX:Ext w W)=>zie ⟨tx.toArray⟩ 1 100 33 (by decide) W);try simp only at c_x
  generalize zf7 tx 1 100 33=b_x at hr c_x;replace hr:=Y hr;have s_cl:W.cell? ⟨R,25,none⟩=some (.int .i64 cl):=(zaa hA.o 25).trans (by rw [hVA.o];rfl);have s_tx:W.cell? ⟨R,26,none⟩=some (.string ⟨tx.toArray⟩):=(zaa hA.o 26).trans (by rw [hVA.o];rfl);go_wp2_with fail
  refine (c_c.o _ hx.o).mono ?_;rintro e w' ⟨rfl,rfl⟩;cases b_c
  case false=>
   go_wp2_with fail
   go_ret;exact ⟨by rw [hr.o];first | rfl | simp,hx.o⟩
  go_wp2_with fail
  refine (c_x.o _ hx.o).mono ?_;rintro e w' ⟨rfl,rfl⟩;cases b_x
  case false=>
   go_wp2_with fail
   go_ret;exact ⟨by rw [hr.o];first | rfl | simp,hx.o⟩
  clear s_cl s_tx
 case' inr.inr.inr.inr.inr.inr.inr.inl=>
  replace hr:r=(rng cl 0 3 && (rng n 0 64 && (zf7 tx 0 300 32 && od))):=by rw [hr.o];unfold vAc;rw [hod.o];simp only [zaS];first | rfl | (simp [Bool.and_assoc])
  have c_c:=Y (fun W (hX:Ext w W)=>zf3 cl W);generalize rng cl 0 3=b_c at hr c_c;have c_n:=Y (fun W (hX:Ext w W)=>zbo n 0 64 W);generalize rng n 0 64=b_n at hr c_n;have c_x:=Y (fun W (hX:Ext w W)=>zie ⟨tx.toArray⟩ 0 300 32 (by decide) W);try simp only at c_x
  generalize zf7 tx 0 300 32=b_x at hr c_x;replace hr:=Y hr;have s_cl:W.cell? ⟨R,25,none⟩=some (.int .i64 cl):=(zaa hA.o 25).trans (by rw [hVA.o];rfl);have s_n:W.cell? ⟨R,24,none⟩=some (.int .i64 n):=(zaa hA.o 24).trans (by rw [hVA.o];rfl);have s_tx:W.cell? ⟨R,26,none⟩=some (.string ⟨tx.toArray⟩):=(zaa hA.o 26).trans (by rw [hVA.o];rfl);go_wp2_with fail
  refine (c_c.o _ hx.o).mono ?_;rintro e w' ⟨rfl,rfl⟩;cases b_c
  case false=>
   go_wp2_with fail
   go_ret;exact ⟨by rw [hr.o];first | rfl | simp,hx.o⟩
  go_wp2_with fail
  refine (c_n.o _ hx.o).mono ?_;rintro e w' ⟨rfl,rfl⟩;cases b_n
  case false=>
   go_wp2_with fail
   go_ret;exact ⟨by rw [hr.o];first | rfl | simp,hx.o⟩
  go_wp2_with fail
  refine (c_x.o _ hx.o).mono ?_;rintro e w' ⟨rfl,rfl⟩;cases b_x
  case false=>
   go_wp2_with fail
   go_ret;exact ⟨by rw [hr.o];first | rfl | simp,hx.o⟩
  clear s_cl s_n s_tx
 case' inr.inr.inr.inr.inr.inr.inr.inr.inl=>
  replace hr:r=(vMs ms && od):=by rw [hr.o];unfold vAc;rw [hod.o];simp only [zaS];first | rfl | (simp [Bool.and_assoc])
  have c_m:=Y (fun W (hX:Ext w W)=>zc2 ms W);unfold msC zb0 at c_m;generalize vMs ms=b_m at hr c_m;replace hr:=Y hr;have hTl:=Y (zaD (n:=29) (k:=7) (cs:=((msC ms).toArray).toList) hA.o (by rw [hVA.o];rfl));go_wp2_with (refine zaM (by rfl) 30 _ rfl R 29 _ _ rfl hTl.o Tryz.underlying30 rfl (by kernel_rfl) ?_)
  refine (c_m.o _ hx.o).mono ?_;rintro e W0 ⟨rfl,hxn⟩;replace hA:=Y (hxn.at hA.o id);replace hx:=Y (hx.o.trans hxn);clear hxn  hTl;cases b_m
  case false=>
   go_wp2_with fail
   go_ret;exact ⟨by rw [hr.o];first | rfl | simp,hx.o⟩
 case' inr.inr.inr.inr.inr.inr.inr.inr.inr.inl=>
  replace hr:r=(od):=by rw [hr.o];unfold vAc;rw [hod.o];simp only [zaS];first | rfl | (simp [Bool.and_assoc])
  replace hr:=Y hr
 case inr.inr.inr.inr.inr.inr.inr.inr.inr.inr=>
  have e1:(kd==1)=false:=by rw [beq_eq_false_iff_ne];exact g1
  have e2:(kd==2)=false:=by rw [beq_eq_false_iff_ne];exact g2
  have e3:(kd==3)=false:=by rw [beq_eq_false_iff_ne];exact g3
  have e4:(kd==4)=false:=by rw [beq_eq_false_iff_ne];exact g4
  have e5:(kd==5)=false:=by rw [beq_eq_false_iff_ne];exact g5
  have e6:(kd==6)=false:=by rw [beq_eq_false_iff_ne];exact g6
  have e7:(kd==7)=false:=by rw [beq_eq_false_iff_ne];exact g7
  have e8:(kd==8)=false:=by rw [beq_eq_false_iff_ne];exact g8
  have e9:(kd==9)=false:=by rw [beq_eq_false_iff_ne];exact g9
  have e10:(kd==10)=false:=by rw [beq_eq_false_iff_ne];exact g10
  replace hr:r=false:=by
   rw [hr.o];unfold vAc zaS;simp only [g1,g2,g3,g4,g5,g6,g7,g8,g9,g10,if_false]
   rfl
  replace hr:=Y hr;replace g1:=Y g1;replace g2:=Y g2;replace g3:=Y g3;replace g4:=Y g4;replace g5:=Y g5;replace g6:=Y g6;replace g7:=Y g7;replace g8:=Y g8;replace g9:=Y g9;replace g10:=Y g10;go_wp2_with fail
  go_ret;exact ⟨by rw [hr.o];first | rfl | simp,hx.o⟩
 all_goals
  go_wp2_with (refine zae (by rfl) 32 _ rfl R _ _ _ _ rfl hA.o Tryz.underlying32 rfl iA.o ?_)
  refine (hO.o _ hx.o).mono ?_;rintro e W9 ⟨rfl,hxn⟩;go_wp2_with fail
  go_ret;exact ⟨by rw [hr.o];simp,hx.o.trans hxn⟩
open Go.Shelf Go.RowKit Cdk Scr
theorem zdo.mod {F S:Nat -> Prop} {w w':World} {v:Value} (h:zdo F w v) (hm:Mod S w w') (hS:∀ k,F k -> ¬ S k):zdo F w' v:=by
 obtain ⟨rows,h1,h2,h3⟩:=h;exact ⟨rows,h1,h2.mod hm hS,fun j hj=>(h3 j hj).mod hm hS⟩
theorem zdo.ext {F:Nat -> Prop} {w w':World} {v:Value} (h:zdo F w v) (hm:Ext w w'):zdo F w' v:=h.mod hm (fun _ _ h=>h)
theorem zbL {F:Nat -> Prop} {w:World} {s:AV} {a:Ac} (h:AcAt F w s a):∃ (a1:Option Addr) (n1 c1:Nat) (a2:Option Addr) (n2 c2:Nat) (a3:Option Addr) (n3 c3:Nat) (a4:Option Addr) (n4 c4:Nat) (a5:Option Addr) (n5 c5:Nat),s=⟨⟨.slice a1 n1 c1,.slice a2 n2 c2,.slice a3 n3 c3⟩,.slice a4 n4 c4,.slice a5 n5 c5⟩:=by
 obtain ⟨⟨h1,h2,h3⟩,h4,h5⟩:=h;obtain ⟨⟨x1,x2,x3⟩,x4,x5⟩:=s;obtain ⟨_,_,rfl⟩:=h1.slice;obtain ⟨_,_,rfl⟩:=h2.slice;obtain ⟨_,_,rfl⟩:=h3.slice;obtain ⟨_,_,rfl⟩:=h4.slice;obtain ⟨_,_,rfl⟩:=h5.slice;exact ⟨_,_,_,_,_,_,_,_,_,_,_,_,_,_,_,rfl⟩
theorem znF {a:Ac} (hv:vAc a=true):(line a).length<=100000000:=by
 obtain ⟨ok,hm⟩:=zjk hv;unfold line;have key:∀ (l:List Fm) (k:Nat),l=forms.drop k -> k<=18 -> (match zcW a.kd a.fc.kd k l with | none=>([]:Bs) | some (j,f)=>join 32 (f.wd::zal j a)).length<=100000000:=by
  intro l
  induction l with
  | nil=>intro k _ _;simp [zcW]
  | cons f r ih=>
   intro k hk h18;have hk':k < 18:=by
    rcases Nat.lt_or_ge k 18 with h | h
    ·exact h
    ·have:forms.drop k=[]:=List.drop_eq_nil_of_le h
     rw [this] at hk;cases hk
   obtain ⟨ff,e,k1,k2,k3⟩:=zgH hk';rw [e] at hk;injection hk with e1 e2
   subst e1;simp only [zcW]
   by_cases hh:f.kd=a.kd/\f.fk=a.fc.kd
   ·rw [if_pos hh]
    have hm17:k=17 -> vMs a.ms=true:=fun e=>hm (by rw [<- hh.1,k1];exact zjH hk' e)
    obtain ⟨hw9,hwl⟩:=zeS ok hm17;have hwd:f.wd.length<=3000000:=by
     rw [k3];have:∀ k:Fin 18,(zol k.val).length<=3000000:=by decide
     exact this ⟨k,hk'⟩
    have h1:=zdd 32 3000000 (f.wd::zal k a) (fun x hx=>by
     rcases List.mem_cons.1 hx with rfl | hx
     ·exact hwd
     ·exact hwl x hx)
    rw [List.length_cons] at h1;have h3:((zal k a).length+1)*(3000000+1)<=10*3000001:=Nat.mul_le_mul (by omega) (Nat.le_refl _);simp only;omega
   ·rw [if_neg hh]
    exact ih (k+1) e2 (by omega)
 exact key forms 0 rfl (by omega)
def zga (l:List Ac) (e:Ending):Prop:=e=match print l with | some s=>.returned (.tuple #[.string ⟨s.toArray⟩,.int .i64 0]) | none=>.returned (.tuple #[.string ⟨#[]⟩,.int .i64 280])
theorem ziB {l:List Ac} (h:100 < l.length):print l=none:=by unfold print;rw [if_neg];simp;omega
theorem ziI {l:List Ac} {a:Ac} (h:a ∈ l) (hv:vAc a=false):print l=none:=by
 unfold print;rw [if_neg];simp only [Bool.and_eq_true,List.all_eq_true,not_and,decide_eq_true_eq];intro _ hh;have:=hh a h;rw [hv] at this;cases this
theorem ziw {l:List Ac} {j:Nat} (h:65536 < ((l.take j).flatMap lnF).length):print l=none:=by
 unfold print;rw [if_neg];simp only [Bool.and_eq_true,decide_eq_true_eq,not_and];intro _ _ hh;have:(l.flatMap lnF).length=((l.take j).flatMap lnF).length+((l.drop j).flatMap lnF).length:=by
  rw [<- List.length_append,<- List.flatMap_append,List.take_append_drop]
 omega
theorem print_any (v:Value) (l:List Ac) (w:World) (hG:Gl w) (h:zcg (fun k=>k < w.heap.size) w v l):
  Calls Tryz.prog 19 #[v] w fun e w'=>zga l e/\Ext w w':=by
 obtain ⟨ao,cap,rfl⟩:=h.slice;obtain ⟨n,hn⟩:∃ n,n=l.length:=⟨_,rfl⟩;have hn0:=h.len;rw [<- hn] at h hn0 ⊢;replace hn:=Y hn;replace h:=Y h;replace hG:=Y hG
 by_cases h100:100 < n
 ·have hi:(100:Int) < (n:Int):=by omega
  have hp:=Y (ziB (l:=l) (by rw [<- hn.o];exact h100));go_enter Tryz.func19,Tryz.ntmps19;go_wp2_with fail
  go_ret2
  exact ⟨by unfold zga;rw [hp.o];rfl,Mod.refl _ _⟩
 have hi:¬ (100:Int) < (n:Int):=by omega
 go_enter Tryz.func19,Tryz.ntmps19;go_wp2_with fail
 refine (zh5 w).mono ?_;rintro e w1 ⟨fo,fcap,rfl,hF,hx1⟩;have hb0:=Bld.fresh w1;have hxb:=Mod.alloc (Mod.refl (fun _=>False) w1) (.cells #[.pointer none,.slice none 0 0] zhl);have hF1:=Y (zdo.ext (hF) hxb);have hs1:w.heap.size<=w1.heap.size:=hx1.size;have hw2:=Y (hx1.trans hxb);clear hF hx1 hxb;go_wp2_with fail
 generalize (w1.alloc _)=w2 at hb0 hF1 hw2 ⊢;generalize w1.heap.size=B at hb0 hF1 hs1 ⊢;replace hb0:=Y hb0;go_loopg [14] n (fun g i wr=>∃ (j:Nat) (ty:Bs),j+g=n/\i=.int .i64 j/\Bld B B ty wr/\za4 B B w2 wr/\ty=(l.take j).flatMap lnF/\((l.take j).all vAc=true)/\ty.length<=65536)
 case atStart=>exact ⟨0,[],by omega,rfl,hb0.o,za4.refl _ _ _,rfl,rfl,by decide⟩
 case round=>
  clear hb0;obtain ⟨j,ty,hj,rfl,hB,hK,ht,hall,hlen⟩:=hrel;replace hj:=Y hj;have hm:Mod (fun k=>B<=k) w wr:=(hw2.o.mono (T:=fun k=>B<=k) (fun _ h=>h.elim)).trans hK.1
  by_cases hlt:j < n
  ·have hdi:(j:Int) < (n:Int):=by omega
   have hd:decide ((j:Int) < (n:Int))=true:=decide_eq_true hdi;have hjl:j < l.length:=by have:=hn.o;omega
   obtain ⟨b1,o1,cap',sv,e,hFb,hA,hc⟩:=(h.o.mod hm (fun k h1 h2=>by omega)).get hjl;have htk:(l.take (j+1)).flatMap lnF=ty++lnF l[j]:=by rw [List.take_succ_eq_append_getElem hjl,List.flatMap_append,<- ht];simp
   have hall2:(l.take (j+1)).all vAc=((l.take j).all vAc && vAc l[j]):=by rw [List.take_succ_eq_append_getElem hjl,List.all_append];simp
   have hmem:l[j] ∈ l:=List.getElem_mem _;injection e with e1 e2 e3
   subst e1;clear e2 e3;obtain ⟨a1,n1,c1,a2,n2,c2,a3,n3,c3,a4,n4,c4,a5,n5,c5,rfl⟩:=zbL hA;generalize l[j]=a at hA hc htk hall2 hmem;obtain ⟨V,hV⟩:∃ V,V=acA a1 n1 c1 a2 n2 c2 a3 n3 c3 a4 n4 c4 a5 n5 c5 a:=⟨_,rfl⟩;have hr:wr.rangeAt b1 (o1+j*36) V.toList:=fun i u hu=>by
    have hu':(acC (⟨⟨.slice a1 n1 c1,.slice a2 n2 c2,.slice a3 n3 c3⟩,.slice a4 n4 c4,.slice a5 n5 c5⟩,a))[i]?=some u:=by rw [hV] at hu;exact hu
    exact hc i u (List.getElem?_eq_some_iff.1 hu').1 hu'
   have hVs:V.toList.length=36:=by rw [hV];rfl
   have hVi:(Tryz.prog.info? 32).map (·.size)=some V.toList.length:=by rw [hVs];kernel_rfl
   have hVj:(Tryz.prog.info? 32).map (·.size)=some V.size:=by rw [<- Array.length_toList];exact hVi
   have hV1:V.toList.all (·.oneCell')=true:=by rw [hV];rfl
   have hVa:V.toList.toArray=V:=by simp
   clear hc;have hBl:=hB.lt;replace hA:=Y hA;replace hB:=Y hB;replace hK:=Y hK;replace hm:=Y hm;replace ht:=Y ht;replace htk:=Y htk;replace hlen:=Y hlen;replace hV:=Y hV;replace hr:=Y hr;replace hVi:=Y hVi;replace hVj:=Y hVj;replace hVs:=Y hVs;replace hV1:=Y hV1;replace hVa:=Y hVa;replace hall2:=Y hall2;replace hmem:=Y hmem;go_upto_region 8 with (first | (refine wpList_load_mid rfl 32 _ rfl b1 (o1+j*36) rfl V.toList _ hr.o Tryz.underlying32 rfl hVi.o ?_) | (refine zab rfl 32 _ _ rfl wr.heap.size _ V 32 rfl (by rw [<- hVa.o];rfl) (heap_alloc_new wr _) (by rw [<- Array.length_toList,hVs.o];rfl) hVj.o hV1.o (fun WS HS=>?_)))
   obtain ⟨zs,hzs⟩:∃ zs,Hid (Mod (Eq wr.heap.size) (wr.alloc (.cells zs 32)) WS):=⟨_,Y HS.o.2⟩;have hX2:Ext wr WS:=(((Mod.alloc (Mod.refl (fun _=>False) wr) (.cells zs 32)).mono (T:=fun k=>wr.heap.size<=k) (fun _ h=>h.elim)).then hzs.o (fun k _ e=>by omega)).mono' (fun k h1 h2=>by omega);have hT:=Y HS.o.1;have hTB:wr.heap.size ≠ B:=by omega
   generalize wr.heap.size=T at hT hTB ⊢;clear HS hzs;have hBS:=Y (hB.o.ext hX2);have hKS:=Y (hK.o.ext hX2);have hAS:=Y ((hA.o.ext hX2));have hmS:=Y (hm.o.trans (hX2.mono (T:=fun k=>B<=k) (fun _ h=>h.elim)));have hsz:w.heap.size<=WS.heap.size:=hmS.o.size;clear hB hK hA hm hr hX2;have hvl:=Y (zey a1 n1 c1 a2 n2 c2 a3 n3 c3 a4 n4 c4 a5 n5 c5 a WS (hAS.o.mono (fun k hk=>by omega)));rw [<- hV.o] at hvl;clear hsz;cases hva:vAc a with
   | false=>
    rw [hva] at hvl;have hp:=Y (ziI hmem.o hva);replace hva:=Y hva;go_wp2_with (first | (refine zae (by rfl) 32 _ rfl T V _ _ _ rfl hT.o Tryz.underlying32 rfl hVj.o ?_))
    refine hvl.o.mono ?_;rintro e w3 ⟨rfl,hx3⟩;have hx3:=Y (hmS.o.trans (hx3.mono (T:=fun k=>B<=k) (fun _ h=>h.elim)));go_wp2_with fail
    go_ret2
    exact ⟨by unfold zga;rw [hp.o];rfl,zao hs1 hx3.o⟩
   | true=>
    rw [hva] at hvl;have hll:=Y (znF hva);go_wp2_with (first | (refine zae (by rfl) 32 _ rfl T V _ _ _ rfl hT.o Tryz.underlying32 rfl hVj.o ?_))
    refine hvl.o.mono ?_;rintro e w3 ⟨rfl,hx3⟩;have hT3:=Y (hx3.at hT.o id);have hB3:=Y (hBS.o.ext hx3);have hK3:=Y (hKS.o.ext hx3);have hm3:=Y (hmS.o.trans (hx3.mono (T:=fun k=>B<=k) (fun _ h=>h.elim)));have hA3:=Y (hAS.o.ext hx3);clear hvl hT hBS hKS hmS hAS hx3;have hsz:w.heap.size<=w3.heap.size:=hm3.o.size;have hF3:=zdo.mod hF1.o hK3.o.1 (fun k h1 h2=>by have:=h1.2;omega);have hG3:=hG.o.mod hm3.o (fun k h=>by have:=hG.o.size;omega);have hln:=Y (zjD (.slice fo 18 fcap) a1 n1 c1 a2 n2 c2 a3 n3 c3 a4 n4 c4 a5 n5 c5 a w3 hG3 hF3 (hA3.o.mono (fun k hk=>by omega)) hva);rw [<- hV.o] at hln;replace hva:=Y hva;clear hF3 hG3 hsz hA3;generalize hlt2:line a=tl at hln hll;have hlnF:lnF a=tl++[10]:=by rw [lnF,hlt2]
    replace hlnF:=Y hlnF;replace hlt2:=Y hlt2;go_wp2_with (first | (refine zae (by rfl) 32 _ rfl T V _ _ _ rfl hT3.o Tryz.underlying32 rfl hVj.o ?_))
    refine hln.o.mono ?_;rintro e w4 ⟨rfl,hx4⟩;have hB4:=hB3.o.ext hx4;have hK4:=Y (hK3.o.ext hx4);have hm4:=Y (hm3.o.trans (hx4.mono (T:=fun k=>B<=k) (fun _ h=>h.elim)));clear hln hB3 hK3 hm3 hx4 hT3;go_wp2_with fail
    refine (zes B B ty ⟨tl.toArray⟩ w4 hB4 (by have:=hlen.o;have:=hll.o;rw [za6];omega)).mono ?_;rintro e w5 ⟨rfl,hB5,hK5⟩;have hm5:=Y (hm4.o.trans hK5.1);have hK5:=Y (hK4.o.trans hK5);clear hB4 hK4 hm4;go_wp2_with fail
    refine (zdB B B _ 10 w5 hB5 (by have:=hlen.o;have:=hll.o;simp only [List.length_append];omega)).mono ?_;rintro e w6 ⟨rfl,hB6,hK6⟩;have hm6:=Y (hm5.o.trans hK6.1);have hK6:=Y (hK5.o.trans hK6);clear hB5 hK5 hm5;have hty:(ty++tl)++[10]=(l.take (j+1)).flatMap lnF:=by rw [htk.o,hlnF.o,List.append_assoc]
    have hty':(ty++tl++[10]).length=((l.take (j+1)).flatMap lnF).length:=by rw [hty]
    have hbl:=Y (zmY B B _ w6 hB6);obtain ⟨tq,htq⟩:∃ tq,tq=(ty++tl)++[10]:=⟨_,rfl⟩;change Hid _ at hbl;rw [<- htq] at hbl hB6 hty;replace hB6:=Y hB6;replace hty:=Y hty;replace htq:=Y htq;clear hty';go_wp2_with fail
    refine hbl.o.mono ?_;rintro e w7 ⟨rfl,rfl⟩
    by_cases hbig:65536 < tq.length
    ·have hbi:(65536:Int) < (tq.length:Int):=by omega
     have hp:=Y (ziw (l:=l) (j:=j+1) (by rw [<- hty.o];exact hbig));go_wp2_with fail
     go_ret2
     exact ⟨by unfold zga;rw [hp.o];rfl,zao hs1 hm6.o⟩
    ·have hbi:¬ (65536:Int) < (tq.length:Int):=by omega
     go_wp2_with fail
     go_roundg (gk - 1)
     case measure=>have:=hj.o;omega
     case rel=>exact ⟨j+1,tq,by have:=hj.o;omega,by go_num,hB6.o,hK6.o,hty.o,by rw [hall2.o,hall,hva.o];rfl,by omega⟩
  ·obtain rfl:j=n:=by have:=hj.o;omega
   have hdi:¬ (j:Int) < (j:Int):=by omega
   have hd:decide ((j:Int) < (j:Int))=false:=decide_eq_false hdi;rw [List.take_of_length_le (by have:=hn.o;omega)] at ht hall
   have hp:=Y (show print l=some ty by
    unfold print;rw [if_pos,<- ht];simp only [Bool.and_eq_true,decide_eq_true_eq]
    exact ⟨by have:=hn.o;omega,hall,by rw [<- ht];exact hlen⟩)
   have hst:=Y (zgL B B ty wr hB);replace hm:=Y hm;replace ht:=Y ht;clear hB hK;go_wp2_with fail
   refine hst.o.mono ?_;rintro e w4 ⟨rfl,hm4⟩;replace hm4:=Y hm4;go_wp2_with fail
   go_ret2
   exact ⟨by unfold zga;rw [hp.o];rfl,zao hs1 (hm.o.trans hm4.o)⟩
end Go.Proofs.YtjjfphalcibjfaaGreatDoor
