import Derived.Test.YtjjfphalcibjfaaGreatDoorB10
import Derived.Test.YtjjfphalcibjfaaGreatDoorB12
import Derived.Test.YtjjfphalcibjfaaGreatDoorH0
import Derived.Test.YtjjfphalcibjfaaGreatDoorJ1
set_option maxRecDepth 100000
set_option maxHeartbeats 16000000
namespace Go.Proofs.YtjjfphalcibjfaaGreatDoor
open Go.RowKit Cdk Scr
theorem zdc (n a b:Int):∃ bb,rng n a b=bb/\((a<=n/\n<=b/\bb=true) \/ (a<=n/\¬ n<=b/\bb=false) \/ (¬ a<=n/\bb=false)):=by
 refine ⟨_,rfl,?_⟩;unfold rng
 by_cases h1:a<=n <;> by_cases h2:n<=b <;> simp [h1,h2]
theorem zog (n:Int):∃ bb,rng n 0 3=bb/\((0<=n/\n < 4/\bb=true) \/ (0<=n/\¬ n < 4/\bb=false) \/ (¬ 0<=n/\bb=false)):=by
 refine ⟨_,rfl,?_⟩;unfold rng
 by_cases h1:0<=n <;> by_cases h2:n < 4
 ·exact .inl ⟨h1,h2,by simp;omega⟩
 ·exact .inr (.inl ⟨h1,h2,by simp;omega⟩)
 ·exact .inr (.inr ⟨h1,by simp;omega⟩)
 ·exact .inr (.inr ⟨h1,by simp;omega⟩)
theorem OnP.ext {F:Nat -> Prop} {w w':World} {U:Nat} {r:Bool} {a:Ac} (h:OnP F w U r a) (hx:Ext w w'):OnP F w' U r a:=by
 obtain ⟨b1,m1,d1,b2,m2,d2,b3,m3,d3,b4,m4,d4,b5,m5,d5,p,hU,hp,hrp⟩:=h;exact ⟨b1,m1,d1,b2,m2,d2,b3,m3,d3,b4,m4,d4,b5,m5,d5,p,hx.at hU id,hp.ext hx,hrp⟩
theorem zkA (a1:Option Addr) (n1 c1:Nat) (a2:Option Addr) (n2 c2:Nat) (a3:Option Addr) (n3 c3:Nat) (a4:Option Addr) (n4 c4:Nat) (a5:Option Addr) (n5 c5:Nat) (a:Ac) (w:World) (h:AcAt (fun k=>k < w.heap.size) w ⟨⟨.slice a1 n1 c1,.slice a2 n2 c2,.slice a3 n3 c3⟩,.slice a4 n4 c4,.slice a5 n5 c5⟩ a) (hf:FcSz a.fc) (ht:a.tx.length<=4611686018427387904) (hd:a.ms.da.length<=4611686018427387904):
  Calls Tryz.prog 15 #[.agg (acA a1 n1 c1 a2 n2 c2 a3 n3 c3 a4 n4 c4 a5 n5 c5 a)] w fun e w'=>e=.returned (.bool (vAc a))/\Ext w w':=by
 obtain ⟨kd,fc,n,cl,tx,fa,ke,ms⟩:=a;simp only at hf ht hd;obtain ⟨r,hr⟩:∃ r,r=vAc ⟨kd,fc,n,cl,tx,fa,ke,ms⟩:=⟨_,rfl⟩;rw [<- hr];obtain ⟨od,hod⟩:∃ od,od=decide ((⟨kd,fc,n,cl,tx,fa,ke,ms⟩:Ac)=zfE ⟨kd,fc,n,cl,tx,fa,ke,ms⟩):=⟨_,rfl⟩;obtain ⟨VA,hVA⟩:∃ V,V=acA a1 n1 c1 a2 n2 c2 a3 n3 c3 a4 n4 c4 a5 n5 c5 ⟨kd,fc,n,cl,tx,fa,ke,ms⟩:=⟨_,rfl⟩;obtain ⟨VZ,hVZ⟩:∃ V,V=acA none 0 0 none 0 0 none 0 0 none 0 0 none 0 0 ⟨kd,Fc.zero,0,0,[],[],[],Ms.zero⟩:=⟨_,rfl⟩;have hz:=Y (zaV w (acA a1 n1 c1 a2 n2 c2 a3 n3 c3 a4 n4 c4 a5 n5 c5 ⟨kd,fc,n,cl,tx,fa,ke,ms⟩) zA9 32 32);have q0:=(zaa (heap_alloc_new w (.cells (acA a1 n1 c1 a2 n2 c2 a3 n3 c3 a4 n4 c4 a5 n5 c5 ⟨kd,fc,n,cl,tx,fa,ke,ms⟩) 32)) 0).trans (show _=some (.int .i64 kd) from rfl);rw [<- hVA] at hz q0 ⊢;have h2:=Y (fun W (hX:Mod (fun k=>w.heap.size<=k) w W)=>h.mod hX (fun k h1 h2=>by omega));have hfin:Hid (∀ w',Mod (fun k=>w.heap.size<=k) w w' -> Ext w w'):=Y (fun w' h=>h.mono' (fun k hk e=>by omega));have iA:=Y (show (Tryz.prog.info? 32).map (·.size)=some VA.size by rw [hVA];kernel_rfl);obtain ⟨bc,hbc,hc⟩:=zog cl;replace hbc:=Y hbc;replace hc:=Y hc;clear h;replace hr:=Y hr;replace hod:=Y hod;replace hVA:=Y hVA;replace hVZ:=Y hVZ;replace hf:=Y hf;go_enter Tryz.func15,Tryz.ntmps15;go_upto_region 2 with (refine zab rfl 32 _ _ rfl (w.heap.size+1) _ _ 32 rfl rfl hz.o.2.2.1 rfl (by kernel_rfl) rfl (fun W H1=>?_))
 have hA:=Y (H1.o.2.at hz.o.2.1 (by omega));have hU:Hid (W.heap[w.heap.size+1]?=some (.cells VZ 32 (0,0))):=Y (by rw [hVZ.o];exact H1.o.1);have hm:=Y ((hz.o.1.mono (T:=fun k=>w.heap.size<=k) (fun _ h=>h.elim)).then H1.o.2 (fun k _ e=>by omega));clear H1 hz q0;simp only [Act.put];go_cut [4] from 7 to 171 (fun x4 wx=>wx=W/\x4=.bool bc)
 case first=>
  have q_cl:W.cell? ⟨w.heap.size,25,none⟩=some (.int .i64 cl):=(zaa hA.o 25).trans (by rw [hVA.o];rfl);replace hc:=hc.o;rcases hc with ⟨l1,l2,rfl⟩ | ⟨l1,l2,rfl⟩ | ⟨l1,rfl⟩
  all_goals
   go_wp2_with fail
   go_meet
   exact ⟨rfl,rfl⟩
 case rest=>
 obtain ⟨rfl,rfl⟩:=hcut;have q_kd:wc.cell? ⟨w.heap.size,0,none⟩=some (.int .i64 kd):=(zaa hA.o 0).trans (by rw [hVA.o];rfl);go_upto_region 6 with fail
 clear q_kd hc;obtain ⟨W,hW⟩:∃ W,W=wc:=⟨_,rfl⟩;subst hW;obtain ⟨R,hR⟩:∃ R,R=w.heap.size:=⟨_,rfl⟩;rw [<- hR] at hA hU ⊢;have hRw:w.heap.size<=R/\R<=w.heap.size:=by omega
 replace hR:=Y hR;rcases (show kd=1 \/ kd=2 \/ kd=3 \/ kd=10 \/ kd=4 \/ kd=5 \/ kd=6 \/ kd=7 \/ kd=8 \/ kd=9 \/ (¬ kd=1/\¬ kd=2/\¬ kd=3/\¬ kd=10/\¬ kd=4/\¬ kd=5/\¬ kd=6/\¬ kd=7/\¬ kd=8/\¬ kd=9) by omega) with rfl | rfl | rfl | rfl | rfl | rfl | rfl | rfl | rfl | rfl | ⟨g1,g2,g3,g10,g4,g5,g6,g7,g8,g9⟩
 case' inl=>
  replace hr:r=((decide (fc.n=0) && (decide (fc.tm=0) && (!decide (fc.kd=10) && vFc fc))) && od):=by rw [hr.o];unfold vAc;rw [hod.o];rfl
  have cV:=Y (fun W (hX:Mod (fun k=>w.heap.size<=k) w W)=>zfO a1 n1 c1 a2 n2 c2 a3 n3 c3 fc W ((h2.o W hX).fc.mono (fun k hk=>Nat.lt_of_lt_of_le hk hX.size)) hf);generalize vFc fc=bv at hr cV;have p1:=zaj fc.n 0;have p2:=zaj fc.tm 0;have p3:=zdu fc.kd 10;generalize decide (fc.n=0)=d1 at p1 hr;generalize decide (fc.tm=0)=d2 at p2 hr;generalize decide (fc.kd=10)=d3 at p3 hr;replace p1:=Y p1;replace p2:=Y p2;replace p3:=Y p3;replace hr:=Y hr;have hTl:=Y (zaD (n:=1) (k:=23) (cs:=(fcA a1 n1 c1 a2 n2 c2 a3 n3 c3 fc).toList) hA.o (by rw [hVA.o];rfl));have hUl:=Y (show W.heap[R+1]?=some (.cells ((VZ.toList.take 1++((fcA none 0 0 none 0 0 none 0 0 Fc.zero).toList++VZ.toList.drop 24))).toArray 32 (0,0)) by rw [hU.o,hVZ.o];rfl);have hl0:Hid (1=(VZ.toList.take 1).length):=Y (by rw [hVZ.o];rfl);go_upto_region 8 with (first | (refine zaM (by rfl) 28 _ rfl R 1 (fcA a1 n1 c1 a2 n2 c2 a3 n3 c3 fc) _ rfl hTl.o Tryz.underlying28 rfl (by kernel_rfl) ?_) | (refine zbH rfl 28 _ _ rfl (R+1) 1 _ _ _ (fcA a1 n1 c1 a2 n2 c2 a3 n3 c3 fc).toList 32 hl0.o rfl rfl hUl.o rfl (by kernel_rfl) rfl (fun WS HS=>?_)))
  have hU2:=HS.o.1;have hA2:=HS.o.2.at hA.o (by omega);have hm2:=hm.o.then HS.o.2 (fun k _ e=>by omega);clear HS hTl hUl hl0;have hh:=h2.o WS hm2;have hfi:Hid (OnP (fun k=>k < w.heap.size) WS (R+1) od ⟨1,fc,n,cl,tx,fa,ke,ms⟩):=Y ⟨a1,n1,c1,a2,n2,c2,a3,n3,c3,none,0,0,none,0,0,⟨1,fc,0,0,[],[],[],Ms.zero⟩,by rw [hU2];try rw [hVZ.o];try rfl,⟨hh.fc,zac.nil _ _ _,zac.nil _ _ _⟩,hod.o⟩;clear hh hU2 hA hm hU;have hA:=Y hA2;have hm:=Y hm2;clear hA2 hm2;have hTl:=Y (zaD (n:=1) (k:=23) (cs:=(fcA a1 n1 c1 a2 n2 c2 a3 n3 c3 fc).toList) hA.o (by rw [hVA.o];rfl));go_wp2_with (refine zaM (by rfl) 28 _ rfl R 1 (fcA a1 n1 c1 a2 n2 c2 a3 n3 c3 fc) _ rfl hTl.o Tryz.underlying28 rfl (by kernel_rfl) ?_)
  refine (cV.o _ hm.o).mono ?_;rintro e WV ⟨rfl,hxv⟩;replace hA:=Y (hxv.at hA.o id);replace hm:=Y (hm.o.then hxv (fun _ _ h=>h.elim));replace hfi:=Y (hfi.o.ext hxv);clear hxv hTl;have t_1:WV.cell? ⟨R,1,none⟩=some (.int .i64 fc.n):=(zaa hA.o 1).trans (by rw [hVA.o];rfl);have t_2:WV.cell? ⟨R,2,none⟩=some (.int .i64 fc.tm):=(zaa hA.o 2).trans (by rw [hVA.o];rfl);have t_3:WV.cell? ⟨R,3,none⟩=some (.int .i64 fc.kd):=(zaa hA.o 3).trans (by rw [hVA.o];rfl);replace p1:=p1.o;replace p2:=p2.o;replace p3:=p3.o;cases bv
  all_goals
   go_upto_region 38 with fail
 case' inr.inl=>
  replace hr:r=(rng n 1 500 && od):=by rw [hr.o];unfold vAc;rw [hod.o];rfl
  obtain ⟨bn,hbn,hn⟩:=zdc n 1 500;rw [hbn] at hr;clear hbn;replace hr:=Y hr;have s_n:W.cell? ⟨R,24,none⟩=some (.int .i64 n):=(zaa hA.o 24).trans (by rw [hVA.o];rfl);have o_n:W.cell? ⟨R+1,24,none⟩=some (.int .i64 0):=(zaa hU.o 24).trans (by rw [hVZ.o];rfl);have zU:=zad hU.o;go_upto_region 11 with fail
  clear zU s_n o_n;have hU2:=(zai hU.o 24 (.int .i64 n));have hA2:=((za1 _ 24 (.int .i64 n) (show R+1 ≠ R by omega)).trans hA.o);have hm2:=(hm.o.setCell (a:=⟨R+1,24,none⟩) (fun _=>by show w.heap.size<=R+1;omega) (.int .i64 n));generalize (W.setCell ⟨R+1,24,none⟩ (.int .i64 n))=WS at hU2 hA2 hm2 ⊢;have hh:=h2.o WS hm2;have hfi:Hid (OnP (fun k=>k < w.heap.size) WS (R+1) od ⟨2,fc,n,cl,tx,fa,ke,ms⟩):=Y ⟨none,0,0,none,0,0,none,0,0,none,0,0,none,0,0,⟨2,Fc.zero,n,0,[],[],[],Ms.zero⟩,by rw [hU2];try rw [hVZ.o];try rfl,⟨zax _ _ _ rfl rfl rfl,zac.nil _ _ _,zac.nil _ _ _⟩,hod.o⟩;clear hh hU2 hA hm hU;have hA:=Y hA2;have hm:=Y hm2;clear hA2 hm2;have t_24:WS.cell? ⟨R,24,none⟩=some (.int .i64 n):=(zaa hA.o 24).trans (by rw [hVA.o];rfl);all_goals rcases hn with ⟨m1,m2,rfl⟩ | ⟨m1,m2,rfl⟩ | ⟨m1,rfl⟩
  all_goals
   go_upto_region 38 with fail
 case' inr.inr.inl=>
  replace hr:r=(rng n 0 1000000000 && od):=by rw [hr.o];unfold vAc;rw [hod.o];rfl
  obtain ⟨bn,hbn,hn⟩:=zdc n 0 1000000000;rw [hbn] at hr;clear hbn;replace hr:=Y hr;have s_n:W.cell? ⟨R,24,none⟩=some (.int .i64 n):=(zaa hA.o 24).trans (by rw [hVA.o];rfl);have o_n:W.cell? ⟨R+1,24,none⟩=some (.int .i64 0):=(zaa hU.o 24).trans (by rw [hVZ.o];rfl);have zU:=zad hU.o;go_upto_region 14 with fail
  clear zU s_n o_n;have hU2:=(zai hU.o 24 (.int .i64 n));have hA2:=((za1 _ 24 (.int .i64 n) (show R+1 ≠ R by omega)).trans hA.o);have hm2:=(hm.o.setCell (a:=⟨R+1,24,none⟩) (fun _=>by show w.heap.size<=R+1;omega) (.int .i64 n));generalize (W.setCell ⟨R+1,24,none⟩ (.int .i64 n))=WS at hU2 hA2 hm2 ⊢;have hh:=h2.o WS hm2;have hfi:Hid (OnP (fun k=>k < w.heap.size) WS (R+1) od ⟨3,fc,n,cl,tx,fa,ke,ms⟩):=Y ⟨none,0,0,none,0,0,none,0,0,none,0,0,none,0,0,⟨3,Fc.zero,n,0,[],[],[],Ms.zero⟩,by rw [hU2];try rw [hVZ.o];try rfl,⟨zax _ _ _ rfl rfl rfl,zac.nil _ _ _,zac.nil _ _ _⟩,hod.o⟩;clear hh hU2 hA hm hU;have hA:=Y hA2;have hm:=Y hm2;clear hA2 hm2;have t_24:WS.cell? ⟨R,24,none⟩=some (.int .i64 n):=(zaa hA.o 24).trans (by rw [hVA.o];rfl);all_goals rcases hn with ⟨m1,m2,rfl⟩ | ⟨m1,m2,rfl⟩ | ⟨m1,rfl⟩
  all_goals
   go_upto_region 38 with fail
 case' inr.inr.inr.inl=>
  replace hr:r=(rng n 0 10000 && od):=by rw [hr.o];unfold vAc;rw [hod.o];rfl
  obtain ⟨bn,hbn,hn⟩:=zdc n 0 10000;rw [hbn] at hr;clear hbn;replace hr:=Y hr;have s_n:W.cell? ⟨R,24,none⟩=some (.int .i64 n):=(zaa hA.o 24).trans (by rw [hVA.o];rfl);have o_n:W.cell? ⟨R+1,24,none⟩=some (.int .i64 0):=(zaa hU.o 24).trans (by rw [hVZ.o];rfl);have zU:=zad hU.o;go_upto_region 37 with fail
  clear zU s_n o_n;have hU2:=(zai hU.o 24 (.int .i64 n));have hA2:=((za1 _ 24 (.int .i64 n) (show R+1 ≠ R by omega)).trans hA.o);have hm2:=(hm.o.setCell (a:=⟨R+1,24,none⟩) (fun _=>by show w.heap.size<=R+1;omega) (.int .i64 n));generalize (W.setCell ⟨R+1,24,none⟩ (.int .i64 n))=WS at hU2 hA2 hm2 ⊢;have hh:=h2.o WS hm2;have hfi:Hid (OnP (fun k=>k < w.heap.size) WS (R+1) od ⟨10,fc,n,cl,tx,fa,ke,ms⟩):=Y ⟨none,0,0,none,0,0,none,0,0,none,0,0,none,0,0,⟨10,Fc.zero,n,0,[],[],[],Ms.zero⟩,by rw [hU2];try rw [hVZ.o];try rfl,⟨zax _ _ _ rfl rfl rfl,zac.nil _ _ _,zac.nil _ _ _⟩,hod.o⟩;clear hh hU2 hA hm hU;have hA:=Y hA2;have hm:=Y hm2;clear hA2 hm2;have t_24:WS.cell? ⟨R,24,none⟩=some (.int .i64 n):=(zaa hA.o 24).trans (by rw [hVA.o];rfl);all_goals rcases hn with ⟨m1,m2,rfl⟩ | ⟨m1,m2,rfl⟩ | ⟨m1,rfl⟩
  all_goals
   go_upto_region 38 with fail
 case' inr.inr.inr.inr.inl=>
  replace hr:r=(zg5 fa 64 24 && od):=by rw [hr.o];unfold vAc;rw [hod.o];rfl
  have cV:=Y (fun W (hX:Mod (fun k=>w.heap.size<=k) w W)=>zhY (.slice a4 n4 c4) fa 24 W (h2.o W hX).fa);generalize zg5 fa 64 24=bv at hr cV;replace hr:=Y hr;have s_fa:W.cell? ⟨R,27,none⟩=some (.slice a4 n4 c4):=(zaa hA.o 27).trans (by rw [hVA.o];rfl);have o_fa:W.cell? ⟨R+1,27,none⟩=some (.slice none 0 0):=(zaa hU.o 27).trans (by rw [hVZ.o];rfl);have zU:=zad hU.o;go_upto_region 17 with fail
  clear zU s_fa o_fa;have hU2:=(zai hU.o 27 (.slice a4 n4 c4));have hA2:=((za1 _ 27 (.slice a4 n4 c4) (show R+1 ≠ R by omega)).trans hA.o);have hm2:=(hm.o.setCell (a:=⟨R+1,27,none⟩) (fun _=>by show w.heap.size<=R+1;omega) (.slice a4 n4 c4));generalize (W.setCell ⟨R+1,27,none⟩ (.slice a4 n4 c4))=WS at hU2 hA2 hm2 ⊢;have hh:=h2.o WS hm2;have hfi:Hid (OnP (fun k=>k < w.heap.size) WS (R+1) od ⟨4,fc,n,cl,tx,fa,ke,ms⟩):=Y ⟨none,0,0,none,0,0,none,0,0,a4,n4,c4,none,0,0,⟨4,Fc.zero,0,0,[],fa,[],Ms.zero⟩,by rw [hU2];try rw [hVZ.o];try rfl,⟨zax _ _ _ rfl rfl rfl,hh.fa,zac.nil _ _ _⟩,hod.o⟩;clear hh hU2 hA hm hU;have hA:=Y hA2;have hm:=Y hm2;clear hA2 hm2;have t_27:WS.cell? ⟨R,27,none⟩=some (.slice a4 n4 c4):=(zaa hA.o 27).trans (by rw [hVA.o];rfl);all_goals
   go_upto_region 38 with fail
   try (refine (cV.o _ hm.o).mono ?_;rintro e wv ⟨rfl,rfl⟩;go_upto_region 38 with fail)
 case' inr.inr.inr.inr.inr.inl=>
  replace hr:r=((rng n (-1) 4194304 && zg5 ke 64 1000) && od):=by rw [hr.o];unfold vAc;rw [hod.o];rfl
  have cV:=Y (fun W (hX:Mod (fun k=>w.heap.size<=k) w W)=>zhY (.slice a5 n5 c5) ke 1000 W (h2.o W hX).ke);generalize zg5 ke 64 1000=bv at hr cV;obtain ⟨bn,hbn,hn⟩:=zdc n (-1) 4194304;rw [hbn] at hr;clear hbn;replace hr:=Y hr;have s_n:W.cell? ⟨R,24,none⟩=some (.int .i64 n):=(zaa hA.o 24).trans (by rw [hVA.o];rfl);have o_n:W.cell? ⟨R+1,24,none⟩=some (.int .i64 0):=(zaa hU.o 24).trans (by rw [hVZ.o];rfl);have s_ke:W.cell? ⟨R,28,none⟩=some (.slice a5 n5 c5):=(zaa hA.o 28).trans (by rw [hVA.o];rfl);have o_ke:W.cell? ⟨R+1,28,none⟩=some (.slice none 0 0):=(zaa hU.o 28).trans (by rw [hVZ.o];rfl);have zU:=zad hU.o;go_upto_region 21 with fail
  clear zU s_n o_n s_ke o_ke;have hU2:=(zai (zai hU.o 24 (.int .i64 n)) 28 (.slice a5 n5 c5));have hA2:=((za1 _ 28 (.slice a5 n5 c5) (show R+1 ≠ R by omega)).trans ((za1 _ 24 (.int .i64 n) (show R+1 ≠ R by omega)).trans hA.o));have hm2:=((hm.o.setCell (a:=⟨R+1,24,none⟩) (fun _=>by show w.heap.size<=R+1;omega) (.int .i64 n)).setCell (a:=⟨R+1,28,none⟩) (fun _=>by show w.heap.size<=R+1;omega) (.slice a5 n5 c5));generalize ((W.setCell ⟨R+1,24,none⟩ (.int .i64 n)).setCell ⟨R+1,28,none⟩ (.slice a5 n5 c5))=WS at hU2 hA2 hm2 ⊢;have hh:=h2.o WS hm2;have hfi:Hid (OnP (fun k=>k < w.heap.size) WS (R+1) od ⟨5,fc,n,cl,tx,fa,ke,ms⟩):=Y ⟨none,0,0,none,0,0,none,0,0,none,0,0,a5,n5,c5,⟨5,Fc.zero,n,0,[],[],ke,Ms.zero⟩,by rw [hU2];try rw [hVZ.o];try rfl,⟨zax _ _ _ rfl rfl rfl,zac.nil _ _ _,hh.ke⟩,hod.o⟩;clear hh hU2 hA hm hU;have hA:=Y hA2;have hm:=Y hm2;clear hA2 hm2;have t_24:WS.cell? ⟨R,24,none⟩=some (.int .i64 n):=(zaa hA.o 24).trans (by rw [hVA.o];rfl);have t_28:WS.cell? ⟨R,28,none⟩=some (.slice a5 n5 c5):=(zaa hA.o 28).trans (by rw [hVA.o];rfl);all_goals rcases hn with ⟨m1,m2,rfl⟩ | ⟨m1,m2,rfl⟩ | ⟨m1,rfl⟩
  all_goals
   go_upto_region 38 with fail
   try (refine (cV.o _ hm.o).mono ?_;rintro e wv ⟨rfl,rfl⟩;go_upto_region 38 with fail)
 case' inr.inr.inr.inr.inr.inr.inl=>
  replace hr:r=((rng cl 0 3 && zf7 tx 1 100 33) && od):=by rw [hr.o];unfold vAc;rw [hod.o];rfl
  have cV:=Y (fun W=>ze4 tx ht 1 100 33 (by decide) (by decide) W);generalize zf7 tx 1 100 33=bv at hr cV;rw [hbc.o] at hr;replace hr:=Y hr;have s_cl:W.cell? ⟨R,25,none⟩=some (.int .i64 cl):=(zaa hA.o 25).trans (by rw [hVA.o];rfl);have o_cl:W.cell? ⟨R+1,25,none⟩=some (.int .i64 0):=(zaa hU.o 25).trans (by rw [hVZ.o];rfl);have s_tx:W.cell? ⟨R,26,none⟩=some (.string ⟨tx.toArray⟩):=(zaa hA.o 26).trans (by rw [hVA.o];rfl);have o_tx:W.cell? ⟨R+1,26,none⟩=some (.string ⟨#[]⟩):=(zaa hU.o 26).trans (by rw [hVZ.o];rfl);have zU:=zad hU.o;go_upto_region 25 with fail
  clear zU s_cl o_cl s_tx o_tx;have hU2:=(zai (zai hU.o 25 (.int .i64 cl)) 26 (.string ⟨tx.toArray⟩));have hA2:=((za1 _ 26 (.string ⟨tx.toArray⟩) (show R+1 ≠ R by omega)).trans ((za1 _ 25 (.int .i64 cl) (show R+1 ≠ R by omega)).trans hA.o));have hm2:=((hm.o.setCell (a:=⟨R+1,25,none⟩) (fun _=>by show w.heap.size<=R+1;omega) (.int .i64 cl)).setCell (a:=⟨R+1,26,none⟩) (fun _=>by show w.heap.size<=R+1;omega) (.string ⟨tx.toArray⟩));generalize ((W.setCell ⟨R+1,25,none⟩ (.int .i64 cl)).setCell ⟨R+1,26,none⟩ (.string ⟨tx.toArray⟩))=WS at hU2 hA2 hm2 ⊢;have hh:=h2.o WS hm2;have hfi:Hid (OnP (fun k=>k < w.heap.size) WS (R+1) od ⟨6,fc,n,cl,tx,fa,ke,ms⟩):=Y ⟨none,0,0,none,0,0,none,0,0,none,0,0,none,0,0,⟨6,Fc.zero,0,cl,tx,[],[],Ms.zero⟩,by rw [hU2];try rw [hVZ.o];try rfl,⟨zax _ _ _ rfl rfl rfl,zac.nil _ _ _,zac.nil _ _ _⟩,hod.o⟩;clear hh hU2 hA hm hU;have hA:=Y hA2;have hm:=Y hm2;clear hA2 hm2;have t_26:WS.cell? ⟨R,26,none⟩=some (.string ⟨tx.toArray⟩):=(zaa hA.o 26).trans (by rw [hVA.o];rfl);cases bc
  all_goals
   go_upto_region 38 with fail
   try (refine (cV.o _).mono ?_;rintro e wv ⟨rfl,rfl⟩;go_upto_region 38 with fail)
 case' inr.inr.inr.inr.inr.inr.inr.inl=>
  replace hr:r=((rng cl 0 3 && (rng n 0 64 && zf7 tx 0 300 32)) && od):=by rw [hr.o];unfold vAc;rw [hod.o];rfl
  have cV:=Y (fun W=>ze4 tx ht 0 300 32 (by decide) (by decide) W);generalize zf7 tx 0 300 32=bv at hr cV;rw [hbc.o] at hr;obtain ⟨bn,hbn,hn⟩:=zdc n 0 64;rw [hbn] at hr;clear hbn;replace hr:=Y hr;have s_cl:W.cell? ⟨R,25,none⟩=some (.int .i64 cl):=(zaa hA.o 25).trans (by rw [hVA.o];rfl);have o_cl:W.cell? ⟨R+1,25,none⟩=some (.int .i64 0):=(zaa hU.o 25).trans (by rw [hVZ.o];rfl);have s_n:W.cell? ⟨R,24,none⟩=some (.int .i64 n):=(zaa hA.o 24).trans (by rw [hVA.o];rfl);have o_n:W.cell? ⟨R+1,24,none⟩=some (.int .i64 0):=(zaa hU.o 24).trans (by rw [hVZ.o];rfl);have s_tx:W.cell? ⟨R,26,none⟩=some (.string ⟨tx.toArray⟩):=(zaa hA.o 26).trans (by rw [hVA.o];rfl);have o_tx:W.cell? ⟨R+1,26,none⟩=some (.string ⟨#[]⟩):=(zaa hU.o 26).trans (by rw [hVZ.o];rfl);have zU:=zad hU.o;go_upto_region 30 with fail
  clear zU s_cl o_cl s_n o_n s_tx o_tx;have hU2:=(zai (zai (zai hU.o 25 (.int .i64 cl)) 24 (.int .i64 n)) 26 (.string ⟨tx.toArray⟩));have hA2:=((za1 _ 26 (.string ⟨tx.toArray⟩) (show R+1 ≠ R by omega)).trans ((za1 _ 24 (.int .i64 n) (show R+1 ≠ R by omega)).trans ((za1 _ 25 (.int .i64 cl) (show R+1 ≠ R by omega)).trans hA.o)));have hm2:=(((hm.o.setCell (a:=⟨R+1,25,none⟩) (fun _=>by show w.heap.size<=R+1;omega) (.int .i64 cl)).setCell (a:=⟨R+1,24,none⟩) (fun _=>by show w.heap.size<=R+1;omega) (.int .i64 n)).setCell (a:=⟨R+1,26,none⟩) (fun _=>by show w.heap.size<=R+1;omega) (.string ⟨tx.toArray⟩));generalize (((W.setCell ⟨R+1,25,none⟩ (.int .i64 cl)).setCell ⟨R+1,24,none⟩ (.int .i64 n)).setCell ⟨R+1,26,none⟩ (.string ⟨tx.toArray⟩))=WS at hU2 hA2 hm2 ⊢;have hh:=h2.o WS hm2;have hfi:Hid (OnP (fun k=>k < w.heap.size) WS (R+1) od ⟨7,fc,n,cl,tx,fa,ke,ms⟩):=Y ⟨none,0,0,none,0,0,none,0,0,none,0,0,none,0,0,⟨7,Fc.zero,n,cl,tx,[],[],Ms.zero⟩,by rw [hU2];try rw [hVZ.o];try rfl,⟨zax _ _ _ rfl rfl rfl,zac.nil _ _ _,zac.nil _ _ _⟩,hod.o⟩;clear hh hU2 hA hm hU;have hA:=Y hA2;have hm:=Y hm2;clear hA2 hm2;have t_24:WS.cell? ⟨R,24,none⟩=some (.int .i64 n):=(zaa hA.o 24).trans (by rw [hVA.o];rfl);have t_26:WS.cell? ⟨R,26,none⟩=some (.string ⟨tx.toArray⟩):=(zaa hA.o 26).trans (by rw [hVA.o];rfl);cases bc
  all_goals rcases hn with ⟨m1,m2,rfl⟩ | ⟨m1,m2,rfl⟩ | ⟨m1,rfl⟩
  all_goals
   go_upto_region 38 with fail
   try (refine (cV.o _).mono ?_;rintro e wv ⟨rfl,rfl⟩;go_upto_region 38 with fail)
 case' inr.inr.inr.inr.inr.inr.inr.inr.inl=>
  replace hr:r=(vMs ms && od):=by rw [hr.o];unfold vAc;rw [hod.o];rfl
  have cV:=Y (fun W=>zcL ms W hd);unfold msC zb0 at cV;try simp only at cV
  generalize vMs ms=bv at hr cV;replace hr:=Y hr;have hTl:=Y (zaD (n:=29) (k:=7) (cs:=((msC ms).toArray).toList) hA.o (by rw [hVA.o];rfl));have hUl:=Y (show W.heap[R+1]?=some (.cells ((VZ.toList.take 29++(msC Ms.zero++VZ.toList.drop 36))).toArray 32 (0,0)) by rw [hU.o,hVZ.o];rfl);have hl0:Hid (29=(VZ.toList.take 29).length):=Y (by rw [hVZ.o];rfl);go_upto_region 33 with (first | (refine zaM (by rfl) 30 _ rfl R 29 ((msC ms).toArray) _ rfl hTl.o Tryz.underlying30 rfl (by kernel_rfl) ?_) | (refine zbH rfl 30 _ _ rfl (R+1) 29 _ _ _ ((msC ms).toArray).toList 32 hl0.o rfl rfl hUl.o rfl (by kernel_rfl) rfl (fun WS HS=>?_)))
  have hU2:=HS.o.1;have hA2:=HS.o.2.at hA.o (by omega);have hm2:=hm.o.then HS.o.2 (fun k _ e=>by omega);clear HS hTl hUl hl0;have hh:=h2.o WS hm2;have hfi:Hid (OnP (fun k=>k < w.heap.size) WS (R+1) od ⟨8,fc,n,cl,tx,fa,ke,ms⟩):=Y ⟨none,0,0,none,0,0,none,0,0,none,0,0,none,0,0,⟨8,Fc.zero,0,0,[],[],[],ms⟩,by rw [hU2];try rw [hVZ.o];try rfl,⟨zax _ _ _ rfl rfl rfl,zac.nil _ _ _,zac.nil _ _ _⟩,hod.o⟩;clear hh hU2 hA hm hU;have hA:=Y hA2;have hm:=Y hm2;clear hA2 hm2;have hTl:=Y (zaD (n:=29) (k:=7) (cs:=((msC ms).toArray).toList) hA.o (by rw [hVA.o];rfl));go_wp2_with (refine zaM (by rfl) 30 _ rfl R 29 ((msC ms).toArray) _ rfl hTl.o Tryz.underlying30 rfl (by kernel_rfl) ?_)
  refine (cV.o _).mono ?_;rintro e WV ⟨rfl,hxv⟩;replace hA:=Y (hxv.at hA.o id);replace hm:=Y (hm.o.then hxv (fun _ _ h=>h.elim));replace hfi:=Y (hfi.o.ext hxv);clear hxv hTl;go_upto_region 38 with fail
 case' inr.inr.inr.inr.inr.inr.inr.inr.inr.inl=>
  replace hr:r=(true && od):=by rw [hr.o];unfold vAc;rw [hod.o];rfl
  replace hr:=Y hr;go_upto_region 38 with fail
  obtain ⟨WS,hWS⟩:∃ WS,WS=W:=⟨_,rfl⟩;subst hWS;have hU2:=hU.o;have hA2:=hA.o;have hm2:=hm.o;have hh:=h2.o WS hm2;have hfi:Hid (OnP (fun k=>k < w.heap.size) WS (R+1) od ⟨9,fc,n,cl,tx,fa,ke,ms⟩):=Y ⟨none,0,0,none,0,0,none,0,0,none,0,0,none,0,0,⟨9,Fc.zero,0,0,[],[],[],Ms.zero⟩,by rw [hU2];try rw [hVZ.o];try rfl,⟨zax _ _ _ rfl rfl rfl,zac.nil _ _ _,zac.nil _ _ _⟩,hod.o⟩;clear hh hU2 hA hm hU;have hA:=Y hA2;have hm:=Y hm2;clear hA2 hm2
 case inr.inr.inr.inr.inr.inr.inr.inr.inr.inr=>
  have e1:(kd==1)=false:=by rw [beq_eq_false_iff_ne];exact g1
  have e2:(kd==2)=false:=by rw [beq_eq_false_iff_ne];exact g2
  have e3:(kd==3)=false:=by rw [beq_eq_false_iff_ne];exact g3
  have e4:(kd==4)=false:=by rw [beq_eq_false_iff_ne];exact g4
  have e5:(kd==5)=false:=by rw [beq_eq_false_iff_ne];exact g5
  have e6:(kd==6)=false:=by rw [beq_eq_false_iff_ne];exact g6
  have e7:(kd==7)=false:=by rw [beq_eq_false_iff_ne];exact g7
  have e8:(kd==8)=false:=by rw [beq_eq_false_iff_ne];exact g8
  have e9:(kd==9)=false:=by rw [beq_eq_false_iff_ne];exact g9
  have e10:(kd==10)=false:=by rw [beq_eq_false_iff_ne];exact g10
  replace hr:=Y (show r=false by rw [hr.o];unfold vAc zaS;simp only [g1,g2,g3,g4,g5,g6,g7,g8,g9,g10,if_false];rfl);replace g1:=Y g1;replace g2:=Y g2;replace g3:=Y g3;replace g4:=Y g4;replace g5:=Y g5;replace g6:=Y g6;replace g7:=Y g7;replace g8:=Y g8;replace g9:=Y g9;replace g10:=Y g10;go_wp2_with fail
  go_ret;exact ⟨by rw [hr.o];try rfl,hfin.o _ hm.o⟩
 all_goals
  obtain ⟨b1,m1,d1,b2,m2,d2,b3,m3,d3,b4,m4,d4,b5,m5,d5,p,hU,hp,hrp⟩:=hfi.o;have hS:=zh6 _ _ _ _ _ _ _ _ _ _ _ _ _ _ _ _ _ _ _ _ _ _ _ _ _ _ _ _ _ _ _ p _ (h2.o _ hm.o) hp;rw [<- hrp,<- hVA.o] at hS;replace hS:=Y hS;replace hU:=Y hU;clear hfi hp hrp;go_wp2_with (first | (refine zae (by rfl) 32 _ rfl R _ _ _ _ rfl hA.o Tryz.underlying32 rfl iA.o ?_) | (refine zae (by rfl) 32 _ rfl (R+1) _ _ _ _ rfl hU.o Tryz.underlying32 rfl (by kernel_rfl) ?_))
  refine hS.o.mono ?_;rintro e WE ⟨rfl,hxe⟩;go_wp2_with fail
  all_goals
   go_ret;exact ⟨by rw [hr.o];first | rfl | (simp;done) | (simp [*];done),hfin.o _ (hm.o.then hxe (fun _ _ h=>h.elim))⟩
open Go.Shelf Go.RowKit Cdk Scr
theorem zfH (ao:Option Addr) (n cap:Nat) (l:Lb) (w:World) (h:zaF (fun k=>k < w.heap.size) w (.slice ao n cap) l.aft) (hv:vLb l=true):
  Calls Tryz.prog 156 #[.agg #[.int .i64 l.til,.slice ao n cap,.int .i64 l.app,.int .i64 l.den]] w fun e w'=>e=.returned (.string ⟨(labelW l).toArray⟩)/\Ext w w':=by
 have hg:=hv;unfold vLb at hg;simp only [Bool.and_eq_true,zam] at hg;obtain ⟨g1,g2,g3,g4⟩:=hg;have hal:=zhf g4 (by decide);have ham:=zg0 g4;have hwf:¬ (l.til=0/\l.aft=[]/\l.app=0/\l.den=0) -> labelW l=Scr.join 47 [itoa l.til,listW (l.aft.map itoa),itoa l.app,itoa l.den]:=fun hz=>by unfold labelW;rw [if_neg hz]
 have hwz:(l.til=0/\l.aft=[]/\l.app=0/\l.den=0) -> labelW l=[42]:=fun hz=>by unfold labelW;rw [if_pos hz]
 obtain ⟨tz,htz⟩:∃ tz,tz=labelW l:=⟨_,rfl⟩;rw [<- htz] at hwf hwz ⊢;obtain ⟨til,aft,app,den⟩:=l;simp only at g1 g2 g3 hal ham hwf hwz h ⊢;have hn:n=aft.length:=by obtain ⟨_,_,e⟩:=h.slice;injection e
 have hnl:n<=64:=by omega
 obtain ⟨T,hT⟩:∃ T,T=w.heap.size:=⟨_,rfl⟩;have hT0:(w.alloc (.cells #[.int .i64 til,.slice ao n cap,.int .i64 app,.int .i64 den] 26)).heap[T]?=some (.cells #[.int .i64 til,.slice ao n cap,.int .i64 app,.int .i64 den] 26 (0,0)):=by rw [hT];exact heap_alloc_new w _
 have hx:=Mod.alloc (Mod.refl (fun _=>False) w) (.cells #[.int .i64 til,.slice ao n cap,.int .i64 app,.int .i64 den] 26);have d0:=Y (fun W=>zaP til (by omega) (by omega) W);have d2:=Y (fun W=>zaP app (by omega) (by omega) W);have d3:=Y (fun W=>zaP den (by omega) (by omega) W);have dI:∀ W,Ext (w.alloc (.cells #[.int .i64 til,.slice ao n cap,.int .i64 app,.int .i64 den] 26)) W -> Calls Tryz.prog 75 #[.slice ao n cap] W fun e w'=>e=.returned (.string ⟨(listW (aft.map itoa)).toArray⟩)/\Ext W w':=fun W hX=>
  zem _ aft (fun x hx=>by have:=ham x hx;omega) W (fun k hk=>by have:=(hx.trans hX).size;omega) (h.ext (hx.trans hX)) (by omega)
 have hlI:(listW (aft.map itoa)).length<=1000000:=by
  unfold listW;split
  ·decide
  ·have:=zdd 44 21 (aft.map itoa) (fun x hx=>by obtain ⟨z,-,rfl⟩:=List.mem_map.1 hx;exact zaR z)
   rw [List.length_map] at this;have:aft.length*(21+1)<=64*22:=Nat.mul_le_mul_right _ (by omega);omega
 have hle:∀ x ∈ [itoa til,listW (aft.map itoa),itoa app,itoa den],x.length<=1000000:=fun x hx=>by
  have:=zaR til;have:=zaR app;have:=zaR den;simp only [List.mem_cons,List.not_mem_nil,or_false] at hx;rcases hx with rfl | rfl | rfl | rfl <;> omega
 replace h:=Y h;replace dI:=Y dI;replace hx:=Y hx;replace hn:=Y hn;clear hlI ham hal g4 hv;go_enter Tryz.func156,Tryz.ntmps156;go_upto_region 1 with fail
 rw [<- hT];generalize (w.alloc _)=W at hT0 hx dI ⊢;have p0:=cS hT0 0;have p1:=cS hT0 1;have p2:=cS hT0 2;have p3:=cS hT0 3;clear hT0;replace hT:=Y hT;replace htz:=Y htz
 by_cases z:til=0/\aft=[]/\app=0/\den=0
 ·have hw:=Y (hwz z)
  obtain ⟨rfl,z2,rfl,rfl⟩:=z;have n0:n=0:=by rw [hn.o,z2];rfl
  subst n0;clear z2 hwz hwf d0 d2 d3 dI hle hn;go_wp2_with fail
  go_ret;exact ⟨by rw [hw.o];rfl,hx.o⟩
 ·have hw:=hwf z
  clear hwz hwf;have hcase:(til ≠ 0) \/ (til=0/\n ≠ 0) \/ (til=0/\n=0/\app ≠ 0) \/ (til=0/\n=0/\app=0/\den ≠ 0):=by
   by_cases z0:til=0
   ·by_cases z1:n=0
    ·have:aft=[]:=List.eq_nil_of_length_eq_zero (by have:=hn.o;omega)
     by_cases z2:app=0
     ·exact .inr (.inr (.inr ⟨z0,z1,z2,fun z3=>z ⟨z0,this,z2,z3⟩⟩))
     ·exact .inr (.inr (.inl ⟨z0,z1,z2⟩))
    ·exact .inr (.inl ⟨z0,z1⟩)
   ·exact .inl z0
  clear z hn;have e0:=zaj til 0;have e1:((n:Int)==0)=decide (n=0):=by rw [Bool.eq_iff_iff,beq_iff_eq];simp
  have e2:=zaj app 0;have e3:=zaj den 0;have hcb:(decide (til=0)=false) \/ (decide (til=0)=true/\decide (n=0)=false) \/ (decide (til=0)=true/\decide (n=0)=true/\decide (app=0)=false) \/ (decide (til=0)=true/\decide (n=0)=true/\decide (app=0)=true/\decide (den=0)=false):=by simpa using hcase
  clear hcase;generalize decide (til=0)=b0 at e0 hcb;generalize decide (n=0)=b1 at e1 hcb;generalize decide (app=0)=b2 at e2 hcb;generalize decide (den=0)=b3 at e3 hcb;generalize itoa til=t0 at d0 hle hw;generalize itoa app=t2 at d2 hle hw;generalize itoa den=t3 at d3 hle hw;generalize listW (aft.map itoa)=tI at dI hle hw;replace hw:=Y hw;replace hle:=Y hle;rcases hcb with rfl | ⟨rfl,rfl⟩ | ⟨rfl,rfl,rfl⟩ | ⟨rfl,rfl,rfl,rfl⟩
  all_goals
   go_upto_region 3 with fail
   replace p0:=Y p0;replace p1:=Y p1;replace p2:=Y p2;replace p3:=Y p3;go_upto_region 3 with fail
   try simp only [List.append_eq,List.cons_append,List.nil_append]
   refine rS (fun Wx=>Ext W Wx) [(0,true),(1,true),(3,true),(4,true),(6,true),(7,true),(9,true),(10,true),(2,false),(5,false),(8,false),(11,false),(12,false),(13,false),(14,true)] (Mod.drew0 (fun _=>False) W) ?_;simp only [zah,List.map_cons,List.map_nil,List.getD_cons_zero,List.getD_cons_succ];have hy0:=Y (Mod.drew0 (fun _=>False) W)
   iterate 8 (refine zav (by rfl) ?_ (fun w' hC=>?_) ?_;rotate_left;(have q_p0:=hC.cell p0.o id;have q_p1:=hC.cell p1.o id;have q_p2:=hC.cell p2.o id;have q_p3:=hC.cell p3.o id;go_simp;try with_reducible rfl);try simp only [Act.put,sA,sZ,sS])
   refine zak (by rfl) (fun K hK=>?_);go_simp;refine (d0.o _).mono ?_;rintro e w1 ⟨rfl,hxn⟩;refine hK.o _ _ (hy0.o.trans hxn) ?_;have hy1:=Y (hy0.o.trans hxn);clear hK K hxn;try simp only [Act.put,sA,sZ,sS]
   refine zak (by rfl) (fun K hK=>?_);go_simp;refine (dI.o _ hy1.o).mono ?_;rintro e w2 ⟨rfl,hxn⟩;refine hK.o _ _ (hy1.o.trans hxn) ?_;have hy2:=Y (hy1.o.trans hxn);clear hK K hxn;try simp only [Act.put,sA,sZ,sS]
   refine zak (by rfl) (fun K hK=>?_);go_simp;refine (d2.o _).mono ?_;rintro e w3 ⟨rfl,hxn⟩;refine hK.o _ _ (hy2.o.trans hxn) ?_;have hy3:=Y (hy2.o.trans hxn);clear hK K hxn;try simp only [Act.put,sA,sZ,sS]
   refine zak (by rfl) (fun K hK=>?_);go_simp;refine (d3.o _).mono ?_;rintro e w4 ⟨rfl,hxn⟩;refine hK.o _ _ (hy3.o.trans hxn) ?_;have hy4:=Y (hy3.o.trans hxn);clear hK K hxn;try simp only [Act.put,sA,sZ,sS]
   refine zak (by rfl) (fun K hK=>?_);go_simp;have hxm:=Mod.alloc (Mod.refl (fun _=>False) w4) (.cells #[.string ⟨t0.toArray⟩,.string ⟨tI.toArray⟩,.string ⟨t2.toArray⟩,.string ⟨t3.toArray⟩] 9);have hO:=zbk (zbm (B:=0) (heap_alloc_new w4 (.cells #[.string ⟨t0.toArray⟩,.string ⟨tI.toArray⟩,.string ⟨t2.toArray⟩,.string ⟨t3.toArray⟩] 9)) (l:=[t0,tI,t2,t3]) rfl rfl rfl (Nat.zero_le _) (by simp)) (by simp);have hjn:=Y (zbg _ [t0,tI,t2,t3] 47 _ hO (by simp) (fun x hx=>Nat.le_trans (hle.o x hx) (by decide)));refine hK.o _ _ (hy4.o.trans hxm) ?_;have hy5:=Y (hy4.o.trans hxm);clear hK K hxm hO;try simp only [Act.put,sA,sZ,sS]
   generalize (w4.alloc _)=w5 at hjn hy5 ⊢;refine zak (by rfl) (fun K hK=>?_);go_simp;refine hjn.o.mono ?_;rintro e w6 ⟨rfl,rfl⟩;refine hK.o _ _ hy5.o ?_;clear hK K;try simp only [Act.put,sA,sZ,sS]
   refine qT ?_;refine zar ?_;go_wp2_with fail
   go_ret;exact ⟨by rw [hw.o];rfl,hx.o.trans hy5.o⟩
end Go.Proofs.YtjjfphalcibjfaaGreatDoor
