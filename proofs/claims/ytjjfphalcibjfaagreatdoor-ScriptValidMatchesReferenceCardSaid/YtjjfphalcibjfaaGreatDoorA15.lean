import Derived.Test.YtjjfphalcibjfaaGreatDoorC9
import Derived.Test.YtjjfphalcibjfaaGreatDoorU4
import Derived.Test.YtjjfphalcibjfaaGreatDoorU8
import Derived.Test.YtjjfphalcibjfaaGreatDoorWhole
import Derived.Test.YtjjfphalcibjfaaGreatDoorC0
import Derived.Test.YtjjfphalcibjfaaGreatDoorA13
set_option maxRecDepth 100000
set_option maxHeartbeats 16000000
namespace Go.Proofs.YtjjfphalcibjfaaGreatDoor
open Go.RowKit Cdk Scr
theorem zlc (a1:Option Addr) (n1 c1:Nat) (a2:Option Addr) (n2 c2:Nat) (a3:Option Addr) (n3 c3:Nat) (n tm st rv bs til app den ed bk se pa cl un:Int) (lg ti au tx nm:Bs) (w:World):
  Calls Tryz.prog 54 #[.agg (y0 n tm 9 st lg rv bs ti au a1 n1 c1 a2 n2 c2 til a3 n3 c3 app den ed bk se tx nm pa cl un)] w fun e w'=>e=.returned (.tuple #[.agg #[.int .i64 n,.int .i64 tm,.int .i64 9,.int .i64 0,.string ⟨#[]⟩,.int .i64 0,.int .i64 0,.string ⟨#[]⟩,.string ⟨#[]⟩,.slice none 0 0,.slice none 0 0,.int .i64 0,.slice none 0 0,.int .i64 0,.int .i64 0,.int .i64 0,.int .i64 0,.int .i64 0,.string ⟨#[]⟩,.string ⟨#[]⟩,.int .i64 pa,.int .i64 0,.int .i64 un],.bool (rng pa 1 8 && rng un 0 1000000000)])/\Ext w w':=by
 obtain ⟨ok,hok⟩:∃ ok,ok=(rng pa 1 8 && rng un 0 1000000000):=⟨_,rfl⟩;rw [<- hok];have k1:=hid (fun W=>zaf st 1 64 W);have k2:=hid (fun W=>zaf pa 1 8 W);have k3:=hid (fun W=>zaf un 0 1000000000 W);generalize rng st 1 64=b1 at k1 hok;generalize rng pa 1 8=b2 at k2 hok;generalize rng un 0 1000000000=b3 at k3 hok;replace hok:=hid hok;have h3:=hid (zaZ w (y0 n tm 9 st lg rv bs ti au a1 n1 c1 a2 n2 c2 til a3 n3 c3 app den ed bk se tx nm pa cl un) zF9 zF9 28 28 28);go_enter Tryz.func54,Tryz.ntmps54;go_wp2_with (refine zab rfl 28 _ _ rfl (w.heap.size+1+1) _ _ 28 rfl rfl h3.out.2.2.2 rfl (by kernel_rfl) rfl (fun W H1=>?_);have q_st:W.cell? ⟨w.heap.size,3,none⟩=some (.int .i64 st):=zaa (H1.out.2.at h3.out.2.1 (by omega)) 3)
 obtain ⟨hm0,hA0,hV0,-⟩:=h3.out;clear h3;have hA:=hid (H1.out.2.at hA0 (by omega));have hV:=hid (H1.out.2.at hV0 (by omega));have hU:=hid H1.out.1;have hm:=hid ((hm0.mono (T:=fun k=>w.heap.size<=k) (fun _ h=>h.elim)).then H1.out.2 (fun k _ e=>by omega));clear H1 hA0 hV0 hm0;have hfin:Hid (∀ w',Mod (fun k=>w.heap.size<=k) w w' -> Ext w w'):=hid (fun w' h=>h.mono' (fun k hk e=>by omega));generalize w.heap.size=R at hA hV hU hm hfin ⊢;refine (k1.out _).mono ?_;rintro e w' ⟨rfl,rfl⟩;have q_pa:W.cell? ⟨R,20,none⟩=some (.int .i64 pa):=zaa hA.out 20;have q_un:W.cell? ⟨R,22,none⟩=some (.int .i64 un):=zaa hA.out 22;have q_kd:W.cell? ⟨R,2,none⟩=some (.int .i64 9):=zaa hA.out 2;go_wp2_with fail
 refine (k2.out _).mono ?_;rintro e w' ⟨rfl,rfl⟩;cases b2
 case' false=>clear k1 k2 k3 q_st q_pa q_un
 case' true=>
  go_wp2_with fail
  refine (k3.out _).mono ?_;rintro e w' ⟨rfl,rfl⟩;clear k1 k2 k3 q_st q_pa q_un
 all_goals
  go_wp2_with fail
  refine zad (fun w'=>w'.cell? ⟨R,20,none⟩=some (.int .i64 pa)/\w'.cell? ⟨R,22,none⟩=some (.int .i64 un)) [(0,true),(1,true),(2,true),(3,true),(4,true),(5,false),(6,true),(7,false),(8,true),(9,false)] (by as_aux_lemma=>kernel_rfl) (by as_aux_lemma=>kernel_rfl) (by as_aux_lemma=>kernel_rfl) (by decide) ⟨zaa hA.out 20,zaa hA.out 22⟩ ?_;have hA0:=hid ((Mod.drew0 (fun _=>False) _).at hA.out (fun h=>h));have hV0:=hid ((Mod.drew0 (fun _=>False) _).at hV.out (fun h=>h));have hU0:=hid ((Mod.drew0 (fun _=>False) _).at hU.out (fun h=>h));have hm0:=hid hm.out.drew;clear hA hV hU hm;generalize W.drew=wd0 at hA0 hV0 hU0 hm0 ⊢;simp only [zak,List.map_cons,List.map_nil,List.getD_cons_zero,List.getD_cons_succ];repeat (first | (refine qT ?_) | (refine nT ?_))
  have c_st:wd0.cell? ⟨R+1+1,3,none⟩=some (.int .i64 st):=zaa hU0.out 3;have z:=zac hU0.out;refine zaj (by rfl) (fun K hK=>?_);go_simp;clear z c_st;have hU1:=(zae (hU0.out) 3 (.int .i64 0));simp only [sA,sZ,sS] at hU1;replace hU1:=hid hU1;have hA1:=hid ((zah _ 3 (.int .i64 0) (show R+1+1 ≠ R by omega)).trans (hA0.out));have hV1:=hid ((zah _ 3 (.int .i64 0) (show R+1+1 ≠ R+1 by omega)).trans (hV0.out));have hm1:=hid (hm0.out.setCell (a:=⟨R+1+1,3,none⟩) (fun _=>by show R<=R+1+1;omega) (.int .i64 0));clear hU0 hA0 hV0 hm0;generalize (wd0.setCell ⟨R+1+1,3,none⟩ (.int .i64 0))=wd1 at hU1 hA1 hV1 hm1 ⊢;refine hK.out _ _ ⟨zaa hA1.out 20,zaa hA1.out 22⟩ ?_;clear hK K;try simp only [Act.put,sA,sZ,sS]
  repeat (first | (refine qT ?_) | (refine nT ?_))
  have c_pa:wd1.cell? ⟨R+1+1,20,none⟩=some (.int .i64 0):=zaa hU1.out 20;have z:=zac hU1.out;refine zaj (by rfl) (fun K hK=>?_);go_simp;clear z c_pa;have hU2:=(zae (hU1.out) 20 (.int .i64 pa));simp only [sA,sZ,sS] at hU2;replace hU2:=hid hU2;have hA2:=hid ((zah _ 20 (.int .i64 pa) (show R+1+1 ≠ R by omega)).trans (hA1.out));have hV2:=hid ((zah _ 20 (.int .i64 pa) (show R+1+1 ≠ R+1 by omega)).trans (hV1.out));have hm2:=hid (hm1.out.setCell (a:=⟨R+1+1,20,none⟩) (fun _=>by show R<=R+1+1;omega) (.int .i64 pa));clear hU1 hA1 hV1 hm1;generalize (wd1.setCell ⟨R+1+1,20,none⟩ (.int .i64 pa))=wd2 at hU2 hA2 hV2 hm2 ⊢;refine hK.out _ _ ⟨zaa hA2.out 20,zaa hA2.out 22⟩ ?_;clear hK K;try simp only [Act.put,sA,sZ,sS]
  repeat (first | (refine qT ?_) | (refine nT ?_))
  have c_un:wd2.cell? ⟨R+1+1,22,none⟩=some (.int .i64 0):=zaa hU2.out 22;have z:=zac hU2.out;refine zaj (by rfl) (fun K hK=>?_);go_simp;clear z c_un;have hU3:=(zae (hU2.out) 22 (.int .i64 un));simp only [sA,sZ,sS] at hU3;replace hU3:=hid hU3;have hA3:=hid ((zah _ 22 (.int .i64 un) (show R+1+1 ≠ R by omega)).trans (hA2.out));have hV3:=hid ((zah _ 22 (.int .i64 un) (show R+1+1 ≠ R+1 by omega)).trans (hV2.out));have hm3:=hid (hm2.out.setCell (a:=⟨R+1+1,22,none⟩) (fun _=>by show R<=R+1+1;omega) (.int .i64 un));clear hU2 hA2 hV2 hm2;generalize (wd2.setCell ⟨R+1+1,22,none⟩ (.int .i64 un))=wd3 at hU3 hA3 hV3 hm3 ⊢;refine hK.out _ _ ⟨zaa hA3.out 20,zaa hA3.out 22⟩ ?_;clear hK K;try simp only [Act.put,sA,sZ,sS]
  repeat (first | (refine qT ?_) | (refine nT ?_))
  refine zas ?_;have hA:=hA3;have hV:=hV3;have hU:=hU3;have hm:=hm3;clear hA3 hV3 hU3 hm3;go_wp2_with (first | (refine zbx rfl 28 _ rfl _ 0 [] [.int .i64 n,.int .i64 tm,.int .i64 9,.int .i64 0,.string ⟨#[]⟩,.int .i64 0,.int .i64 0,.string ⟨#[]⟩,.string ⟨#[]⟩,.slice none 0 0,.slice none 0 0,.int .i64 0,.slice none 0 0,.int .i64 0,.int .i64 0,.int .i64 0,.int .i64 0,.int .i64 0,.string ⟨#[]⟩,.string ⟨#[]⟩,.int .i64 pa,.int .i64 0,.int .i64 un] [] _ _ _ rfl rfl hU.out Tryz.underlying28 rfl (by kernel_rfl) ?_) | (refine zaP rfl 28 _ _ rfl (R+1) 0 [] (y1) [] _ 28 rfl rfl rfl hV.out rfl (by kernel_rfl) rfl (fun WF HF=>?_)))
  refine bodyPost_ret (zaH rfl _ _ (R+1) _ _ _ _ rfl HF.out.1 Tryz.underlying28 rfl (by kernel_rfl)) rfl ?_;exact ⟨by rw [hok.out];simp [*],hfin.out _ (hm.out.then HF.out.2 (fun k _ e=>by omega))⟩
def zmy (w:World) (f:Fc) (e:Ending) (w':World):Prop:=∃ b1 m1 d1 b2 m2 d2 b3 m3 d3,e=.returned (.tuple #[.agg (fcA b1 m1 d1 b2 m2 d2 b3 m3 d3 (zbt f).1),.bool (zbt f).2])/\FcAt (fun k=>k < w.heap.size) w' ⟨.slice b1 m1 d1,.slice b2 m2 d2,.slice b3 m3 d3⟩ (zbt f).1/\Ext w w'
theorem zav (F:Nat -> Prop) (w:World) (f:Fc) (h1:f.tp=[]) (h2:f.bl=[]) (h3:f.lb.aft=[]):FcAt F w ⟨.slice none 0 0,.slice none 0 0,.slice none 0 0⟩ f:=
 ⟨by rw [h1];exact zai.nil _ _ _,by rw [h2];exact zaD.nil _ _,by rw [h3];exact zai.nil _ _ _⟩
theorem zjR (a1:Option Addr) (n1 c1:Nat) (a2:Option Addr) (n2 c2:Nat) (a3:Option Addr) (n3 c3:Nat) (f:Fc) (w:World) (h:FcAt (fun k=>k < w.heap.size) w ⟨.slice a1 n1 c1,.slice a2 n2 c2,.slice a3 n3 c3⟩ f):
  Calls Tryz.prog 54 #[.agg (fcA a1 n1 c1 a2 n2 c2 a3 n3 c3 f)] w (zmy w f):=by
 obtain ⟨h1,h2,h3⟩:=h;obtain ⟨fn,tm,fkd,st,lg,rv,bs,ti,au,tp,bl,lb,ed,bk,se,tx,nm,pa,cl,un⟩:=f;obtain ⟨til,aft,app,den⟩:=lb;simp only at h1 h2 h3
 by_cases g1:fkd=1
 ·subst g1
  refine (zkG a1 n1 c1 a2 n2 c2 a3 n3 c3 fn tm st rv bs til app den ed bk se pa cl un lg ti au tx nm tp bl aft w h1 h2 h3).mono ?_;rintro e w' ⟨rfl,hx⟩;exact ⟨a1,n1,c1,a2,n2,c2,a3,n3,c3,rfl,⟨h1.ext hx,h2.ext hx,h3.ext hx⟩,hx⟩
 by_cases g2:fkd=2
 ·subst g2
  refine (zlD a1 n1 c1 a2 n2 c2 a3 n3 c3 fn tm st rv bs til app den ed bk se pa cl un lg ti au tx nm w).mono ?_;rintro e w' ⟨rfl,hx⟩;exact ⟨none,0,0,none,0,0,none,0,0,rfl,zav _ _ _ rfl rfl rfl,hx⟩
 by_cases g3:fkd=3
 ·subst g3
  refine (zle a1 n1 c1 a2 n2 c2 a3 n3 c3 fn tm st rv bs til app den ed bk se pa cl un lg ti au tx nm aft w h3).mono ?_;rintro e w' ⟨rfl,hx⟩;exact ⟨none,0,0,none,0,0,a3,n3,c3,rfl,⟨zai.nil _ _ _,zaD.nil _ _,h3.ext hx⟩,hx⟩
 by_cases g4:fkd=4
 ·subst g4
  refine (zkP a1 n1 c1 a2 n2 c2 a3 n3 c3 fn tm st rv bs til app den ed bk se pa cl un lg ti au tx nm w).mono ?_;rintro e w' ⟨rfl,hx⟩;exact ⟨none,0,0,none,0,0,none,0,0,rfl,zav _ _ _ rfl rfl rfl,hx⟩
 by_cases g5:fkd=5
 ·subst g5
  refine (zkY a1 n1 c1 a2 n2 c2 a3 n3 c3 fn tm st rv bs til app den ed bk se pa cl un lg ti au tx nm w).mono ?_;rintro e w' ⟨rfl,hx⟩;exact ⟨none,0,0,none,0,0,none,0,0,rfl,zav _ _ _ rfl rfl rfl,hx⟩
 by_cases g6:fkd=6
 ·subst g6
  refine (zll a1 n1 c1 a2 n2 c2 a3 n3 c3 fn tm st rv bs til app den ed bk se pa cl un lg ti au tx nm w).mono ?_;rintro e w' ⟨rfl,hx⟩;exact ⟨none,0,0,none,0,0,none,0,0,rfl,zav _ _ _ rfl rfl rfl,hx⟩
 by_cases g7:fkd=7
 ·subst g7
  refine (zkQ a1 n1 c1 a2 n2 c2 a3 n3 c3 fn tm st rv bs til app den ed bk se pa cl un lg ti au tx nm w).mono ?_;rintro e w' ⟨rfl,hx⟩;exact ⟨none,0,0,none,0,0,none,0,0,rfl,zav _ _ _ rfl rfl rfl,hx⟩
 by_cases g8:fkd=8
 ·subst g8
  refine (zlq a1 n1 c1 a2 n2 c2 a3 n3 c3 fn tm st rv bs til app den ed bk se pa cl un lg ti au tx nm w).mono ?_;rintro e w' ⟨rfl,hx⟩;exact ⟨none,0,0,none,0,0,none,0,0,rfl,zav _ _ _ rfl rfl rfl,hx⟩
 by_cases g9:fkd=9
 ·subst g9
  refine (zlc a1 n1 c1 a2 n2 c2 a3 n3 c3 fn tm st rv bs til app den ed bk se pa cl un lg ti au tx nm w).mono ?_;rintro e w' ⟨rfl,hx⟩;exact ⟨none,0,0,none,0,0,none,0,0,rfl,zav _ _ _ rfl rfl rfl,hx⟩
 by_cases g10:fkd=10
 ·subst g10
  refine (zkB a1 n1 c1 a2 n2 c2 a3 n3 c3 fn tm st rv bs til app den ed bk se pa cl un lg ti au tx nm w).mono ?_;rintro e w' ⟨rfl,hx⟩;exact ⟨none,0,0,none,0,0,none,0,0,rfl,zav _ _ _ rfl rfl rfl,hx⟩
 have hu:zbt ⟨fn,tm,fkd,st,lg,rv,bs,ti,au,tp,bl,⟨til,aft,app,den⟩,ed,bk,se,tx,nm,pa,cl,un⟩=({ Fc.zero with n:=fn,tm:=tm,kd:=fkd,st:=st },false):=by
  unfold zbt;simp only [g1,g2,g3,g4,g5,g6,g7,g8,g9,g10,if_false,or_self]
 refine (zls a1 n1 c1 a2 n2 c2 a3 n3 c3 fn tm st rv bs til app den ed bk se pa cl un lg ti au tx nm fkd w (fun i h1 h2 e=>by omega)).mono ?_;rintro e w' ⟨rfl,hx⟩;unfold zmy;rw [hu];exact ⟨none,0,0,none,0,0,none,0,0,rfl,zav _ _ _ rfl rfl rfl,hx⟩
theorem zit (a1:Option Addr) (n1 c1:Nat) (a2:Option Addr) (n2 c2:Nat) (a3:Option Addr) (n3 c3:Nat) (f:Fc) (w:World) (h:FcAt (fun k=>k < w.heap.size) w ⟨.slice a1 n1 c1,.slice a2 n2 c2,.slice a3 n3 c3⟩ f):
  Calls Tryz.prog 27 #[.agg (fcA a1 n1 c1 a2 n2 c2 a3 n3 c3 f)] w fun e w'=>e=.returned (.bool (vFc f))/\Ext w w':=by
 obtain ⟨r,hr⟩:∃ r,r=vFc f:=⟨_,rfl⟩;rw [<- hr];unfold vFc at hr;have k1:=hid (fun W=>zaf f.n 0 500 W);have k2:=hid (fun W=>zaf f.tm 0 1000000000 W);have k3:=hid (fun W (hX:Ext w W)=>zjR a1 n1 c1 a2 n2 c2 a3 n3 c3 f W ((h.ext hX).mono (fun k hk=>Nat.lt_of_lt_of_le hk hX.size)));have k4:=hid (fun W (hX:Ext w W)=>(h.ext hX).mono (F':=fun k=>k < W.heap.size) (fun k hk=>Nat.lt_of_lt_of_le hk hX.size));obtain ⟨u,hu⟩:∃ u,u=zbt f:=⟨_,rfl⟩;unfold zmy at k3;rw [<- hu] at hr k3;clear h hu;generalize rng f.n 0 500=b1 at k1 hr;generalize rng f.tm 0 1000000000=b2 at k2 hr;obtain ⟨u,ub⟩:=u;simp only at k3 hr;generalize hd:decide (f=u)=bs at hr;replace hd:=hid hd;replace hr:=hid hr;unfold fcA;go_enter Tryz.func27,Tryz.ntmps27;go_upto_region 1 with (fail)
 have hA:=heap_alloc_new w (.cells (y4 f a1 n1 c1 a2 n2 c2 a3 n3 c3) 28);have hx:=Mod.alloc (Mod.refl (fun _=>False) w) (.cells (y4 f a1 n1 c1 a2 n2 c2 a3 n3 c3) 28);have hsz:(w.alloc (.cells (y4 f a1 n1 c1 a2 n2 c2 a3 n3 c3) 28)).heap.size=w.heap.size+1:=World.size_alloc _ _;generalize (w.alloc (.cells (y4 f a1 n1 c1 a2 n2 c2 a3 n3 c3) 28))=W at hA hx hsz ⊢;generalize w.heap.size=R at hA hsz ⊢;have p0:W.cell? ⟨R,0,none⟩=some (.int .i64 f.n):=zaa hA 0;have p1:W.cell? ⟨R,1,none⟩=some (.int .i64 f.tm):=zaa hA 1;replace hA:=hid hA;replace hx:=hid hx;replace hsz:=hid hsz;go_wp2_with fail
 refine (k1.out _).mono ?_;rintro e w' ⟨rfl,rfl⟩;cases b1 with
 | false=>
  go_wp2_with fail
  go_ret;exact ⟨by rw [hr.out];rfl,hx.out⟩
 | true=>
 go_wp2_with fail
 refine (k2.out _).mono ?_;rintro e w' ⟨rfl,rfl⟩;cases b2 with
 | false=>
  go_wp2_with fail
  go_ret;exact ⟨by rw [hr.out];rfl,hx.out⟩
 | true=>
 clear p0 p1;unfold fcA at k3;go_upto_region 3 with (fail)
 refine za0 ?_;simp only [List.map_cons,List.map_nil,zcr];go_wp2_with (first | (refine zaW (by rfl) 28 _ rfl R 0 [] (y5 f a1 n1 c1 a2 n2 c2 a3 n3 c3) [] _ _ _ rfl rfl hA.out Tryz.underlying28 rfl (by kernel_rfl) ?_) | fail)
 refine (k3.out _ hx.out).mono ?_;rintro e W2 ⟨d1,m1,l1,d2,m2,l2,d3,m3,l3,rfl,hFu,hx2⟩;replace hA:=hid (hx2.at hA.out (fun h=>h));have hFf:=hid (k4.out W2 (hx.out.trans hx2));have hFu:=hid (hFu.mono (F':=fun k=>k < W2.heap.size) (fun k hk=>Nat.lt_of_lt_of_le hk hx2.size));replace hx:=hid (hx.out.trans hx2);clear k3 k4 hsz hx2 k1 k2;unfold fcA at*;cases ub with
 | false=>
  go_wp2_with (first | (refine zab rfl 28 _ _ rfl W2.heap.size _ _ 28 rfl rfl (heap_alloc_new W2 _) rfl (by kernel_rfl) rfl (fun W3 H3=>?_);have hA3:=hid (H3.out.2.at ((Mod.alloc (Mod.refl (fun _=>False) W2) (.cells zF9 28)).at hA.out (fun h=>h)) (by have:=zat hA.out;omega));have hU3:=hid H3.out.1;have hx3:=hid (((Mod.alloc (Mod.refl (fun _=>False) W2) (.cells zF9 28)).mono (T:=fun k=>W2.heap.size<=k) (fun _ h=>h.elim)).then H3.out.2 (fun k _ e=>by omega))) | (refine zaW (by rfl) 28 _ rfl R 0 [] (y5 f a1 n1 c1 a2 n2 c2 a3 n3 c3) [] _ _ _ rfl rfl hA3.out Tryz.underlying28 rfl (by kernel_rfl) ?_) | (refine zaW (by rfl) 28 _ rfl W2.heap.size 0 [] [.int .i64 u.n,.int .i64 u.tm,.int .i64 u.kd,.int .i64 u.st,.string ⟨u.lg.toArray⟩,.int .i64 u.rv,.int .i64 u.bs,.string ⟨u.ti.toArray⟩,.string ⟨u.au.toArray⟩,.slice d1 m1 l1,.slice d2 m2 l2,.int .i64 u.lb.til,.slice d3 m3 l3,.int .i64 u.lb.app,.int .i64 u.lb.den,.int .i64 u.ed,.int .i64 u.bk,.int .i64 u.se,.string ⟨u.tx.toArray⟩,.string ⟨u.nm.toArray⟩,.int .i64 u.pa,.int .i64 u.cl,.int .i64 u.un] [] _ _ _ rfl rfl hU3.out Tryz.underlying28 rfl (by kernel_rfl) ?_))
  go_ret;exact ⟨by rw [hr.out];rfl,hx.out.then hx3.out (fun k h1 h2=>by have:=hx.out.size;omega)⟩
 | true=>
  go_wp2_with (first | (refine zab rfl 28 _ _ rfl W2.heap.size _ _ 28 rfl rfl (heap_alloc_new W2 _) rfl (by kernel_rfl) rfl (fun W3 H3=>?_);have hA3:=hid (H3.out.2.at ((Mod.alloc (Mod.refl (fun _=>False) W2) (.cells zF9 28)).at hA.out (fun h=>h)) (by have:=zat hA.out;omega));have hU3:=hid H3.out.1;have hx3:=hid (((Mod.alloc (Mod.refl (fun _=>False) W2) (.cells zF9 28)).mono (T:=fun k=>W2.heap.size<=k) (fun _ h=>h.elim)).then H3.out.2 (fun k _ e=>by omega))) | (refine zaW (by rfl) 28 _ rfl R 0 [] (y5 f a1 n1 c1 a2 n2 c2 a3 n3 c3) [] _ _ _ rfl rfl hA3.out Tryz.underlying28 rfl (by kernel_rfl) ?_) | (refine zaW (by rfl) 28 _ rfl W2.heap.size 0 [] [.int .i64 u.n,.int .i64 u.tm,.int .i64 u.kd,.int .i64 u.st,.string ⟨u.lg.toArray⟩,.int .i64 u.rv,.int .i64 u.bs,.string ⟨u.ti.toArray⟩,.string ⟨u.au.toArray⟩,.slice d1 m1 l1,.slice d2 m2 l2,.int .i64 u.lb.til,.slice d3 m3 l3,.int .i64 u.lb.app,.int .i64 u.lb.den,.int .i64 u.ed,.int .i64 u.bk,.int .i64 u.se,.string ⟨u.tx.toArray⟩,.string ⟨u.nm.toArray⟩,.int .i64 u.pa,.int .i64 u.cl,.int .i64 u.un] [] _ _ _ rfl rfl hU3.out Tryz.underlying28 rfl (by kernel_rfl) ?_))
  have hX3:Ext W2 W3:=hx3.out.mono' (fun k h1 h2=>by omega);have k5:=hid (zdL (F:=fun k=>k < W2.heap.size) a1 n1 c1 a2 n2 c2 a3 n3 c3 f d1 m1 l1 d2 m2 l2 d3 m3 l3 u W3 (hFf.out.ext hX3) (hFu.out.ext hX3));replace hx:=hid (hx.out.trans hX3);unfold fcA at k5;rw [hd.out] at k5;refine k5.out.mono ?_;rintro e W4 ⟨rfl,hx4⟩;clear k5 hX3 hx3 hU3 hA3;replace hx:=hid (hx.out.trans hx4);cases bs with
  | false=>
   go_wp2_with fail
   go_ret;exact ⟨by rw [hr.out];rfl,hx.out⟩
  | true=>
   go_wp2_with fail
   go_ret;exact ⟨by rw [hr.out];rfl,hx.out⟩
end Go.Proofs.YtjjfphalcibjfaaGreatDoor
namespace Cdk
open Go Go.RowKit
theorem zaC {P:Program} {w:World} {ops:Array Oper} {rest:List Oper} {o:Oper} {a:Act} {Q:Exit -> Act -> World -> Prop} (hw:Region.wanted o (yielded ops a.tmps)=true) (ty:TypeId) (x:Operand) (ho:o.op=.load ty x) (b n:Nat) (cs:Array Value) (d:TypeDesc) (hx:a.eval x=.pointer (some ⟨b,n,none⟩))
  (hr:w.rangeAt b n cs.toList) (hu:P.underlying ty=some d) (hd:d.isRow=true) (hi:(P.info? ty).map (·.size)=some cs.size)
  (h:wpList P ops Q rest (a.put o.dst (.agg cs)) w):wpList P ops Q (o::rest) a w:=by
 obtain ⟨cs⟩:=cs;simp only [wpList];rw [if_pos hw];exact .inl (wp_load_mid ty x ho b n hx cs d hr hu hd (by simpa using hi) h)
theorem zjz {P:Program} {ops:Array Oper} {C:World -> Prop} {o:Oper} {a:Act} {w:World} {Q:Exit -> Act -> World -> Prop} {r:List (Oper × Bool)} (hw:Region.wanted o (yielded ops a.tmps)=true) (ty:TypeId) (x:Operand) (ho:o.op=.load ty x) (b n:Nat) (cs:Array Value) (d:TypeDesc) (hx:a.eval x=.pointer (some ⟨b,n,none⟩))
  (hS:∀ w,C w -> w.rangeAt b n cs.toList) (hu:P.underlying ty=some d) (hd:d.isRow=true) (hi:(P.info? ty).map (·.size)=some cs.toList.length)
  (h:wpS P ops C Q r (a.put o.dst (.agg cs)) w):wpS P ops C Q ((o,true)::r) a w:=by
 obtain ⟨cs⟩:=cs;exact ⟨_,yieldsIf_load_mid hw ty x ho b n hx cs d hS hu hd hi,h⟩
theorem zgn {w w':World} {b n:Nat} {cs:List Value} (h:w.rangeAt b n cs) (hx:Ext w w'):w'.rangeAt b n cs:=fun i u hu=>hx.cell (h i u hu) (fun h=>h)
end Cdk
namespace Go.Proofs.YtjjfphalcibjfaaGreatDoor
open Go Go.RowKit Cdk
theorem zaU {W:World} {T n k:Nat} {V:Array Value} {cs:List Value} {t:TypeId} {fr:Nat × Nat} (hT:W.heap[T]?=some (.cells V t fr)) (h:(V.toList.drop n).take k=cs):W.rangeAt T n cs:=fun j u hu=>by
 have hj:(V.toList.drop n)[j]?=some u:=by
  rw [<- h] at hu;rw [List.getElem?_take] at hu;split at hu
  ·exact hu
  ·cases hu
 rw [List.getElem?_drop] at hj;exact (zaa hT (n+j)).trans (by rw [<- Array.getElem?_toList];exact hj)
open Go.RowKit Cdk Scr
def OnP (F:Nat -> Prop) (w:World) (U:Nat) (r:Bool) (a:Ac):Prop:=∃ (a1:Option Addr) (n1 c1:Nat) (a2:Option Addr) (n2 c2:Nat) (a3:Option Addr) (n3 c3:Nat) (a4:Option Addr) (n4 c4:Nat) (a5:Option Addr) (n5 c5:Nat) (p:Ac),w.heap[U]?=some (.cells (acA a1 n1 c1 a2 n2 c2 a3 n3 c3 a4 n4 c4 a5 n5 c5 p) 32 (0,0))/\AcAt F w ⟨⟨.slice a1 n1 c1,.slice a2 n2 c2,.slice a3 n3 c3⟩,.slice a4 n4 c4,.slice a5 n5 c5⟩ p/\r=decide (a=p)
theorem zkw (a1:Option Addr) (n1 c1:Nat) (a2:Option Addr) (n2 c2:Nat) (a3:Option Addr) (n3 c3:Nat) (a4:Option Addr) (n4 c4:Nat) (a5:Option Addr) (n5 c5:Nat) (a:Ac) (w:World) (h:AcAt (fun k=>k < w.heap.size) w ⟨⟨.slice a1 n1 c1,.slice a2 n2 c2,.slice a3 n3 c3⟩,.slice a4 n4 c4,.slice a5 n5 c5⟩ a):
  Calls Tryz.prog 28 #[.agg (acA a1 n1 c1 a2 n2 c2 a3 n3 c3 a4 n4 c4 a5 n5 c5 a)] w fun e w'=>e=.returned (.bool (decide (a=zfr a)))/\Ext w w':=by
 obtain ⟨kd,fc,n,cl,tx,fa,ke,ms⟩:=a;obtain ⟨r,hr⟩:∃ r,r=decide ((⟨kd,fc,n,cl,tx,fa,ke,ms⟩:Ac)=zfr ⟨kd,fc,n,cl,tx,fa,ke,ms⟩):=⟨_,rfl⟩;rw [<- hr];obtain ⟨VA,hVA⟩:∃ V,V=acA a1 n1 c1 a2 n2 c2 a3 n3 c3 a4 n4 c4 a5 n5 c5 ⟨kd,fc,n,cl,tx,fa,ke,ms⟩:=⟨_,rfl⟩;obtain ⟨VZ,hVZ⟩:∃ V,V=acA none 0 0 none 0 0 none 0 0 none 0 0 none 0 0 ⟨kd,Fc.zero,0,0,[],[],[],Ms.zero⟩:=⟨_,rfl⟩;have hz:=hid (zaY w (acA a1 n1 c1 a2 n2 c2 a3 n3 c3 a4 n4 c4 a5 n5 c5 ⟨kd,fc,n,cl,tx,fa,ke,ms⟩) zA9 32 32);have q0:=(zaa (heap_alloc_new w (.cells (acA a1 n1 c1 a2 n2 c2 a3 n3 c3 a4 n4 c4 a5 n5 c5 ⟨kd,fc,n,cl,tx,fa,ke,ms⟩) 32)) 0).trans (show _=some (.int .i64 kd) from rfl);rw [<- hVA] at hz q0 ⊢;have h2:=hid (fun W (hX:Mod (fun k=>w.heap.size<=k) w W)=>h.mod hX (fun k h1 h2=>by omega));have hfin:Hid (∀ w',Mod (fun k=>w.heap.size<=k) w w' -> Ext w w'):=hid (fun w' h=>h.mono' (fun k hk e=>by omega));clear h;replace hr:=hid hr;replace hVA:=hid hVA;replace hVZ:=hid hVZ;go_enter Tryz.func28,Tryz.ntmps28;go_upto_region 2 with (refine zab rfl 32 _ _ rfl (w.heap.size+1) _ _ 32 rfl rfl hz.out.2.2.1 rfl (by kernel_rfl) rfl (fun W H1=>?_))
 have hA:=hid (H1.out.2.at hz.out.2.1 (by omega));have hU:Hid (W.heap[w.heap.size+1]?=some (.cells VZ 32 (0,0))):=hid (by rw [hVZ.out];exact H1.out.1);have hm:=hid ((hz.out.1.mono (T:=fun k=>w.heap.size<=k) (fun _ h=>h.elim)).then H1.out.2 (fun k _ e=>by omega));clear H1 hz q0;have q_kd:W.cell? ⟨w.heap.size,0,none⟩=some (.int .i64 kd):=(zaa hA.out 0).trans (by rw [hVA.out];rfl);go_upto_region 3 with fail
 clear q_kd;obtain ⟨R,hR⟩:∃ R,R=w.heap.size:=⟨_,rfl⟩;rw [<- hR] at hA hU ⊢;have hRw:w.heap.size<=R/\R<=w.heap.size:=by omega
 replace hR:=hid hR;rcases (show kd=1 \/ kd=2 \/ kd=3 \/ kd=10 \/ kd=4 \/ kd=5 \/ kd=6 \/ kd=7 \/ kd=8 \/ kd=9 \/ (¬ kd=1/\¬ kd=2/\¬ kd=3/\¬ kd=10/\¬ kd=4/\¬ kd=5/\¬ kd=6/\¬ kd=7/\¬ kd=8/\¬ kd=9) by omega) with rfl | rfl | rfl | rfl | rfl | rfl | rfl | rfl | rfl | rfl | ⟨g1,g2,g3,g10,g4,g5,g6,g7,g8,g9⟩
 case' inl=>
  have hTl:=hid (zaU (n:=1) (k:=23) (cs:=(fcA a1 n1 c1 a2 n2 c2 a3 n3 c3 fc).toList) hA.out (by rw [hVA.out];rfl));have hUl:=hid (show W.heap[R+1]?=some (.cells ((VZ.toList.take 1++((fcA none 0 0 none 0 0 none 0 0 Fc.zero).toList++VZ.toList.drop 24))).toArray 32 (0,0)) by rw [hU.out,hVZ.out];rfl);have hl0:Hid (1=(VZ.toList.take 1).length):=hid (by rw [hVZ.out];rfl);go_upto_region 23 with (first | (refine zaC (by rfl) 28 _ rfl R 1 (fcA a1 n1 c1 a2 n2 c2 a3 n3 c3 fc) _ rfl hTl.out Tryz.underlying28 rfl (by kernel_rfl) ?_) | (refine zaP rfl 28 _ _ rfl (R+1) 1 _ _ _ (fcA a1 n1 c1 a2 n2 c2 a3 n3 c3 fc).toList 32 hl0.out rfl rfl hUl.out rfl (by kernel_rfl) rfl (fun WS HS=>?_)))
  have hU2:=HS.out.1;have hA2:=HS.out.2.at hA.out (by omega);have hm2:=hm.out.then HS.out.2 (fun k _ e=>by omega);clear HS hTl hUl hl0;have hh:=h2.out WS hm2;have hfi:Hid (OnP (fun k=>k < w.heap.size) WS (R+1) r ⟨1,fc,n,cl,tx,fa,ke,ms⟩):=hid ⟨a1,n1,c1,a2,n2,c2,a3,n3,c3,none,0,0,none,0,0,⟨1,fc,0,0,[],[],[],Ms.zero⟩,by rw [hU2];try rw [hVZ.out];try rfl,⟨hh.fc,zai.nil _ _ _,zai.nil _ _ _⟩,hr.out⟩;clear hh hU2 hA hm hU;have hA:=hid hA2;have hm:=hid hm2;clear hA2 hm2
 case' inr.inl=>
  have s_n:W.cell? ⟨R,24,none⟩=some (.int .i64 n):=(zaa hA.out 24).trans (by rw [hVA.out];rfl);have o_n:W.cell? ⟨R+1,24,none⟩=some (.int .i64 0):=(zaa hU.out 24).trans (by rw [hVZ.out];rfl);have zU:=zac hU.out;go_upto_region 23 with fail
  clear zU s_n o_n;have hU2:=(zae hU.out 24 (.int .i64 n));have hA2:=((zah _ 24 (.int .i64 n) (show R+1 ≠ R by omega)).trans hA.out);have hm2:=(hm.out.setCell (a:=⟨R+1,24,none⟩) (fun _=>by show w.heap.size<=R+1;omega) (.int .i64 n));generalize (W.setCell ⟨R+1,24,none⟩ (.int .i64 n))=WS at hU2 hA2 hm2 ⊢;have hh:=h2.out WS hm2;have hfi:Hid (OnP (fun k=>k < w.heap.size) WS (R+1) r ⟨2,fc,n,cl,tx,fa,ke,ms⟩):=hid ⟨none,0,0,none,0,0,none,0,0,none,0,0,none,0,0,⟨2,Fc.zero,n,0,[],[],[],Ms.zero⟩,by rw [hU2];try rw [hVZ.out];try rfl,⟨zav _ _ _ rfl rfl rfl,zai.nil _ _ _,zai.nil _ _ _⟩,hr.out⟩;clear hh hU2 hA hm hU;have hA:=hid hA2;have hm:=hid hm2;clear hA2 hm2
 case' inr.inr.inl=>
  have s_n:W.cell? ⟨R,24,none⟩=some (.int .i64 n):=(zaa hA.out 24).trans (by rw [hVA.out];rfl);have o_n:W.cell? ⟨R+1,24,none⟩=some (.int .i64 0):=(zaa hU.out 24).trans (by rw [hVZ.out];rfl);have zU:=zac hU.out;go_upto_region 23 with fail
  clear zU s_n o_n;have hU2:=(zae hU.out 24 (.int .i64 n));have hA2:=((zah _ 24 (.int .i64 n) (show R+1 ≠ R by omega)).trans hA.out);have hm2:=(hm.out.setCell (a:=⟨R+1,24,none⟩) (fun _=>by show w.heap.size<=R+1;omega) (.int .i64 n));generalize (W.setCell ⟨R+1,24,none⟩ (.int .i64 n))=WS at hU2 hA2 hm2 ⊢;have hh:=h2.out WS hm2;have hfi:Hid (OnP (fun k=>k < w.heap.size) WS (R+1) r ⟨3,fc,n,cl,tx,fa,ke,ms⟩):=hid ⟨none,0,0,none,0,0,none,0,0,none,0,0,none,0,0,⟨3,Fc.zero,n,0,[],[],[],Ms.zero⟩,by rw [hU2];try rw [hVZ.out];try rfl,⟨zav _ _ _ rfl rfl rfl,zai.nil _ _ _,zai.nil _ _ _⟩,hr.out⟩;clear hh hU2 hA hm hU;have hA:=hid hA2;have hm:=hid hm2;clear hA2 hm2
 case' inr.inr.inr.inl=>
  have s_n:W.cell? ⟨R,24,none⟩=some (.int .i64 n):=(zaa hA.out 24).trans (by rw [hVA.out];rfl);have o_n:W.cell? ⟨R+1,24,none⟩=some (.int .i64 0):=(zaa hU.out 24).trans (by rw [hVZ.out];rfl);have zU:=zac hU.out;go_upto_region 23 with fail
  clear zU s_n o_n;have hU2:=(zae hU.out 24 (.int .i64 n));have hA2:=((zah _ 24 (.int .i64 n) (show R+1 ≠ R by omega)).trans hA.out);have hm2:=(hm.out.setCell (a:=⟨R+1,24,none⟩) (fun _=>by show w.heap.size<=R+1;omega) (.int .i64 n));generalize (W.setCell ⟨R+1,24,none⟩ (.int .i64 n))=WS at hU2 hA2 hm2 ⊢;have hh:=h2.out WS hm2;have hfi:Hid (OnP (fun k=>k < w.heap.size) WS (R+1) r ⟨10,fc,n,cl,tx,fa,ke,ms⟩):=hid ⟨none,0,0,none,0,0,none,0,0,none,0,0,none,0,0,⟨10,Fc.zero,n,0,[],[],[],Ms.zero⟩,by rw [hU2];try rw [hVZ.out];try rfl,⟨zav _ _ _ rfl rfl rfl,zai.nil _ _ _,zai.nil _ _ _⟩,hr.out⟩;clear hh hU2 hA hm hU;have hA:=hid hA2;have hm:=hid hm2;clear hA2 hm2
 case' inr.inr.inr.inr.inl=>
  have s_fa:W.cell? ⟨R,27,none⟩=some (.slice a4 n4 c4):=(zaa hA.out 27).trans (by rw [hVA.out];rfl);have o_fa:W.cell? ⟨R+1,27,none⟩=some (.slice none 0 0):=(zaa hU.out 27).trans (by rw [hVZ.out];rfl);have zU:=zac hU.out;go_upto_region 23 with fail
  clear zU s_fa o_fa;have hU2:=(zae hU.out 27 (.slice a4 n4 c4));have hA2:=((zah _ 27 (.slice a4 n4 c4) (show R+1 ≠ R by omega)).trans hA.out);have hm2:=(hm.out.setCell (a:=⟨R+1,27,none⟩) (fun _=>by show w.heap.size<=R+1;omega) (.slice a4 n4 c4));generalize (W.setCell ⟨R+1,27,none⟩ (.slice a4 n4 c4))=WS at hU2 hA2 hm2 ⊢;have hh:=h2.out WS hm2;have hfi:Hid (OnP (fun k=>k < w.heap.size) WS (R+1) r ⟨4,fc,n,cl,tx,fa,ke,ms⟩):=hid ⟨none,0,0,none,0,0,none,0,0,a4,n4,c4,none,0,0,⟨4,Fc.zero,0,0,[],fa,[],Ms.zero⟩,by rw [hU2];try rw [hVZ.out];try rfl,⟨zav _ _ _ rfl rfl rfl,hh.fa,zai.nil _ _ _⟩,hr.out⟩;clear hh hU2 hA hm hU;have hA:=hid hA2;have hm:=hid hm2;clear hA2 hm2
 case' inr.inr.inr.inr.inr.inl=>
  have s_n:W.cell? ⟨R,24,none⟩=some (.int .i64 n):=(zaa hA.out 24).trans (by rw [hVA.out];rfl);have o_n:W.cell? ⟨R+1,24,none⟩=some (.int .i64 0):=(zaa hU.out 24).trans (by rw [hVZ.out];rfl);have s_ke:W.cell? ⟨R,28,none⟩=some (.slice a5 n5 c5):=(zaa hA.out 28).trans (by rw [hVA.out];rfl);have o_ke:W.cell? ⟨R+1,28,none⟩=some (.slice none 0 0):=(zaa hU.out 28).trans (by rw [hVZ.out];rfl);have zU:=zac hU.out;go_upto_region 23 with fail
  clear zU s_n o_n s_ke o_ke;have hU2:=(zae (zae hU.out 24 (.int .i64 n)) 28 (.slice a5 n5 c5));have hA2:=((zah _ 28 (.slice a5 n5 c5) (show R+1 ≠ R by omega)).trans ((zah _ 24 (.int .i64 n) (show R+1 ≠ R by omega)).trans hA.out));have hm2:=((hm.out.setCell (a:=⟨R+1,24,none⟩) (fun _=>by show w.heap.size<=R+1;omega) (.int .i64 n)).setCell (a:=⟨R+1,28,none⟩) (fun _=>by show w.heap.size<=R+1;omega) (.slice a5 n5 c5));generalize ((W.setCell ⟨R+1,24,none⟩ (.int .i64 n)).setCell ⟨R+1,28,none⟩ (.slice a5 n5 c5))=WS at hU2 hA2 hm2 ⊢;have hh:=h2.out WS hm2;have hfi:Hid (OnP (fun k=>k < w.heap.size) WS (R+1) r ⟨5,fc,n,cl,tx,fa,ke,ms⟩):=hid ⟨none,0,0,none,0,0,none,0,0,none,0,0,a5,n5,c5,⟨5,Fc.zero,n,0,[],[],ke,Ms.zero⟩,by rw [hU2];try rw [hVZ.out];try rfl,⟨zav _ _ _ rfl rfl rfl,zai.nil _ _ _,hh.ke⟩,hr.out⟩;clear hh hU2 hA hm hU;have hA:=hid hA2;have hm:=hid hm2;clear hA2 hm2
 case' inr.inr.inr.inr.inr.inr.inl=>
  have s_cl:W.cell? ⟨R,25,none⟩=some (.int .i64 cl):=(zaa hA.out 25).trans (by rw [hVA.out];rfl);have o_cl:W.cell? ⟨R+1,25,none⟩=some (.int .i64 0):=(zaa hU.out 25).trans (by rw [hVZ.out];rfl);have s_tx:W.cell? ⟨R,26,none⟩=some (.string ⟨tx.toArray⟩):=(zaa hA.out 26).trans (by rw [hVA.out];rfl);have o_tx:W.cell? ⟨R+1,26,none⟩=some (.string ⟨#[]⟩):=(zaa hU.out 26).trans (by rw [hVZ.out];rfl);have zU:=zac hU.out;go_upto_region 23 with fail
  clear zU s_cl o_cl s_tx o_tx;have hU2:=(zae (zae hU.out 25 (.int .i64 cl)) 26 (.string ⟨tx.toArray⟩));have hA2:=((zah _ 26 (.string ⟨tx.toArray⟩) (show R+1 ≠ R by omega)).trans ((zah _ 25 (.int .i64 cl) (show R+1 ≠ R by omega)).trans hA.out));have hm2:=((hm.out.setCell (a:=⟨R+1,25,none⟩) (fun _=>by show w.heap.size<=R+1;omega) (.int .i64 cl)).setCell (a:=⟨R+1,26,none⟩) (fun _=>by show w.heap.size<=R+1;omega) (.string ⟨tx.toArray⟩));generalize ((W.setCell ⟨R+1,25,none⟩ (.int .i64 cl)).setCell ⟨R+1,26,none⟩ (.string ⟨tx.toArray⟩))=WS at hU2 hA2 hm2 ⊢;have hh:=h2.out WS hm2;have hfi:Hid (OnP (fun k=>k < w.heap.size) WS (R+1) r ⟨6,fc,n,cl,tx,fa,ke,ms⟩):=hid ⟨none,0,0,none,0,0,none,0,0,none,0,0,none,0,0,⟨6,Fc.zero,0,cl,tx,[],[],Ms.zero⟩,by rw [hU2];try rw [hVZ.out];try rfl,⟨zav _ _ _ rfl rfl rfl,zai.nil _ _ _,zai.nil _ _ _⟩,hr.out⟩;clear hh hU2 hA hm hU;have hA:=hid hA2;have hm:=hid hm2;clear hA2 hm2
 case' inr.inr.inr.inr.inr.inr.inr.inl=>
  have s_cl:W.cell? ⟨R,25,none⟩=some (.int .i64 cl):=(zaa hA.out 25).trans (by rw [hVA.out];rfl);have o_cl:W.cell? ⟨R+1,25,none⟩=some (.int .i64 0):=(zaa hU.out 25).trans (by rw [hVZ.out];rfl);have s_n:W.cell? ⟨R,24,none⟩=some (.int .i64 n):=(zaa hA.out 24).trans (by rw [hVA.out];rfl);have o_n:W.cell? ⟨R+1,24,none⟩=some (.int .i64 0):=(zaa hU.out 24).trans (by rw [hVZ.out];rfl);have s_tx:W.cell? ⟨R,26,none⟩=some (.string ⟨tx.toArray⟩):=(zaa hA.out 26).trans (by rw [hVA.out];rfl);have o_tx:W.cell? ⟨R+1,26,none⟩=some (.string ⟨#[]⟩):=(zaa hU.out 26).trans (by rw [hVZ.out];rfl);have zU:=zac hU.out;go_upto_region 23 with fail
  clear zU s_cl o_cl s_n o_n s_tx o_tx;have hU2:=(zae (zae (zae hU.out 25 (.int .i64 cl)) 24 (.int .i64 n)) 26 (.string ⟨tx.toArray⟩));have hA2:=((zah _ 26 (.string ⟨tx.toArray⟩) (show R+1 ≠ R by omega)).trans ((zah _ 24 (.int .i64 n) (show R+1 ≠ R by omega)).trans ((zah _ 25 (.int .i64 cl) (show R+1 ≠ R by omega)).trans hA.out)));have hm2:=(((hm.out.setCell (a:=⟨R+1,25,none⟩) (fun _=>by show w.heap.size<=R+1;omega) (.int .i64 cl)).setCell (a:=⟨R+1,24,none⟩) (fun _=>by show w.heap.size<=R+1;omega) (.int .i64 n)).setCell (a:=⟨R+1,26,none⟩) (fun _=>by show w.heap.size<=R+1;omega) (.string ⟨tx.toArray⟩));generalize (((W.setCell ⟨R+1,25,none⟩ (.int .i64 cl)).setCell ⟨R+1,24,none⟩ (.int .i64 n)).setCell ⟨R+1,26,none⟩ (.string ⟨tx.toArray⟩))=WS at hU2 hA2 hm2 ⊢;have hh:=h2.out WS hm2;have hfi:Hid (OnP (fun k=>k < w.heap.size) WS (R+1) r ⟨7,fc,n,cl,tx,fa,ke,ms⟩):=hid ⟨none,0,0,none,0,0,none,0,0,none,0,0,none,0,0,⟨7,Fc.zero,n,cl,tx,[],[],Ms.zero⟩,by rw [hU2];try rw [hVZ.out];try rfl,⟨zav _ _ _ rfl rfl rfl,zai.nil _ _ _,zai.nil _ _ _⟩,hr.out⟩;clear hh hU2 hA hm hU;have hA:=hid hA2;have hm:=hid hm2;clear hA2 hm2
 case' inr.inr.inr.inr.inr.inr.inr.inr.inl=>
  have hTl:=hid (zaU (n:=29) (k:=7) (cs:=((msC ms).toArray).toList) hA.out (by rw [hVA.out];rfl));have hUl:=hid (show W.heap[R+1]?=some (.cells ((VZ.toList.take 29++(msC Ms.zero++VZ.toList.drop 36))).toArray 32 (0,0)) by rw [hU.out,hVZ.out];rfl);have hl0:Hid (29=(VZ.toList.take 29).length):=hid (by rw [hVZ.out];rfl);go_upto_region 23 with (first | (refine zaC (by rfl) 30 _ rfl R 29 ((msC ms).toArray) _ rfl hTl.out Tryz.underlying30 rfl (by kernel_rfl) ?_) | (refine zaP rfl 30 _ _ rfl (R+1) 29 _ _ _ ((msC ms).toArray).toList 32 hl0.out rfl rfl hUl.out rfl (by kernel_rfl) rfl (fun WS HS=>?_)))
  have hU2:=HS.out.1;have hA2:=HS.out.2.at hA.out (by omega);have hm2:=hm.out.then HS.out.2 (fun k _ e=>by omega);clear HS hTl hUl hl0;have hh:=h2.out WS hm2;have hfi:Hid (OnP (fun k=>k < w.heap.size) WS (R+1) r ⟨8,fc,n,cl,tx,fa,ke,ms⟩):=hid ⟨none,0,0,none,0,0,none,0,0,none,0,0,none,0,0,⟨8,Fc.zero,0,0,[],[],[],ms⟩,by rw [hU2];try rw [hVZ.out];try rfl,⟨zav _ _ _ rfl rfl rfl,zai.nil _ _ _,zai.nil _ _ _⟩,hr.out⟩;clear hh hU2 hA hm hU;have hA:=hid hA2;have hm:=hid hm2;clear hA2 hm2
 case' inr.inr.inr.inr.inr.inr.inr.inr.inr.inl=>
  go_upto_region 23 with fail
  obtain ⟨WS,hWS⟩:∃ WS,WS=W:=⟨_,rfl⟩;subst hWS;have hU2:=hU.out;have hA2:=hA.out;have hm2:=hm.out;have hh:=h2.out WS hm2;have hfi:Hid (OnP (fun k=>k < w.heap.size) WS (R+1) r ⟨9,fc,n,cl,tx,fa,ke,ms⟩):=hid ⟨none,0,0,none,0,0,none,0,0,none,0,0,none,0,0,⟨9,Fc.zero,0,0,[],[],[],Ms.zero⟩,by rw [hU2];try rw [hVZ.out];try rfl,⟨zav _ _ _ rfl rfl rfl,zai.nil _ _ _,zai.nil _ _ _⟩,hr.out⟩;clear hh hU2 hA hm hU;have hA:=hid hA2;have hm:=hid hm2;clear hA2 hm2
 case' inr.inr.inr.inr.inr.inr.inr.inr.inr.inr=>
  have e1:(kd==1)=false:=by rw [beq_eq_false_iff_ne];exact g1
  have e2:(kd==2)=false:=by rw [beq_eq_false_iff_ne];exact g2
  have e3:(kd==3)=false:=by rw [beq_eq_false_iff_ne];exact g3
  have e4:(kd==4)=false:=by rw [beq_eq_false_iff_ne];exact g4
  have e5:(kd==5)=false:=by rw [beq_eq_false_iff_ne];exact g5
  have e6:(kd==6)=false:=by rw [beq_eq_false_iff_ne];exact g6
  have e7:(kd==7)=false:=by rw [beq_eq_false_iff_ne];exact g7
  have e8:(kd==8)=false:=by rw [beq_eq_false_iff_ne];exact g8
  have e9:(kd==9)=false:=by rw [beq_eq_false_iff_ne];exact g9
  have e10:(kd==10)=false:=by rw [beq_eq_false_iff_ne];exact g10
  have ho:zfr ⟨kd,fc,n,cl,tx,fa,ke,ms⟩=⟨kd,Fc.zero,0,0,[],[],[],Ms.zero⟩:=by unfold zfr;simp only [g1,g2,g3,g4,g5,g6,g7,g8,g10,if_false,or_self];rfl
  rw [ho] at hr;replace hr:=hid hr.out;replace g1:=hid g1;replace g2:=hid g2;replace g3:=hid g3;replace g4:=hid g4;replace g5:=hid g5;replace g6:=hid g6;replace g7:=hid g7;replace g8:=hid g8;replace g9:=hid g9;replace g10:=hid g10;go_upto_region 23 with fail
  clear e1 e2 e3 e4 e5 e6 e7 e8 e9 e10;obtain ⟨WS,hWS⟩:∃ WS,WS=W:=⟨_,rfl⟩;subst hWS;have hU2:=hU.out;have hA2:=hA.out;have hm2:=hm.out;have hh:=h2.out WS hm2;have hfi:Hid (OnP (fun k=>k < w.heap.size) WS (R+1) r ⟨kd,fc,n,cl,tx,fa,ke,ms⟩):=hid ⟨none,0,0,none,0,0,none,0,0,none,0,0,none,0,0,⟨kd,Fc.zero,0,0,[],[],[],Ms.zero⟩,by rw [hU2];try rw [hVZ.out];try rfl,⟨zav _ _ _ rfl rfl rfl,zai.nil _ _ _,zai.nil _ _ _⟩,hr.out⟩;clear hh hU2 hA hm hU;have hA:=hid hA2;have hm:=hid hm2;clear hA2 hm2
 all_goals
  obtain ⟨b1,m1,d1,b2,m2,d2,b3,m3,d3,b4,m4,d4,b5,m5,d5,p,hU,hp,hrp⟩:=hfi.out;have hS:=zbU _ _ _ _ _ _ _ _ _ _ _ _ _ _ _ _ _ _ _ _ _ _ _ _ _ _ _ _ _ _ _ p WS (h2.out WS hm.out) hp;rw [<- hrp,<- hVA.out] at hS;replace hS:=hid hS;replace hU:=hid hU;clear hfi hp hrp;go_wp2_with (first | (refine zal (by rfl) 32 _ rfl R _ _ _ _ rfl hA.out Tryz.underlying32 rfl (by rw [hVA.out];kernel_rfl) ?_) | (refine zal (by rfl) 32 _ rfl (R+1) _ _ _ _ rfl hU.out Tryz.underlying32 rfl (by kernel_rfl) ?_))
  refine hS.out.mono ?_;rintro e WE ⟨rfl,hxe⟩;go_wp2_with fail
  go_ret;exact ⟨rfl,hfin.out _ (hm.out.then hxe (fun _ _ h=>h.elim))⟩
end Go.Proofs.YtjjfphalcibjfaaGreatDoor
