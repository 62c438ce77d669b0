import Derived.Test.YtjjfphalcibjfaaGreatDoorD19
import Derived.Test.YtjjfphalcibjfaaGreatDoorD14
set_option maxRecDepth 100000
set_option maxHeartbeats 16000000
namespace Go.Proofs.YtjjfphalcibjfaaGreatDoor
open Go.Shelf Go.RowKit Cdk Scr
theorem zop (R:Nat) (r0:Rd) (w:World) (hG:Gl w) (hR:10<=R) (h:zbE w R r0) (hl:r0.rest.length<=1000000):
  Calls Tryz.prog 150 #[.pointer (some ⟨R,0,none⟩)] w (AcP w R (za8 17 r0)):=by
 have hRlt:=h.lt;obtain ⟨U,hU⟩:∃ U,U=w.heap.size:=⟨_,rfl⟩;have hx0:=(Mod.refl (fun _=>False) w).alloc (.cells zA9 32);have hUc:=heap_alloc_new w (.cells zA9 32);rw [<- hU] at hUc;have hr0:=Y (h.ext hx0);have hG0:=Y (hG.ext hx0);have hm0:=Y (RdM.ofExt (R:=R) hx0);have hU0:=Y hUc;have hl0:=Y hl;have hs0:U < (w.alloc (.cells zA9 32)).heap.size:=by rw [World.size_alloc,hU];omega
 obtain ⟨M,hM⟩:∃ M,M=za8 17 r0:=⟨_,rfl⟩;rw [<- hM];unfold za8 at hM;simp only at hM;replace hM:=Y hM;clear hUc hx0 h hl hG;go_enter Tryz.func150,Tryz.ntmps150;go_wp2_with fail
 rw [<- hU];have hwU:w.heap.size<=U:=Nat.le_of_eq hU.symm;have hRU:R < U:=by omega
 generalize (w.alloc (.cells zA9 32))=W0 at hr0 hG0 hm0 hU0 hs0 ⊢;replace hU:=Y hU;have k0:=Y (zje R r0 W0 hG0.o hR hr0.o hl0.o);refine k0.o.mono ?_;rintro e W1 ⟨rfl,hrn,hn⟩;have hln:=zjd r0;have hxl0:=zjn r0;generalize hq0:zfp r0=q0 at hrn hln hxl0  ⊢;obtain ⟨x0,r1⟩:=q0;simp only at hrn hln hxl0  ⊢;have hr1:=Y hrn;have hl1:Hid (r1.rest.length<=1000000):=Y (Nat.le_trans hln hl0.o);have hG1:=Y (hG0.o.rd hR hn);have hm1:=Y (hm0.o.trans hn);have hU1:=Y (hn.at hU0.o (by omega));have hs1:U < W1.heap.size:=by have:=hn.size;omega
 replace hxl0:Hid (x0.length<=1000000):=Y (Nat.le_trans hxl0 hl0.o);replace hq0:=Y hq0;clear hrn hln hn k0 hr0 hl0 hm0 hU0 hG0;go_wp2_with fail
 refine (zg6 x0 hxl0.o W1 hG1.o).mono ?_;rintro e W2 ⟨hxd,hD⟩;unfold MsE at hD;have hr2:=Y (hr1.o.ext hxd);have hm2:=Y (hm1.o.then hxd (fun k _ h=>h.elim));have hU2:=Y (hxd.at hU1.o id);have hs2:U < W2.heap.size:=by have:=hxd.size;omega
 clear hr1 hG1 hm1 hU1 hxd;cases hd:zkl x0 with
 | ok m=>
  rw [hd] at hD;simp only at hD;subst hD;go_upto_region 2 with (refine zab rfl 30 _ _ rfl W2.heap.size _ #[.int .i64 m.kd,.int .i64 m.pa,.int .i64 m.sq,.int .i64 m.st,.int .i64 m.ba,.int .i64 m.ve,.string ⟨m.da.toArray⟩] 30 rfl rfl (heap_alloc_new W2 _) rfl (by kernel_rfl) rfl (fun WS HS=>?_))
  obtain ⟨zs,hzs⟩:∃ zs,Hid (Mod (Eq W2.heap.size) (W2.alloc (.cells zs 30)) WS):=⟨_,Y HS.o.2⟩;have hxT:Ext W2 WS:=(((Mod.alloc (Mod.refl (fun _=>False) W2) (.cells zs 30)).mono (T:=fun k=>W2.heap.size<=k) (fun _ h=>h.elim)).then hzs.o (fun k _ e=>by omega)).mono' (fun k h1 h2=>by omega);have hTc:=HS.o.1;obtain ⟨T,hTe⟩:∃ T,T=W2.heap.size:=⟨_,rfl⟩;rw [<- hTe] at hTc ⊢;have hUT:U < T:=by omega
  have hr3:=Y (hr2.o.ext hxT);have hm3:=Y (hm2.o.then hxT (fun k _ h=>h.elim));have hU3:=Y (hxT.at hU2.o id);replace hTe:=Y hTe;replace hTc:=Y hTc;clear hzs hxT HS hr2 hm2 hU2;go_upto_region 4 with fail
  have hr4:=hr3;have hm4:=hm3;have hU4:=hU3;have hT4:=hTc;clear hr3 hm3 hU3 hTc;obtain ⟨VB,hVB⟩:∃ VB,VB=acA none 0 0 none 0 0 none 0 0 none 0 0 none 0 0 { Ac.zero with ms:=m }:=⟨_,rfl⟩;have hVs:Hid (VB.size=36):=Y (by rw [hVB];rfl);have hV1:Hid (VB.toList.all (·.oneCell')=true):=Y (by rw [hVB];rfl);replace hVB:=Y hVB;go_wp2_with (first | (refine zae (by rfl) 30 _ rfl T _ _ _ _ rfl hT4.o Tryz.underlying30 rfl (by kernel_rfl) ?_) | (refine zab rfl 32 _ _ rfl U _ VB 32 rfl (by first | rfl | (rw [hVB.o];rfl)) hU4.o (by rw [hVs.o];rfl) (by rw [hVs.o];kernel_rfl) hV1.o (fun WE HE=>?_)))
  refine bodyPost_ret (results_cell_row rfl _ _ U _ _ _ _ rfl HE.o.1 Tryz.underlying32 rfl (by rw [hVs.o];kernel_rfl)) rfl ?_;have hMe:M=({ Ac.zero with ms:=m },r1):=by
   rw [hM.o];simp only [show zfp r0=(x0,r1) from hq0.o,hd]
  rw [hMe];exact ⟨none,0,0,none,0,0,none,0,0,none,0,0,none,0,0,by rw [hVB.o],⟨⟨zac.nil _ _ _,zaE.nil _ _,zac.nil _ _ _⟩,zac.nil _ _ _,zac.nil _ _ _⟩,HE.o.2.at hr4.o (by omega),hm4.o.then HE.o.2 (fun k hk e=>by omega)⟩
 | error er=>
  rw [hd] at hD;simp only at hD;obtain ⟨c,hcne,rfl⟩:=hD;have hc1:(c !=0)=true:=by rw [bne_iff_ne];exact hcne
  have hc2:(c==0)=false:=by rw [beq_eq_false_iff_ne];exact hcne
  replace hcne:=Y hcne;go_upto_region 2 with (refine zab rfl 30 _ _ rfl W2.heap.size _ #[.int .i64 0,.int .i64 0,.int .i64 0,.int .i64 0,.int .i64 0,.int .i64 0,.string ⟨#[]⟩] 30 rfl rfl (heap_alloc_new W2 _) rfl (by kernel_rfl) rfl (fun WS HS=>?_))
  obtain ⟨zs,hzs⟩:∃ zs,Hid (Mod (Eq W2.heap.size) (W2.alloc (.cells zs 30)) WS):=⟨_,Y HS.o.2⟩;have hxT:Ext W2 WS:=(((Mod.alloc (Mod.refl (fun _=>False) W2) (.cells zs 30)).mono (T:=fun k=>W2.heap.size<=k) (fun _ h=>h.elim)).then hzs.o (fun k _ e=>by omega)).mono' (fun k h1 h2=>by omega);have hTc:=HS.o.1;obtain ⟨T,hTe⟩:∃ T,T=W2.heap.size:=⟨_,rfl⟩;rw [<- hTe] at hTc ⊢;have hUT:U < T:=by omega
  have hr3:=Y (hr2.o.ext hxT);have hm3:=Y (hm2.o.then hxT (fun k _ h=>h.elim));have hU3:=Y (hxT.at hU2.o id);replace hTe:=Y hTe;replace hTc:=Y hTc;clear hzs hxT HS hr2 hm2 hU2;have hrr:WS.heap[R]?=some (.cells #[.string ⟨r1.rest.toArray⟩,.bool r1.more,.bool r1.bad] 106 (0,0)):=hr3.o;have cb:=cS hrr 2;have zb:=zad hrr;have hr4:=Y (show zbE (WS.setCell ⟨R,2,none⟩ (.bool true)) R (Scr.bad r1) from zai hrr 2 (.bool true));have mR:RdM R WS (WS.setCell ⟨R,2,none⟩ (.bool true)):=(Mod.refl (fun k=>k=R) WS).setCell (a:=⟨R,2,none⟩) (fun _=>rfl) (.bool true);have hm4:=Y (hm3.o.trans mR);have hU4:=Y (mR.at hU3.o (by omega));have hT4:=Y (mR.at hTc.o (by omega));replace hrr:=Y hrr;clear mR hm3 hU3 hTc hr3;go_upto_region 4 with fail
  clear cb zb;generalize WS.setCell ⟨R,2,none⟩ (.bool true)=W4 at hr4 hm4 hU4 hT4 ⊢;obtain ⟨VB,hVB⟩:∃ VB,VB=acA none 0 0 none 0 0 none 0 0 none 0 0 none 0 0 (Ac.zero):=⟨_,rfl⟩;have hVs:Hid (VB.size=36):=Y (by rw [hVB];rfl);have hV1:Hid (VB.toList.all (·.oneCell')=true):=Y (by rw [hVB];rfl);replace hVB:=Y hVB;go_wp2_with (first | (refine zae (by rfl) 30 _ rfl T _ _ _ _ rfl hT4.o Tryz.underlying30 rfl (by kernel_rfl) ?_) | (refine zab rfl 32 _ _ rfl U _ VB 32 rfl (by first | rfl | (rw [hVB.o];rfl)) hU4.o (by rw [hVs.o];rfl) (by rw [hVs.o];kernel_rfl) hV1.o (fun WE HE=>?_)))
  refine bodyPost_ret (results_cell_row rfl _ _ U _ _ _ _ rfl HE.o.1 Tryz.underlying32 rfl (by rw [hVs.o];kernel_rfl)) rfl ?_;have hMe:M=(Ac.zero,(Scr.bad r1)):=by
   rw [hM.o];simp only [show zfp r0=(x0,r1) from hq0.o,hd]
  rw [hMe];exact ⟨none,0,0,none,0,0,none,0,0,none,0,0,none,0,0,by rw [hVB.o],⟨⟨zac.nil _ _ _,zaE.nil _ _,zac.nil _ _ _⟩,zac.nil _ _ _,zac.nil _ _ _⟩,HE.o.2.at hr4.o (by omega),hm4.o.then HE.o.2 (fun k hk e=>by omega)⟩
theorem zd4.low {F F':Nat -> Prop} {w:World} {j:Nat} {r:FR} (h:zd4 F w j r) (hF:∀ k,F k -> F' k):zd4 F' w j r:=by
 obtain ⟨h1,h2,h3,h4⟩:=h;refine ⟨h1,h2,h3,?_⟩;split at h4
 ·rename_i hj
  rw [if_pos hj];obtain ⟨b,f1,f2,rest⟩:=h4;exact ⟨b,hF _ f1,hF _ f2,rest⟩
 ·rename_i hj
  rw [if_neg hj];exact h4
theorem zoN {F:Nat -> Prop} {j:Nat} (hj:j < 18) {r:FR} (R:Nat) (r0:Rd) (w:World) (hr:zd4 F w j r) (hF:∀ k,F k -> k ≠ R) (hG:Gl w) (hR:10<=R) (h:zbE w R r0) (hl:r0.rest.length<=1000000) (hl1:(zbB r0).2.rest.length<=1000000):
  ∃ (fn:Nat) (caps:Array Value),r.rd=.func (.func fn) #[] caps/\(∀ args w,(callFunc fn args).run Tryz.prog w=.ok (.enter fn args) w)/\Calls Tryz.prog fn (#[.pointer (some ⟨R,0,none⟩)]++caps) w (AcP w R (za8 j r0)):=by
 obtain ⟨-,-,-,h4⟩:=hr
 match j with
 | 0=>
  obtain ⟨b,-,f2,-,e,-,hb⟩:=h4;exact ⟨_,_,e,enters_of Tryz.func108 (by kernel_rfl) rfl,zf8 112 (b+1) 0 (by decide) R r0 w hG hR h hl hb (hF _ f2) (enters_of Tryz.func112 (by kernel_rfl) rfl) (fun W hGW hW=>fRevise R _ W hGW hR hW hl1)⟩
 | 1=>
  obtain ⟨b,-,f2,-,e,-,hb⟩:=h4;exact ⟨_,_,e,enters_of Tryz.func108 (by kernel_rfl) rfl,zf8 114 (b+1) 1 (by decide) R r0 w hG hR h hl hb (hF _ f2) (enters_of Tryz.func114 (by kernel_rfl) rfl) (fun W hGW hW=>fApprove R _ W hGW hR hW hl1)⟩
 | 2=>
  obtain ⟨b,-,f2,-,e,-,hb⟩:=h4;exact ⟨_,_,e,enters_of Tryz.func108 (by kernel_rfl) rfl,zf8 117 (b+1) 2 (by decide) R r0 w hG hR h hl hb (hF _ f2) (enters_of Tryz.func117 (by kernel_rfl) rfl) (fun W hGW hW=>fPublish R _ W hGW hR hW hl1)⟩
 | 3=>
  obtain ⟨b,-,f2,-,e,-,hb⟩:=h4;exact ⟨_,_,e,enters_of Tryz.func108 (by kernel_rfl) rfl,zf8 120 (b+1) 3 (by decide) R r0 w hG hR h hl hb (hF _ f2) (enters_of Tryz.func120 (by kernel_rfl) rfl) (fun W hGW hW=>fCorrect R _ W hGW hR hW hl1)⟩
 | 4=>
  obtain ⟨b,-,f2,-,e,-,hb⟩:=h4;exact ⟨_,_,e,enters_of Tryz.func108 (by kernel_rfl) rfl,zf8 123 (b+1) 4 (by decide) R r0 w hG hR h hl hb (hF _ f2) (enters_of Tryz.func123 (by kernel_rfl) rfl) (fun W hGW hW=>fRetract R _ W hGW hR hW hl1)⟩
 | 5=>
  obtain ⟨b,-,f2,-,e,-,hb⟩:=h4;exact ⟨_,_,e,enters_of Tryz.func108 (by kernel_rfl) rfl,zf8 125 (b+1) 5 (by decide) R r0 w hG hR h hl hb (hF _ f2) (enters_of Tryz.func125 (by kernel_rfl) rfl) (fun W hGW hW=>fTakedown R _ W hGW hR hW hl1)⟩
 | 6=>exact ⟨128,#[],h4.2,enters_of Tryz.func128 (by kernel_rfl) rfl,zlI R r0 w hG hR h hl⟩
 | 7=>exact ⟨131,#[],h4.2,enters_of Tryz.func131 (by kernel_rfl) rfl,zmS R r0 w hG hR h hl⟩
 | 8=>exact ⟨133,#[],h4.2,enters_of Tryz.func133 (by kernel_rfl) rfl,zpe R r0 w hG hR h hl⟩
 | 9=>exact ⟨135,#[],h4.2,enters_of Tryz.func135 (by kernel_rfl) rfl,zgS R r0 w hG hR h hl⟩
 | 10=>exact ⟨135,#[],h4.2,enters_of Tryz.func135 (by kernel_rfl) rfl,zgS R r0 w hG hR h hl⟩
 | 11=>exact ⟨135,#[],h4.2,enters_of Tryz.func135 (by kernel_rfl) rfl,zgS R r0 w hG hR h hl⟩
 | 12=>exact ⟨138,#[],h4.2,enters_of Tryz.func138 (by kernel_rfl) rfl,zoU R r0 w hG hR h hl⟩
 | 13=>exact ⟨141,#[],h4.2,enters_of Tryz.func141 (by kernel_rfl) rfl,zoL R r0 w hG hR h hl⟩
 | 14=>exact ⟨143,#[],h4.2,enters_of Tryz.func143 (by kernel_rfl) rfl,zoX R r0 w hG hR h hl⟩
 | 15=>exact ⟨145,#[],h4.2,enters_of Tryz.func145 (by kernel_rfl) rfl,zpY R r0 w hG hR h hl⟩
 | 16=>exact ⟨147,#[],h4.2,enters_of Tryz.func147 (by kernel_rfl) rfl,znZ R r0 w hG hR h hl⟩
 | 17=>exact ⟨150,#[],h4.2,enters_of Tryz.func150 (by kernel_rfl) rfl,zop R r0 w hG hR h hl⟩
 | n+18=>exact absurd hj (by omega)
theorem zov {F:Nat -> Prop} {j:Nat} (hj:j < 18) {r:FR} (R:Nat) (r0:Rd) (w:World) (hr:zd4 F w j r) (hF:∀ k,F k -> k ≠ R) (hG:Gl w) (hR:10<=R) (h:zbE w R r0) (hl:r0.rest.length<=1000000) {f1:Nat} {q1:Array Value} (hw:r.rd=.func (.func f1) #[] q1):
  (∀ args w,(callFunc f1 args).run Tryz.prog w=.ok (.enter f1 args) w)/\Calls Tryz.prog f1 (#[.pointer (some ⟨R,0,none⟩)]++q1) w (AcP w R (za8 j r0)):=by
 obtain ⟨fn,caps,e,h1,h2⟩:=zoN hj R r0 w hr hF hG hR h hl (Nat.le_trans (zfF r0) hl);rw [hw] at e;injection e with e1 _ e3
 injection e1 with e1
 subst e1 e3;exact ⟨h1,h2⟩
theorem zaf {P:Program} {fn:Func} {p u:Tmp} {ty:TypeId} (h:fn.results=#[.cell p ty,.tmp u]) (tmps:Array Value) (w:World) (g:Nat) (t:TypeId) (cs:Array Value) (fr:Nat × Nat) (d:TypeDesc)
  (hp:tmps.getD p undef=.pointer (some ⟨g,0,none⟩)) (hg:w.heap[g]?=some (.cells cs t fr))
  (hu:P.underlying ty=some d) (hd:(match d with | .struct _ | .array _ _=>true | _=>false)=true) (hi:(P.info? ty).map (·.size)=some cs.size):
  (results fn tmps).run P w=.ok (.tuple #[.agg cs,tmps.getD u undef]) w:=by
 have hp':tmps[p]?.getD undef=.pointer (some ⟨g,0,none⟩):=by simpa using hp
 simp [results,h,hp',asAddr,run_loadVar_row w g t ty cs fr d hg hu hd hi]
def PlE (w w':World) (e:Ending) (D:Option Ac):Prop:=match D with
 | some a=>∃ (a1:Option Addr) (n1 c1:Nat) (a2:Option Addr) (n2 c2:Nat) (a3:Option Addr) (n3 c3:Nat) (a4:Option Addr) (n4 c4:Nat) (a5:Option Addr) (n5 c5:Nat),e=.returned (.tuple #[.agg (acA a1 n1 c1 a2 n2 c2 a3 n3 c3 a4 n4 c4 a5 n5 c5 a),.bool true])/\AcAt (fun k=>w.heap.size<=k/\k < w'.heap.size) w' ⟨⟨.slice a1 n1 c1,.slice a2 n2 c2,.slice a3 n3 c3⟩,.slice a4 n4 c4,.slice a5 n5 c5⟩ a
 | none=>e=.returned (.tuple #[.agg zA9,.bool false])
def PlP (w:World) (t:Bs) (e:Ending) (w':World):Prop:=Ext w w'/\PlE w w' e (zbd t)
def zlp (t:Bs) (kd fk:Int) (x:Ac × Rd):Option Ac:=
 if x.2.bad || (x.2.more || (!vAc { x.1 with kd:=kd,fc:={ x.1.fc with kd:=fk } } || !decide (line { x.1 with kd:=kd,fc:={ x.1.fc with kd:=fk } }=t))) then none else some { x.1 with kd:=kd,fc:={ x.1.fc with kd:=fk } }
theorem zji {t:Bs} {j:Nat} {f:Fm} (h:zbt (zaL ⟨t,true,false⟩).1 0 forms=some (j,f)):zbd t=zlp t f.kd f.fk (za8 j (zaL ⟨t,true,false⟩).2):=by
 unfold zbd;simp only [h]
 rfl
theorem zi8 {t:Bs} (h:zbt (zaL ⟨t,true,false⟩).1 0 forms=none):zbd t=none:=by
 unfold zbd;simp only [h]
theorem zgB {F:Nat -> Prop} (v:Value) (t:Bs) (w:World) (hG:Gl w) (hF:zdo F w v) (hFl:∀ k,F k -> k < w.heap.size) (hs:t.length<=1000000):
  Calls Tryz.prog 50 #[v,.string ⟨t.toArray⟩] w (PlP w t):=by
 have hF2:=hF;obtain ⟨rows,hr18,hrow,hfm⟩:=hF;obtain ⟨ao,cap,rfl⟩:=hrow.slice;rw [hr18] at hF2 ⊢;obtain ⟨U,hU⟩:∃ U,U=w.heap.size:=⟨_,rfl⟩;have hx0:=((Mod.refl (fun _=>False) w).alloc (.cells zA9 32)).alloc (.cells #[.string ⟨t.toArray⟩,.bool true,.bool false] 106);have hUc:((w.alloc (.cells zA9 32)).alloc (.cells #[.string ⟨t.toArray⟩,.bool true,.bool false] 106)).heap[U]?=some (.cells zA9 32 (0,0)):=by rw [zaG,World.size_alloc,hU,if_neg (by omega)];exact heap_alloc_new w _
 have hRc:((w.alloc (.cells zA9 32)).alloc (.cells #[.string ⟨t.toArray⟩,.bool true,.bool false] 106)).heap[U+1]?=some (.cells #[.string ⟨t.toArray⟩,.bool true,.bool false] 106 (0,0)):=by rw [hU];have:=heap_alloc_new (w.alloc (.cells zA9 32)) (.cells #[.string ⟨t.toArray⟩,.bool true,.bool false] 106);rwa [World.size_alloc] at this
 have hG0:=Y (hG.ext hx0);have hwU:w.heap.size<=U:=Nat.le_of_eq hU.symm;have hU10:10<=U:=by have:=hG.size;omega
 have hPl:Hid (∀ e w',PlP w t e w'=(Ext w w'/\PlE w w' e (zbd t))):=Y (fun e w'=>rfl);obtain ⟨D,hD⟩:∃ D,D=zbd t:=⟨_,rfl⟩;rw [<- hD] at hPl;replace hD:=Y hD;replace hUc:=Y hUc;replace hRc:=Y hRc;replace hx0:=Y hx0;replace hrow:=Y hrow;replace hfm:=Y hfm;replace hF2:=Y hF2;replace hFl:=Y hFl;replace hr18:=Y hr18;clear hG;go_enter Tryz.func50,Tryz.ntmps50;go_wp2_with fail
 try simp only [World.size_alloc]
 rw [<- hU];generalize ((w.alloc (.cells zA9 32)).alloc (.cells #[.string ⟨t.toArray⟩,.bool true,.bool false] 106))=w0 at hUc hRc hx0 hG0 ⊢;replace hU:=Y hU;have hwd:=Y (zb2 (U+1) ⟨t,true,false⟩ w0 hG0.o hRc.o hs);have hle:=zbb ⟨t,true,false⟩;have hfind:=fun j f=>@zji t j f
 have hmiss:=@zi8 t;generalize zaL ⟨t,true,false⟩=q at hwd hle hfind hmiss;obtain ⟨x,r1⟩:=q;simp only at hwd hle hfind hmiss;have hl1:=Y (Nat.le_trans hle.2 hs);replace hfind:=Y hfind;replace hmiss:=Y hmiss;clear hle;refine hwd.o.mono ?_;rintro e w1 ⟨rfl,hr1,hm1⟩;have hU1:=Y (hm1.at hUc.o (by omega));have hG1:=Y (hG0.o.rd (by omega) hm1);have hz1:U+1 < w1.heap.size:=hr1.lt;have hm01:Hid (Mod (fun k=>U<=k) w w1):=Y ((hx0.o.mono (T:=fun k=>U<=k) (fun _ h=>h.elim)).trans (hm1.mono (fun k hk=>by omega)));replace hr1:=Y hr1;clear hwd hm1 hUc hRc hG0 hx0;go_wp2_with fail
 go_loopg [18] 18 (fun g i wr=>∃ j:Nat,j+g=18/\i=.int .i64 j/\Ext w1 wr/\zbt x 0 forms=zbt x j (forms.drop j))
 case atStart=>exact ⟨0,by omega,rfl,Mod.refl _ _,rfl⟩
 case round=>
  obtain ⟨j,hj,rfl,hx,hfd⟩:=hrel;have hmr:Mod (fun k=>U<=k) w wr:=hm01.o.trans (hx.mono (T:=fun k=>U<=k) (fun _ h=>h.elim));replace hj:=Y hj
  by_cases hlt:j < 18
  ·have hdi:(j:Int) < 18:=by omega
   have hd:decide ((j:Int) < 18)=true:=decide_eq_true hdi;have hjr:j < rows.length:=by rw [hr18.o];exact hlt
   obtain ⟨b',off,cap',e,-,hc⟩:=(hrow.o.mod hmr (fun k hk e=>by have:=hFl.o k hk;omega)).get 5 zei (by decide) hjr;have hfj:=(hfm.o j hjr).mod hmr (fun k hk e=>by have:=hFl.o k hk;omega);generalize rows[j]=r at hc hfj;obtain ⟨kd,fk,wd,wv,rv⟩:=r;injection e with e1 e2 e3
   subst e1;have g0:=hc 0 (.int .i64 kd) (by decide) rfl;rw [Nat.add_zero] at g0;have g1:=hc 1 (.int .i64 fk) (by decide) rfl;have g2:=hc 2 (.string ⟨wd.toArray⟩) (by decide) rfl;have g3:=hc 3 wv (by decide) rfl;have g4:=hc 4 rv (by decide) rfl;clear hc e2 e3;obtain ⟨f1,q1,f2,q2,rfl,rfl⟩:=hfj.fns;obtain ⟨ff,hdr,k1,k2,k3⟩:=zgH hlt;have m1:kd=ff.kd:=hfj.1.trans k1.symm;have m2:fk=ff.fk:=hfj.2.1.trans k2.symm;have m3:wd=ff.wd:=hfj.2.2.1.trans k3.symm;rw [hdr] at hfd;simp only [zbt] at hfd;rw [<- m3] at hfd;have hPc:=heap_alloc_new wr (.cells #[.int .i64 kd,.int .i64 fk,.string ⟨wd.toArray⟩,.func (.func f1) #[] q1,.func (.func f2) #[] q2] 95);have hxP:=Mod.alloc (Mod.refl (fun _=>False) wr) (.cells #[.int .i64 kd,.int .i64 fk,.string ⟨wd.toArray⟩,.func (.func f1) #[] q1,.func (.func f2) #[] q2] 95);have hxx:=Y (hx.trans hxP);replace hfj:=Y hfj;replace hPc:=Y hPc;replace hxP:=Y hxP;replace hx:=Y hx;replace hmr:=Y hmr;replace hfd:=Y hfd;replace m1:=Y m1;replace m2:=Y m2;replace m3:=Y m3;replace hdr:=Y hdr;clear k1 k2 k3;go_upto_region 6 with fail
   have hPz:wr.heap.size < (wr.alloc (.cells #[.int .i64 kd,.int .i64 fk,.string ⟨wd.toArray⟩,.func (.func f1) #[] q1,.func (.func f2) #[] q2] 95)).heap.size:=by rw [World.size_alloc];omega
   have hz2:U+1 < wr.heap.size:=Nat.lt_of_lt_of_le hz1 hx.o.size;generalize (wr.alloc _)=W1 at hPc hxP hxx hPz ⊢;generalize wr.heap.size=P at hPc hz2 hPz ⊢;have p2:=cS hPc.o 2;clear g0 g1 g2 g3 g4
   by_cases hwx:wd=x
   ·have b1:(wd==x)=true:=by rw [hwx];simp
    have b2:(wd !=x)=false:=by rw [hwx];simp
    have p4:=cS hPc.o 4;have hfd2:=hfd.o;rw [if_pos hwx] at hfd2;have hoL:=hfind.o j ff hfd2;rw [<- m1.o,<- m2.o] at hoL;have hrW:=Y (hr1.o.ext hxx.o);have hGW:=Y (hG1.o.ext hxx.o);have hUW:=Y (hxx.o.at hU1.o id);have hmW:=Y (hm01.o.trans (hxx.o.mono (T:=fun k=>U<=k) (fun _ h=>h.elim)));have hfW:=hfj.o.mod (hxP.o) (fun k _ h=>h);obtain ⟨hent,hcall⟩:=zov hlt (U+1) r1 W1 hfW (fun k hk e=>by have:=hFl.o k hk;omega) hGW.o (by omega) hrW.o hl1.o rfl;generalize za8 j r1=rr at hcall hoL;obtain ⟨a0,r2⟩:=rr;have hres:Hid (D=zlp t kd fk (a0,r2)):=Y (hD.o.trans hoL);replace hcall:=Y hcall;replace hfj:=Y hfj;replace hwx:=Y hwx;clear hfd2 hoL hfW hrW;go_wp2_with fail
    refine hcall.o.mono ?_;rintro e W2 ⟨a1,n1,c1,a2,n2,c2,a3,n3,c3,a4,n4,c4,a5,n5,c5,rfl,hA,hr2,hn⟩;simp only at hA hr2 ⊢;have hU2:=Y (hn.at hUW.o (by omega));have hG2:=Y (hGW.o.rd (by omega) hn);have hm2:=Y (hmW.o.trans (hn.mono (T:=fun k=>U<=k) (fun k hk=>by omega)));have hP2:=Y (hn.at hPc.o (by omega));have hsz2:W1.heap.size<=W2.heap.size:=hn.size;have hA2:=Y (hA.mono (F':=fun k=>P < k/\k < W2.heap.size) (fun k hk=>⟨by omega,hk.2⟩));replace hr2:=Y hr2;clear hA hn hcall hent hUW hGW hmW p2 p4 b1 b2;obtain ⟨V,hV⟩:∃ V,V=acA a1 n1 c1 a2 n2 c2 a3 n3 c3 a4 n4 c4 a5 n5 c5 a0:=⟨_,rfl⟩;rw [<- hV];have hVs:Hid (V.size=36):=Y (by rw [hV];rfl);have hV1:Hid (V.toList.all (·.oneCell')=true):=Y (by rw [hV];rfl);obtain ⟨V2,hV2⟩:∃ V2,V2=acA a1 n1 c1 a2 n2 c2 a3 n3 c3 a4 n4 c4 a5 n5 c5 { a0 with kd:=kd,fc:={ a0.fc with kd:=fk } }:=⟨_,rfl⟩;have hVV:Hid ((V.setIfInBounds 0 (.int .i64 kd)).setIfInBounds 3 (.int .i64 fk)=V2):=Y (by rw [hV,hV2];rfl);have hV2s:Hid (V2.size=36):=Y (by rw [hV2];rfl);have hV21:Hid (V2.toList.all (·.oneCell')=true):=Y (by rw [hV2];rfl);have v0:Hid (V[0]?=some (.int .i64 a0.kd)):=Y (by rw [hV];rfl);have v3:Hid ((V.setIfInBounds 0 (.int .i64 kd))[3]?=some (.int .i64 a0.fc.kd)):=Y (by rw [hV];rfl);replace hV:=Y hV;replace hV2:=Y hV2;go_upto_region 8 with (refine zab rfl 32 _ _ rfl W2.heap.size _ V 32 rfl rfl (heap_alloc_new W2 _) (by rw [hVs.o];rfl) (by rw [hVs.o];kernel_rfl) hV1.o (fun WS HS=>?_))
    obtain ⟨zs,hzs⟩:∃ zs,Hid (Mod (Eq W2.heap.size) (W2.alloc (.cells zs 32)) WS):=⟨_,Y HS.o.2⟩;have hxT:Ext W2 WS:=(((Mod.alloc (Mod.refl (fun _=>False) W2) (.cells zs 32)).mono (T:=fun k=>W2.heap.size<=k) (fun _ h=>h.elim)).then hzs.o (fun k _ e=>by omega)).mono' (fun k h1 h2=>by omega);have hQc:=HS.o.1;obtain ⟨Q,hQe⟩:∃ Q,Q=W2.heap.size:=⟨_,rfl⟩;rw [<- hQe] at hQc ⊢;have hPQ:P < Q:=by omega
    have hUS:=Y (hxT.at hU2.o id);have hPS:=Y (hxT.at hP2.o id);have hrS:=Y (hr2.o.ext hxT);have hGS:=Y (hG2.o.ext hxT);have hmS:=Y (hm2.o.trans (hxT.mono (T:=fun k=>U<=k) (fun _ h=>h.elim)));have hAS:=Y ((hA2.o.ext hxT).mono (F':=fun k=>P < k/\k < Q) (fun k hk=>⟨hk.1,by omega⟩));have p0:=cS hPS.o 0;have ct:WS.cell? ⟨Q,0,none⟩=some (.int .i64 a0.kd):=(zaa hQc 0).trans v0.o;have zt:=zad hQc;have pQ:=zai hQc 0 (.int .i64 kd);have mS:Mod (fun k=>k=Q) WS (WS.setCell ⟨Q,0,none⟩ (.int .i64 kd)):=(Mod.refl (fun k=>k=Q) WS).setCell (a:=⟨Q,0,none⟩) (fun _=>rfl) (.int .i64 kd);have pP:=mS.at hPS.o (by omega);replace hQe:=Y hQe;replace hQc:=Y hQc;replace mS:=Y mS;clear hzs hxT HS hU2 hP2 hr2 hG2 hm2 hA2;go_upto_region 9 with fail
    clear ct zt p0;have ct:(WS.setCell ⟨Q,0,none⟩ (.int .i64 kd)).cell? ⟨Q,3,none⟩=some (.int .i64 a0.fc.kd):=(zaa pQ 3).trans v3.o;have zt:=zad pQ;have p1:(WS.setCell ⟨Q,0,none⟩ (.int .i64 kd)).cell? ⟨P,1,none⟩=some (.int .i64 fk):=zaa pP 1;have pQ2:=zai pQ 3 (.int .i64 fk);rw [hVV.o] at pQ2;have mS2:Mod (fun k=>k=Q) WS ((WS.setCell ⟨Q,0,none⟩ (.int .i64 kd)).setCell ⟨Q,3,none⟩ (.int .i64 fk)):=mS.o.setCell (a:=⟨Q,3,none⟩) (fun _=>rfl) (.int .i64 fk);have hU4:=Y (mS2.at hUS.o (by omega));have hr4:=Y (hrS.o.mod' mS2 (by omega));have hG4:=Y (hGS.o.mod mS2 (fun k hk=>by omega));have hm4:=Y (hmS.o.trans (mS2.mono (T:=fun k=>U<=k) (fun k hk=>by omega)));have hA4:=Y (hAS.o.mod mS2 (fun k hk e=>by omega));replace pQ2:=Y pQ2;replace pQ:=Y pQ;replace pP:=Y pP;clear mS mS2 hUS hPS hrS hGS hmS hAS hQc;go_upto_region 10 with fail
    clear ct zt p1;generalize (WS.setCell ⟨Q,0,none⟩ (.int .i64 kd)).setCell ⟨Q,3,none⟩ (.int .i64 fk)=W4 at hU4 hr4 hG4 hm4 hA4 pQ2 ⊢;have hQ4:Q < W4.heap.size:=zas pQ2.o;have hrr:W4.heap[U+1]?=some (.cells #[.string ⟨r2.rest.toArray⟩,.bool r2.more,.bool r2.bad] 106 (0,0)):=hr4.o;have e1:=cS hrr 1;have e2:=cS hrr 2;replace hrr:=Y hrr;obtain ⟨rest2,more2,bad2⟩:=r2;simp only at e1 e2;unfold zlp at hres;simp only at hres;cases bad2 with
    | true=>
     replace hres:=Y (show D=none from hres.o);go_wp2_with (refine zab rfl 32 _ _ rfl U _ zA9 32 rfl rfl hU4.o rfl (by kernel_rfl) rfl (fun WE HE=>?_))
     refine bodyPost_ret (zaf rfl _ _ U _ _ _ _ rfl HE.o.1 Tryz.underlying32 rfl (by kernel_rfl)) rfl ?_;rw [hPl.o,hres.o];exact ⟨zao (B:=U) hwU (hm4.o.then HE.o.2 (fun k hk e=>by omega)),rfl⟩
    | false=>
     cases more2 with
     | true=>
      replace hres:=Y (show D=none from hres.o);go_wp2_with (refine zab rfl 32 _ _ rfl U _ zA9 32 rfl rfl hU4.o rfl (by kernel_rfl) rfl (fun WE HE=>?_))
      refine bodyPost_ret (zaf rfl _ _ U _ _ _ _ rfl HE.o.1 Tryz.underlying32 rfl (by kernel_rfl)) rfl ?_;rw [hPl.o,hres.o];exact ⟨zao (B:=U) hwU (hm4.o.then HE.o.2 (fun k hk e=>by omega)),rfl⟩
     | false=>
      obtain ⟨a,ha⟩:∃ a,a={ a0 with kd:=kd,fc:={ a0.fc with kd:=fk } }:=⟨_,rfl⟩;rw [<- ha] at hV2;have hAa:AcAt (fun k=>P < k/\k < Q) W4 ⟨⟨.slice a1 n1 c1,.slice a2 n2 c2,.slice a3 n3 c3⟩,.slice a4 n4 c4,.slice a5 n5 c5⟩ a:=by rw [ha];exact ⟨⟨hA4.o.fc.tp,hA4.o.fc.bl,hA4.o.fc.af⟩,hA4.o.fa,hA4.o.ke⟩
      have hres2:Hid (D=if !vAc a || !decide (line a=t) then none else some a):=Y (by rw [ha];exact hres.o);have hvl:=zey a1 n1 c1 a2 n2 c2 a3 n3 c3 a4 n4 c4 a5 n5 c5 a W4 (hAa.mono (fun k hk=>by omega));rw [show acA a1 n1 c1 a2 n2 c2 a3 n3 c3 a4 n4 c4 a5 n5 c5 a=V2 from hV2.o.symm] at hvl;replace hvl:=Y hvl;replace ha:=Y ha;replace hAa:=Y hAa;clear hres hA4;cases hva:vAc a with
      | false=>
       rw [hva] at hvl;have hres:=Y (show D=none by rw [hres2.o,hva];rfl);clear hres2;go_wp2_with (refine zae (by rfl) 32 _ rfl Q V2 _ _ _ rfl pQ2.o Tryz.underlying32 rfl (by rw [hV2s.o];kernel_rfl) ?_)
       refine hvl.o.mono ?_;rintro e W5 ⟨rfl,hx5⟩;have hU5:=Y (hx5.at hU4.o id);have hm5:=Y (hm4.o.trans (hx5.mono (T:=fun k=>U<=k) (fun _ h=>h.elim)));clear hvl hx5;go_wp2_with (refine zab rfl 32 _ _ rfl U _ zA9 32 rfl rfl hU5.o rfl (by kernel_rfl) rfl (fun WE HE=>?_))
       refine bodyPost_ret (zaf rfl _ _ U _ _ _ _ rfl HE.o.1 Tryz.underlying32 rfl (by kernel_rfl)) rfl ?_;rw [hPl.o,hres.o];exact ⟨zao (B:=U) hwU (hm5.o.then HE.o.2 (fun k hk e=>by omega)),rfl⟩
      | true=>
       rw [hva] at hvl;go_wp2_with (refine zae (by rfl) 32 _ rfl Q V2 _ _ _ rfl pQ2.o Tryz.underlying32 rfl (by rw [hV2s.o];kernel_rfl) ?_)
       refine hvl.o.mono ?_;rintro e W5 ⟨rfl,hx5⟩;have hU5:=Y (hx5.at hU4.o id);have hQ5:=Y (hx5.at pQ2.o id);have hG5:=Y (hG4.o.ext hx5);have hm5:=Y (hm4.o.trans (hx5.mono (T:=fun k=>U<=k) (fun _ h=>h.elim)));have hA5:=Y (hAa.o.ext hx5);have hsz5:Q < W5.heap.size:=zas hQ5.o;clear hvl hx5 hU4 pQ2 hG4 hm4 hAa e1 e2;have hln:=zjD _ a1 n1 c1 a2 n2 c2 a3 n3 c3 a4 n4 c4 a5 n5 c5 a W5 hG5.o (hF2.o.mod hm5.o (fun k hk e=>by have:=hFl.o k hk;omega)) (hA5.o.mono (fun k hk=>by omega)) hva;rw [show acA a1 n1 c1 a2 n2 c2 a3 n3 c3 a4 n4 c4 a5 n5 c5 a=V2 from hV2.o.symm] at hln;generalize hL:line a=ln at hln hres2;replace hln:=Y hln;replace hL:=Y hL;go_wp2_with (refine zae (by rfl) 32 _ rfl Q V2 _ _ _ rfl hQ5.o Tryz.underlying32 rfl (by rw [hV2s.o];kernel_rfl) ?_)
       refine hln.o.mono ?_;rintro e W6 ⟨rfl,hx6⟩;have hU6:=Y (hx6.at hU5.o id);have hQ6:=Y (hx6.at hQ5.o id);have hm6:=Y (hm5.o.trans (hx6.mono (T:=fun k=>U<=k) (fun _ h=>h.elim)));have hA6:=Y (hA5.o.ext hx6);clear hln hx6 hU5 hQ5 hG5 hm5 hA5
       by_cases hlt2:ln=t
       ·have b3:(ln==t)=true:=by rw [hlt2];simp
        have b4:(ln !=t)=false:=by rw [hlt2];simp
        have hres:=Y (show D=some a by rw [hres2.o,hva,decide_eq_true hlt2];rfl);replace hlt2:=Y hlt2;replace hva:=Y hva;clear hres2;go_wp2_with (first | (refine zae (by rfl) 32 _ rfl Q V2 _ _ _ rfl hQ6.o Tryz.underlying32 rfl (by rw [hV2s.o];kernel_rfl) ?_) | (refine zab rfl 32 _ _ rfl U _ V2 32 rfl rfl hU6.o (by rw [hV2s.o];rfl) (by rw [hV2s.o];kernel_rfl) hV21.o (fun WE HE=>?_)))
        refine bodyPost_ret (zaf rfl _ _ U _ _ _ _ rfl HE.o.1 Tryz.underlying32 rfl (by rw [hV2s.o];kernel_rfl)) rfl ?_;rw [hPl.o,hres.o];have hsE:=HE.o.2.size;have hsQ:Q < W6.heap.size:=zas hQ6.o;exact ⟨zao (B:=U) hwU (hm6.o.then HE.o.2 (fun k hk e=>by omega)),a1,n1,c1,a2,n2,c2,a3,n3,c3,a4,n4,c4,a5,n5,c5,by rw [<- show V2=acA a1 n1 c1 a2 n2 c2 a3 n3 c3 a4 n4 c4 a5 n5 c5 a from hV2.o];rfl,(hA6.o.mod HE.o.2 (fun k hk e=>by omega)).mono (fun k hk=>⟨by omega,by omega⟩)⟩
       ·have b3:(ln==t)=false:=by rw [beq_eq_false_iff_ne];exact hlt2
        have b4:(ln !=t)=true:=by rw [bne_iff_ne];exact hlt2
        have hres:=Y (show D=none by rw [hres2.o,hva,decide_eq_false hlt2];rfl);replace hlt2:=Y hlt2;replace hva:=Y hva;clear hres2;go_wp2_with (refine zab rfl 32 _ _ rfl U _ zA9 32 rfl rfl hU6.o rfl (by kernel_rfl) rfl (fun WE HE=>?_))
        refine bodyPost_ret (zaf rfl _ _ U _ _ _ _ rfl HE.o.1 Tryz.underlying32 rfl (by kernel_rfl)) rfl ?_;rw [hPl.o,hres.o];exact ⟨zao (B:=U) hwU (hm6.o.then HE.o.2 (fun k hk e=>by omega)),rfl⟩
   ·have b1:(wd==x)=false:=by rw [beq_eq_false_iff_ne];exact hwx
    have b2:(wd !=x)=true:=by rw [bne_iff_ne];exact hwx
    have hfd2:=Y (hfd.o.trans (if_neg hwx));replace hwx:=Y hwx;go_wp2_with fail
    go_roundg (gk - 1)
    case measure=>have:=hj.o;omega
    case rel=>exact ⟨j+1,by have:=hj.o;omega,by go_num,hxx.o,hfd2.o⟩
  ·obtain rfl:j=18:=by have:=hj.o;omega
   have hn:zbt x 18 (forms.drop 18)=none:=rfl;rw [hn] at hfd;have hres:=Y (show D=none from hD.o.trans (hmiss.o hfd));have hUE:=Y (hx.at hU1.o id);replace hmr:=Y hmr;replace hfd:=Y hfd;clear hn;go_wp2_with (refine zab rfl 32 _ _ rfl U _ zA9 32 rfl rfl hUE.o rfl (by kernel_rfl) rfl (fun WE HE=>?_))
   refine bodyPost_ret (zaf rfl _ _ U _ _ _ _ rfl HE.o.1 Tryz.underlying32 rfl (by kernel_rfl)) rfl ?_;rw [hPl.o,hres.o];exact ⟨zao (B:=U) hwU (hmr.o.then HE.o.2 (fun k hk e=>by omega)),rfl⟩
end Go.Proofs.YtjjfphalcibjfaaGreatDoor
