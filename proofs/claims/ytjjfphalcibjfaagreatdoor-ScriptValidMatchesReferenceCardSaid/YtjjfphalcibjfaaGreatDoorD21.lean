import Derived.Test.YtjjfphalcibjfaaGreatDoorD19
import Derived.Test.YtjjfphalcibjfaaGreatDoorD14
set_option maxRecDepth 100000
set_option maxHeartbeats 16000000
namespace Go.Proofs.YtjjfphalcibjfaaGreatDoor
open Go.Shelf Go.RowKit Cdk Scr
theorem znl (R:Nat) (r0:Rd) (w:World) (hG:Gl w) (hR:10<=R) (h:zbB w R r0) (hl:r0.rest.length<=1000000):
  Calls Tryz.prog 150 #[.pointer (some ⟨R,0,none⟩)] w (AcP w R (zbe 17 r0)):=by
 have hRlt:=h.lt;obtain ⟨U,hU⟩:∃ U,U=w.heap.size:=⟨_,rfl⟩;have hx0:=(Mod.refl (fun _=>False) w).alloc (.cells zA9 32);have hUc:=heap_alloc_new w (.cells zA9 32);rw [<- hU] at hUc;have hr0:=hid (h.ext hx0);have hG0:=hid (hG.ext hx0);have hm0:=hid (RdM.ofExt (R:=R) hx0);have hU0:=hid hUc;have hl0:=hid hl;have hs0:U < (w.alloc (.cells zA9 32)).heap.size:=by rw [World.size_alloc,hU];omega
 obtain ⟨M,hM⟩:∃ M,M=zbe 17 r0:=⟨_,rfl⟩;rw [<- hM];unfold zbe at hM;simp only at hM;replace hM:=hid hM;clear hUc hx0 h hl hG;go_enter Tryz.func150,Tryz.ntmps150;go_wp2_with fail
 rw [<- hU];have hwU:w.heap.size<=U:=Nat.le_of_eq hU.symm;have hRU:R < U:=by omega
 generalize (w.alloc (.cells zA9 32))=W0 at hr0 hG0 hm0 hU0 hs0 ⊢;replace hU:=hid hU;have k0:=hid (zhv R r0 W0 hG0.out hR hr0.out hl0.out);refine k0.out.mono ?_;rintro e W1 ⟨rfl,hrn,hn⟩;have hln:=zhm r0;have hxl0:=zhN r0;generalize hq0:zfJ r0=q0 at hrn hln hxl0  ⊢;obtain ⟨x0,r1⟩:=q0;simp only at hrn hln hxl0  ⊢;have hr1:=hid hrn;have hl1:Hid (r1.rest.length<=1000000):=hid (Nat.le_trans hln hl0.out);have hG1:=hid (hG0.out.rd hR hn);have hm1:=hid (hm0.out.trans hn);have hU1:=hid (hn.at hU0.out (by omega));have hs1:U < W1.heap.size:=by have:=hn.size;omega
 replace hxl0:Hid (x0.length<=1000000):=hid (Nat.le_trans hxl0 hl0.out);replace hq0:=hid hq0;clear hrn hln hn k0 hr0 hl0 hm0 hU0 hG0;go_wp2_with fail
 refine (zfz x0 hxl0.out W1 hG1.out).mono ?_;rintro e W2 ⟨hxd,hD⟩;unfold MsE at hD;have hr2:=hid (hr1.out.ext hxd);have hm2:=hid (hm1.out.then hxd (fun k _ h=>h.elim));have hU2:=hid (hxd.at hU1.out (fun h=>h));have hs2:U < W2.heap.size:=by have:=hxd.size;omega
 clear hr1 hG1 hm1 hU1 hxd;cases hd:zmU x0 with
 | ok m=>
  rw [hd] at hD;simp only at hD;subst hD;go_upto_region 2 with (refine zab rfl 30 _ _ rfl W2.heap.size _ #[.int .i64 m.kd,.int .i64 m.pa,.int .i64 m.sq,.int .i64 m.st,.int .i64 m.ba,.int .i64 m.ve,.string ⟨m.da.toArray⟩] 30 rfl rfl (heap_alloc_new W2 _) rfl (by kernel_rfl) rfl (fun WS HS=>?_))
  obtain ⟨zs,hzs⟩:∃ zs,Hid (Mod (Eq W2.heap.size) (W2.alloc (.cells zs 30)) WS):=⟨_,hid HS.out.2⟩;have hxT:Ext W2 WS:=(((Mod.alloc (Mod.refl (fun _=>False) W2) (.cells zs 30)).mono (T:=fun k=>W2.heap.size<=k) (fun _ h=>h.elim)).then hzs.out (fun k _ e=>by omega)).mono' (fun k h1 h2=>by omega);have hTc:=HS.out.1;obtain ⟨T,hTe⟩:∃ T,T=W2.heap.size:=⟨_,rfl⟩;rw [<- hTe] at hTc ⊢;have hUT:U < T:=by omega
  have hr3:=hid (hr2.out.ext hxT);have hm3:=hid (hm2.out.then hxT (fun k _ h=>h.elim));have hU3:=hid (hxT.at hU2.out (fun h=>h));replace hTe:=hid hTe;replace hTc:=hid hTc;clear hzs hxT HS hr2 hm2 hU2;go_upto_region 4 with fail
  have hr4:=hr3;have hm4:=hm3;have hU4:=hU3;have hT4:=hTc;clear hr3 hm3 hU3 hTc;obtain ⟨VB,hVB⟩:∃ VB,VB=acA none 0 0 none 0 0 none 0 0 none 0 0 none 0 0 { Ac.zero with ms:=m }:=⟨_,rfl⟩;have hVs:Hid (VB.size=36):=hid (by rw [hVB];rfl);have hV1:Hid (VB.toList.all (·.oneCell')=true):=hid (by rw [hVB];rfl);replace hVB:=hid hVB;go_wp2_with (first | (refine zal (by rfl) 30 _ rfl T _ _ _ _ rfl hT4.out Tryz.underlying30 rfl (by kernel_rfl) ?_) | (refine zab rfl 32 _ _ rfl U _ VB 32 rfl (by first | rfl | (rw [hVB.out];rfl)) hU4.out (by rw [hVs.out];rfl) (by rw [hVs.out];kernel_rfl) hV1.out (fun WE HE=>?_)))
  refine bodyPost_ret (results_cell_row rfl _ _ U _ _ _ _ rfl HE.out.1 Tryz.underlying32 rfl (by rw [hVs.out];kernel_rfl)) rfl ?_;have hMe:M=({ Ac.zero with ms:=m },r1):=by
   rw [hM.out];simp only [show zfJ r0=(x0,r1) from hq0.out,hd]
  rw [hMe];exact ⟨none,0,0,none,0,0,none,0,0,none,0,0,none,0,0,by rw [hVB.out],⟨⟨zai.nil _ _ _,zaD.nil _ _,zai.nil _ _ _⟩,zai.nil _ _ _,zai.nil _ _ _⟩,HE.out.2.at hr4.out (by omega),hm4.out.then HE.out.2 (fun k hk e=>by omega)⟩
 | error er=>
  rw [hd] at hD;simp only at hD;obtain ⟨c,hcne,rfl⟩:=hD;have hc1:(c !=0)=true:=by rw [bne_iff_ne];exact hcne
  have hc2:(c==0)=false:=by rw [beq_eq_false_iff_ne];exact hcne
  replace hcne:=hid hcne;go_upto_region 2 with (refine zab rfl 30 _ _ rfl W2.heap.size _ #[.int .i64 0,.int .i64 0,.int .i64 0,.int .i64 0,.int .i64 0,.int .i64 0,.string ⟨#[]⟩] 30 rfl rfl (heap_alloc_new W2 _) rfl (by kernel_rfl) rfl (fun WS HS=>?_))
  obtain ⟨zs,hzs⟩:∃ zs,Hid (Mod (Eq W2.heap.size) (W2.alloc (.cells zs 30)) WS):=⟨_,hid HS.out.2⟩;have hxT:Ext W2 WS:=(((Mod.alloc (Mod.refl (fun _=>False) W2) (.cells zs 30)).mono (T:=fun k=>W2.heap.size<=k) (fun _ h=>h.elim)).then hzs.out (fun k _ e=>by omega)).mono' (fun k h1 h2=>by omega);have hTc:=HS.out.1;obtain ⟨T,hTe⟩:∃ T,T=W2.heap.size:=⟨_,rfl⟩;rw [<- hTe] at hTc ⊢;have hUT:U < T:=by omega
  have hr3:=hid (hr2.out.ext hxT);have hm3:=hid (hm2.out.then hxT (fun k _ h=>h.elim));have hU3:=hid (hxT.at hU2.out (fun h=>h));replace hTe:=hid hTe;replace hTc:=hid hTc;clear hzs hxT HS hr2 hm2 hU2;have hrr:WS.heap[R]?=some (.cells #[.string ⟨r1.rest.toArray⟩,.bool r1.more,.bool r1.bad] 106 (0,0)):=hr3.out;have cb:WS.cell? ⟨R,2,none⟩=some (.bool r1.bad):=zaa hrr 2;have zb:=zac hrr;have hr4:=hid (show zbB (WS.setCell ⟨R,2,none⟩ (.bool true)) R (Scr.bad r1) from zae hrr 2 (.bool true));have mR:RdM R WS (WS.setCell ⟨R,2,none⟩ (.bool true)):=(Mod.refl (fun k=>k=R) WS).setCell (a:=⟨R,2,none⟩) (fun _=>rfl) (.bool true);have hm4:=hid (hm3.out.trans mR);have hU4:=hid (mR.at hU3.out (by omega));have hT4:=hid (mR.at hTc.out (by omega));replace hrr:=hid hrr;clear mR hm3 hU3 hTc hr3;go_upto_region 4 with fail
  clear cb zb;generalize WS.setCell ⟨R,2,none⟩ (.bool true)=W4 at hr4 hm4 hU4 hT4 ⊢;obtain ⟨VB,hVB⟩:∃ VB,VB=acA none 0 0 none 0 0 none 0 0 none 0 0 none 0 0 (Ac.zero):=⟨_,rfl⟩;have hVs:Hid (VB.size=36):=hid (by rw [hVB];rfl);have hV1:Hid (VB.toList.all (·.oneCell')=true):=hid (by rw [hVB];rfl);replace hVB:=hid hVB;go_wp2_with (first | (refine zal (by rfl) 30 _ rfl T _ _ _ _ rfl hT4.out Tryz.underlying30 rfl (by kernel_rfl) ?_) | (refine zab rfl 32 _ _ rfl U _ VB 32 rfl (by first | rfl | (rw [hVB.out];rfl)) hU4.out (by rw [hVs.out];rfl) (by rw [hVs.out];kernel_rfl) hV1.out (fun WE HE=>?_)))
  refine bodyPost_ret (results_cell_row rfl _ _ U _ _ _ _ rfl HE.out.1 Tryz.underlying32 rfl (by rw [hVs.out];kernel_rfl)) rfl ?_;have hMe:M=(Ac.zero,(Scr.bad r1)):=by
   rw [hM.out];simp only [show zfJ r0=(x0,r1) from hq0.out,hd]
  rw [hMe];exact ⟨none,0,0,none,0,0,none,0,0,none,0,0,none,0,0,by rw [hVB.out],⟨⟨zai.nil _ _ _,zaD.nil _ _,zai.nil _ _ _⟩,zai.nil _ _ _,zai.nil _ _ _⟩,HE.out.2.at hr4.out (by omega),hm4.out.then HE.out.2 (fun k hk e=>by omega)⟩
theorem zc6.low {F F':Nat -> Prop} {w:World} {j:Nat} {r:FR} (h:zc6 F w j r) (hF:∀ k,F k -> F' k):zc6 F' w j r:=by
 obtain ⟨h1,h2,h3,h4⟩:=h;refine ⟨h1,h2,h3,?_⟩;split at h4
 ·rename_i hj
  rw [if_pos hj];obtain ⟨b,f1,f2,rest⟩:=h4;exact ⟨b,hF _ f1,hF _ f2,rest⟩
 ·rename_i hj
  rw [if_neg hj];exact h4
theorem zno {F:Nat -> Prop} {j:Nat} (hj:j < 18) {r:FR} (R:Nat) (r0:Rd) (w:World) (hr:zc6 F w j r) (hF:∀ k,F k -> k ≠ R) (hG:Gl w) (hR:10<=R) (h:zbB w R r0) (hl:r0.rest.length<=1000000) (hl1:(zbi r0).2.rest.length<=1000000):
  ∃ (fn:Nat) (caps:Array Value),r.rd=.func (.func fn) #[] caps/\(∀ args w,(callFunc fn args).run Tryz.prog w=.ok (.enter fn args) w)/\Calls Tryz.prog fn (#[.pointer (some ⟨R,0,none⟩)]++caps) w (AcP w R (zbe j r0)):=by
 obtain ⟨-,-,-,h4⟩:=hr
 match j with
 | 0=>
  obtain ⟨b,-,f2,-,e,-,hb⟩:=h4;exact ⟨_,_,e,enters_of Tryz.func108 (by kernel_rfl) rfl,ze2 112 (b+1) 0 (by decide) R r0 w hG hR h hl hb (hF _ f2) (enters_of Tryz.func112 (by kernel_rfl) rfl) (fun W hGW hW=>fRevise R _ W hGW hR hW hl1)⟩
 | 1=>
  obtain ⟨b,-,f2,-,e,-,hb⟩:=h4;exact ⟨_,_,e,enters_of Tryz.func108 (by kernel_rfl) rfl,ze2 114 (b+1) 1 (by decide) R r0 w hG hR h hl hb (hF _ f2) (enters_of Tryz.func114 (by kernel_rfl) rfl) (fun W hGW hW=>fApprove R _ W hGW hR hW hl1)⟩
 | 2=>
  obtain ⟨b,-,f2,-,e,-,hb⟩:=h4;exact ⟨_,_,e,enters_of Tryz.func108 (by kernel_rfl) rfl,ze2 117 (b+1) 2 (by decide) R r0 w hG hR h hl hb (hF _ f2) (enters_of Tryz.func117 (by kernel_rfl) rfl) (fun W hGW hW=>fPublish R _ W hGW hR hW hl1)⟩
 | 3=>
  obtain ⟨b,-,f2,-,e,-,hb⟩:=h4;exact ⟨_,_,e,enters_of Tryz.func108 (by kernel_rfl) rfl,ze2 120 (b+1) 3 (by decide) R r0 w hG hR h hl hb (hF _ f2) (enters_of Tryz.func120 (by kernel_rfl) rfl) (fun W hGW hW=>fCorrect R _ W hGW hR hW hl1)⟩
 | 4=>
  obtain ⟨b,-,f2,-,e,-,hb⟩:=h4;exact ⟨_,_,e,enters_of Tryz.func108 (by kernel_rfl) rfl,ze2 123 (b+1) 4 (by decide) R r0 w hG hR h hl hb (hF _ f2) (enters_of Tryz.func123 (by kernel_rfl) rfl) (fun W hGW hW=>fRetract R _ W hGW hR hW hl1)⟩
 | 5=>
  obtain ⟨b,-,f2,-,e,-,hb⟩:=h4;exact ⟨_,_,e,enters_of Tryz.func108 (by kernel_rfl) rfl,ze2 125 (b+1) 5 (by decide) R r0 w hG hR h hl hb (hF _ f2) (enters_of Tryz.func125 (by kernel_rfl) rfl) (fun W hGW hW=>fTakedown R _ W hGW hR hW hl1)⟩
 | 6=>exact ⟨128,#[],h4.2,enters_of Tryz.func128 (by kernel_rfl) rfl,zjn R r0 w hG hR h hl⟩
 | 7=>exact ⟨131,#[],h4.2,enters_of Tryz.func131 (by kernel_rfl) rfl,zlt R r0 w hG hR h hl⟩
 | 8=>exact ⟨133,#[],h4.2,enters_of Tryz.func133 (by kernel_rfl) rfl,znt R r0 w hG hR h hl⟩
 | 9=>exact ⟨135,#[],h4.2,enters_of Tryz.func135 (by kernel_rfl) rfl,zfv R r0 w hG hR h hl⟩
 | 10=>exact ⟨135,#[],h4.2,enters_of Tryz.func135 (by kernel_rfl) rfl,zfv R r0 w hG hR h hl⟩
 | 11=>exact ⟨135,#[],h4.2,enters_of Tryz.func135 (by kernel_rfl) rfl,zfv R r0 w hG hR h hl⟩
 | 12=>exact ⟨138,#[],h4.2,enters_of Tryz.func138 (by kernel_rfl) rfl,zmY R r0 w hG hR h hl⟩
 | 13=>exact ⟨141,#[],h4.2,enters_of Tryz.func141 (by kernel_rfl) rfl,zmX R r0 w hG hR h hl⟩
 | 14=>exact ⟨143,#[],h4.2,enters_of Tryz.func143 (by kernel_rfl) rfl,zm0 R r0 w hG hR h hl⟩
 | 15=>exact ⟨145,#[],h4.2,enters_of Tryz.func145 (by kernel_rfl) rfl,zom R r0 w hG hR h hl⟩
 | 16=>exact ⟨147,#[],h4.2,enters_of Tryz.func147 (by kernel_rfl) rfl,zmC R r0 w hG hR h hl⟩
 | 17=>exact ⟨150,#[],h4.2,enters_of Tryz.func150 (by kernel_rfl) rfl,znl R r0 w hG hR h hl⟩
 | n+18=>exact absurd hj (by omega)
theorem znu {F:Nat -> Prop} {j:Nat} (hj:j < 18) {r:FR} (R:Nat) (r0:Rd) (w:World) (hr:zc6 F w j r) (hF:∀ k,F k -> k ≠ R) (hG:Gl w) (hR:10<=R) (h:zbB w R r0) (hl:r0.rest.length<=1000000) {f1:Nat} {q1:Array Value} (hw:r.rd=.func (.func f1) #[] q1):
  (∀ args w,(callFunc f1 args).run Tryz.prog w=.ok (.enter f1 args) w)/\Calls Tryz.prog f1 (#[.pointer (some ⟨R,0,none⟩)]++q1) w (AcP w R (zbe j r0)):=by
 obtain ⟨fn,caps,e,h1,h2⟩:=zno hj R r0 w hr hF hG hR h hl (Nat.le_trans (zbm r0) hl);rw [hw] at e;injection e with e1 _ e3
 injection e1 with e1
 subst e1 e3;exact ⟨h1,h2⟩
theorem za8 {P:Program} {fn:Func} {p u:Tmp} {ty:TypeId} (h:fn.results=#[.cell p ty,.tmp u]) (tmps:Array Value) (w:World) (g:Nat) (t:TypeId) (cs:Array Value) (fr:Nat × Nat) (d:TypeDesc)
  (hp:tmps.getD p undef=.pointer (some ⟨g,0,none⟩)) (hg:w.heap[g]?=some (.cells cs t fr))
  (hu:P.underlying ty=some d) (hd:(match d with | .struct _ | .array _ _=>true | _=>false)=true) (hi:(P.info? ty).map (·.size)=some cs.size):
  (results fn tmps).run P w=.ok (.tuple #[.agg cs,tmps.getD u undef]) w:=by
 have hp':tmps[p]?.getD undef=.pointer (some ⟨g,0,none⟩):=by simpa using hp
 simp [results,h,hp',asAddr,run_loadVar_row w g t ty cs fr d hg hu hd hi]
def PlE (w w':World) (e:Ending) (D:Option Ac):Prop:=match D with
 | some a=>∃ (a1:Option Addr) (n1 c1:Nat) (a2:Option Addr) (n2 c2:Nat) (a3:Option Addr) (n3 c3:Nat) (a4:Option Addr) (n4 c4:Nat) (a5:Option Addr) (n5 c5:Nat),e=.returned (.tuple #[.agg (acA a1 n1 c1 a2 n2 c2 a3 n3 c3 a4 n4 c4 a5 n5 c5 a),.bool true])/\AcAt (fun k=>w.heap.size<=k/\k < w'.heap.size) w' ⟨⟨.slice a1 n1 c1,.slice a2 n2 c2,.slice a3 n3 c3⟩,.slice a4 n4 c4,.slice a5 n5 c5⟩ a
 | none=>e=.returned (.tuple #[.agg zA9,.bool false])
def PlP (w:World) (t:Bs) (e:Ending) (w':World):Prop:=Ext w w'/\PlE w w' e (zb0 t)
def zjL (t:Bs) (kd fk:Int) (x:Ac × Rd):Option Ac:=
 if x.2.bad || (x.2.more || (!vAc { x.1 with kd:=kd,fc:={ x.1.fc with kd:=fk } } || !decide (line { x.1 with kd:=kd,fc:={ x.1.fc with kd:=fk } }=t))) then none else some { x.1 with kd:=kd,fc:={ x.1.fc with kd:=fk } }
theorem zhd {t:Bs} {j:Nat} {f:Fm} (h:zgH (zaQ ⟨t,true,false⟩).1 0 forms=some (j,f)):zb0 t=zjL t f.kd f.fk (zbe j (zaQ ⟨t,true,false⟩).2):=by
 unfold zb0;simp only [h]
 rfl
theorem zho {t:Bs} (h:zgH (zaQ ⟨t,true,false⟩).1 0 forms=none):zb0 t=none:=by
 unfold zb0;simp only [h]
theorem zft {F:Nat -> Prop} (v:Value) (t:Bs) (w:World) (hG:Gl w) (hF:zcP F w v) (hFl:∀ k,F k -> k < w.heap.size) (hs:t.length<=1000000):
  Calls Tryz.prog 50 #[v,.string ⟨t.toArray⟩] w (PlP w t):=by
 have hF2:=hF;obtain ⟨rows,hr18,hrow,hfm⟩:=hF;obtain ⟨ao,cap,rfl⟩:=hrow.slice;rw [hr18] at hF2 ⊢;obtain ⟨U,hU⟩:∃ U,U=w.heap.size:=⟨_,rfl⟩;have hx0:=((Mod.refl (fun _=>False) w).alloc (.cells zA9 32)).alloc (.cells #[.string ⟨t.toArray⟩,.bool true,.bool false] 106);have hUc:((w.alloc (.cells zA9 32)).alloc (.cells #[.string ⟨t.toArray⟩,.bool true,.bool false] 106)).heap[U]?=some (.cells zA9 32 (0,0)):=by rw [zaA,World.size_alloc,hU,if_neg (by omega)];exact heap_alloc_new w _
 have hRc:((w.alloc (.cells zA9 32)).alloc (.cells #[.string ⟨t.toArray⟩,.bool true,.bool false] 106)).heap[U+1]?=some (.cells #[.string ⟨t.toArray⟩,.bool true,.bool false] 106 (0,0)):=by rw [hU];have:=heap_alloc_new (w.alloc (.cells zA9 32)) (.cells #[.string ⟨t.toArray⟩,.bool true,.bool false] 106);rwa [World.size_alloc] at this
 have hG0:=hid (hG.ext hx0);have hwU:w.heap.size<=U:=Nat.le_of_eq hU.symm;have hU10:10<=U:=by have:=hG.size;omega
 have hPl:Hid (∀ e w',PlP w t e w'=(Ext w w'/\PlE w w' e (zb0 t))):=hid (fun e w'=>rfl);obtain ⟨D,hD⟩:∃ D,D=zb0 t:=⟨_,rfl⟩;rw [<- hD] at hPl;replace hD:=hid hD;replace hUc:=hid hUc;replace hRc:=hid hRc;replace hx0:=hid hx0;replace hrow:=hid hrow;replace hfm:=hid hfm;replace hF2:=hid hF2;replace hFl:=hid hFl;replace hr18:=hid hr18;clear hG;go_enter Tryz.func50,Tryz.ntmps50;go_wp2_with fail
 try simp only [World.size_alloc]
 rw [<- hU];generalize ((w.alloc (.cells zA9 32)).alloc (.cells #[.string ⟨t.toArray⟩,.bool true,.bool false] 106))=w0 at hUc hRc hx0 hG0 ⊢;replace hU:=hid hU;have hwd:=hid (zbD (U+1) ⟨t,true,false⟩ w0 hG0.out hRc.out hs);have hle:=za6 ⟨t,true,false⟩;have hfind:=fun j f=>@zhd t j f
 have hmiss:=@zho t;generalize zaQ ⟨t,true,false⟩=q at hwd hle hfind hmiss;obtain ⟨x,r1⟩:=q;simp only at hwd hle hfind hmiss;have hl1:=hid (Nat.le_trans hle.2 hs);replace hfind:=hid hfind;replace hmiss:=hid hmiss;clear hle;refine hwd.out.mono ?_;rintro e w1 ⟨rfl,hr1,hm1⟩;have hU1:=hid (hm1.at hUc.out (by omega));have hG1:=hid (hG0.out.rd (by omega) hm1);have hz1:U+1 < w1.heap.size:=hr1.lt;have hm01:Hid (Mod (fun k=>U<=k) w w1):=hid ((hx0.out.mono (T:=fun k=>U<=k) (fun _ h=>h.elim)).trans (hm1.mono (fun k hk=>by omega)));replace hr1:=hid hr1;clear hwd hm1 hUc hRc hG0 hx0;go_wp2_with fail
 go_loopg [18] 18 (fun g i wr=>∃ j:Nat,j+g=18/\i=.int .i64 j/\Ext w1 wr/\zgH x 0 forms=zgH x j (forms.drop j))
 case atStart=>exact ⟨0,by omega,rfl,Mod.refl _ _,rfl⟩
 case round=>
  obtain ⟨j,hj,rfl,hx,hfd⟩:=hrel;have hmr:Mod (fun k=>U<=k) w wr:=hm01.out.trans (hx.mono (T:=fun k=>U<=k) (fun _ h=>h.elim));replace hj:=hid hj
  by_cases hlt:j < 18
  ·have hdi:(j:Int) < 18:=by omega
   have hd:decide ((j:Int) < 18)=true:=decide_eq_true hdi;have hjr:j < rows.length:=by rw [hr18.out];exact hlt
   obtain ⟨b',off,cap',e,-,hc⟩:=(hrow.out.mod hmr (fun k hk e=>by have:=hFl.out k hk;omega)).get 5 zdC (by decide) hjr;have hfj:=(hfm.out j hjr).mod hmr (fun k hk e=>by have:=hFl.out k hk;omega);generalize rows[j]=r at hc hfj;obtain ⟨kd,fk,wd,wv,rv⟩:=r;injection e with e1 e2 e3
   subst e1;have g0:=hc 0 (.int .i64 kd) (by decide) rfl;rw [Nat.add_zero] at g0;have g1:=hc 1 (.int .i64 fk) (by decide) rfl;have g2:=hc 2 (.string ⟨wd.toArray⟩) (by decide) rfl;have g3:=hc 3 wv (by decide) rfl;have g4:=hc 4 rv (by decide) rfl;clear hc e2 e3;obtain ⟨f1,q1,f2,q2,rfl,rfl⟩:=hfj.fns;obtain ⟨ff,hdr,k1,k2,k3⟩:=zfL hlt;have m1:kd=ff.kd:=hfj.1.trans k1.symm;have m2:fk=ff.fk:=hfj.2.1.trans k2.symm;have m3:wd=ff.wd:=hfj.2.2.1.trans k3.symm;rw [hdr] at hfd;simp only [zgH] at hfd;rw [<- m3] at hfd;have hPc:=heap_alloc_new wr (.cells #[.int .i64 kd,.int .i64 fk,.string ⟨wd.toArray⟩,.func (.func f1) #[] q1,.func (.func f2) #[] q2] 95);have hxP:=Mod.alloc (Mod.refl (fun _=>False) wr) (.cells #[.int .i64 kd,.int .i64 fk,.string ⟨wd.toArray⟩,.func (.func f1) #[] q1,.func (.func f2) #[] q2] 95);have hxx:=hid (hx.trans hxP);replace hfj:=hid hfj;replace hPc:=hid hPc;replace hxP:=hid hxP;replace hx:=hid hx;replace hmr:=hid hmr;replace hfd:=hid hfd;replace m1:=hid m1;replace m2:=hid m2;replace m3:=hid m3;replace hdr:=hid hdr;clear k1 k2 k3;go_upto_region 6 with fail
   have hPz:wr.heap.size < (wr.alloc (.cells #[.int .i64 kd,.int .i64 fk,.string ⟨wd.toArray⟩,.func (.func f1) #[] q1,.func (.func f2) #[] q2] 95)).heap.size:=by rw [World.size_alloc];omega
   have hz2:U+1 < wr.heap.size:=Nat.lt_of_lt_of_le hz1 hx.out.size;generalize (wr.alloc _)=W1 at hPc hxP hxx hPz ⊢;generalize wr.heap.size=P at hPc hz2 hPz ⊢;have p2:W1.cell? ⟨P,2,none⟩=some (.string ⟨wd.toArray⟩):=zaa hPc.out 2;clear g0 g1 g2 g3 g4
   by_cases hwx:wd=x
   ·have b1:(wd==x)=true:=by rw [hwx];simp
    have b2:(wd !=x)=false:=by rw [hwx];simp
    have p4:W1.cell? ⟨P,4,none⟩=some (.func (.func f2) #[] q2):=zaa hPc.out 4;have hfd2:=hfd.out;rw [if_pos hwx] at hfd2;have hoL:=hfind.out j ff hfd2;rw [<- m1.out,<- m2.out] at hoL;have hrW:=hid (hr1.out.ext hxx.out);have hGW:=hid (hG1.out.ext hxx.out);have hUW:=hid (hxx.out.at hU1.out (fun h=>h));have hmW:=hid (hm01.out.trans (hxx.out.mono (T:=fun k=>U<=k) (fun _ h=>h.elim)));have hfW:=hfj.out.mod (hxP.out) (fun k _ h=>h);obtain ⟨hent,hcall⟩:=znu hlt (U+1) r1 W1 hfW (fun k hk e=>by have:=hFl.out k hk;omega) hGW.out (by omega) hrW.out hl1.out rfl;generalize zbe j r1=rr at hcall hoL;obtain ⟨a0,r2⟩:=rr;have hres:Hid (D=zjL t kd fk (a0,r2)):=hid (hD.out.trans hoL);replace hcall:=hid hcall;replace hfj:=hid hfj;replace hwx:=hid hwx;clear hfd2 hoL hfW hrW;go_wp2_with fail
    refine hcall.out.mono ?_;rintro e W2 ⟨a1,n1,c1,a2,n2,c2,a3,n3,c3,a4,n4,c4,a5,n5,c5,rfl,hA,hr2,hn⟩;simp only at hA hr2 ⊢;have hU2:=hid (hn.at hUW.out (by omega));have hG2:=hid (hGW.out.rd (by omega) hn);have hm2:=hid (hmW.out.trans (hn.mono (T:=fun k=>U<=k) (fun k hk=>by omega)));have hP2:=hid (hn.at hPc.out (by omega));have hsz2:W1.heap.size<=W2.heap.size:=hn.size;have hA2:=hid (hA.mono (F':=fun k=>P < k/\k < W2.heap.size) (fun k hk=>⟨by omega,hk.2⟩));replace hr2:=hid hr2;clear hA hn hcall hent hUW hGW hmW p2 p4 b1 b2;obtain ⟨V,hV⟩:∃ V,V=acA a1 n1 c1 a2 n2 c2 a3 n3 c3 a4 n4 c4 a5 n5 c5 a0:=⟨_,rfl⟩;rw [<- hV];have hVs:Hid (V.size=36):=hid (by rw [hV];rfl);have hV1:Hid (V.toList.all (·.oneCell')=true):=hid (by rw [hV];rfl);obtain ⟨V2,hV2⟩:∃ V2,V2=acA a1 n1 c1 a2 n2 c2 a3 n3 c3 a4 n4 c4 a5 n5 c5 { a0 with kd:=kd,fc:={ a0.fc with kd:=fk } }:=⟨_,rfl⟩;have hVV:Hid ((V.setIfInBounds 0 (.int .i64 kd)).setIfInBounds 3 (.int .i64 fk)=V2):=hid (by rw [hV,hV2];rfl);have hV2s:Hid (V2.size=36):=hid (by rw [hV2];rfl);have hV21:Hid (V2.toList.all (·.oneCell')=true):=hid (by rw [hV2];rfl);have v0:Hid (V[0]?=some (.int .i64 a0.kd)):=hid (by rw [hV];rfl);have v3:Hid ((V.setIfInBounds 0 (.int .i64 kd))[3]?=some (.int .i64 a0.fc.kd)):=hid (by rw [hV];rfl);replace hV:=hid hV;replace hV2:=hid hV2;go_upto_region 8 with (refine zab rfl 32 _ _ rfl W2.heap.size _ V 32 rfl rfl (heap_alloc_new W2 _) (by rw [hVs.out];rfl) (by rw [hVs.out];kernel_rfl) hV1.out (fun WS HS=>?_))
    obtain ⟨zs,hzs⟩:∃ zs,Hid (Mod (Eq W2.heap.size) (W2.alloc (.cells zs 32)) WS):=⟨_,hid HS.out.2⟩;have hxT:Ext W2 WS:=(((Mod.alloc (Mod.refl (fun _=>False) W2) (.cells zs 32)).mono (T:=fun k=>W2.heap.size<=k) (fun _ h=>h.elim)).then hzs.out (fun k _ e=>by omega)).mono' (fun k h1 h2=>by omega);have hQc:=HS.out.1;obtain ⟨Q,hQe⟩:∃ Q,Q=W2.heap.size:=⟨_,rfl⟩;rw [<- hQe] at hQc ⊢;have hPQ:P < Q:=by omega
    have hUS:=hid (hxT.at hU2.out (fun h=>h));have hPS:=hid (hxT.at hP2.out (fun h=>h));have hrS:=hid (hr2.out.ext hxT);have hGS:=hid (hG2.out.ext hxT);have hmS:=hid (hm2.out.trans (hxT.mono (T:=fun k=>U<=k) (fun _ h=>h.elim)));have hAS:=hid ((hA2.out.ext hxT).mono (F':=fun k=>P < k/\k < Q) (fun k hk=>⟨hk.1,by omega⟩));have p0:WS.cell? ⟨P,0,none⟩=some (.int .i64 kd):=zaa hPS.out 0;have ct:WS.cell? ⟨Q,0,none⟩=some (.int .i64 a0.kd):=(zaa hQc 0).trans v0.out;have zt:=zac hQc;have pQ:=zae hQc 0 (.int .i64 kd);have mS:Mod (fun k=>k=Q) WS (WS.setCell ⟨Q,0,none⟩ (.int .i64 kd)):=(Mod.refl (fun k=>k=Q) WS).setCell (a:=⟨Q,0,none⟩) (fun _=>rfl) (.int .i64 kd);have pP:=mS.at hPS.out (by omega);replace hQe:=hid hQe;replace hQc:=hid hQc;replace mS:=hid mS;clear hzs hxT HS hU2 hP2 hr2 hG2 hm2 hA2;go_upto_region 9 with fail
    clear ct zt p0;have ct:(WS.setCell ⟨Q,0,none⟩ (.int .i64 kd)).cell? ⟨Q,3,none⟩=some (.int .i64 a0.fc.kd):=(zaa pQ 3).trans v3.out;have zt:=zac pQ;have p1:(WS.setCell ⟨Q,0,none⟩ (.int .i64 kd)).cell? ⟨P,1,none⟩=some (.int .i64 fk):=zaa pP 1;have pQ2:=zae pQ 3 (.int .i64 fk);rw [hVV.out] at pQ2;have mS2:Mod (fun k=>k=Q) WS ((WS.setCell ⟨Q,0,none⟩ (.int .i64 kd)).setCell ⟨Q,3,none⟩ (.int .i64 fk)):=mS.out.setCell (a:=⟨Q,3,none⟩) (fun _=>rfl) (.int .i64 fk);have hU4:=hid (mS2.at hUS.out (by omega));have hr4:=hid (hrS.out.mod' mS2 (by omega));have hG4:=hid (hGS.out.mod mS2 (fun k hk=>by omega));have hm4:=hid (hmS.out.trans (mS2.mono (T:=fun k=>U<=k) (fun k hk=>by omega)));have hA4:=hid (hAS.out.mod mS2 (fun k hk e=>by omega));replace pQ2:=hid pQ2;replace pQ:=hid pQ;replace pP:=hid pP;clear mS mS2 hUS hPS hrS hGS hmS hAS hQc;go_upto_region 10 with fail
    clear ct zt p1;generalize (WS.setCell ⟨Q,0,none⟩ (.int .i64 kd)).setCell ⟨Q,3,none⟩ (.int .i64 fk)=W4 at hU4 hr4 hG4 hm4 hA4 pQ2 ⊢;have hQ4:Q < W4.heap.size:=zat pQ2.out;have hrr:W4.heap[U+1]?=some (.cells #[.string ⟨r2.rest.toArray⟩,.bool r2.more,.bool r2.bad] 106 (0,0)):=hr4.out;have e1:W4.cell? ⟨U+1,1,none⟩=some (.bool r2.more):=zaa hrr 1;have e2:W4.cell? ⟨U+1,2,none⟩=some (.bool r2.bad):=zaa hrr 2;replace hrr:=hid hrr;obtain ⟨rest2,more2,bad2⟩:=r2;simp only at e1 e2;unfold zjL at hres;simp only at hres;cases bad2 with
    | true=>
     replace hres:=hid (show D=none from hres.out);go_wp2_with (refine zab rfl 32 _ _ rfl U _ zA9 32 rfl rfl hU4.out rfl (by kernel_rfl) rfl (fun WE HE=>?_))
     refine bodyPost_ret (za8 rfl _ _ U _ _ _ _ rfl HE.out.1 Tryz.underlying32 rfl (by kernel_rfl)) rfl ?_;rw [hPl.out,hres.out];exact ⟨zaG (B:=U) hwU (hm4.out.then HE.out.2 (fun k hk e=>by omega)),rfl⟩
    | false=>
     cases more2 with
     | true=>
      replace hres:=hid (show D=none from hres.out);go_wp2_with (refine zab rfl 32 _ _ rfl U _ zA9 32 rfl rfl hU4.out rfl (by kernel_rfl) rfl (fun WE HE=>?_))
      refine bodyPost_ret (za8 rfl _ _ U _ _ _ _ rfl HE.out.1 Tryz.underlying32 rfl (by kernel_rfl)) rfl ?_;rw [hPl.out,hres.out];exact ⟨zaG (B:=U) hwU (hm4.out.then HE.out.2 (fun k hk e=>by omega)),rfl⟩
     | false=>
      obtain ⟨a,ha⟩:∃ a,a={ a0 with kd:=kd,fc:={ a0.fc with kd:=fk } }:=⟨_,rfl⟩;rw [<- ha] at hV2;have hAa:AcAt (fun k=>P < k/\k < Q) W4 ⟨⟨.slice a1 n1 c1,.slice a2 n2 c2,.slice a3 n3 c3⟩,.slice a4 n4 c4,.slice a5 n5 c5⟩ a:=by rw [ha];exact ⟨⟨hA4.out.fc.tp,hA4.out.fc.bl,hA4.out.fc.af⟩,hA4.out.fa,hA4.out.ke⟩
      have hres2:Hid (D=if !vAc a || !decide (line a=t) then none else some a):=hid (by rw [ha];exact hres.out);have hvl:=zcN a1 n1 c1 a2 n2 c2 a3 n3 c3 a4 n4 c4 a5 n5 c5 a W4 (hAa.mono (fun k hk=>by omega));rw [show acA a1 n1 c1 a2 n2 c2 a3 n3 c3 a4 n4 c4 a5 n5 c5 a=V2 from hV2.out.symm] at hvl;replace hvl:=hid hvl;replace ha:=hid ha;replace hAa:=hid hAa;clear hres hA4;cases hva:vAc a with
      | false=>
       rw [hva] at hvl;have hres:=hid (show D=none by rw [hres2.out,hva];rfl);clear hres2;go_wp2_with (refine zal (by rfl) 32 _ rfl Q V2 _ _ _ rfl pQ2.out Tryz.underlying32 rfl (by rw [hV2s.out];kernel_rfl) ?_)
       refine hvl.out.mono ?_;rintro e W5 ⟨rfl,hx5⟩;have hU5:=hid (hx5.at hU4.out (fun h=>h));have hm5:=hid (hm4.out.trans (hx5.mono (T:=fun k=>U<=k) (fun _ h=>h.elim)));clear hvl hx5;go_wp2_with (refine zab rfl 32 _ _ rfl U _ zA9 32 rfl rfl hU5.out rfl (by kernel_rfl) rfl (fun WE HE=>?_))
       refine bodyPost_ret (za8 rfl _ _ U _ _ _ _ rfl HE.out.1 Tryz.underlying32 rfl (by kernel_rfl)) rfl ?_;rw [hPl.out,hres.out];exact ⟨zaG (B:=U) hwU (hm5.out.then HE.out.2 (fun k hk e=>by omega)),rfl⟩
      | true=>
       rw [hva] at hvl;go_wp2_with (refine zal (by rfl) 32 _ rfl Q V2 _ _ _ rfl pQ2.out Tryz.underlying32 rfl (by rw [hV2s.out];kernel_rfl) ?_)
       refine hvl.out.mono ?_;rintro e W5 ⟨rfl,hx5⟩;have hU5:=hid (hx5.at hU4.out (fun h=>h));have hQ5:=hid (hx5.at pQ2.out (fun h=>h));have hG5:=hid (hG4.out.ext hx5);have hm5:=hid (hm4.out.trans (hx5.mono (T:=fun k=>U<=k) (fun _ h=>h.elim)));have hA5:=hid (hAa.out.ext hx5);have hsz5:Q < W5.heap.size:=zat hQ5.out;clear hvl hx5 hU4 pQ2 hG4 hm4 hAa e1 e2;have hln:=zhA _ a1 n1 c1 a2 n2 c2 a3 n3 c3 a4 n4 c4 a5 n5 c5 a W5 hG5.out (hF2.out.mod hm5.out (fun k hk e=>by have:=hFl.out k hk;omega)) (hA5.out.mono (fun k hk=>by omega)) hva;rw [show acA a1 n1 c1 a2 n2 c2 a3 n3 c3 a4 n4 c4 a5 n5 c5 a=V2 from hV2.out.symm] at hln;generalize hL:line a=ln at hln hres2;replace hln:=hid hln;replace hL:=hid hL;go_wp2_with (refine zal (by rfl) 32 _ rfl Q V2 _ _ _ rfl hQ5.out Tryz.underlying32 rfl (by rw [hV2s.out];kernel_rfl) ?_)
       refine hln.out.mono ?_;rintro e W6 ⟨rfl,hx6⟩;have hU6:=hid (hx6.at hU5.out (fun h=>h));have hQ6:=hid (hx6.at hQ5.out (fun h=>h));have hm6:=hid (hm5.out.trans (hx6.mono (T:=fun k=>U<=k) (fun _ h=>h.elim)));have hA6:=hid (hA5.out.ext hx6);clear hln hx6 hU5 hQ5 hG5 hm5 hA5
       by_cases hlt2:ln=t
       ·have b3:(ln==t)=true:=by rw [hlt2];simp
        have b4:(ln !=t)=false:=by rw [hlt2];simp
        have hres:=hid (show D=some a by rw [hres2.out,hva,decide_eq_true hlt2];rfl);replace hlt2:=hid hlt2;replace hva:=hid hva;clear hres2;go_wp2_with (first | (refine zal (by rfl) 32 _ rfl Q V2 _ _ _ rfl hQ6.out Tryz.underlying32 rfl (by rw [hV2s.out];kernel_rfl) ?_) | (refine zab rfl 32 _ _ rfl U _ V2 32 rfl rfl hU6.out (by rw [hV2s.out];rfl) (by rw [hV2s.out];kernel_rfl) hV21.out (fun WE HE=>?_)))
        refine bodyPost_ret (za8 rfl _ _ U _ _ _ _ rfl HE.out.1 Tryz.underlying32 rfl (by rw [hV2s.out];kernel_rfl)) rfl ?_;rw [hPl.out,hres.out];have hsE:=HE.out.2.size;have hsQ:Q < W6.heap.size:=zat hQ6.out;exact ⟨zaG (B:=U) hwU (hm6.out.then HE.out.2 (fun k hk e=>by omega)),a1,n1,c1,a2,n2,c2,a3,n3,c3,a4,n4,c4,a5,n5,c5,by rw [<- show V2=acA a1 n1 c1 a2 n2 c2 a3 n3 c3 a4 n4 c4 a5 n5 c5 a from hV2.out];rfl,(hA6.out.mod HE.out.2 (fun k hk e=>by omega)).mono (fun k hk=>⟨by omega,by omega⟩)⟩
       ·have b3:(ln==t)=false:=by rw [beq_eq_false_iff_ne];exact hlt2
        have b4:(ln !=t)=true:=by rw [bne_iff_ne];exact hlt2
        have hres:=hid (show D=none by rw [hres2.out,hva,decide_eq_false hlt2];rfl);replace hlt2:=hid hlt2;replace hva:=hid hva;clear hres2;go_wp2_with (refine zab rfl 32 _ _ rfl U _ zA9 32 rfl rfl hU6.out rfl (by kernel_rfl) rfl (fun WE HE=>?_))
        refine bodyPost_ret (za8 rfl _ _ U _ _ _ _ rfl HE.out.1 Tryz.underlying32 rfl (by kernel_rfl)) rfl ?_;rw [hPl.out,hres.out];exact ⟨zaG (B:=U) hwU (hm6.out.then HE.out.2 (fun k hk e=>by omega)),rfl⟩
   ·have b1:(wd==x)=false:=by rw [beq_eq_false_iff_ne];exact hwx
    have b2:(wd !=x)=true:=by rw [bne_iff_ne];exact hwx
    have hfd2:=hid (hfd.out.trans (if_neg hwx));replace hwx:=hid hwx;go_wp2_with fail
    go_roundg (gk - 1)
    case measure=>have:=hj.out;omega
    case rel=>exact ⟨j+1,by have:=hj.out;omega,by go_num,hxx.out,hfd2.out⟩
  ·obtain rfl:j=18:=by have:=hj.out;omega
   have hn:zgH x 18 (forms.drop 18)=none:=rfl;rw [hn] at hfd;have hres:=hid (show D=none from hD.out.trans (hmiss.out hfd));have hUE:=hid (hx.at hU1.out (fun h=>h));replace hmr:=hid hmr;replace hfd:=hid hfd;clear hn;go_wp2_with (refine zab rfl 32 _ _ rfl U _ zA9 32 rfl rfl hUE.out rfl (by kernel_rfl) rfl (fun WE HE=>?_))
   refine bodyPost_ret (za8 rfl _ _ U _ _ _ _ rfl HE.out.1 Tryz.underlying32 rfl (by kernel_rfl)) rfl ?_;rw [hPl.out,hres.out];exact ⟨zaG (B:=U) hwU (hmr.out.then HE.out.2 (fun k hk e=>by omega)),rfl⟩
end Go.Proofs.YtjjfphalcibjfaaGreatDoor
