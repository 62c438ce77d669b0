import Derived.Test.YtcopgcdhkgenkaaGreatDoorV21
set_option linter.all false
set_option maxRecDepth 100000
set_option maxHeartbeats 16000000
namespace Go.Proofs.YtcopgcdhkgenkaaGreatDoor
open Go.Shelf Go.RowKit Cdk Scr
theorem convertNil_any (n:Int) (fv:Value) (w:World):Calls Tryz.prog 526 #[.slice none 0 0,.int .i64 n,fv] w fun e w'=>e=.returned (.slice none 0 0)/\w=w':=by
 by_cases hn:(0:Int) < n
 ·have hd:decide ((0:Int) < n)=true:=decide_eq_true hn
  go_enter Tryz.func526,Tryz.ntmps526;go_wp2_with fail
  refine wp_loop_rounds 1 ?_;rw [rounds_succ];go_wp2_with fail
  go_ret;exact ⟨rfl,rfl⟩
 ·have hd:decide ((0:Int) < n)=false:=decide_eq_false hn
  go_enter Tryz.func526,Tryz.ntmps526;go_wp2_with fail
  refine wp_loop_rounds 1 ?_;rw [rounds_succ];go_wp2_with fail
  go_ret;exact ⟨rfl,rfl⟩
theorem newestNil_any (a1 a2:Option Addr) (c1 c2:Nat) (v:Value) (hv:v.oneCell'=true) (w:World):Calls Tryz.prog 522 #[stV a1 a2 c1 c2,v] w fun e w'=>e=.returned (.slice none 0 0)/\Ext w w':=by
 have hq:=hid (fun W=>qeach_any a1 a2 c1 c2 v hv W);unfold stV at hq ⊢;obtain ⟨A,hAe⟩:∃ A,A=w.heap.size:=⟨_,rfl⟩;have hxA:=Mod.alloc (Mod.refl (fun _=>False) w) (.cells #[.slice a1 0 c1,.slice a2 0 c2] 235);have hA:=heap_alloc_new w (.cells #[.slice a1 0 c1,.slice a2 0 c2] 235);rw [<- hAe] at hA;replace hAe:=hid hAe;go_enter Tryz.func522,Tryz.ntmps522;go_upto_region 1 with fail
 try simp only [<- hAe.out]
 generalize w.alloc (.cells #[.slice a1 0 c1,.slice a2 0 c2] 235)=w1 at hxA hA ⊢;have a0:w1.cell? ⟨A,0,none⟩=some (.slice a1 0 c1):=cellN hA 0;have a0':w1.cell? ⟨A,1,none⟩=some (.slice a2 0 c2):=cellN hA 1;replace hxA:=hid hxA;clear hA;go_wp2_with fail
 refine (hq.out w1).mono ?_;rintro e w2 ⟨rfl,rfl⟩;have hx1:=Mod.alloc (Mod.refl (fun _=>False) w1) (.cells #[.slice a1 0 c1,.slice a2 0 c2] 235);have hx2:=hx1.alloc (.cells #[v] 755);have hB:=(Mod.alloc (Mod.refl (fun _=>False) (w1.alloc (.cells #[.slice a1 0 c1,.slice a2 0 c2] 235))) (.cells #[v] 755)).at (heap_alloc_new w1 (.cells #[.slice a1 0 c1,.slice a2 0 c2] 235)) (fun h=>h);obtain ⟨B,hBe⟩:∃ B,B=w1.heap.size:=⟨_,rfl⟩;rw [<- hBe] at hB ⊢;replace hBe:=hid hBe;clear a0 a0' hx1;generalize (w1.alloc (.cells #[.slice a1 0 c1,.slice a2 0 c2] 235)).alloc (.cells #[v] 755)=w2 at hx2 hB ⊢;have hcl:=hid (collectNone_st 579 #[.pointer (some ⟨B,0,none⟩),.pointer (some ⟨B+1,0,none⟩)] (enters_of Tryz.func579 (by kernel_rfl) rfl) w2 (qeachNone B (B+1) a1 c1 w2 (cellN hB 0)));have hx:=hid (hxA.out.trans hx2);have hso:=hid (fun fv W=>sortNone_st none 0 fv W);clear hB hx2;go_wp2_with fail
 refine hcl.out.mono ?_;rintro e w3 ⟨rfl,hxc⟩;have hx3:=hid (hx.out.trans hxc);clear hxc;go_wp2_with fail
 refine (hso.out _ _).mono ?_;rintro e w4 ⟨rfl,rfl⟩;go_wp2_with fail
 go_ret;exact ⟨rfl,hx3.out⟩
theorem latestNil_any (a1 a2:Option Addr) (c1 c2:Nat) (x:ByteArray) (n:Int) (w:World):Calls Tryz.prog 473 #[stV a1 a2 c1 c2,.string x,.int .i64 n] w fun e w'=>e=.returned (.slice none 0 0)/\Ext w w':=by
 have hmf:∀ (fn:Fn) (first cap:Array Value) (w:World),(Instr.makeFunc fn first cap).run Tryz.prog w=.ok (.func fn first cap) w:=fun _ _ _ _=>rfl
 have hnw:=hid (fun v (hv:Value.oneCell' v=true) W=>newestNil_any a1 a2 c1 c2 v hv W);have hcv:=hid (fun n fv W=>convertNil_any n fv W);unfold stV at hnw ⊢;obtain ⟨A,hAe⟩:∃ A,A=w.heap.size:=⟨_,rfl⟩;have hg:=allocs_get [.cells #[.slice a1 0 c1,.slice a2 0 c2] 235,.cells #[.string x] 9] w;have hxA:=allocs_ext (S:=fun _=>False) [.cells #[.slice a1 0 c1,.slice a2 0 c2] 235,.cells #[.string x] 9] w;have hA:=hg 0 (by simp);simp only [allocs,Nat.add_zero] at hA hxA;rw [<- hAe] at hA;replace hAe:=hid hAe;clear hg;go_enter Tryz.func473,Tryz.ntmps473;go_upto_region 1 with fail
 try simp only [World.size_alloc]
 try simp only [<- hAe.out]
 generalize (w.alloc (.cells #[.slice a1 0 c1,.slice a2 0 c2] 235)).alloc (.cells #[.string x] 9)=w1 at hxA hA ⊢;have a0:w1.cell? ⟨A,0,none⟩=some (.slice a1 0 c1):=cellN hA 0;have a0':w1.cell? ⟨A,1,none⟩=some (.slice a2 0 c2):=cellN hA 1;replace hxA:=hid hxA;clear hA;go_wp2_with fail
 refine (hnw.out _ rfl _).mono ?_;rintro e w2 ⟨rfl,hx⟩;have hx2:=hid ((hxA.out.trans ((Mod.alloc (Mod.refl (fun _=>False) w1) _))).trans hx);clear hx a0 a0';go_wp2_with fail
 refine (hcv.out _ _ _).mono ?_;rintro e w3 ⟨rfl,rfl⟩;go_wp2_with fail
 go_ret;exact ⟨rfl,hx2.out⟩
theorem latest1_any (A B:Nat) (a1 a2:Option Addr) (c1 c2:Nat) (x:ByteArray) (n:Int) (w:World) (hA:w.heap[A]?=some (.cells #[.slice a1 0 c1,.slice a2 0 c2] 235 (0,0))) (hB:w.cell? ⟨B,0,none⟩=some (.string x)):Calls Tryz.prog 471 #[.int .i64 n,.pointer (some ⟨A,0,none⟩),.pointer (some ⟨B,0,none⟩)] w fun e w'=>e=.returned (.string .empty)/\Ext w w':=by
 have a0:w.cell? ⟨A,0,none⟩=some (.slice a1 0 c1):=cellN hA 0;have a0':w.cell? ⟨A,1,none⟩=some (.slice a2 0 c2):=cellN hA 1;have hl:=hid (latestNil_any a1 a2 c1 c2 x n w);have hj:=hid (fun W=>joinedNil_any W);unfold stV at hl;clear hA;go_enter Tryz.func471,Tryz.ntmps471;go_wp2_with fail
 refine hl.out.mono ?_;rintro e w1 ⟨rfl,hx⟩;replace hx:=hid hx;clear a0 a0' hB;go_wp2_with fail
 refine (hj.out _).mono ?_;rintro e w2 ⟨rfl,rfl⟩;go_wp2_with fail
 go_ret;exact ⟨rfl,hx.out⟩
def numB (k:Int):Bs:=if k=1 then [53] else [54,52]
def numV (k:Int):Int:=if k=1 then 5 else 64
theorem bw_ext (w:World) (n:Nat) (t:ByteArray):Ext w (Lib.bytesWorld w n t):=by
 exact ⟨rfl,rfl,rfl,by rw [Lib.bytesWorld_size];omega,fun k hk _=>Lib.bytesWorld_at_old w _ t k hk⟩
theorem numbered_any (k:Int) (hk:k=1 \/ k=6) (A B:Nat) (a1 a2:Option Addr) (c1 c2:Nat) (x:ByteArray) (w:World) (hG:Gl w) (hA:w.heap[A]?=some (.cells #[.slice a1 0 c1,.slice a2 0 c2] 235 (0,0))) (hB:w.cell? ⟨B,0,none⟩=some (.string x)):
  Calls Tryz.prog 467 #[.string ⟨(numB k).toArray⟩,.func (.func 471) #[] #[.pointer (some ⟨A,0,none⟩),.pointer (some ⟨B,0,none⟩)]] w fun e w'=>e=.returned (.string .empty)/\Ext w w':=by
 have hen:=enters_of Tryz.func471 (by kernel_rfl) rfl;have hat:=hid (Tryz.strconv_Atoi ⟨(numB k).toArray⟩ (numV k) (by rcases hk with rfl | rfl <;> decide) (by rcases hk with rfl | rfl <;> decide) w);have hio:=hid (fun W (h:Gl W)=>itoa_any (numV k) (by rcases hk with rfl | rfl <;> (unfold I64 numV;decide)) W h);have hit:(⟨(itoa (numV k)).toArray⟩:ByteArray)=⟨(numB k).toArray⟩:=by rcases hk with rfl | rfl <;> kernel_rfl
 rw [hit] at hio;have hlo:¬ numV k < -999999999:=by rcases hk with rfl | rfl <;> decide
 have hhi:¬ (999999999:Int) < numV k:=by rcases hk with rfl | rfl <;> decide
 have hl1:=hid (fun W (hx:Ext w W)=>latest1_any A B a1 a2 c1 c2 x (numV k) W (hx.at hA (fun h=>h)) (hx.cell hB (fun h=>h)));obtain ⟨S,hS⟩:∃ S,S=(⟨(numB k).toArray⟩:ByteArray):=⟨_,rfl⟩;obtain ⟨n,hn⟩:∃ n,n=numV k:=⟨_,rfl⟩;rw [<- hS,<- hn] at hat hio;rw [<- hn] at hlo hhi hl1;rw [<- hS];have hd1:decide (n < -999999999)=false:=decide_eq_false hlo;have hd2:decide ((999999999:Int) < n)=false:=decide_eq_false hhi;have hd3:decide (n > 999999999)=false:=decide_eq_false hhi;replace hS:=hid hS;replace hn:=hid hn;clear hA hB hit;go_enter Tryz.func467,Tryz.ntmps467;go_wp2_with fail
 refine hat.out.mono ?_;rintro e w1 ⟨rfl,t,rfl⟩;have hx1:=hid (bw_ext w 5 t);generalize Lib.bytesWorld w 5 t=w1 at hx1 ⊢;go_wp2_with fail
 refine (hio.out w1 (hG.ext hx1.out)).mono ?_;rintro e w2 ⟨rfl,hx⟩;have hx2:=hid (hx1.out.trans hx);clear hx;go_wp2_with fail
 refine (hl1.out w2 hx2.out).mono ?_;rintro e w3 ⟨rfl,hx⟩;have hx3:=hid (hx2.out.trans hx);clear hx;go_wp2_with fail
 go_ret;exact ⟨rfl,hx3.out⟩
theorem formLatest_any (k:Int) (hk:k=1 \/ k=6) (A:Nat) (a1 a2:Option Addr) (c1 c2:Nat) (x:ByteArray) (w:World) (hG:Gl w) (hA:w.heap[A]?=some (.cells #[.slice a1 0 c1,.slice a2 0 c2] 235 (0,0))):
  Calls Tryz.prog 470 #[.string x,.string ⟨(numB k).toArray⟩,.pointer (some ⟨A,0,none⟩)] w fun e w'=>e=.returned (.string .empty)/\Ext w w':=by
 have hmf:∀ (fn:Fn) (first cap:Array Value) (w:World),(Instr.makeFunc fn first cap).run Tryz.prog w=.ok (.func fn first cap) w:=fun _ _ _ _=>rfl
 obtain ⟨B,hBe⟩:∃ B,B=w.heap.size:=⟨_,rfl⟩;have hxB:=Mod.alloc (Mod.refl (fun _=>False) w) (.cells #[.string x] 9);have hB:=heap_alloc_new w (.cells #[.string x] 9);rw [<- hBe] at hB;have hnb:=hid (numbered_any k hk A B a1 a2 c1 c2 x (w.alloc (.cells #[.string x] 9)) (hG.ext hxB) (hxB.at hA (fun h=>h)) (cellN hB 0));obtain ⟨S,hS⟩:∃ S,S=(⟨(numB k).toArray⟩:ByteArray):=⟨_,rfl⟩;rw [<- hS] at hnb ⊢;replace hS:=hid hS;replace hBe:=hid hBe;replace hxB:=hid hxB;clear hB hA;go_enter Tryz.func470,Tryz.ntmps470;go_upto_region 1 with fail
 try simp only [<- hBe.out]
 generalize w.alloc (.cells #[.string x] 9)=w1 at hnb hxB ⊢;go_wp2_with fail
 refine hnb.out.mono ?_;rintro e w2 ⟨rfl,hx⟩;have hx2:=hid (hxB.out.trans hx);clear hx;go_wp2_with fail
 go_ret;exact ⟨rfl,hx2.out⟩
theorem isName_any (k:Int) (hk:k=1 \/ k=6) (w:World):Calls Tryz.prog 431 #[.string ⟨(kwB k).toArray⟩] w fun e w'=>e=.returned (.bool true)/\Ext w w':=by
 rcases hk with rfl | rfl
 ·skip
  show Calls Tryz.prog 431 #[.string ⟨#[102,114,111,110,116]⟩] w _
  have hn0:=fun ty=>run_next_ascii (P:=Tryz.prog) w ⟨#[102,114,111,110,116]⟩ 0 ty (by decide) (by decide)
  have hn1:=fun ty=>run_next_ascii (P:=Tryz.prog) w ⟨#[102,114,111,110,116]⟩ 1 ty (by decide) (by decide)
  have hn2:=fun ty=>run_next_ascii (P:=Tryz.prog) w ⟨#[102,114,111,110,116]⟩ 2 ty (by decide) (by decide)
  have hn3:=fun ty=>run_next_ascii (P:=Tryz.prog) w ⟨#[102,114,111,110,116]⟩ 3 ty (by decide) (by decide)
  have hn4:=fun ty=>run_next_ascii (P:=Tryz.prog) w ⟨#[102,114,111,110,116]⟩ 4 ty (by decide) (by decide)
  have hne:=fun ty=>run_next_end (P:=Tryz.prog) w ⟨#[102,114,111,110,116]⟩ 5 ty (by decide)
  have hx:=hid (show Ext w (w.iter ⟨#[102,114,111,110,116]⟩ 5) from Mod.alloc (Mod.refl _ w) _);go_enter Tryz.func431,Tryz.ntmps431;go_wp2_with fail
  refine wp_loop_rounds 6 ?_;rw [rounds_succ];go_wp2_with fail
  rw [rounds_succ];go_wp2_with fail
  rw [rounds_succ];go_wp2_with fail
  rw [rounds_succ];go_wp2_with fail
  rw [rounds_succ];go_wp2_with fail
  rw [rounds_succ];go_wp2_with fail
  go_ret;exact ⟨rfl,hx.out⟩
 ·skip
  show Calls Tryz.prog 431 #[.string ⟨#[109,97,112]⟩] w _
  have hn0:=fun ty=>run_next_ascii (P:=Tryz.prog) w ⟨#[109,97,112]⟩ 0 ty (by decide) (by decide)
  have hn1:=fun ty=>run_next_ascii (P:=Tryz.prog) w ⟨#[109,97,112]⟩ 1 ty (by decide) (by decide)
  have hn2:=fun ty=>run_next_ascii (P:=Tryz.prog) w ⟨#[109,97,112]⟩ 2 ty (by decide) (by decide)
  have hne:=fun ty=>run_next_end (P:=Tryz.prog) w ⟨#[109,97,112]⟩ 3 ty (by decide)
  have hx:=hid (show Ext w (w.iter ⟨#[109,97,112]⟩ 3) from Mod.alloc (Mod.refl _ w) _);go_enter Tryz.func431,Tryz.ntmps431;go_wp2_with fail
  refine wp_loop_rounds 4 ?_;rw [rounds_succ];go_wp2_with fail
  rw [rounds_succ];go_wp2_with fail
  rw [rounds_succ];go_wp2_with fail
  rw [rounds_succ];go_wp2_with fail
  go_ret;exact ⟨rfl,hx.out⟩
theorem valid4_any (k:Int) (hk:k=1 \/ k=6) (w:World):Calls Tryz.prog 393 #[.agg #[.int .i64 4,.string ⟨(kwB k).toArray⟩,.int .i64 0,.string .empty]] w fun e w'=>e=.returned (.bool true)/\Ext w w':=by
 have hi:=hid (fun W=>isName_any k hk W);obtain ⟨S,hS⟩:∃ S,S=(⟨(kwB k).toArray⟩:ByteArray):=⟨_,rfl⟩;rw [<- hS] at hi ⊢;replace hS:=hid hS;go_enter Tryz.func393,Tryz.ntmps393;go_wp2_with fail
 obtain ⟨N,hN⟩:∃ N,N=w.heap.size:=⟨_,rfl⟩;have hg:=allocs_get [.cells #[.int .i64 4,.string S,.int .i64 0,.string .empty] 454,.cells #[.int .i64 0,.string S,.int .i64 0,.string .empty] 454] w;have hx:=allocs_ext (S:=fun _=>False) [.cells #[.int .i64 4,.string S,.int .i64 0,.string .empty] 454,.cells #[.int .i64 0,.string S,.int .i64 0,.string .empty] 454] w;have h1:=hg 1 (by simp);simp only [allocs,<- hN] at hx h1;try simp only [World.size_alloc]
 simp only [<- hN];generalize (w.alloc (.cells #[.int .i64 4,.string S,.int .i64 0,.string .empty] 454)).alloc (.cells #[.int .i64 0,.string S,.int .i64 0,.string .empty] 454)=w1 at hx h1 ⊢;clear hg;refine (hi.out w1).mono ?_;rintro e w2 ⟨rfl,hy⟩;have h2:=hy.at h1 (fun h=>h);have c0:w2.cell? ⟨N+1,0,none⟩=some (.int .i64 0):=cellN h2 0;have c1:w2.cell? ⟨N+1,1,none⟩=some (.string S):=cellN h2 1;have f1:=freeN h2 1;have h3:=put_at' h2 1 (.string ⟨#[]⟩);have d0:(w2.setCell ⟨N+1,1,none⟩ (.string ⟨#[]⟩)).cell? ⟨N+1,0,none⟩=some (.int .i64 0):=cellN h3 0;have d1:(w2.setCell ⟨N+1,1,none⟩ (.string ⟨#[]⟩)).cell? ⟨N+1,1,none⟩=some (.string ⟨#[]⟩):=cellN h3 1;have d2:(w2.setCell ⟨N+1,1,none⟩ (.string ⟨#[]⟩)).cell? ⟨N+1,2,none⟩=some (.int .i64 0):=cellN h3 2;have d3:(w2.setCell ⟨N+1,1,none⟩ (.string ⟨#[]⟩)).cell? ⟨N+1,3,none⟩=some (.string .empty):=cellN h3 3;have hxf:=hid ((hx.trans hy).setCell (a:=⟨N+1,1,none⟩) (fun h=>by have h:N+1 < w.heap.size:=h;omega) (.string ⟨#[]⟩));replace hN:=hid hN;clear hx hy h1 h2 h3;go_wp2_with fail
 go_ret;exact ⟨rfl,hxf.out⟩
theorem rIsName_any (k:Int) (hk:k=1 \/ k=6) (w:World):Calls Tryz.prog 543 #[.string ⟨(kwB k).toArray⟩] w fun e w'=>e=.returned (.bool true)/\Ext w w':=by
 have hv:=hid (fun W=>valid4_any k hk W);obtain ⟨S,hS⟩:∃ S,S=(⟨(kwB k).toArray⟩:ByteArray):=⟨_,rfl⟩;rw [<- hS] at hv ⊢;replace hS:=hid hS;go_enter Tryz.func543,Tryz.ntmps543;go_wp2_with fail
 refine (hv.out w).mono ?_;rintro e w1 ⟨rfl,hx⟩;replace hx:=hid hx;go_wp2_with fail
 go_ret;exact ⟨rfl,hx.out⟩
theorem template_any (k:Int) (hk:k=1 \/ k=6) (a1 a2:Option Addr) (c1 c2:Nat) (w:World):Calls Tryz.prog 465 #[stV a1 a2 c1 c2,.string ⟨(kwB k).toArray⟩] w fun e w'=>e=.returned (.string .empty)/\Ext w w':=by
 have hv:=hid (fun W=>rIsName_any k hk W);obtain ⟨S,hS⟩:∃ S,S=(⟨(kwB k).toArray⟩:ByteArray):=⟨_,rfl⟩;rw [<- hS] at hv ⊢;replace hS:=hid hS;unfold stV;obtain ⟨A,hAe⟩:∃ A,A=w.heap.size:=⟨_,rfl⟩;have hxA:=Mod.alloc (Mod.refl (fun _=>False) w) (.cells #[.slice a1 0 c1,.slice a2 0 c2] 235);have hA:=heap_alloc_new w (.cells #[.slice a1 0 c1,.slice a2 0 c2] 235);rw [<- hAe] at hA;replace hAe:=hid hAe;go_enter Tryz.func465,Tryz.ntmps465;go_upto_region 1 with fail
 try simp only [<- hAe.out]
 generalize w.alloc (.cells #[.slice a1 0 c1,.slice a2 0 c2] 235)=w1 at hxA hA ⊢;go_wp2_with fail
 refine (hv.out w1).mono ?_;rintro e w2 ⟨rfl,hx⟩;have c1':w2.cell? ⟨A,1,none⟩=some (.slice a2 0 c2):=cellN (hx.at hA (fun h=>h)) 1;have hx2:=hid (hxA.trans hx);clear hx hxA hA;go_wp2_with fail
 refine wp_loop_rounds 1 ?_;rw [rounds_succ];go_wp2_with fail
 go_ret;exact ⟨rfl,hx2.out⟩
theorem formTemplate_any (k:Int) (hk:k=1 \/ k=6) (A:Nat) (a1 a2:Option Addr) (c1 c2:Nat) (y:ByteArray) (w:World) (hA:w.heap[A]?=some (.cells #[.slice a1 0 c1,.slice a2 0 c2] 235 (0,0))):Calls Tryz.prog 464 #[.string ⟨(kwB k).toArray⟩,.string y,.pointer (some ⟨A,0,none⟩)] w fun e w'=>e=.returned (.string .empty)/\Ext w w':=by
 have a0:w.cell? ⟨A,0,none⟩=some (.slice a1 0 c1):=cellN hA 0;have a0':w.cell? ⟨A,1,none⟩=some (.slice a2 0 c2):=cellN hA 1;have hq:=hid (template_any k hk a1 a2 c1 c2 w);unfold stV at hq;obtain ⟨S,hS⟩:∃ S,S=(⟨(kwB k).toArray⟩:ByteArray):=⟨_,rfl⟩;rw [<- hS] at hq ⊢;replace hS:=hid hS;clear hA;go_enter Tryz.func464,Tryz.ntmps464;go_wp2_with fail
 refine hq.out.mono ?_;rintro e w1 ⟨rfl,hx⟩;replace hx:=hid hx;clear a0 a0';go_wp2_with fail
 go_ret;exact ⟨rfl,hx.out⟩
def akB (k:Int):Bs:=[97,100,100,114,101,115,115]++adrB k
theorem valAdr_any (k:Int) (hk:k=1 \/ k=6) (a1 a2:Option Addr) (c1 c2:Nat) (w:World) (hG:Gl w):Calls Tryz.prog 312 #[stV a1 a2 c1 c2,.string ⟨(akB k).toArray⟩] w fun e w'=>e=.returned (.string ⟨#[49]⟩)/\Ext w w':=by
 have hpf:=hid (fun W=>Tryz.strings_HasPrefix ⟨(akB k).toArray⟩ ⟨#[97,100,100,114,101,115,115,47]⟩ W);have hpt:Lib.hasPrefix (⟨(akB k).toArray⟩:ByteArray).data.toList (⟨#[97,100,100,114,101,115,115,47]⟩:ByteArray).data.toList=true:=by rcases hk with rfl | rfl <;> kernel_rfl
 rw [hpt] at hpf;have hex:=hid (fun W (h:Gl W)=>existing_any k hk a1 a2 c1 c2 W h);have hz1:(7:Int)<=((⟨(akB k).toArray⟩:ByteArray).size:Int):=by rcases hk with rfl | rfl <;> decide
 have hz2:(⟨(akB k).toArray⟩:ByteArray).extract 7 (⟨(akB k).toArray⟩:ByteArray).size=adrS k:=by rcases hk with rfl | rfl <;> kernel_rfl
 have hz3:=hz1;unfold stV at hex ⊢;obtain ⟨S,hS⟩:∃ S,S=(⟨(akB k).toArray⟩:ByteArray):=⟨_,rfl⟩;rw [<- hS] at hpf hz1 hz2 hz3 ⊢;obtain ⟨X,hX⟩:∃ X,X=adrS k:=⟨_,rfl⟩;rw [<- hX] at hz2 hex;replace hS:=hid hS;replace hX:=hid hX;clear hpt;obtain ⟨A,hAe⟩:∃ A,A=w.heap.size:=⟨_,rfl⟩;have hxA:=Mod.alloc (Mod.refl (fun _=>False) w) (.cells #[.slice a1 0 c1,.slice a2 0 c2] 235);have hA:=heap_alloc_new w (.cells #[.slice a1 0 c1,.slice a2 0 c2] 235);rw [<- hAe] at hA;replace hAe:=hid hAe;go_enter Tryz.func312,Tryz.ntmps312;go_upto_region 1 with fail
 try simp only [<- hAe.out]
 have hG1:=hid (hG.ext hxA);generalize w.alloc (.cells #[.slice a1 0 c1,.slice a2 0 c2] 235)=w1 at hxA hA hG1 ⊢;have s0:=hid (show w1.cell? ⟨A,0,none⟩=some (.slice a1 0 c1) from cellN hA 0);have s1:=hid (show w1.cell? ⟨A,1,none⟩=some (.slice a2 0 c2) from cellN hA 1);have hx1:=hid hxA;clear hA hxA;go_wp2_with fail
 refine (hpf.out w1).mono ?_;rintro e w2 ⟨rfl,hw2⟩;obtain rfl:w1=w2:=hw2.symm;go_upto_region 2 with fail
 try simp only [List.append_eq,List.cons_append,List.nil_append]
 refine wp_region_tree (.s (.q 0 (.q 1 (.q 2 (.c1 3 (.q 4 .done)))))) (by as_aux_lemma=>kernel_rfl) (by as_aux_lemma=>kernel_rfl) (by as_aux_lemma=>kernel_rfl) (by decide) ?_;have hv0:=hid (Mod.drew0 (fun _=>False) w1);refine wpTr_s (fun Wx=>Ext w1 Wx) (fun _ _=>trivial) hv0.out ?_;generalize hWd:World.drew w1=V0 at hv0 ⊢
 iterate 3 (refine wpTr_q _ (by simp only [List.getD_cons_succ,List.getD_cons_zero];rfl) (by rfl) ?_ (fun w' hC=>?_) ?_;rotate_left;(have q0:w'.cell? ⟨A,0,none⟩=some (.slice a1 0 c1):=hC.cell s0.out (fun h=>h);have q1:w'.cell? ⟨A,1,none⟩=some (.slice a2 0 c2):=hC.cell s1.out (fun h=>h);have z1:=hz1;have z2:=hz2;have z3:=hz3;go_simp;first | done | with_reducible rfl | exact rfl);try simp only [Act.put,sA,sZ,sS])
 refine wpTr_c1 _ (by simp only [List.getD_cons_succ,List.getD_cons_zero];rfl) ?_;refine wpN_c (by rfl) (fun K hK=>?_);go_simp;refine (hex.out V0 (hG1.out.ext hv0.out)).mono ?_;rintro e V1 ⟨rfl,hxn⟩;have hv1:=hid (hv0.out.trans hxn);refine hK.out _ _ hv1.out ?_;clear hxn;clear hK K;try simp only [Act.put,sA,sZ,sS]
 refine wpTr_q _ (by simp only [List.getD_cons_succ,List.getD_cons_zero];rfl) (by rfl) ?_ (fun w' hC=>?_) ?_;rotate_left;(have q0:w'.cell? ⟨A,0,none⟩=some (.slice a1 0 c1):=hC.cell s0.out (fun h=>h);have q1:w'.cell? ⟨A,1,none⟩=some (.slice a2 0 c2):=hC.cell s1.out (fun h=>h);have z1:=hz1;have z2:=hz2;have z3:=hz3;go_simp;first | done | with_reducible rfl | exact rfl);try simp only [Act.put,sA,sZ,sS]
 refine wpTr_done ?_;have hxf:=hid (hx1.out.trans hv1.out);go_wp2_with fail
 go_ret;exact ⟨rfl,hxf.out⟩
def fwL:List ByteArray:=[⟨#[116,101,109,112,108,97,116,101]⟩,⟨#[115,116,111,114,121]⟩,⟨#[108,97,116,101,115,116]⟩,⟨#[112,97,103,101]⟩,⟨#[98,121]⟩,⟨#[114,101,108,97,116,101,100]⟩,⟨#[116,111,112,105,99,115]⟩,⟨#[97,117,116,104,111,114,115]⟩,⟨#[99,111,117,110,116]⟩]
def fpL:List Int:=[2,3,3,3,2,3,1,1,2]
def ffL:List Nat:=[464,466,470,474,476,478,482,483,484]
def fwB (i:Nat):ByteArray:=fwL.getD i ⟨#[]⟩
def fpN (i:Nat):Int:=fpL.getD i 0
def ffN (i:Nat):Nat:=ffL.getD i 0
theorem formsC_at (A i:Nat) (hi:i < 9):(formsC A)[i*3]?=some (.string (fwB i))/\(formsC A)[i*3+1]?=some (.int .i64 (fpN i))/\(formsC A)[i*3+2]?=some (.func (.func (ffN i)) #[] #[.pointer (some ⟨A,0,none⟩)]):=by
 match i,hi with
 | 0,_ | 1,_ | 2,_ | 3,_ | 4,_ | 5,_ | 6,_ | 7,_ | 8,_=>exact ⟨rfl,rfl,rfl⟩
 | i+9,hi=>omega
def FormSpec (fn:Nat) (x y:ByteArray) (a1 a2:Option Addr):Prop:=∀ (c1 c2 A:Nat) (W:World),Gl W -> W.heap[A]?=some (.cells #[.slice a1 0 c1,.slice a2 0 c2] 235 (0,0)) →
 Calls Tryz.prog fn #[.string x,.string y,.pointer (some ⟨A,0,none⟩)] W fun e w'=>e=.returned (.string .empty)/\Ext W w'
theorem value_any (key:ByteArray) (L:List ByteArray) (n cap j:Nat) (p0 x y:ByteArray) (hj:j < 9) (hn:L.length=n) (hn3:1<=n/\n<=3) (hnc:n<=cap) (hcm:cap<=100) (a1 a2:Option Addr)
  (hpf0:Lib.hasPrefix key.data.toList (⟨#[97,100,100,114,101,115,115,47]⟩:ByteArray).data.toList=false)
  (hsp0:∀ W,Gl W -> Calls Tryz.prog 308 #[.string key,.string ⟨#[47]⟩,.int .i64 4] W fun e w'=>e=.returned (.slice (some ⟨W.heap.size,0,none⟩) n cap)/\w'=W.alloc (.cells (Lib.cellsOf L cap) 9))
  (hL0:L[0]?=some p0) (hL1:(L++[⟨#[]⟩,⟨#[]⟩])[1]?=some x) (hL2:(L++[⟨#[]⟩,⟨#[]⟩])[2]?=some y)
  (hmiss:∀ i,i < j -> ((fwB i).toList==p0.toList)=false) (hhit:((fwB j).toList==p0.toList)=true) (hpm:fpN j=(n:Int))
  (hf:FormSpec (ffN j) x y a1 a2) (hen:∀ args w,(callFunc (ffN j) args).run Tryz.prog w=.ok (.enter (ffN j) args) w)
  (c1 c2:Nat) (w:World) (hG:Gl w):Calls Tryz.prog 312 #[stV a1 a2 c1 c2,.string key] w fun e w'=>e=.returned (.string .empty)/\Ext w w':=by
 have hn0:0 < n:=by omega
 have hpf:=hid (fun W=>Tryz.strings_HasPrefix key ⟨#[97,100,100,114,101,115,115,47]⟩ W);rw [hpf0] at hpf;have hsp:=hid hsp0
 have hcs0:Hid ((Lib.cellsOf L cap)[0]?=some (.string p0)):=hid (by
  unfold Lib.cellsOf;rw [List.getElem?_toArray,List.getElem?_append_left (by rw [List.length_map];omega),List.getElem?_map,hL0]
  rfl)
 have hown0:Hid ((L.flatMap baC).length=L.length*1/\L.length<=cap/\cap<=maxLen/\(Lib.cellsOf L cap).size=cap*1/\(Lib.cellsOf L cap).toList.take (L.length*1)=L.flatMap baC):=hid ⟨by clear hpf0 hsp0 hn hn3 hnc hcm hL0 hL1 hL2 hmiss hhit hpm hf hpf hsp hcs0;induction L with | nil=>rfl | cons a l ih=>simp [baC] at ih ⊢;omega,by omega,by unfold maxLen;omega,by rw [Lib.cellsOf_size (by omega)];omega,by
  have he:L.flatMap baC=L.map Value.string:=by
   clear hn hn3 hnc hcm hL0 hL1 hL2 hsp hsp0 hpm hhit hmiss hcs0
   induction L with
   | nil=>rfl
   | cons a l ih=>simp [baC,ih]
  rw [he];unfold Lib.cellsOf
  simp⟩
 have hfm:=hid (fun W=>forms_any a1 a2 c1 c2 W);have hfc:=hid (fun W A (h:Gl W) h2=>hf c1 c2 A W h h2);unfold stV at hfm ⊢;obtain ⟨A,hAe⟩:∃ A,A=w.heap.size:=⟨_,rfl⟩;have hxA:=Mod.alloc (Mod.refl (fun _=>False) w) (.cells #[.slice a1 0 c1,.slice a2 0 c2] 235);have hA:=heap_alloc_new w (.cells #[.slice a1 0 c1,.slice a2 0 c2] 235);rw [<- hAe] at hA;have hAw:=hid (show w.heap.size<=A by omega);replace hAe:=hid hAe;replace hn:=hid hn;replace hL0:=hid hL0;replace hL1:=hid hL1;replace hL2:=hid hL2;replace hmiss:=hid hmiss;replace hhit:=hid hhit;replace hpm:=hid hpm;clear hpf0 hsp0 hf;go_enter Tryz.func312,Tryz.ntmps312;go_upto_region 1 with fail
 try simp only [<- hAe.out]
 have hG1:=hid (hG.ext hxA);generalize w.alloc (.cells #[.slice a1 0 c1,.slice a2 0 c2] 235)=w1 at hxA hA hG1 ⊢;have s0:w1.cell? ⟨A,0,none⟩=some (.slice a1 0 c1):=cellN hA 0;have s1:w1.cell? ⟨A,1,none⟩=some (.slice a2 0 c2):=cellN hA 1;have hx1:=hid hxA;clear hA hxA;go_wp2_with fail
 refine (hpf.out w1).mono ?_;rintro e w2 ⟨rfl,hw2⟩;obtain rfl:w1=w2:=hw2.symm;go_wp2_with fail
 refine (hsp.out w1 hG1.out).mono ?_;rintro e w2 ⟨rfl,rfl⟩;have hxP:=Mod.alloc (Mod.refl (fun _=>False) w1) (.cells (Lib.cellsOf L cap) 9);have hP:=heap_alloc_new w1 (.cells (Lib.cellsOf L cap) 9);obtain ⟨Pb,hPe⟩:∃ P,P=w1.heap.size:=⟨_,rfl⟩;have hPw:=hid (show w.heap.size<=Pb by have:=hx1.out.size;omega);rw [<- hPe] at hP ⊢;replace hPe:=hid hPe;generalize w1.alloc (.cells (Lib.cellsOf L cap) 9)=w2 at hxP hP ⊢;have r0:w2.cell? ⟨A,0,none⟩=some (.slice a1 0 c1):=hxP.cell s0 (fun h=>h);have r1:w2.cell? ⟨A,1,none⟩=some (.slice a2 0 c2):=hxP.cell s1 (fun h=>h);have hx2:=hid (hx1.out.trans hxP);replace hP:=hid hP;clear hxP s0 s1;go_wp2_with fail
 refine (hfm.out w2).mono ?_;rintro e w3 ⟨rfl,rfl⟩;have hxB:=Mod.alloc (Mod.refl (fun _=>False) w2) (.cells #[.slice a1 0 c1,.slice a2 0 c2] 235);have hB:=heap_alloc_new w2 (.cells #[.slice a1 0 c1,.slice a2 0 c2] 235);obtain ⟨B,hBe⟩:∃ B,B=w2.heap.size:=⟨_,rfl⟩;rw [<- hBe] at hB ⊢;have hzB:=allocs_size [.cells #[.slice a1 0 c1,.slice a2 0 c2] 235] w2;simp only [allocs,List.length_cons,List.length_nil,<- hBe] at hzB;generalize w2.alloc (.cells #[.slice a1 0 c1,.slice a2 0 c2] 235)=w3 at hxB hB hzB ⊢;have hxC:=Mod.alloc (Mod.refl (fun _=>False) w3) (.cells (formsC B) 598);have hC:=heap_alloc_new w3 (.cells (formsC B) 598);rw [hzB] at hC;generalize w3.alloc (.cells (formsC B) 598)=w4 at hxC hC ⊢;have hx24:=hxB.trans hxC;have hx4:=hid (hx2.out.trans hx24);have hB4:=hid (hxC.at hB (fun h=>h));have hP4:=hid (hx24.at hP.out (fun h=>h));have hF4:=hid hC;have hPB:Hid (Pb ≠ B):=hid (by have:=lt_of_at hP.out;have:=hBe;omega);replace hBe:=hid hBe;clear hxB hB hzB hxC hC hx24 r0 r1;go_wp2_with fail
 go_loopg [5,19] (j+1) (fun g s5 i wr=>∃ k:Nat,k+g=j+1/\k<=j/\s5=.slice (some ⟨Pb,0,none⟩) n cap/\i=.int .i64 k/\Ext w4 wr)
 case atStart=>exact ⟨0,by omega,by omega,rfl,rfl,Mod.refl _ _⟩
 case round=>
  obtain ⟨k,hk,hkj,rfl,rfl,hxr⟩:=hrel;replace hk:=hid hk;have hki:(k:Int) < 9:=by omega
  have hd:decide ((k:Int) < 9)=true:=decide_eq_true hki;have hfa:=formsC_at B k (by omega);have hFr:=hxr.at hF4.out (fun h=>h);have e0:wr.cell? ⟨B+1,k*3,none⟩=some (.string (fwB k)):=(cellN hFr _).trans hfa.1;have e1:wr.cell? ⟨B+1,k*3+1,none⟩=some (.int .i64 (fpN k)):=(cellN hFr _).trans hfa.2.1;have e2:wr.cell? ⟨B+1,k*3+2,none⟩=some (.func (.func (ffN k)) #[] #[.pointer (some ⟨B,0,none⟩)]):=(cellN hFr _).trans hfa.2.2;clear hFr hfa;have hxM:=Mod.alloc (Mod.refl (fun _=>False) wr) (.cells #[.string (fwB k),.int .i64 (fpN k),.func (.func (ffN k)) #[] #[.pointer (some ⟨B,0,none⟩)]] 598);have hM:=heap_alloc_new wr (.cells #[.string (fwB k),.int .i64 (fpN k),.func (.func (ffN k)) #[] #[.pointer (some ⟨B,0,none⟩)]] 598);have hxB:=hid (hxr.trans hxM);have hPr:=hid (hxB.out.at hP4.out (fun h=>h));go_upto_region 7 with fail
  obtain ⟨M,hMe⟩:∃ M,M=wr.heap.size:=⟨_,rfl⟩;rw [<- hMe] at hM ⊢;have hPM:Hid (Pb ≠ M):=hid (by have:=lt_of_at (hxr.at hP4.out (fun h=>h));omega);replace hMe:=hid hMe;generalize wr.alloc (.cells #[.string (fwB k),.int .i64 (fpN k),.func (.func (ffN k)) #[] #[.pointer (some ⟨B,0,none⟩)]] 598)=wB at hxM hM hxB hPr ⊢;have f0:=hid (show wB.cell? ⟨M,0,none⟩=some (.string (fwB k)) from cellN hM 0);have f1:=hid (show wB.cell? ⟨M,1,none⟩=some (.int .i64 (fpN k)) from cellN hM 1);have f2:=hid (show wB.cell? ⟨M,2,none⟩=some (.func (.func (ffN k)) #[] #[.pointer (some ⟨B,0,none⟩)]) from cellN hM 2);have g0:=hid (show wB.cell? ⟨Pb,0,none⟩=some (.string p0) from (cellN hPr.out 0).trans hcs0.out);clear hM hxM hxr e0 e1 e2
  by_cases hkj2:k=j
  ·subst hkj2
   have ht1:((fwB k).toList==p0.toList)=true:=hhit.out;have ht2:(fpN k==(n:Int))=true:=by rw [hpm.out];exact beq_self_eq_true _
   go_upto_region 7 with fail
   try simp only [List.append_eq,List.cons_append,List.nil_append]
   refine wp_region_sched (fun Wx=>Ext wB Wx) [(0,true),(1,true),(2,true),(3,true),(4,true),(5,true),(6,true),(7,true),(8,true),(9,true),(10,true),(11,true),(12,true)]
    (by as_aux_lemma=>kernel_rfl) (by as_aux_lemma=>kernel_rfl) (by as_aux_lemma=>kernel_rfl) (by decide) (Mod.drew0 (fun _=>False) wB) ?_
   simp only [schedOps,List.map_cons,List.map_nil,List.getD_cons_zero,List.getD_cons_succ];have hd0:=hid (Mod.drew0 (fun _=>False) wB);generalize hWd:World.drew wB=V0 at hd0 ⊢
   iterate 5 (refine wpS_q (by rfl) ?_ (fun w' hC=>?_) ?_;rotate_left;(have q0:=hC.cell f0.out (fun h=>h);have q1:=hC.cell f1.out (fun h=>h);have q2:=hC.cell f2.out (fun h=>h);have q3:=hC.cell g0.out (fun h=>h);have q4:=ht1;have q5:=ht2;go_simp;first | done | with_reducible rfl | exact rfl);try simp only [Act.put,sA,sZ,sS])
   iterate 2 (refine wpS_q (by rfl) ?_ (fun w' hC=>?_) ?_;rotate_left;(have q0:=hC.cell f0.out (fun h=>h);have q1:=hC.cell f1.out (fun h=>h);have q2:=hC.cell f2.out (fun h=>h);have q3:=hC.cell g0.out (fun h=>h);have q4:=ht1;have q5:=ht2;go_simp;first | done | with_reducible rfl | exact rfl);try simp only [Act.put,sA,sZ,sS])
   iterate 6 (refine wpS_q (by rfl) ?_ (fun w' hC=>?_) ?_;rotate_left;(have q0:=hC.cell f0.out (fun h=>h);have q1:=hC.cell f1.out (fun h=>h);have q2:=hC.cell f2.out (fun h=>h);have q3:=hC.cell g0.out (fun h=>h);have q4:=ht1;have q5:=ht2;go_simp;first | done | with_reducible rfl | exact rfl);try simp only [Act.put,sA,sZ,sS])
   refine wpS_nil ?_;have hx5:=hid (hxB.out.trans hd0.out);have f2':=hid (hd0.out.cell f2.out (fun h=>h));have hP5:=hid (hd0.out.at hPr.out (fun h=>h));have hB5:=hid (hx5.out.at hB4.out (fun h=>h));have hO5:Hid (Cdk.Own V0 w.heap.size 9 1 baC (.slice (some ⟨Pb,0,none⟩) n cap) L):=hid ⟨hown0.out.1,.inr ⟨Pb,cap,_,by rw [hn.out],hPw.out,hP5.out,hown0.out.2⟩⟩;clear f0 f1 f2 g0 hPr hxB hd0 hk;have hxN:=Mod.alloc (Mod.refl (fun _=>False) V0) (.cells #[.string ⟨#[]⟩,.string ⟨#[]⟩] 9);have hrN:=hid (RowIs.new V0 [.string ⟨#[]⟩,.string ⟨#[]⟩] 9);have hON:=hid (hO5.out.ext hxN);have hbs:Hid (w.heap.size<=(V0.alloc (.cells #[.string ⟨#[]⟩,.string ⟨#[]⟩] 9)).heap.size):=hid (by have h1:=hxN.size;have h2:=hx5.out.size;have h3:=hx4.out.size;omega);have hxN':=hid hxN;clear hxN;go_wp2_with (at_builtin;refine wpList_app (f:=baC) (base:=w.heap.size) rfl _ _ 40 rfl Tryz.underlying40 elS rfl hON.out _ 2 2 rfl [⟨#[]⟩,⟨#[]⟩] rfl hrN.out baC_len (fun y hy u hu=>by simp only [List.mem_cons,List.mem_nil_iff,or_false] at hy;rcases hy with rfl | rfl <;> (simp [baC] at hu;subst hu;rfl)) (by have:=hn.out;simp only [List.length_cons,List.length_nil];omega) hbs.out (fun e=>nomatch e) (fun v2 w6 H=>?_))
   have ho6:=hid H.out.1;have hm6:=hid H.out.2;have hx6:Hid (Cdk.Ext w w6):=hid (((hx4.out.trans hx5.out).trans hxN'.out).then hm6.out (fun q hq e=>by have h1:Pb=q:=Option.some.inj (show some Pb=some q from e);have:=hPw.out;omega));have hB6:=hid (hm6.out.at (hxN'.out.at hB5.out (fun h=>h)) (fun e=>by have h1:Pb=B:=Option.some.inj (show some Pb=some B from e);exact hPB.out h1));have f6:=hid (hm6.out.cell (hxN'.out.cell f2'.out (fun h=>h)) (fun e=>by have h1:Pb=M:=Option.some.inj (show some Pb=some M from e);exact hPM.out h1));clear H hON hrN hbs hxN' hm6 f2' hP5 hB5 hO5;obtain ⟨ao,cp,rfl,hrow,-⟩:=ho6.out.row;have hlen6:(L++[(⟨#[]⟩:ByteArray),⟨#[]⟩]).length=n+2:=by have:=hn.out;simp only [List.length_append,List.length_cons,List.length_nil];omega
   rw [hlen6];have hflat:∀ (i:Nat) (z:ByteArray),(L++[(⟨#[]⟩:ByteArray),⟨#[]⟩])[i]?=some z -> ((L++[(⟨#[]⟩:ByteArray),⟨#[]⟩]).flatMap baC)[i]?=some (Value.string z):=fun i z hz=>by
    have he:∀ l:List ByteArray,l.flatMap baC=l.map Value.string:=fun l=>by
     induction l with
     | nil=>rfl
     | cons a l ih=>simp [baC,ih]
    rw [he,List.getElem?_map,hz]
    rfl
   have hcx:=hflat 1 x hL1.out;have hcy:=hflat 2 y hL2.out;obtain ⟨rb,ro,rfl,hrc⟩:=hrow.at (by have h1:=(List.getElem?_eq_some_iff.1 hcx).1;omega);have x1:=hid (hrc 1 _ hcx);have x2:=hid (hrc 2 _ hcy);have hi1:(1:Int) < ((n+2:Nat):Int):=by omega
   have hi2:(2:Int) < ((n+2:Nat):Int):=by omega
   have hj1:1 < n+2:=by omega
   have hj2:2 < n+2:=by omega
   have hG6:=hid (hG.ext hx6.out);have hfn:=hid (fun W (h:Ext w6 W)=>hfc.out W B (hG6.out.ext h) (h.at hB6.out (fun h=>h)));clear hrow hrc hcx hcy hflat hlen6 ho6;generalize hN2:n+2=N2 at hi1 hi2 hj1 hj2 ⊢;replace hN2:=hid hN2;try simp only [List.append_eq,List.cons_append,List.nil_append]
   refine wp_region_tree (.s (.q 0 (.q 1 (.q 2 (.q 3 (.q 4 (.q 5 (.q 6 (.q 7 (.c1 8 (.q 9 .done)))))))))))  (by as_aux_lemma=>kernel_rfl) (by as_aux_lemma=>kernel_rfl) (by as_aux_lemma=>kernel_rfl) (by decide) ?_;have hv0:=hid (Mod.drew0 (fun _=>False) w6);refine wpTr_s (fun Wx=>Ext w6 Wx) (fun _ _=>trivial) hv0.out ?_;generalize hWd:World.drew w6=V1 at hv0 ⊢
   iterate 8 (refine wpTr_q _ (by simp only [List.getD_cons_succ,List.getD_cons_zero];rfl) (by rfl) ?_ (fun w' hC=>?_) ?_;rotate_left;(have q0:=hC.cell f6.out (fun h=>h);have q3:=hC.cell x1.out (fun h=>h);have q4:=hC.cell x2.out (fun h=>h);have q5:=hi1;have q6:=hi2;go_simp;first | done | with_reducible rfl | exact rfl);try simp only [Act.put,sA,sZ,sS])
   refine wpTr_c1 _ (by simp only [List.getD_cons_succ,List.getD_cons_zero];rfl) ?_;refine wpN_c (by rfl) (fun K hK=>?_);go_simp;refine (hfn.out V1 hv0.out).mono ?_;rintro e V2 ⟨rfl,hxn⟩;have hv1:=hid (hv0.out.trans hxn);refine hK.out _ _ hv1.out ?_;clear hxn;clear hK K;try simp only [Act.put,sA,sZ,sS]
   iterate 1 (refine wpTr_q _ (by simp only [List.getD_cons_succ,List.getD_cons_zero];rfl) (by rfl) ?_ (fun w' hC=>?_) ?_;rotate_left;(have q0:=hC.cell f6.out (fun h=>h);have q3:=hC.cell x1.out (fun h=>h);have q4:=hC.cell x2.out (fun h=>h);have q5:=hi1;have q6:=hi2;go_simp;first | done | with_reducible rfl | exact rfl);try simp only [Act.put,sA,sZ,sS])
   refine wpTr_done ?_;have hxf:=hid (hx6.out.trans hv1.out);go_wp2_with fail
   go_ret;exact ⟨rfl,hxf.out⟩
  ·have hf1:((fwB k).toList==p0.toList)=false:=hmiss.out k (by omega)
   go_upto_region 7 with fail
   try simp only [List.append_eq,List.cons_append,List.nil_append]
   refine wp_region_sched (fun Wx=>Ext wB Wx) [(0,true),(1,true),(2,true),(3,true),(4,true),(5,true),(6,true),(7,true),(8,true),(9,true),(10,true),(11,true),(12,true)]
    (by as_aux_lemma=>kernel_rfl) (by as_aux_lemma=>kernel_rfl) (by as_aux_lemma=>kernel_rfl) (by decide) (Mod.drew0 (fun _=>False) wB) ?_
   simp only [schedOps,List.map_cons,List.map_nil,List.getD_cons_zero,List.getD_cons_succ];have hd0:=hid (Mod.drew0 (fun _=>False) wB);generalize hWd:World.drew wB=V0 at hd0 ⊢
   iterate 5 (refine wpS_q (by rfl) ?_ (fun w' hC=>?_) ?_;rotate_left;(have q0:=hC.cell f0.out (fun h=>h);have q1:=hC.cell f1.out (fun h=>h);have q2:=hC.cell f2.out (fun h=>h);have q3:=hC.cell g0.out (fun h=>h);have q4:=hf1;go_simp;first | done | with_reducible rfl | exact rfl);try simp only [Act.put,sA,sZ,sS])
   iterate 2 (refine wpS_q (by rfl) ?_ (fun w' hC=>?_) ?_;rotate_left;(have q0:=hC.cell f0.out (fun h=>h);have q1:=hC.cell f1.out (fun h=>h);have q2:=hC.cell f2.out (fun h=>h);have q3:=hC.cell g0.out (fun h=>h);have q4:=hf1;go_simp;first | done | with_reducible rfl | exact rfl);try simp only [Act.put,sA,sZ,sS])
   iterate 5 (refine nT ?_)
   iterate 1 (refine wpS_q (by rfl) ?_ (fun w' hC=>?_) ?_;rotate_left;(have q0:=hC.cell f0.out (fun h=>h);have q1:=hC.cell f1.out (fun h=>h);have q2:=hC.cell f2.out (fun h=>h);have q3:=hC.cell g0.out (fun h=>h);have q4:=hf1;go_simp;first | done | with_reducible rfl | exact rfl);try simp only [Act.put,sA,sZ,sS])
   refine wpS_nil ?_;have hx5:=hid (hxB.out.trans hd0.out);clear f0 f1 f2 g0 hPr hxB hd0;go_wp2_with fail
   go_roundg (gk - 1)
   case measure=>have:=hk.out;omega
   case rel=>exact ⟨k+1,by have:=hk.out;omega,by omega,rfl,by go_num,hx5.out⟩
end Go.Proofs.YtcopgcdhkgenkaaGreatDoor
