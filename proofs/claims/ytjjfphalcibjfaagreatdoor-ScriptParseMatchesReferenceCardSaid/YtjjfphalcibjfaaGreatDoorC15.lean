import Derived.Test.YtjjfphalcibjfaaGreatDoorC14
set_option maxRecDepth 100000
set_option maxHeartbeats 16000000
namespace Cdk
open Go Go.RowKit
theorem zky {P:Program} {l:List Oper} {C:World -> Prop} {i:Nat} {t:Tr} {a:Act} {w:World} {Q:Exit -> Act -> World -> Prop} (o:Oper) (hl:l.getD i default=o) (hw:Region.wanted o (yielded l.toArray a.tmps)=true) (ty:TypeId) (x:Operand) (ho:o.op=.load ty x) (b:Nat) (cs:Array Value) (tt:TypeId) (fr:Nat × Nat) (d:TypeDesc) (hx:a.eval x=.pointer (some ⟨b,0,none⟩))
  (hS:∀ w,C w -> w.heap[b]?=some (.cells cs tt fr)) (hu:P.underlying ty=some d) (hd:d.isRow=true) (hi:(P.info? ty).map (·.size)=some cs.size)
  (h:zeW P l Q t C (a.put o.dst (.agg cs)) w):zeW P l Q (.q i t) C a w:=by
 obtain ⟨cs⟩:=cs;exact zgt o hl hw ty x ho b 0 [] cs [] tt fr d rfl hx (fun w h=>by simpa using hS w h) hu hd (by simpa using hi) h
end Cdk
namespace Go.Proofs.YtjjfphalcibjfaaGreatDoor
open Go.Shelf Go.RowKit Cdk Scr
theorem zd4.fns {F:Nat -> Prop} {w:World} {j:Nat} {r:FR} (h:zd4 F w j r):∃ f1 c1 f2 c2,r.wr=.func (.func f1) #[] c1/\r.rd=.func (.func f2) #[] c2:=by
 obtain ⟨h1,h2,h3,h4⟩:=h;split at h4
 ·obtain ⟨b,f1,f2,e1,e2,k1,k2⟩:=h4
  exact ⟨_,_,_,_,e1,e2⟩
 ·exact ⟨_,_,_,_,h4.1,h4.2⟩
theorem zgH {j:Nat} (hj:j < 18):∃ f,forms.drop j=f::forms.drop (j+1)/\f.kd=zpi j/\f.fk=zpJ j/\f.wd=zol j:=by
 have hl:j < forms.length:=hj;refine ⟨forms[j],List.drop_eq_getElem_cons hl,?_,?_,?_⟩ <;> simp [zpi,zpJ,zol,List.getD,hl]
theorem zjH {j:Nat} (hj:j < 18) (h:j=17):zpi j=8:=by subst h;rfl
theorem zit {s:Bs} (h:s.length<=1000000):(hexW s).length<=3000000:=by have:=zmF s;omega
theorem zk0 {l:Lb} (h:LbOk l):(labelW l).length<=3000000:=by
 unfold labelW;split
 ·simp
 ·have l1:=zaR l.til
  have l2:=zaR l.app;have l3:=zaR l.den;have l4:=zcH (l.aft.map itoa);have l5:=zfB l.aft;have l6:=h.len;simp only [join,List.length_append,List.length_cons];omega
theorem zif {l:List Int} (h:l.length<=1000):(listW (l.map itoa)).length<=3000000:=by
 have l4:=zcH (l.map itoa);have l5:=zfB l;omega
theorem zkO (n:Int):(itoa n).length<=3000000:=by have:=zaR n;omega
theorem zeS {a:Ac} (ok:AcOk a) {j:Nat} (hm:j=17 -> vMs a.ms=true):(zal j a).length<=9/\∀ x ∈ zal j a,x.length<=3000000:=by
 have h1:=zkO;have h2:=zk0 ok.fc.lb;have h3:=zif ok.fal;have h4:=zif ok.kel;have h5:=zcH a.fc.tp;have h6:=ok.fc.tpj;have h7:=zit (zjO ok.fc.bl);have h8:=zit (s:=a.fc.tx) (by have:=ok.fc.tx;omega);have g1:=ok.fc.lg;have g2:=ok.fc.ti;have g3:=ok.fc.au;have g4:=ok.fc.tx;have g5:=ok.fc.nm;have g6:=ok.tx
 match j with
 | 0=>
  refine ⟨by simp [zal],fun x hx=>?_⟩;simp only [zal,List.mem_cons,List.not_mem_nil,or_false] at hx;rcases hx with rfl | rfl | rfl | rfl | rfl | rfl | rfl | rfl | rfl
  all_goals first | exact h1 _ | exact h2 | exact h3 | exact h4 | exact h7 | exact h8 | omega
 | 1=>
  refine ⟨by simp [zal],fun x hx=>?_⟩;simp only [zal,List.mem_cons,List.not_mem_nil,or_false] at hx;rcases hx with rfl | rfl
  all_goals first | exact h1 _ | exact h2 | exact h3 | exact h4 | exact h7 | exact h8 | omega
 | 2=>
  refine ⟨by simp [zal],fun x hx=>?_⟩;simp only [zal,List.mem_cons,List.not_mem_nil,or_false] at hx;rcases hx with rfl | rfl
  all_goals first | exact h1 _ | exact h2 | exact h3 | exact h4 | exact h7 | exact h8 | omega
 | 3=>
  refine ⟨by simp [zal],fun x hx=>?_⟩;simp only [zal,List.mem_cons,List.not_mem_nil,or_false] at hx;rcases hx with rfl | rfl | rfl | rfl | rfl
  all_goals first | exact h1 _ | exact h2 | exact h3 | exact h4 | exact h7 | exact h8 | omega
 | 4=>
  refine ⟨by simp [zal],fun x hx=>?_⟩;simp only [zal,List.mem_cons,List.not_mem_nil,or_false] at hx;rcases hx with rfl | rfl
  all_goals first | exact h1 _ | exact h2 | exact h3 | exact h4 | exact h7 | exact h8 | omega
 | 5=>
  refine ⟨by simp [zal],fun x hx=>?_⟩;simp only [zal,List.mem_cons,List.not_mem_nil,or_false] at hx;subst hx;all_goals first | exact h1 _ | exact h2 | exact h3 | exact h4 | exact h7 | exact h8 | omega
 | 6=>
  refine ⟨by simp [zal],fun x hx=>?_⟩;simp only [zal,List.mem_cons,List.not_mem_nil,or_false] at hx;rcases hx with rfl | rfl
  all_goals first | exact h1 _ | exact h2 | exact h3 | exact h4 | exact h7 | exact h8 | omega
 | 7=>
  refine ⟨by simp [zal],fun x hx=>?_⟩;simp only [zal,List.mem_cons,List.not_mem_nil,or_false] at hx;rcases hx with rfl | rfl | rfl
  all_goals first | exact h1 _ | exact h2 | exact h3 | exact h4 | exact h7 | exact h8 | omega
 | 8=>
  refine ⟨by simp [zal],fun x hx=>?_⟩;simp only [zal,List.mem_cons,List.not_mem_nil,or_false] at hx;rcases hx with rfl | rfl
  all_goals first | exact h1 _ | exact h2 | exact h3 | exact h4 | exact h7 | exact h8 | omega
 | 9=>
  refine ⟨by simp [zal],fun x hx=>?_⟩;simp only [zal,List.mem_cons,List.not_mem_nil,or_false] at hx;subst hx;all_goals first | exact h1 _ | exact h2 | exact h3 | exact h4 | exact h7 | exact h8 | omega
 | 10=>
  refine ⟨by simp [zal],fun x hx=>?_⟩;simp only [zal,List.mem_cons,List.not_mem_nil,or_false] at hx;subst hx;all_goals first | exact h1 _ | exact h2 | exact h3 | exact h4 | exact h7 | exact h8 | omega
 | 11=>
  refine ⟨by simp [zal],fun x hx=>?_⟩;simp only [zal,List.mem_cons,List.not_mem_nil,or_false] at hx;subst hx;all_goals first | exact h1 _ | exact h2 | exact h3 | exact h4 | exact h7 | exact h8 | omega
 | 12=>
  refine ⟨by simp [zal],fun x hx=>?_⟩;simp only [zal,List.mem_cons,List.not_mem_nil,or_false] at hx;subst hx;all_goals first | exact h1 _ | exact h2 | exact h3 | exact h4 | exact h7 | exact h8 | omega
 | 13=>
  refine ⟨by simp [zal],fun x hx=>?_⟩;simp only [zal,List.mem_cons,List.not_mem_nil,or_false] at hx;rcases hx with rfl | rfl
  all_goals first | exact h1 _ | exact h2 | exact h3 | exact h4 | exact h7 | exact h8 | omega
 | 14=>exact ⟨by simp [zal],fun x hx=>by simp [zal] at hx⟩
 | 15=>
  refine ⟨by simp [zal],fun x hx=>?_⟩;simp only [zal,List.mem_cons,List.not_mem_nil,or_false] at hx;rcases hx with rfl | rfl
  all_goals first | exact h1 _ | exact h2 | exact h3 | exact h4 | exact h7 | exact h8 | omega
 | 16=>
  refine ⟨by simp [zal],fun x hx=>?_⟩;simp only [zal,List.mem_cons,List.not_mem_nil,or_false] at hx;rcases hx with rfl | rfl | rfl
  all_goals first | exact h1 _ | exact h2 | exact h3 | exact h4 | exact h7 | exact h8 | omega
 | 17=>
  have h9:=zit (zlR (hm rfl));refine ⟨by simp [zal],fun x hx=>?_⟩;simp only [zal,List.mem_cons,List.not_mem_nil,or_false] at hx;subst hx;exact h9
 | n+18=>exact ⟨by simp [zal],fun x hx=>by simp [zal] at hx⟩
theorem zoQ {F:Nat -> Prop} {j:Nat} (hj:j < 18) {r:FR} (a1:Option Addr) (n1 c1:Nat) (a2:Option Addr) (n2 c2:Nat) (a3:Option Addr) (n3 c3:Nat) (a4:Option Addr) (n4 c4:Nat) (a5:Option Addr) (n5 c5:Nat) (a:Ac) (w:World) (hr:zd4 F w j r) (hG:Gl w) (h:AcAt (fun k=>k < w.heap.size) w ⟨⟨.slice a1 n1 c1,.slice a2 n2 c2,.slice a3 n3 c3⟩,.slice a4 n4 c4,.slice a5 n5 c5⟩ a) (ok:AcOk a) (hm:j=17 -> vMs a.ms=true):
  ∃ (fn:Nat) (caps:Array Value),r.wr=.func (.func fn) #[] caps/\(∀ args w,(callFunc fn args).run Tryz.prog w=.ok (.enter fn args) w)/\Calls Tryz.prog fn (#[.agg (acA a1 n1 c1 a2 n2 c2 a3 n3 c3 a4 n4 c4 a5 n5 c5 a)]++caps) w (InP (zal j a) w):=by
 obtain ⟨-,-,-,h4⟩:=hr;have low:∀ {W:World},Ext w W -> FcAt (fun k=>k < W.heap.size) W ⟨.slice a1 n1 c1,.slice a2 n2 c2,.slice a3 n3 c3⟩ a.fc:=fun {W} hX=>(h.fc.ext hX).mono (fun k hk=>Nat.lt_of_lt_of_le hk hX.size)
 match j with
 | 0=>
  obtain ⟨b,-,-,e,-,hb,-⟩:=h4;exact ⟨_,_,e,enters_of Tryz.func106 (by kernel_rfl) rfl,zgx 111 b _ (by simp []) a1 n1 c1 a2 n2 c2 a3 n3 c3 a4 n4 c4 a5 n5 c5 a w hG ok.fc.st hb (enters_of Tryz.func111 (by kernel_rfl) rfl) (fun W hX=>znM a1 n1 c1 a2 n2 c2 a3 n3 c3 a.fc W (hG.ext hX) (low hX) ok.fc)⟩
 | 1=>
  obtain ⟨b,-,-,e,-,hb,-⟩:=h4;exact ⟨_,_,e,enters_of Tryz.func106 (by kernel_rfl) rfl,zgx 113 b _ (by simp []) a1 n1 c1 a2 n2 c2 a3 n3 c3 a4 n4 c4 a5 n5 c5 a w hG ok.fc.st hb (enters_of Tryz.func113 (by kernel_rfl) rfl) (fun W hX=>zmq a1 n1 c1 a2 n2 c2 a3 n3 c3 a.fc W (hG.ext hX) (low hX) ok.fc)⟩
 | 2=>
  obtain ⟨b,-,-,e,-,hb,-⟩:=h4;exact ⟨_,_,e,enters_of Tryz.func106 (by kernel_rfl) rfl,zgx 115 b _ (by simp []) a1 n1 c1 a2 n2 c2 a3 n3 c3 a4 n4 c4 a5 n5 c5 a w hG ok.fc.st hb (enters_of Tryz.func115 (by kernel_rfl) rfl) (fun W hX=>zmh a1 n1 c1 a2 n2 c2 a3 n3 c3 a.fc W (hG.ext hX) (low hX) ok.fc)⟩
 | 3=>
  obtain ⟨b,-,-,e,-,hb,-⟩:=h4;exact ⟨_,_,e,enters_of Tryz.func106 (by kernel_rfl) rfl,zgx 119 b _ (by simp []) a1 n1 c1 a2 n2 c2 a3 n3 c3 a4 n4 c4 a5 n5 c5 a w hG ok.fc.st hb (enters_of Tryz.func119 (by kernel_rfl) rfl) (fun W hX=>zm2 a1 n1 c1 a2 n2 c2 a3 n3 c3 a.fc W (hG.ext hX) (low hX) ok.fc)⟩
 | 4=>
  obtain ⟨b,-,-,e,-,hb,-⟩:=h4;exact ⟨_,_,e,enters_of Tryz.func106 (by kernel_rfl) rfl,zgx 122 b _ (by simp []) a1 n1 c1 a2 n2 c2 a3 n3 c3 a4 n4 c4 a5 n5 c5 a w hG ok.fc.st hb (enters_of Tryz.func122 (by kernel_rfl) rfl) (fun W hX=>zmO a1 n1 c1 a2 n2 c2 a3 n3 c3 a.fc W (hG.ext hX) (low hX) ok.fc)⟩
 | 5=>
  obtain ⟨b,-,-,e,-,hb,-⟩:=h4;exact ⟨_,_,e,enters_of Tryz.func106 (by kernel_rfl) rfl,zgx 124 b _ (by simp []) a1 n1 c1 a2 n2 c2 a3 n3 c3 a4 n4 c4 a5 n5 c5 a w hG ok.fc.st hb (enters_of Tryz.func124 (by kernel_rfl) rfl) (fun W hX=>zlO a1 n1 c1 a2 n2 c2 a3 n3 c3 a.fc W (hG.ext hX) (low hX) ok.fc)⟩
 | 6=>exact ⟨126,#[],h4.1,enters_of Tryz.func126 (by kernel_rfl) rfl,zlh a1 n1 c1 a2 n2 c2 a3 n3 c3 a4 n4 c4 a5 n5 c5 a w hG h ok⟩
 | 7=>exact ⟨130,#[],h4.1,enters_of Tryz.func130 (by kernel_rfl) rfl,zmN a1 n1 c1 a2 n2 c2 a3 n3 c3 a4 n4 c4 a5 n5 c5 a w hG ok⟩
 | 8=>exact ⟨132,#[],h4.1,enters_of Tryz.func132 (by kernel_rfl) rfl,zpa a1 n1 c1 a2 n2 c2 a3 n3 c3 a4 n4 c4 a5 n5 c5 a w hG h ok⟩
 | 9=>exact ⟨134,#[],h4.1,enters_of Tryz.func134 (by kernel_rfl) rfl,zjf a1 n1 c1 a2 n2 c2 a3 n3 c3 a4 n4 c4 a5 n5 c5 a w hG h ok⟩
 | 10=>exact ⟨134,#[],h4.1,enters_of Tryz.func134 (by kernel_rfl) rfl,zjf a1 n1 c1 a2 n2 c2 a3 n3 c3 a4 n4 c4 a5 n5 c5 a w hG h ok⟩
 | 11=>exact ⟨134,#[],h4.1,enters_of Tryz.func134 (by kernel_rfl) rfl,zjf a1 n1 c1 a2 n2 c2 a3 n3 c3 a4 n4 c4 a5 n5 c5 a w hG h ok⟩
 | 12=>exact ⟨136,#[],h4.1,enters_of Tryz.func136 (by kernel_rfl) rfl,zpd a1 n1 c1 a2 n2 c2 a3 n3 c3 a4 n4 c4 a5 n5 c5 a w hG h ok⟩
 | 13=>exact ⟨140,#[],h4.1,enters_of Tryz.func140 (by kernel_rfl) rfl,zoI a1 n1 c1 a2 n2 c2 a3 n3 c3 a4 n4 c4 a5 n5 c5 a w hG h ok⟩
 | 14=>exact ⟨142,#[],h4.1,enters_of Tryz.func142 (by kernel_rfl) rfl,zo5 a1 n1 c1 a2 n2 c2 a3 n3 c3 a4 n4 c4 a5 n5 c5 a w hG h ok⟩
 | 15=>exact ⟨144,#[],h4.1,enters_of Tryz.func144 (by kernel_rfl) rfl,zpX a1 n1 c1 a2 n2 c2 a3 n3 c3 a4 n4 c4 a5 n5 c5 a w hG h ok⟩
 | 16=>exact ⟨146,#[],h4.1,enters_of Tryz.func146 (by kernel_rfl) rfl,znT a1 n1 c1 a2 n2 c2 a3 n3 c3 a4 n4 c4 a5 n5 c5 a w hG h ok⟩
 | 17=>exact ⟨148,#[],h4.1,enters_of Tryz.func148 (by kernel_rfl) rfl,zoD a1 n1 c1 a2 n2 c2 a3 n3 c3 a4 n4 c4 a5 n5 c5 a w hG (hm rfl)⟩
 | n+18=>exact absurd hj (by omega)
theorem zoA {F:Nat -> Prop} {j:Nat} (hj:j < 18) {r:FR} (a1:Option Addr) (n1 c1:Nat) (a2:Option Addr) (n2 c2:Nat) (a3:Option Addr) (n3 c3:Nat) (a4:Option Addr) (n4 c4:Nat) (a5:Option Addr) (n5 c5:Nat) (a:Ac) (w:World) (hr:zd4 F w j r) (hG:Gl w) (h:AcAt (fun k=>k < w.heap.size) w ⟨⟨.slice a1 n1 c1,.slice a2 n2 c2,.slice a3 n3 c3⟩,.slice a4 n4 c4,.slice a5 n5 c5⟩ a) (ok:AcOk a) (hm:j=17 -> vMs a.ms=true) {f1:Nat} {q1:Array Value} (hw:r.wr=.func (.func f1) #[] q1):
  (∀ args w,(callFunc f1 args).run Tryz.prog w=.ok (.enter f1 args) w)/\Calls Tryz.prog f1 (#[.agg (acA a1 n1 c1 a2 n2 c2 a3 n3 c3 a4 n4 c4 a5 n5 c5 a)]++q1) w (InP (zal j a) w):=by
 obtain ⟨fn,caps,e,h1,h2⟩:=zoQ hj a1 n1 c1 a2 n2 c2 a3 n3 c3 a4 n4 c4 a5 n5 c5 a w hr hG h ok hm;rw [hw] at e;injection e with e1 _ e3
 injection e1 with e1
 subst e1 e3;exact ⟨h1,h2⟩
theorem zjD {F:Nat -> Prop} (v:Value) (a1:Option Addr) (n1 c1:Nat) (a2:Option Addr) (n2 c2:Nat) (a3:Option Addr) (n3 c3:Nat) (a4:Option Addr) (n4 c4:Nat) (a5:Option Addr) (n5 c5:Nat) (a:Ac) (w:World) (hG:Gl w) (hF:zdo F w v) (h:AcAt (fun k=>k < w.heap.size) w ⟨⟨.slice a1 n1 c1,.slice a2 n2 c2,.slice a3 n3 c3⟩,.slice a4 n4 c4,.slice a5 n5 c5⟩ a) (hv:vAc a=true):
  Calls Tryz.prog 44 #[v,.agg (acA a1 n1 c1 a2 n2 c2 a3 n3 c3 a4 n4 c4 a5 n5 c5 a)] w fun e w'=>e=.returned (.string ⟨(line a).toArray⟩)/\Ext w w':=by
 obtain ⟨ok,hm8⟩:=zjk hv;obtain ⟨rows,hr18,hrow,hfm⟩:=hF;obtain ⟨ao,cap,rfl⟩:=hrow.slice;rw [hr18];obtain ⟨tz,htz⟩:∃ tz,tz=line a:=⟨_,rfl⟩;rw [<- htz];have hx0:=Mod.alloc (Mod.refl (fun _=>False) w) (.cells (acA a1 n1 c1 a2 n2 c2 a3 n3 c3 a4 n4 c4 a5 n5 c5 a) 32);have hT:=heap_alloc_new w (.cells (acA a1 n1 c1 a2 n2 c2 a3 n3 c3 a4 n4 c4 a5 n5 c5 a) 32);obtain ⟨V,hV⟩:∃ V,V=acA a1 n1 c1 a2 n2 c2 a3 n3 c3 a4 n4 c4 a5 n5 c5 a:=⟨_,rfl⟩;rw [<- hV] at hx0 hT ⊢;have v0:V[0]?=some (.int .i64 a.kd):=by rw [hV];rfl
 have v3:V[3]?=some (.int .i64 a.fc.kd):=by rw [hV];rfl
 have hVi:(Tryz.prog.info? 32).map (·.size)=some V.size:=by rw [hV];kernel_rfl
 unfold line at htz;replace hV:=Y hV;replace hx0:=Y hx0;replace hT:=Y hT;replace hG:=Y hG;replace h:=Y h;replace hrow:=Y hrow;replace hfm:=Y hfm;replace hr18:=Y hr18;replace htz:=Y htz;replace ok:=Y ok;replace hm8:=Y hm8;replace v0:=Y v0;replace v3:=Y v3;replace hVi:=Y hVi;clear hv;go_enter Tryz.func44,Tryz.ntmps44;go_upto_region 1 with fail
 generalize (w.alloc _)=W at hx0 hT ⊢;generalize w.heap.size=T at hT ⊢;go_wp2_with fail
 go_loopg [9] 18 (fun g i wr=>∃ j:Nat,j+g=18/\i=.int .i64 j/\Ext W wr/\zcW a.kd a.fc.kd 0 forms=zcW a.kd a.fc.kd j (forms.drop j))
 case atStart=>exact ⟨0,by omega,rfl,Mod.refl _ _,rfl⟩
 case round=>
  obtain ⟨j,hj,rfl,hx,hfd⟩:=hrel;replace hj:=Y hj
  by_cases hlt:j < 18
  ·have hdi:(j:Int) < 18:=by omega
   have hd:decide ((j:Int) < 18)=true:=decide_eq_true hdi;have hxx:=hx0.o.trans hx;have hTr:=hx.at hT.o id;have hjr:j < rows.length:=by rw [hr18.o];exact hlt
   obtain ⟨b',off,cap',e,-,hc⟩:=(hrow.o.ext hxx).get 5 zei (by decide) hjr;have hfj:=(hfm.o j hjr).ext hxx;generalize rows[j]=r at hc hfj;obtain ⟨kd,fk,wd,wv,rv⟩:=r;injection e with e1 e2 e3
   subst e1;have g0:=hc 0 (.int .i64 kd) (by decide) rfl;rw [Nat.add_zero] at g0;have g1:=hc 1 (.int .i64 fk) (by decide) rfl;have g2:=hc 2 (.string ⟨wd.toArray⟩) (by decide) rfl;have g3:=hc 3 wv (by decide) rfl;have g4:=hc 4 rv (by decide) rfl;clear hc e2 e3;obtain ⟨f1,q1,f2,q2,rfl,rfl⟩:=hfj.fns;obtain ⟨ff,hdr,k1,k2,k3⟩:=zgH hlt;have m1:kd=ff.kd:=hfj.1.trans k1.symm;have m2:fk=ff.fk:=hfj.2.1.trans k2.symm;have m3:wd=ff.wd:=hfj.2.2.1.trans k3.symm;have m4:j=17 -> kd=8:=fun e=>hfj.1.trans (zjH hlt e)
   rw [hdr] at hfd;simp only [zcW] at hfd;rw [<- m1,<- m2] at hfd;have hR:=heap_alloc_new wr (.cells #[.int .i64 kd,.int .i64 fk,.string ⟨wd.toArray⟩,.func (.func f1) #[] q1,.func (.func f2) #[] q2] 95);have hxR:=Mod.alloc (Mod.refl (fun _=>False) wr) (.cells #[.int .i64 kd,.int .i64 fk,.string ⟨wd.toArray⟩,.func (.func f1) #[] q1,.func (.func f2) #[] q2] 95);replace hfj:=Y hfj;replace hxx:=Y hxx;replace hx:=Y hx;replace hR:=Y hR;replace hxR:=Y hxR;replace hTr:=Y hTr;replace m4:=Y m4;replace hfd:=Y hfd;replace m1:=Y m1;replace m2:=Y m2;replace m3:=Y m3;replace hdr:=Y hdr;clear k1 k2 k3;go_upto_region 4 with fail
   generalize (wr.alloc _)=W1 at hR hxR ⊢;generalize wr.heap.size=R at hR ⊢;have t0:W1.cell? ⟨T,0,none⟩=some (.int .i64 a.kd):=(zaa (hxR.o.at hTr.o id) 0).trans v0.o;have t3:W1.cell? ⟨T,3,none⟩=some (.int .i64 a.fc.kd):=(zaa (hxR.o.at hTr.o id) 3).trans v3.o;have r0:=cS hR.o 0;have r1:=cS hR.o 1;clear g0 g1 g2 g3 g4
   by_cases kq1:kd=a.kd
   ·by_cases kq2:fk=a.fc.kd
    ·have hfd:=hfd.o
     rw [if_pos ⟨kq1,kq2⟩] at hfd;have b1:(kd==a.kd)=true:=by rw [kq1];simp
     have b2:(fk==a.fc.kd)=true:=by rw [kq2];simp
     have hm17:j=17 -> vMs a.ms=true:=fun e=>hm8.o (by rw [<- kq1];exact m4.o e)
     obtain ⟨hw9,hwl⟩:=zeS ok.o hm17;replace htz:tz=join 32 (wd::zal j a):=by rw [htz.o,hfd];simp only;rw [m3.o]
     have hwd:wd.length<=3000000:=by
      rw [show wd=zol j from hfj.o.2.2.1];have:∀ k:Fin 18,(zol k.val).length<=3000000:=by decide
      exact this ⟨j,hlt⟩
     replace hfd:=Y hfd;replace kq1:=Y kq1;replace kq2:=Y kq2;replace htz:=Y htz;replace hwd:=Y hwd;replace hw9:=Y hw9;replace hwl:=Y hwl;go_upto_region 5 with fail
     have hC0:=Y (show ((W1.drew.heap[T]?=some (.cells V 32 (0,0))/\W1.drew.heap[R]?=some (.cells #[.int .i64 kd,.int .i64 fk,.string ⟨wd.toArray⟩,.func (.func f1) #[] q1,.func (.func f2) #[] q2] 95 (0,0)))) from ⟨hxR.o.at hTr.o id,hR.o⟩);have hy0:=Y ((hxx.o.trans hxR.o).drew);have hf0:=Y (hfj.o.ext hxR.o);clear t0 t3 r0 r1 hR hxR hTr hx hxx hfj;refine zds (.s (.q 0 (.q 1 (.q 3 (.q 4 (.q 5 (.c2 2 (.c1 6 (.c1 7 (.c1 8 (.q 9 .done)))) 6 (.c1 2 (.c1 7 (.c1 8 (.q 9 .done)))))))))))
      (by as_aux_lemma=>kernel_rfl) (by as_aux_lemma=>kernel_rfl) (by as_aux_lemma=>kernel_rfl) (by decide) ?_
     refine znb (fun X=>X.heap[T]?=some (.cells V 32 (0,0))/\X.heap[R]?=some (.cells #[.int .i64 kd,.int .i64 fk,.string ⟨wd.toArray⟩,.func (.func f1) #[] q1,.func (.func f2) #[] q2] 95 (0,0))) (fun _ _=>trivial) hC0.o ?_;replace hf0:=Y (hf0.o.ext (Mod.drew0 (fun _=>False) W1));generalize W1.drew=W0 at hC0 hy0 hf0 ⊢;have hwr:=fun W (hX:Ext W0 W)=>zoA hlt a1 n1 c1 a2 n2 c2 a3 n3 c3 a4 n4 c4 a5 n5 c5 a W (hf0.o.ext hX) (hG.o.ext (hy0.o.trans hX)) ((h.o.ext (hy0.o.trans hX)).mono (fun k hk=>Nat.lt_of_lt_of_le hk (hy0.o.trans hX).size)) ok.o hm17 rfl
     rw [<- hV.o] at hwr;have hent:=(hwr W0 (Mod.refl _ _)).1;have hcall:=Y (fun W hX=>(hwr W hX).2);clear hwr;refine zcB _ (by simp only [List.getD_cons_zero];rfl) (by rfl) ?_ (fun w' hC=>?_) ?_;rotate_left;(obtain ⟨-,hC2⟩:=hC;have p2:=cS hC2 2;have p3:=cS hC2 3;go_simp;try with_reducible rfl);try simp only [Act.put,sA,sZ,sS]
     refine zcB _ (by simp only [List.getD_cons_succ,List.getD_cons_zero];rfl) (by rfl) ?_ (fun w' hC=>?_) ?_;rotate_left;(obtain ⟨-,hC2⟩:=hC;have p2:=cS hC2 2;have p3:=cS hC2 3;go_simp;try with_reducible rfl);try simp only [Act.put,sA,sZ,sS]
     refine zcB _ (by simp only [List.getD_cons_succ,List.getD_cons_zero];rfl) (by rfl) ?_ (fun w' hC=>?_) ?_;rotate_left;(obtain ⟨-,hC2⟩:=hC;have p2:=cS hC2 2;have p3:=cS hC2 3;go_simp;try with_reducible rfl);try simp only [Act.put,sA,sZ,sS]
     refine zcB _ (by simp only [List.getD_cons_succ,List.getD_cons_zero];rfl) (by rfl) ?_ (fun w' hC=>?_) ?_;rotate_left;(obtain ⟨-,hC2⟩:=hC;have p2:=cS hC2 2;have p3:=cS hC2 3;go_simp;try with_reducible rfl);try simp only [Act.put,sA,sZ,sS]
     refine zky _ (by simp only [List.getD_cons_succ,List.getD_cons_zero];rfl) (by rfl) 32 _ rfl T V _ _ _ rfl (fun W h=>h.1) Tryz.underlying32 rfl hVi.o ?_;try simp only [Act.put,sA,sZ,sS]
     refine zkZ _ _ (by simp only [List.getD_cons_succ,List.getD_cons_zero];rfl) (by simp only [List.getD_cons_succ,List.getD_cons_zero];rfl) ?_ ?_
     ·refine zdG (by rfl) (fun K hK=>?_)
      go_simp;have hxm:=Mod.alloc (Mod.refl (fun _=>False) W0) (.cells #[.string ⟨wd.toArray⟩] 9);have hO:=Y (zbm (heap_alloc_new W0 (.cells #[.string ⟨wd.toArray⟩] 9)) (l:=[wd]) rfl rfl rfl hy0.o.size (by simp));have hC1:=Y (show ((W0.alloc (.cells #[.string ⟨wd.toArray⟩] 9)).heap[T]?=some (.cells V 32 (0,0))/\(W0.alloc (.cells #[.string ⟨wd.toArray⟩] 9)).heap[R]?=some (.cells #[.int .i64 kd,.int .i64 fk,.string ⟨wd.toArray⟩,.func (.func f1) #[] q1,.func (.func f2) #[] q2] 95 (0,0))) from ⟨hxm.at hC0.o.1 id,hxm.at hC0.o.2 id⟩);refine hK.o _ _ hC1.o ?_;have hy1:=Y (hy0.o.trans hxm);replace hxm:=Y hxm;clear hK K hC0;generalize (W0.alloc _)=W2 at hO hy1 hC1 hxm ⊢;generalize W0.heap.size=k at hO ⊢;try simp only [Act.put,sA,sZ,sS]
      refine zb7 _ (by simp only [List.getD_cons_succ,List.getD_cons_zero];rfl) ?_;refine zdG (by rfl) (fun K hK=>?_);go_simp;refine (hcall.o W2 hxm.o).mono ?_;rintro e W3 ⟨ao,cap2,rfl,hr,hxn⟩;have hC2:=Y (show (W3.heap[T]?=some (.cells V 32 (0,0))/\W3.heap[R]?=some (.cells #[.int .i64 kd,.int .i64 fk,.string ⟨wd.toArray⟩,.func (.func f1) #[] q1,.func (.func f2) #[] q2] 95 (0,0))) from ⟨hxn.at hC1.o.1 id,hxn.at hC1.o.2 id⟩);refine hK.o _ _ hC2.o ?_;have hy3:=Y (hy1.o.trans hxn);have hOw:=Y (hO.o.ext hxn);replace hr:=Y hr;clear hK K hxn hC1 hO hy1 hxm;try simp only [Act.put,sA,sZ,sS]
      refine zb7 _ (by simp only [List.getD_cons_succ,List.getD_cons_zero];rfl) ?_;refine zdG (by rfl) (fun K hK=>?_);refine zdU _ _ 22 rfl Tryz.underlying22 el9 rfl hOw.o ao (zal j a).length cap2 rfl (zal j a) rfl (zcj hr.o).1 zaC (fun y hy u hu=>by simp [zdz] at hu;subst hu;rfl) (by have:=hw9.o;simp only [List.length_singleton];omega) hy3.o.size (zcj hr.o).2 (fun v6 w6 H6=>?_);obtain ⟨hO6,hm6⟩:=H6.o;have hx6:=Y (zbi hy3.o hOw.o (Nat.le_refl _) hm6);have hjl:(join 32 ([wd]++zal j a)).length<=100000000:=by
       have h1:=zdd 32 3000000 ([wd]++zal j a) (fun x hx=>by
        rcases List.mem_append.1 hx with hx | hx
        ·simp only [List.mem_singleton] at hx;subst hx;exact hwd.o
        ·exact hwl.o x hx)
       have h2:=hw9.o;rw [List.length_append] at h1;have h3:([wd].length+(zal j a).length)*(3000000+1)<=10*3000001:=Nat.mul_le_mul (by simp only [List.length_singleton];omega) (Nat.le_refl _);omega
      have hjn:=Y (zci v6 _ 32 w6 (zbk hO6 (by have:=hw9.o;simp only [List.length_append,List.length_singleton];omega)) (by omega));obtain ⟨ao6,cap6,rfl,-⟩:=hO6.row;refine hK.o _ _ ⟨(hm6.at hC2.o.1 (fun e=>?_)),(hm6.at hC2.o.2 (fun e=>?_))⟩ ?_
      ·obtain ⟨c,hc⟩:=hOw.o.cells e
       rw [hC2.o.1] at hc;injection hc with hc;injection hc with _ hc _;revert hc;decide
      ·obtain ⟨c,hc⟩:=hOw.o.cells e
       rw [hC2.o.2] at hc;injection hc with hc;injection hc with _ hc _;revert hc;decide
      have hC3:=Y (show (w6.heap[T]?=some (.cells V 32 (0,0))/\w6.heap[R]?=some (.cells #[.int .i64 kd,.int .i64 fk,.string ⟨wd.toArray⟩,.func (.func f1) #[] q1,.func (.func f2) #[] q2] 95 (0,0))) from ⟨(hm6.at hC2.o.1 (fun e=>by
       obtain ⟨c,hc⟩:=hOw.o.cells e
       rw [hC2.o.1] at hc;injection hc with hc;injection hc with _ hc _;revert hc;decide)),(hm6.at hC2.o.2 (fun e=>by
       obtain ⟨c,hc⟩:=hOw.o.cells e
       rw [hC2.o.2] at hc;injection hc with hc;injection hc with _ hc _;revert hc;decide))⟩)
      clear hK K H6 hO6 hm6 hjl;try simp only [Act.put,sA,sZ,sS]
      refine zb7 _ (by simp only [List.getD_cons_succ,List.getD_cons_zero];rfl) ?_;refine zdG (by rfl) (fun K hK=>?_);go_simp;refine hjn.o.mono ?_;rintro e w7 ⟨rfl,hx7⟩;refine hK.o _ _ ⟨hx7.at hC3.o.1 id,hx7.at hC3.o.2 id⟩ ?_;have hx7:=Y (hx6.o.trans hx7);clear hK K hjn;try simp only [Act.put,sA,sZ,sS]
      refine zcB _ (by simp only [List.getD_cons_succ,List.getD_cons_zero];rfl) (by rfl) ?_ (fun w' hC=>?_) ?_;rotate_left;(go_simp;try with_reducible rfl);try simp only [Act.put,sA,sZ,sS]
      refine zdQ ?_;go_wp2_with fail
      go_ret;exact ⟨by rw [htz.o];rfl,hx7.o⟩
     ·refine zdG (by rfl) (fun K hK=>?_)
      go_simp;refine (hcall.o W0 (Mod.refl _ _)).mono ?_;rintro e W2 ⟨ao,cap2,rfl,hr,hxn⟩;have hC1:=Y (show (W2.heap[T]?=some (.cells V 32 (0,0))/\W2.heap[R]?=some (.cells #[.int .i64 kd,.int .i64 fk,.string ⟨wd.toArray⟩,.func (.func f1) #[] q1,.func (.func f2) #[] q2] 95 (0,0))) from ⟨hxn.at hC0.o.1 id,hxn.at hC0.o.2 id⟩);refine hK.o _ _ hC1.o ?_;have hy1:=Y (hy0.o.trans hxn);clear hK K hxn hC0;try simp only [Act.put,sA,sZ,sS]
      refine zb7 _ (by simp only [List.getD_cons_succ,List.getD_cons_zero];rfl) ?_;refine zdG (by rfl) (fun K hK=>?_);go_simp;have hxm:=Mod.alloc (Mod.refl (fun _=>False) W2) (.cells #[.string ⟨wd.toArray⟩] 9);have hOw:=Y (zbm (heap_alloc_new W2 (.cells #[.string ⟨wd.toArray⟩] 9)) (l:=[wd]) rfl rfl rfl hy1.o.size (by simp));have hC2:=Y (show ((W2.alloc (.cells #[.string ⟨wd.toArray⟩] 9)).heap[T]?=some (.cells V 32 (0,0))/\(W2.alloc (.cells #[.string ⟨wd.toArray⟩] 9)).heap[R]?=some (.cells #[.int .i64 kd,.int .i64 fk,.string ⟨wd.toArray⟩,.func (.func f1) #[] q1,.func (.func f2) #[] q2] 95 (0,0))) from ⟨hxm.at hC1.o.1 id,hxm.at hC1.o.2 id⟩);refine hK.o _ _ hC2.o ?_;have hy3:=Y (hy1.o.trans hxm);replace hr:=Y (zac.ext hr hxm);clear hK K hxm hC1 hy1;generalize (W2.alloc _)=W3 at hOw hy3 hC2 hr ⊢;generalize W2.heap.size=k at hOw hr ⊢;try simp only [Act.put,sA,sZ,sS]
      refine zb7 _ (by simp only [List.getD_cons_succ,List.getD_cons_zero];rfl) ?_;refine zdG (by rfl) (fun K hK=>?_);refine zdU _ _ 22 rfl Tryz.underlying22 el9 rfl hOw.o ao (zal j a).length cap2 rfl (zal j a) rfl (zcj hr.o).1 zaC (fun y hy u hu=>by simp [zdz] at hu;subst hu;rfl) (by have:=hw9.o;simp only [List.length_singleton];omega) hy3.o.size (zcj hr.o).2 (fun v6 w6 H6=>?_);obtain ⟨hO6,hm6⟩:=H6.o;have hx6:=Y (zbi hy3.o hOw.o (Nat.le_refl _) hm6);have hjl:(join 32 ([wd]++zal j a)).length<=100000000:=by
       have h1:=zdd 32 3000000 ([wd]++zal j a) (fun x hx=>by
        rcases List.mem_append.1 hx with hx | hx
        ·simp only [List.mem_singleton] at hx;subst hx;exact hwd.o
        ·exact hwl.o x hx)
       have h2:=hw9.o;rw [List.length_append] at h1;have h3:([wd].length+(zal j a).length)*(3000000+1)<=10*3000001:=Nat.mul_le_mul (by simp only [List.length_singleton];omega) (Nat.le_refl _);omega
      have hjn:=Y (zci v6 _ 32 w6 (zbk hO6 (by have:=hw9.o;simp only [List.length_append,List.length_singleton];omega)) (by omega));obtain ⟨ao6,cap6,rfl,-⟩:=hO6.row;refine hK.o _ _ ⟨(hm6.at hC2.o.1 (fun e=>?_)),(hm6.at hC2.o.2 (fun e=>?_))⟩ ?_
      ·obtain ⟨c,hc⟩:=hOw.o.cells e
       rw [hC2.o.1] at hc;injection hc with hc;injection hc with _ hc _;revert hc;decide
      ·obtain ⟨c,hc⟩:=hOw.o.cells e
       rw [hC2.o.2] at hc;injection hc with hc;injection hc with _ hc _;revert hc;decide
      have hC3:=Y (show (w6.heap[T]?=some (.cells V 32 (0,0))/\w6.heap[R]?=some (.cells #[.int .i64 kd,.int .i64 fk,.string ⟨wd.toArray⟩,.func (.func f1) #[] q1,.func (.func f2) #[] q2] 95 (0,0))) from ⟨(hm6.at hC2.o.1 (fun e=>by
       obtain ⟨c,hc⟩:=hOw.o.cells e
       rw [hC2.o.1] at hc;injection hc with hc;injection hc with _ hc _;revert hc;decide)),(hm6.at hC2.o.2 (fun e=>by
       obtain ⟨c,hc⟩:=hOw.o.cells e
       rw [hC2.o.2] at hc;injection hc with hc;injection hc with _ hc _;revert hc;decide))⟩)
      clear hK K H6 hO6 hm6 hjl;try simp only [Act.put,sA,sZ,sS]
      refine zb7 _ (by simp only [List.getD_cons_succ,List.getD_cons_zero];rfl) ?_;refine zdG (by rfl) (fun K hK=>?_);go_simp;refine hjn.o.mono ?_;rintro e w7 ⟨rfl,hx7⟩;refine hK.o _ _ ⟨hx7.at hC3.o.1 id,hx7.at hC3.o.2 id⟩ ?_;have hx7:=Y (hx6.o.trans hx7);clear hK K hjn;try simp only [Act.put,sA,sZ,sS]
      refine zcB _ (by simp only [List.getD_cons_succ,List.getD_cons_zero];rfl) (by rfl) ?_ (fun w' hC=>?_) ?_;rotate_left;(go_simp;try with_reducible rfl);try simp only [Act.put,sA,sZ,sS]
      refine zdQ ?_;go_wp2_with fail
      go_ret;exact ⟨by rw [htz.o];rfl,hx7.o⟩
    ·have b1:(kd==a.kd)=true:=by rw [kq1];simp
     have b2:(fk==a.fc.kd)=false:=by rw [beq_eq_false_iff_ne];exact kq2
     have hfd2:=Y (hfd.o.trans (if_neg (fun h=>kq2 h.2)));have hx2:=Y (hx.o.trans hxR.o);replace kq1:=Y kq1;go_wp2_with fail
     go_roundg (gk - 1)
     case measure=>have:=hj.o;omega
     case rel=>exact ⟨j+1,by have:=hj.o;omega,by go_num,hx2.o,hfd2.o⟩
   ·have b1:(kd==a.kd)=false:=by rw [beq_eq_false_iff_ne];exact kq1
    have hfd2:=Y (hfd.o.trans (if_neg (fun h=>kq1 h.1)));have hx2:=Y (hx.o.trans hxR.o);go_wp2_with fail
    go_roundg (gk - 1)
    case measure=>have:=hj.o;omega
    case rel=>exact ⟨j+1,by have:=hj.o;omega,by go_num,hx2.o,hfd2.o⟩
  ·obtain rfl:j=18:=by have:=hj.o;omega
   have hn:zcW a.kd a.fc.kd 18 (forms.drop 18)=none:=rfl;rw [hn] at hfd;have htz2:=Y (show tz=[] by rw [htz.o,hfd]);have hx2:=Y (hx0.o.trans hx);replace hfd:=Y hfd;clear hn;go_wp2_with fail
   go_ret;exact ⟨by rw [htz2.o];rfl,hx2.o⟩
end Go.Proofs.YtjjfphalcibjfaaGreatDoor
