import Derived.Test.YtjjfphalcibjfaaGreatDoorJ1
import Derived.Test.YtjjfphalcibjfaaGreatDoorJ12
set_option maxRecDepth 100000
set_option maxHeartbeats 16000000
namespace Go.Proofs.YtjjfphalcibjfaaGreatDoor
open Go.Shelf Go.RowKit Cdk Scr
attribute [local go_sem] Oper.semAt_some
def InI (l:List Int) (w:World) (e:Ending) (w':World):Prop:=∃ (ao:Option Addr) (cap:Nat),e=.returned (.slice ao l.length cap)/\zaF (fun k=>w.heap.size<=k/\k < w'.heap.size) w' (.slice ao l.length cap) l/\Ext w w'
theorem zmm {w:World} {B:Nat} {v:Value} {l:List Int} (h:Cdk.Own w B 3 1 zcZ v l) (hl:l.length<=140737488355328):zaF (fun k=>B<=k/\k < w.heap.size) w v l:=by
 obtain ⟨ao,cap,rfl,h1,h2⟩:=h.row;obtain ⟨-,h3,h4,h5⟩:=zhh h;exact ⟨ao,cap,rfl,h1,fun b off e _=>h.block b (h2 b off e),h3,⟨hl,h4⟩,h5⟩
theorem zj1 (t:Bs):(zbI t).length<=100:=by
 unfold zbI;split
 ·simp
 ·exact (zed 44 99 t).1
theorem zij (t:Bs):∀ x ∈ zbI t,x.length<=t.length:=by
 unfold zbI;split
 ·intro x hx;cases hx
 ·exact zcs 44 99 t
theorem zdC (t:Bs) (hs:t.length<=1000000) (w:World):Calls Tryz.prog 85 #[.string ⟨t.toArray⟩] w (InI (zep t) w):=by
 have hc:=Y (zgq t hs w);have hl:=zj1 t;have hle:=Y (zij t);have hN:zep t=(zbI t).map zbu:=rfl;rw [hN];generalize zbI t=L at hc hl hle;clear hN;go_enter Tryz.func85,Tryz.ntmps85;go_wp2_with fail
 refine hc.o.mono ?_;rintro e w1 ⟨ao,cap,rfl,hr,hx1⟩;have hsz1:w.heap.size<=w1.heap.size:=hx1.size;replace hr:=Y hr;replace hx1:=Y hx1;clear hc;obtain ⟨n,hn⟩:∃ n,n=L.length:=⟨_,rfl⟩;rw [<- hn] at hl hr ⊢;replace hn:=Y hn;go_wp2_with fail
 go_loopg [3,5] n (fun g s i wr=>∃ (j:Nat) (av:Option Addr) (cv:Nat),j+g=n/\i=.int .i64 j/\s=.slice av j cv/\Cdk.Own wr w1.heap.size 3 1 zcZ (.slice av j cv) ((L.map zbu).take j)/\Ext w1 wr)
 case atStart=>exact ⟨0,none,0,by omega,rfl,rfl,Own.nil _ _ _ _ _,Mod.refl _ _⟩
 case round=>
  obtain ⟨j,av,cv,hj,rfl,rfl,hO,hx⟩:=hrel;replace hj:=Y hj;have hsz:w1.heap.size<=wr.heap.size:=hx.size
  by_cases hlt:j < n
  ·have hdi:(j:Int) < (n:Int):=by omega
   have hd:decide ((j:Int) < (n:Int))=true:=decide_eq_true hdi;have hjl:j < L.length:=by have:=hn.o;omega
   have h':=hr.o.ext hx;rw [hn.o] at h';obtain ⟨b,off,cc,e0,-,hcL⟩:=zac.get h' 1 zaC (by decide) hjl;injection e0 with e1 e2 e3
   subst e1;subst e3;have hcell:=hcL 0 (.string ⟨L[j].toArray⟩) (by decide) rfl;simp only [Nat.mul_one,Nat.add_zero] at hcell;have hxl:=hle.o L[j] (List.getElem_mem _);have htk:(L.map zbu).take (j+1)=(L.map zbu).take j++[zbu L[j]]:=by
    rw [List.take_succ_eq_append_getElem (by rw [List.length_map];omega),List.getElem_map]
   have hcl:=Y (fun W=>zba L[j] (by omega) W);generalize L[j]=x at hcell hcl htk hxl;generalize zbu x=v at hcl htk;obtain ⟨X,hX⟩:∃ X:ByteArray,X=⟨x.toArray⟩:=⟨_,rfl⟩;rw [<- hX] at hcell hcl;replace hX:=Y hX;replace hO:=Y hO;replace hx:=Y hx;replace htk:=Y htk;have hlt2:Hid (((L.map zbu).take j).length<=1000):=Y (by rw [List.length_take,List.length_map];omega);clear hcL h' e2;go_wp2_with fail
   refine (hcl.o _).mono ?_;rintro e w2 ⟨rfl,rfl⟩;clear hcl;have hxa:=Mod.alloc (Mod.refl (fun _=>False) wr) (.cells #[.int .i64 v] 3);go_wp2_with (at_builtin;refine zaI rfl _ _ _ rfl Tryz.underlying24 elI rfl (hO.o.ext hxa) _ 1 1 rfl [v] rfl (by exact zaJ.new _ _ _) zbv (fun y hy u hu=>by simp only [List.mem_singleton] at hy;subst hy;simp [zcZ] at hu;subst hu;rfl) (by have:=hlt2.o;simp only [List.length_singleton];omega) (by rw [World.size_alloc];omega) (fun e=>nomatch e) (fun v6 w6 H6=>Hid.o ?_))
   obtain ⟨hO6,hm6⟩:=H6.o;have hx6:=Y (zbi (hx.o.trans hxa) (hO.o.ext hxa) (Nat.le_refl _) hm6);rw [<- htk.o] at hO6;obtain ⟨av6,cv6,rfl,-⟩:=hO6.row;have e6:((L.map zbu).take (j+1)).length=j+1:=by rw [List.length_take,List.length_map];omega
   rw [e6] at hO6 ⊢;clear H6 hm6 e6 hxa;replace hO6:=Y hO6;refine Y ?_;go_wp2_with fail
   go_roundg (gk - 1)
   case measure=>have:=hj.o;omega
   case rel=>exact ⟨j+1,av6,cv6,by have:=hj.o;omega,by go_num,rfl,hO6.o,hx6.o⟩
  ·obtain rfl:j=n:=by have:=hj.o;omega
   have hdi:¬ (j:Int) < (j:Int):=by omega
   have hd:decide ((j:Int) < (j:Int))=false:=decide_eq_false hdi;rw [List.take_of_length_le (by have:=hn.o;rw [List.length_map];omega)] at hO;have hrow:=(zmm hO (by have:=hn.o;rw [List.length_map];omega)).mono (F':=fun k=>w.heap.size<=k/\k < wr.heap.size) (fun k hk=>⟨by omega,hk.2⟩);have hlm:(L.map zbu).length=j:=by rw [List.length_map];exact hn.o.symm
   replace hrow:=Y hrow;have hxf:=Y (hx1.o.trans hx);replace hlm:=Y hlm;clear hO hx;go_wp2_with fail
   go_ret;exact ⟨av,cv,by rw [hlm.o];try rfl,by rw [hlm.o];exact hrow.o,hxf.o⟩
theorem zgy (c:UInt8) (w:World):Calls Tryz.prog 166 #[.int .u8 c.toNat] w fun e w'=>e=.returned (.int .u8 (dgR c:Nat))/\w=w':=by
 have hc:=c.toNat_lt;obtain ⟨d,hd⟩:∃ d,d=dgR c:=⟨_,rfl⟩;rw [<- hd];unfold dgR hexV at hd
 by_cases h1:48<=c.toNat/\c.toNat<=57
 ·rw [if_pos h1] at hd
  simp only at hd;have i1:(48:Int)<=(c.toNat:Int):=by omega
  have i2:(c.toNat:Int)<=57:=by omega
  have e:IntKind.u8.wrap ((c.toNat:Int) - 48)=(d:Int):=by rw [show (c.toNat:Int) - 48=((c.toNat - 48:Nat):Int) by omega,u8_in _ (by omega),hd]
  replace hd:=Y hd;go_enter Tryz.func166,Tryz.ntmps166;go_wp2_with fail
  go_ret;exact ⟨rfl,rfl⟩
 ·rw [if_neg h1] at hd
  by_cases h2:97<=c.toNat/\c.toNat<=102
  ·rw [if_pos h2] at hd
   simp only at hd;have i1:(48:Int)<=(c.toNat:Int):=by omega
   have i2:¬ (c.toNat:Int)<=57:=by omega
   have i3:(97:Int)<=(c.toNat:Int):=by omega
   have i4:(c.toNat:Int)<=102:=by omega
   have e1:IntKind.u8.wrap ((c.toNat:Int) - 97)=(c.toNat:Int) - 97:=by rw [show (c.toNat:Int) - 97=((c.toNat - 97:Nat):Int) by omega,u8_in _ (by omega)]
   have e2:IntKind.u8.wrap ((c.toNat:Int) - 97+10)=(d:Int):=by rw [show (c.toNat:Int) - 97+10=((c.toNat - 87:Nat):Int) by omega,u8_in _ (by omega),hd]
   replace hd:=Y hd;go_enter Tryz.func166,Tryz.ntmps166;go_wp2_with fail
   go_ret;exact ⟨rfl,rfl⟩
  ·rw [if_neg h2] at hd
   simp only at hd;replace hd:=Y hd
   by_cases g1:48<=c.toNat <;> by_cases g2:97<=c.toNat
   all_goals
    have f1:((48:Int)<=(c.toNat:Int)) ↔ 48<=c.toNat:=by omega
    have f2:((97:Int)<=(c.toNat:Int)) ↔ 97<=c.toNat:=by omega
    have f3:(48<=c.toNat -> ¬ (c.toNat:Int)<=57)/\(97<=c.toNat -> ¬ (c.toNat:Int)<=102):=⟨fun _=>by omega,fun _=>by omega⟩;simp only [g1,g2,true_implies,false_implies,iff_true,iff_false,and_true,true_and] at f1 f2 f3
    first | obtain ⟨f4,f5⟩:=f3 | skip
    go_enter Tryz.func166,Tryz.ntmps166;go_wp2_with fail
    go_ret;exact ⟨by rw [hd.o];try rfl,rfl⟩
attribute [local go_sem] Oper.semAt_some
theorem zeu (t:Bs) (hs:t.length<=1000000) (w:World):Calls Tryz.prog 87 #[.string ⟨t.toArray⟩] w fun e w'=>e=.returned (.string ⟨(zbJ t).toArray⟩)/\Ext w w':=by
 by_cases h:t=[42]
 ·subst h
  have e:Hid (zbJ [42]=[]):=Y rfl;go_enter Tryz.func87,Tryz.ntmps87;go_wp2_with fail
  go_ret;rw [e.o];exact ⟨rfl,Mod.refl _ _⟩
 have hse:(t==[42])=false:=by rw [beq_eq_false_iff_ne];exact h
 have hu:zbJ t=zcz t:=by unfold zbJ;rw [if_neg h]
 obtain ⟨P,hP⟩:∃ P,P=zcz t:=⟨_,rfl⟩;rw [hu,<- hP];go_enter Tryz.func87,Tryz.ntmps87;go_upto_region 3 with fail
 obtain ⟨S,hS⟩:∃ S:ByteArray,S=⟨t.toArray⟩:=⟨_,rfl⟩;have hSs:S.size=t.length:=by rw [hS];rfl
 have hget:Hid (∀ (j:Nat) (h:j < S.size) (h2:j < t.length),S[j]=t[j]):=Y (fun j h h2=>by subst hS;rfl);rw [<- hS];have hsl:S.size<=1000000:=by omega
 replace hS:=Y hS;replace hSs:=Y hSs;replace h:=Y h;replace hP:=Y hP;clear hse hu;go_wp2_with fail
 go_loopg [3,4] (S.size+2) (fun g b i wr=>∃ (j:Nat) (l:Bs) (av:Option Addr) (cv:Nat),j+g=S.size+2/\i=.int .i64 j/\b=.slice av l.length cv/\Cdk.Own wr w.heap.size 5 1 u8L (.slice av l.length cv) l/\Ext w wr/\P=l++zcz (t.drop j)/\l.length<=j)
 case atStart=>exact ⟨0,[],none,0,by omega,rfl,rfl,Own.nil _ _ _ _ _,Mod.refl _ _,by rw [hP.o];rfl,by simp⟩
 case round=>
  clear hP;obtain ⟨j,l,av,cv,hj,rfl,rfl,hO,hx,hPj,hlj⟩:=hrel;have hsz:w.heap.size<=wr.heap.size:=hx.size;have hjl:j<=S.size+2:=by omega
  have hjw:IntKind.i64.wrap ((j:Int)+1)=(j:Int)+1:=IntWalk.i64_in _ (by omega);replace hj:=Y hj;replace hO:=Y hO;replace hx:=Y hx
  by_cases hlt1:j+1 < S.size
  ·have hdi1:(j:Int)+1 < (S.size:Int):=by omega
   have hd1:decide ((j:Int)+1 < (S.size:Int))=true:=decide_eq_true hdi1;have hlt:j < S.size:=by omega
   have hdi:(j:Int) < (S.size:Int):=by omega
   have hud:=zjc (s:=t) (j:=j) (by have:=hSs.o;omega);rw [<- hget.o j hlt (by have:=hSs.o;omega),<- hget.o (j+1) hlt1 (by have:=hSs.o;omega)] at hud;rw [hud] at hPj;have k1:=Y (fun W=>zgy S[j] W);have k2:=Y (fun W=>zgy S[j+1] W);have l1:=zni S[j];have l2:=zni S[j+1];generalize dgR S[j]=d1 at hPj k1 l1;generalize dgR S[j+1]=d2 at hPj k2 l2;obtain ⟨m1,hm1⟩:∃ m1,m1=16*d1:=⟨_,rfl⟩;have e1:IntKind.u8.wrap (16*(d1:Int))=(m1:Int):=by rw [show 16*(d1:Int)=(m1:Int) by omega];exact u8_in _ (by omega)
   have e2:IntKind.u8.wrap ((m1:Int)+(d2:Int))=((UInt8.ofNat (16*d1+d2)).toNat:Int):=by rw [show (m1:Int)+(d2:Int)=((16*d1+d2:Nat):Int) by omega];exact zns _ (by omega)
   generalize UInt8.ofNat (16*d1+d2)=c at hPj e2;replace hm1:=Y hm1;replace hPj:=Y hPj;clear hud;go_upto_region 7 with fail
   try simp only [List.append_eq,List.cons_append,List.nil_append]
   refine rS (fun _=>True) [(0,true),(1,true),(2,true),(3,true),(6,true),(7,true),(8,true),(9,true),(4,false),(5,true),(10,false),(11,true),(12,false),(13,false),(14,true)] trivial ?_;simp only [zah,List.map_cons,List.map_nil,List.getD_cons_zero,List.getD_cons_succ];have hxd:=Y (hx.o.drew);have hOd:=Y (hO.o.ext (Mod.drew0 (fun _=>False) wr));have hszd:w.heap.size<=wr.drew.heap.size:=hsz;generalize wr.drew=wd at hxd hOd hszd ⊢
   iterate 8 (refine zav (by rfl) ?_ (fun w' hC=>?_) ?_;rotate_left;(go_simp;first | done | with_reducible rfl | exact rfl);try simp only [Act.put,sA,sZ,sS])
   refine zak (by rfl) (fun K hK=>?_);go_simp;refine (k1.o _).mono ?_;rintro e w2 ⟨rfl,rfl⟩;refine hK.o _ _ trivial ?_;clear hK K k1;try simp only [Act.put,sA,sZ,sS]
   refine zav (by rfl) ?_ (fun w' hC=>?_) ?_;rotate_left;(go_simp;first | done | with_reducible rfl | exact rfl);try simp only [Act.put,sA,sZ,sS]
   refine zak (by rfl) (fun K hK=>?_);go_simp;refine (k2.o _).mono ?_;rintro e w3 ⟨rfl,rfl⟩;refine hK.o _ _ trivial ?_;clear hK K k2;try simp only [Act.put,sA,sZ,sS]
   refine zav (by rfl) ?_ (fun w' hC=>?_) ?_;rotate_left;(go_simp;first | done | with_reducible rfl | exact rfl);try simp only [Act.put,sA,sZ,sS]
   refine zak (by rfl) (fun K hK=>?_);go_simp;have hxa:=Mod.alloc (Mod.refl (fun _=>False) wd) (.cells #[.int .u8 c.toNat] 5);have hxb:=Y (hxd.o.trans hxa);have hOb:=Y (hOd.o.ext hxa);refine hK.o _ _ trivial ?_;clear hK K hxa;try simp only [Act.put,sA,sZ,sS]
   refine zak (by rfl) (fun K hK=>?_);refine zdU _ _ 63 rfl Tryz.underlying63 el5 rfl hOb.o _ 1 1 rfl [c] rfl (by exact zaJ.new _ _ _) zev (fun z hz u hu=>by simp only [List.mem_singleton] at hz;subst hz;simp [u8L] at hu;subst hu;rfl) (by simp only [List.length_singleton];omega) (by rw [World.size_alloc];omega) (fun e=>nomatch e) (fun v6 w6 H6=>?_);obtain ⟨hO6,hm6⟩:=H6.o;have hx6:=Y (zbi hxb.o hOb.o (Nat.le_refl _) hm6);obtain ⟨av6,cv6,rfl,-⟩:=hO6.row;have hl6:(l++[c]).length=l.length+1:=by simp
   rw [hl6] at hO6;refine hK.o _ _ trivial ?_;rw [hl6];clear hK K H6 hm6 hxb hOb hxd hOd;replace hO6:=Y hO6;try simp only [Act.put,sA,sZ,sS]
   refine zav (by rfl) ?_ (fun w' hC=>?_) ?_;rotate_left;(go_simp;first | done | with_reducible rfl | exact rfl);try simp only [Act.put,sA,sZ,sS]
   refine zar ?_;go_wp2_with fail
   go_roundg (gk - 2)
   case measure=>have:=hj.o;omega
   case rel=>exact ⟨j+2,l++[c],av6,cv6,by have:=hj.o;omega,by go_num,by rw [hl6],by rw [hl6];exact hO6.o,hx6.o,by rw [hPj.o];simp,by rw [hl6];omega⟩
  ·have hdi1:¬ (j:Int)+1 < (S.size:Int):=by omega
   have hd1:decide ((j:Int)+1 < (S.size:Int))=false:=decide_eq_false hdi1;rw [zkK (by have:=hSs.o;omega),List.append_nil] at hPj;obtain ⟨ao9,cap9,he9,hcv⟩:=zeY hO.o;injection he9 with e91 e92 e93
   subst e91 e93;replace hPj:=Y hPj;clear e92;go_wp2_with fail
   go_ret;exact ⟨by rw [hPj.o];try rfl,hx.o⟩
def zpT (l:Lb) (w:World) (e:Ending) (w':World):Prop:=∃ (ao:Option Addr) (n cap:Nat),e=.returned (.agg #[.int .i64 l.til,.slice ao n cap,.int .i64 l.app,.int .i64 l.den])/\zaF (fun k=>w.heap.size<=k/\k < w'.heap.size) w' (.slice ao n cap) l.aft/\Ext w w'
theorem zeJ (t:Bs) (hs:t.length<=1000000) (w:World):Calls Tryz.prog 163 #[.string ⟨t.toArray⟩] w (zpT (zc8 t) w):=by
 obtain ⟨l,hl⟩:∃ l,l=zc8 t:=⟨_,rfl⟩;rw [<- hl];have hc:=Y (fun W=>zcD t 47 4 5 rfl hs (by decide) W);have hle:=Y (zcs 47 4 t);unfold zc8 at hl;generalize zat 47 4 t=L at hc hle hl;obtain ⟨T,hT⟩:∃ T,T=w.heap.size:=⟨_,rfl⟩;have hTz0:=Y (heap_alloc_new w (.cells #[.int .i64 0,.slice none 0 0,.int .i64 0,.int .i64 0] 26));have hxz:=Y (Mod.alloc (Mod.refl (fun _=>False) w) (.cells #[.int .i64 0,.slice none 0 0,.int .i64 0,.int .i64 0] 26));have hsz0:(w.alloc (.cells #[.int .i64 0,.slice none 0 0,.int .i64 0,.int .i64 0] 26)).heap.size=w.heap.size+1:=World.size_alloc _ _;obtain ⟨S,hS⟩:∃ S:ByteArray,S=⟨t.toArray⟩:=⟨_,rfl⟩;rw [<- hS] at hc ⊢;replace hS:=Y hS;replace hl:=Y hl;go_enter Tryz.func163,Tryz.ntmps163;go_upto_region 1 with fail
 generalize (w.alloc _)=w0 at hTz0 hxz hsz0 ⊢;try rw [<- hT]
 rw [<- hT] at hTz0 hsz0;have hTw:w.heap.size<=T:=by omega
 replace hT:=Y hT;go_wp2_with fail
 refine (hc.o _).mono ?_;rintro e w1 ⟨ao,cap,rfl,hr,hx1⟩;have hTz:=Y (hx1.at hTz0.o id);have hx01:=Y (hxz.o.trans hx1);have hsz1:w0.heap.size<=w1.heap.size:=hx1.size;clear hc hx1 hTz0 hxz;replace hr:=Y hr
 by_cases h4:L.length=4
 ·obtain ⟨a,b,c,d,rfl⟩:∃ a b c d,L=[a,b,c,d]:=by
   rcases L with _ | ⟨a,_ | ⟨b,_ | ⟨c,_ | ⟨d,_ | ⟨e,r⟩⟩⟩⟩⟩ <;> simp at h4
   exact ⟨a,b,c,d,rfl⟩
  clear h4;replace hl:=Y (show l=⟨zbu a,zep b,zbu c,zbu d⟩ from hl.o);have ha:=hle.o a (by simp);have hb:=hle.o b (by simp);have hcc:=hle.o c (by simp);have hd:=hle.o d (by simp);have nA:=Y (fun W=>zba a (by omega) W);have nB:=Y (fun W=>zdC b (by omega) W);have nC:=Y (fun W=>zba c (by omega) W);have nD:=Y (fun W=>zba d (by omega) W);obtain ⟨bk,off,cc,e0,hFb,hc0⟩:=zac.get hr.o 1 zaC (by decide) (j:=0) (by simp);injection e0 with e1 _ e3
  subst e1;subst e3;obtain ⟨bk1,off1,cc1,e0,-,hc1⟩:=zac.get hr.o 1 zaC (by decide) (j:=1) (by simp);injection e0 with e1 _ _
  injection e1 with e1;injection e1 with e1 e2 _
  subst e1 e2;obtain ⟨bk2,off2,cc2,e0,-,hc2⟩:=zac.get hr.o 1 zaC (by decide) (j:=2) (by simp);injection e0 with e1 _ _
  injection e1 with e1;injection e1 with e1 e2 _
  subst e1 e2;obtain ⟨bk3,off3,cc3,e0,-,hc3⟩:=zac.get hr.o 1 zaC (by decide) (j:=3) (by simp);injection e0 with e1 _ _
  injection e1 with e1;injection e1 with e1 e2 _
  subst e1 e2;have p0:=Y (show w1.cell? ⟨bk,off,none⟩=some (.string ⟨a.toArray⟩) from hc0 0 (.string ⟨a.toArray⟩) (by decide) rfl);have p1:=Y (show w1.cell? ⟨bk,off+1,none⟩=some (.string ⟨b.toArray⟩) from hc1 0 (.string ⟨b.toArray⟩) (by decide) rfl);have p2:=Y (show w1.cell? ⟨bk,off+2,none⟩=some (.string ⟨c.toArray⟩) from hc2 0 (.string ⟨c.toArray⟩) (by decide) rfl);have p3:=Y (show w1.cell? ⟨bk,off+3,none⟩=some (.string ⟨d.toArray⟩) from hc3 0 (.string ⟨d.toArray⟩) (by decide) rfl);have hTb:T ≠ bk:=by have:=hFb.1;omega
  generalize zbu a=va at nA hl;generalize zep b=vb at nB hl;generalize zbu c=vc at nC hl;generalize zbu d=vd at nD hl;clear hc0 hc1 hc2 hc3 ha hb hcc hd hle;go_upto_region 4 with fail
  try simp only [List.append_eq,List.cons_append,List.nil_append]
  refine rS (fun Wx=>Mod (Eq T) w1 Wx) [(0,true),(1,true),(2,true),(4,true),(5,true),(6,true),(8,true),(9,true),(10,true),(12,true),(13,true),(14,true),(3,false),(7,false),(11,false),(15,false),(16,true),(17,false)] (Mod.drew0 (Eq T) w1) ?_;simp only [zah,List.map_cons,List.map_nil,List.getD_cons_zero,List.getD_cons_succ];have hy0:=Y (Mod.drew0 (Eq T) w1);have hTz1:=Y (show w1.drew.heap[T]?=_ from hTz.o)
  iterate 12 (refine zav (by rfl) ?_ (fun w' hC=>?_) ?_;rotate_left;(have q_p0:=hC.cell p0.o (fun h=>hTb h);have q_p1:=hC.cell p1.o (fun h=>hTb h);have q_p2:=hC.cell p2.o (fun h=>hTb h);have q_p3:=hC.cell p3.o (fun h=>hTb h);go_simp;try with_reducible rfl);try simp only [Act.put,sA,sZ,sS])
  refine zak (by rfl) (fun K hK=>?_);go_simp;refine (nA.o _).mono ?_;rintro e v1 ⟨rfl,rfl⟩;refine hK.o _ _ hy0.o ?_;have hy1:=hy0;clear hK K;try simp only [Act.put,sA,sZ,sS]
  refine zak (by rfl) (fun K hK=>?_);go_simp;refine (nB.o _).mono ?_;rintro e v2 ⟨ai,ci,rfl,hI,hxn⟩;refine hK.o _ _ (hy1.o.then hxn (fun _ _ h=>h.elim)) ?_;have hy2:=Y (hy1.o.then hxn (fun _ _ h=>h.elim));have hTz2:=Y (hxn.at hTz1.o id);have hI2:=Y hI;have hsz2:w1.heap.size<=v2.heap.size:=hy2.o.size;clear hK K hxn hI;try simp only [Act.put,sA,sZ,sS]
  refine zak (by rfl) (fun K hK=>?_);go_simp;refine (nC.o _).mono ?_;rintro e v3 ⟨rfl,rfl⟩;refine hK.o _ _ hy2.o ?_;have hy3:=hy2;clear hK K;try simp only [Act.put,sA,sZ,sS]
  refine zak (by rfl) (fun K hK=>?_);go_simp;refine (nD.o _).mono ?_;rintro e v4 ⟨rfl,rfl⟩;refine hK.o _ _ hy3.o ?_;have hy4:=hy3;clear hK K;try simp only [Act.put,sA,sZ,sS]
  refine zav (by rfl) ?_ (fun w' hC=>?_) ?_;rotate_left;(have q_p0:=hC.cell p0.o (fun h=>hTb h);have q_p1:=hC.cell p1.o (fun h=>hTb h);have q_p2:=hC.cell p2.o (fun h=>hTb h);have q_p3:=hC.cell p3.o (fun h=>hTb h);go_simp;try with_reducible rfl);try simp only [Act.put,sA,sZ,sS]
  refine zak (by rfl) (fun K hK=>?_);refine zbf 26 _ _ rfl T _ _ 26 rfl rfl hTz2.o rfl (by kernel_rfl) rfl (fun WS HS=>hK.o _ _ (hy2.o.trans HS.o.2) ?_);have hTS:=Y HS.o.1;have hIS:=Y (hI2.o.mod HS.o.2 (fun k h1 h2=>by have h3:T=k:=h2;have h4:w1.drew.heap.size<=k:=h1.1;have:w1.heap.size<=k:=h4;omega));have hmS:=Y (hy2.o.trans HS.o.2);have hszS:v2.heap.size<=WS.heap.size:=HS.o.2.size;clear hK K HS hTz2 hI2;try simp only [Act.put]
  refine zar ?_;go_wp2_with fail
  refine bodyPost_ret (results_cell_row rfl _ _ T _ _ _ _ rfl hTS.o Tryz.underlying26 rfl (by kernel_rfl)) rfl ?_;rw [hl.o];refine ⟨ai,_,ci,rfl,hIS.o.mono (fun k hk=>⟨?_,?_⟩),?_⟩
  ·have h4:w1.drew.heap.size<=k:=hk.1
   have:w1.heap.size<=k:=h4;have:=hx01.o.size;omega
  ·have:=hk.2
   omega
  ·exact (hx01.o.mono (T:=fun k=>w.heap.size<=k) (fun _ h=>h.elim)).then hmS.o (fun k _ e=>by have:T=k:=e;omega) |>.mono' (fun k h1 h2=>by have:=hT.o;omega)
 ·have hl0:l=Lb.zero:=by
   rw [hl.o];rcases L with _ | ⟨a,_ | ⟨b,_ | ⟨c,_ | ⟨d,_ | ⟨e,r⟩⟩⟩⟩⟩ <;> first | rfl | (exfalso;exact h4 rfl)
  have hn4:¬ (L.length:Int)=4:=by omega
  have hn4b:((L.length:Int) !=4)=true:=by rw [bne_iff_ne];exact hn4
  replace hl0:=Y hl0;generalize hLn:L.length=n at hn4 hn4b hr ⊢;replace hLn:=Y hLn;clear h4;go_wp2_with (refine zab rfl 26 _ _ rfl T _ _ 26 rfl rfl hTz.o rfl (by kernel_rfl) rfl (fun WS HS=>?_))
  refine bodyPost_ret (results_cell_row rfl _ _ T _ _ _ _ rfl HS.o.1 Tryz.underlying26 rfl (by kernel_rfl)) rfl ?_;rw [hl0.o];exact ⟨none,0,0,rfl,zac.nil _ _ _,((hx01.o.mono (T:=fun k=>w.heap.size<=k) (fun _ h=>h.elim)).then HS.o.2 (fun k _ e=>by have:T=k:=e;omega)).mono' (fun k h1 h2=>by have:=hT.o;omega)⟩
def FoE (w w':World) (e:Ending) (D:Option Fc):Prop:=match D with
 | some f=>∃ a1 n1 c1 a2 n2 c2 a3 n3 c3,e=.returned (.tuple #[.agg (fcA a1 n1 c1 a2 n2 c2 a3 n3 c3 f),.bool true])/\FcAt (fun k=>w.heap.size<=k/\k < w'.heap.size) w' ⟨.slice a1 n1 c1,.slice a2 n2 c2,.slice a3 n3 c3⟩ f
 | none=>e=.returned (.tuple #[.agg zF9,.bool false])
def FoP (w:World) (D:Option Fc) (e:Ending) (w':World):Prop:=Ext w w'/\FoE w w' e D
theorem znP {w w':World} {e:Ending} {s:Bs} (h:DbE w e w' (zdm s)):∃ (a2:Option Addr) (n2 c2:Nat) (er:Int),e=.returned (.tuple #[.slice a2 n2 c2,.int .i64 er])/\zaE (fun k=>w.heap.size<=k/\k < w'.heap.size) w' (.slice a2 n2 c2) (zeO s):=by
 unfold zeO;cases hd:zdm s with
 | ok l=>rw [hd] at h;obtain ⟨ao,cap,rfl,hb⟩:=h;exact ⟨ao,_,cap,0,rfl,hb⟩
 | error c=>rw [hd] at h;obtain ⟨c,-,rfl⟩:=h;exact ⟨none,0,0,c,rfl,[],rfl,zac.nil _ _ _,fun p hp=>by cases hp⟩
theorem zht:∀ (n:Nat) (s:Bs),s.length<=n -> (zcz s).length<=s.length
 | _,[],_=>Nat.le_refl _
 | _,[_],_=>Nat.zero_le _
 | 0,_::_::_,h=>by simp at h
 | n+1,a::b::r,h=>by
  have:=zht n r (by simp at h;omega);simp only [zcz,List.length_cons];omega
theorem ze5 (s:Bs):(zbJ s).length<=s.length:=by
 unfold zbJ;split
 ·simp
 ·exact zht _ s (Nat.le_refl _)
theorem zeg {F:Nat -> Prop} {w:World} {ao:Option Addr} {n cap:Nat} {l:List Bs} (h:zbC F w (.slice ao n cap) l) (hl:1<=l.length):n=l.length/\∃ b off,ao=some ⟨b,off,none⟩/\F b/\∀ i (hi:i < l.length),w.cell? ⟨b,off+i,none⟩=some (.string ⟨l[i].toArray⟩):=by
 obtain ⟨b,off,cc,e0,hF,-⟩:=zac.get h 1 zaC (by decide) (j:=0) (by omega);injection e0 with e1 e2 e3
 subst e1;refine ⟨e2,b,off,rfl,hF,fun i hi=>?_⟩;obtain ⟨b',off',cc',e0,-,hc⟩:=zac.get h 1 zaC (by decide) hi;injection e0 with e1 _ _
 injection e1 with e1;injection e1 with e1 e2 _
 subst e1 e2;have:=hc 0 (.string ⟨l[i].toArray⟩) (by decide) rfl;simpa only [Nat.mul_one,Nat.add_zero] using this
theorem zi2 {F:Nat -> Prop} (ao:Option Addr) (cap:Nat) (l:List Bs) (w:World) (h:zbC F w (.slice ao l.length cap) l) (hF:∀ k,F k -> k < w.heap.size) (hl1:1<=l.length) (hl2:l.length<=100) (hle:∀ x ∈ l,x.length<=1000000)
  (hc:∀ j fm,zbt (l.headD []) 0 forms=some (j,fm) -> j < 9 -> l.length=ziv j):
  Calls Tryz.prog 84 #[.slice ao l.length cap] w (FoP w (zom l)):=by
 obtain ⟨D,hD⟩:∃ D,D=zom l:=⟨_,rfl⟩;have hFo:Hid (∀ e w',FoP w D e w'=(Ext w w'/\FoE w w' e D)):=Y (fun e w'=>rfl);rw [<- hD];obtain ⟨-,bk,off,rfl,hFb,hcl⟩:=zeg h hl1;obtain ⟨U,hU⟩:∃ U,U=w.heap.size:=⟨_,rfl⟩;have hwU:w.heap.size<=U:=Nat.le_of_eq hU.symm;have hUb:U ≠ bk:=by have:=hF bk hFb;omega
 have hx0':=Y (Mod.alloc (Mod.refl (fun _=>False) w) (.cells zF9 28));have uz:=Y (heap_alloc_new w (.cells zF9 28));have hsz0:U+1<=(w.alloc (.cells zF9 28)).heap.size:=by rw [World.size_alloc,hU];exact Nat.le_refl _
 rw [<- hU] at uz;replace hcl:=Y (fun i (hi:i < l.length)=>hx0'.o.cell (hcl i hi) id);obtain ⟨x0,hx0⟩:∃ x0,x0=l.headD []:=⟨_,rfl⟩;have hx00:x0=l[0]:=by rw [hx0];rcases l with _ | ⟨y,r⟩ <;> first | rfl | simp at hl1
 obtain ⟨T,hT⟩:∃ T:ByteArray,T=⟨x0.toArray⟩:=⟨_,rfl⟩;have hTl:T.toList=x0:=by rw [hT,ByteArray.toList_eq]
 obtain ⟨m,hm⟩:∃ m,m=if l.length=1 then 0 else 1:=⟨_,rfl⟩
 have hml:m < l.length:=by rw [hm];split <;> omega
 have hmn:min (1:Int) ((l.length:Int) - 1)=(m:Int):=by rw [hm];split <;> omega
 have p0:=hcl.o 0 hl1;rw [<- hx00,<- hT,Nat.add_zero] at p0;have pm:=hcl.o m hml;obtain ⟨xm,hxm⟩:∃ xm,xm=l[m]:=⟨_,rfl⟩;rw [<- hxm] at pm;have nm:=Y (fun W=>zba xm (by rw [hxm];exact hle _ (List.getElem_mem _)) W);obtain ⟨nv,hnv⟩:∃ nv,nv=zbu xm:=⟨_,rfl⟩;rw [<- hnv] at nm;obtain ⟨L,hL⟩:∃ L,L=l.length:=⟨_,rfl⟩;have hLw:IntKind.i64.wrap ((L:Int) - 1)=(L:Int) - 1:=IntWalk.i64_in _ (by omega);rw [<- hL] at hmn hml ⊢;have hmi:(m:Int) < (L:Int):=by omega
 have hL0:(0:Int) < (L:Int):=by omega
 obtain ⟨XM,hXM⟩:∃ XM:ByteArray,XM=⟨xm.toArray⟩:=⟨_,rfl⟩;rw [<- hXM] at pm nm;replace hx0:=Y hx0;replace hx00:=Y hx00;replace hT:=Y hT;replace hTl:=Y hTl;replace hm:=Y hm;replace hxm:=Y hxm;replace hnv:=Y hnv;replace hL:=Y hL;replace hXM:=Y hXM;replace hD:=Y hD;replace hle:=Y hle;replace hc:=Y hc;replace hU:=Y hU;replace h:=Y h;go_enter Tryz.func84,Tryz.ntmps84;go_upto_region 1 with fail
 generalize (w.alloc _)=w0 at hx0' uz hsz0 hcl p0 pm ⊢;try rw [<- hU.o]
 go_wp2_with fail
 refine (nm.o _).mono ?_;rintro e w' ⟨rfl,rfl⟩;clear nm pm;go_upto_region 3 with fail
 clear p0 hmn hml hLw hmi hL0
 by_cases g1:x0=Scr.fRevise
 ·have pb:(T.toList==[114,101,118,105,115,101])=true:=by rw [hTl.o,g1];rfl
  have hn10:l.length=10:=hc.o 0 _ (by rw [<- hx0.o,g1];rfl) (by decide);have hLn:L=10:=hL.o.trans hn10;subst hLn;obtain ⟨x1,x2,x3,x4,x5,x6,x7,x8,x9,rfl⟩:∃ x1 x2 x3 x4 x5 x6 x7 x8 x9,l=x0::[x1,x2,x3,x4,x5,x6,x7,x8,x9]:=by
   have h0:=hx0.o;rcases l with _ | ⟨y0,_ | ⟨y1,_ | ⟨y2,_ | ⟨y3,_ | ⟨y4,_ | ⟨y5,_ | ⟨y6,_ | ⟨y7,_ | ⟨y8,_ | ⟨y9,_ | ⟨y10,r⟩⟩⟩⟩⟩⟩⟩⟩⟩⟩⟩ <;> simp at hn10
   simp only [List.headD_cons] at h0;subst h0;exact ⟨_,_,_,_,_,_,_,_,_,rfl⟩
  have hf:D=some { Fc.zero with kd:=1,st:=nv,lg:=x2,rv:=zbu x3,bs:=zbu x4,au:=x5,tp:=zbI x6,lb:=zc8 x7,bl:=zeO (zbJ x8),ti:=x9 }:=by
   rw [hD.o];try rw [hnv.o]
   have hm1:m=1:=hm.o;subst hm1;try rw [hxm.o]
   rw [g1]
   rfl
  have p2:=Y (show w0.cell? ⟨bk,off+2,none⟩=some (.string ⟨x2.toArray⟩) from hcl.o 2 (by simp));have p3:=Y (show w0.cell? ⟨bk,off+3,none⟩=some (.string ⟨x3.toArray⟩) from hcl.o 3 (by simp));have p4:=Y (show w0.cell? ⟨bk,off+4,none⟩=some (.string ⟨x4.toArray⟩) from hcl.o 4 (by simp));have p5:=Y (show w0.cell? ⟨bk,off+5,none⟩=some (.string ⟨x5.toArray⟩) from hcl.o 5 (by simp));have p6:=Y (show w0.cell? ⟨bk,off+6,none⟩=some (.string ⟨x6.toArray⟩) from hcl.o 6 (by simp));have p7:=Y (show w0.cell? ⟨bk,off+7,none⟩=some (.string ⟨x7.toArray⟩) from hcl.o 7 (by simp));have p9:=Y (show w0.cell? ⟨bk,off+9,none⟩=some (.string ⟨x9.toArray⟩) from hcl.o 9 (by simp));have p8:=Y (show w0.cell? ⟨bk,off+8,none⟩=some (.string ⟨x8.toArray⟩) from hcl.o 8 (by simp));have n3:=Y (fun W=>zba x3 (hle.o x3 (by simp)) W);generalize hv3:zbu x3=v3 at n3 hf;have n4:=Y (fun W=>zba x4 (hle.o x4 (by simp)) W);generalize hv4:zbu x4=v4 at n4 hf;have n6:=Y (fun W=>zgq x6 (hle.o x6 (by simp)) W);generalize hv6:zbI x6=v6 at n6 hf;have n7:=Y (fun W=>zeJ x7 (hle.o x7 (by simp)) W);generalize hv7:zc8 x7=v7 at n7 hf;have n8:=Y (fun W=>zeu x8 (hle.o x8 (by simp)) W);have hl8:=ze5 x8;have hl8':=hle.o x8 (by simp);generalize hv8:zbJ x8=v8 at n8 hf hl8;have nD:=Y (fun W=>zi5 v8 (by omega) W);replace hf:=Y hf;clear hv3;clear hv4;clear hv6;clear hv7;clear hv8;replace g1:=Y g1;clear hcl hle hn10 hc;go_upto_region 4 with fail
  have q8:=p8.o;go_wp2_with fail
  refine (n8.o _).mono ?_;rintro e w2 ⟨rfl,hxn⟩;have hx2:=Y (hx0'.o.trans hxn);replace uz:=Y (hxn.at uz.o id);have hz2:=Y hxn.size;replace p2:=Y (hxn.cell p2.o id);replace p3:=Y (hxn.cell p3.o id);replace p4:=Y (hxn.cell p4.o id);replace p5:=Y (hxn.cell p5.o id);replace p6:=Y (hxn.cell p6.o id);replace p7:=Y (hxn.cell p7.o id);replace p9:=Y (hxn.cell p9.o id);clear hxn q8 p8 n8;go_wp2_with fail
  refine (nD.o _).mono ?_;rintro e w3 ⟨hxn,hd⟩;obtain ⟨a2,n2,c2,er,rfl,hr2⟩:=znP hd;have hx3:=Y (hx2.o.trans hxn);replace uz:=Y (hxn.at uz.o id);have hz3:=Y hxn.size;replace hr2:=Y (hr2.mono (F':=fun k=>U+1<=k/\k < w3.heap.size) (fun k hk=>⟨by have:=hz2.o;omega,hk.2⟩));replace p2:=Y (hxn.cell p2.o id);replace p3:=Y (hxn.cell p3.o id);replace p4:=Y (hxn.cell p4.o id);replace p5:=Y (hxn.cell p5.o id);replace p6:=Y (hxn.cell p6.o id);replace p7:=Y (hxn.cell p7.o id);replace p9:=Y (hxn.cell p9.o id);clear hxn hd nD hx2;go_upto_region 5 with fail
  try simp only [List.append_eq,List.cons_append,List.nil_append]
  refine rS (fun Wx=>Mod (Eq U) w3 Wx) [(0,true),(1,true),(2,true),(3,true),(4,true),(5,true),(6,true),(8,true),(9,true),(10,true),(12,true),(13,true),(14,true),(15,true),(16,true),(17,true),(19,true),(20,true),(21,true),(23,true),(24,true),(25,true),(26,true),(7,false),(11,false),(18,false),(22,false),(27,true),(28,false),(29,true)] (Mod.drew0 (Eq U) w3) ?_;simp only [zah,List.map_cons,List.map_nil,List.getD_cons_zero,List.getD_cons_succ];have hy:=Y (Mod.drew0 (Eq U) w3);replace uz:=Y (show w3.drew.heap[U]?=_ from uz.o);have hq:=Y (fun W' (hC:Mod (Eq U) w3 W')=>And.intro (hC.cell p2.o (fun h=>hUb h)) (And.intro (hC.cell p3.o (fun h=>hUb h)) (And.intro (hC.cell p4.o (fun h=>hUb h)) (And.intro (hC.cell p5.o (fun h=>hUb h)) (And.intro (hC.cell p6.o (fun h=>hUb h)) (And.intro (hC.cell p7.o (fun h=>hUb h)) (hC.cell p9.o (fun h=>hUb h))))))))
  iterate 23 (refine zav (by rfl) ?_ (fun w' hC=>?_) ?_;rotate_left;(obtain ⟨q2,q3,q4,q5,q6,q7,q9⟩:=hq.o _ hC;go_simp;try with_reducible rfl);try simp only [Act.put,sA,sZ,sS])
  refine zak (by rfl) (fun K hK=>?_);go_simp;refine (n3.o _).mono ?_;rintro e u7 ⟨rfl,rfl⟩;refine hK.o _ _ hy.o ?_;clear hK K;try simp only [Act.put,sA,sZ,sS]
  refine zak (by rfl) (fun K hK=>?_);go_simp;refine (n4.o _).mono ?_;rintro e u11 ⟨rfl,rfl⟩;refine hK.o _ _ hy.o ?_;clear hK K;try simp only [Act.put,sA,sZ,sS]
  refine zak (by rfl) (fun K hK=>?_);go_simp;refine (n6.o _).mono ?_;rintro e u18 ⟨a1,c1,rfl,hr1,hxn⟩;refine hK.o _ _ (hy.o.then hxn (fun _ _ h=>h.elim)) ?_;replace hy:=Y (hy.o.then hxn (fun _ _ h=>h.elim));replace uz:=Y (hxn.at uz.o id);have hsz18:=Y hxn.size;replace hr1:=Y hr1;clear hK K hxn;try simp only [Act.put,sA,sZ,sS]
  refine zak (by rfl) (fun K hK=>?_);go_simp;refine (n7.o _).mono ?_;rintro e u22 ⟨a3,n3,c3,rfl,hr3,hxn⟩;refine hK.o _ _ (hy.o.then hxn (fun _ _ h=>h.elim)) ?_;replace hy:=Y (hy.o.then hxn (fun _ _ h=>h.elim));replace uz:=Y (hxn.at uz.o id);have hsz22:=Y hxn.size;replace hr1:=Y (hr1.o.ext hxn);replace hr3:=Y hr3;clear hK K hxn;try simp only [Act.put,sA,sZ,sS]
  refine zav (by rfl) ?_ (fun w' hC=>?_) ?_;rotate_left;(obtain ⟨q2,q3,q4,q5,q6,q7,q9⟩:=hq.o _ hC;go_simp;try with_reducible rfl);try simp only [Act.put,sA,sZ,sS]
  refine zak (by rfl) (fun K hK=>?_);refine zbf 28 _ _ rfl U _ _ 28 rfl rfl uz.o rfl (by kernel_rfl) rfl (fun WS HS=>hK.o _ _ (hy.o.trans HS.o.2) ?_);have hmS:=Y (hy.o.trans HS.o.2);have hm6:=Y HS.o.2;have hS1:=Y HS.o.1;clear hK K;try simp only [Act.put]
  refine zav (by rfl) ?_ (fun w' hC=>?_) ?_;rotate_left;(obtain ⟨q2,q3,q4,q5,q6,q7,q9⟩:=hq.o _ hC;go_simp;try with_reducible rfl);try simp only [Act.put,sA,sZ,sS]
  refine zar ?_;go_wp2_with fail
  have e1:=hz2.o;have e2:=hz3.o;have e3:w3.heap.size<=u18.heap.size:=by have:=hsz18.o;exact Nat.le_trans (show w3.heap.size<=w3.drew.heap.size from Nat.le_refl _) this
  have e4:=hsz22.o;have e5:=hm6.o.size;refine bodyPost_ret (zaf rfl _ _ U _ _ _ _ rfl hS1.o Tryz.underlying28 rfl (by kernel_rfl)) rfl ?_;rw [hFo.o,hf.o];exact ⟨zao (B:=U) hwU ((hx3.o.mono (T:=fun k=>U<=k) (fun _ h=>h.elim)).then hmS.o (fun k _ e=>by have:U=k:=e;omega)),a1,_,c1,a2,n2,c2,a3,n3,c3,rfl,⟨(hr1.o.mod hm6.o (fun k hk e=>by have:U=k:=e;have h3:w3.drew.heap.size=w3.heap.size:=rfl;have:=hk.1;omega)).mono (fun k hk=>⟨by have h3:w3.drew.heap.size=w3.heap.size:=rfl;have:=hk.1;omega,by have:=hk.2;omega⟩),(hr2.o.mod hmS.o (fun k hk e=>by have:U=k:=e;have:=hk.1;omega)).mono (fun k hk=>⟨by have:=hk.1;omega,by have:=hk.2;omega⟩),(hr3.o.mod hm6.o (fun k hk e=>by have:U=k:=e;have h3:w3.drew.heap.size=w3.heap.size:=rfl;have:=hk.1;omega)).mono (fun k hk=>⟨by have h3:w3.drew.heap.size=w3.heap.size:=rfl;have:=hk.1;omega,by have:=hk.2;omega⟩)⟩⟩
 have mb1:(T.toList==[114,101,118,105,115,101])=false:=by rw [hTl.o,beq_eq_false_iff_ne];exact g1
 replace g1:=Y g1
 by_cases g2:x0=Scr.fApprove
 ·have pb:(T.toList==[97,112,112,114,111,118,101])=true:=by rw [hTl.o,g2];rfl
  have hn10:l.length=3:=hc.o 1 _ (by rw [<- hx0.o,g2];rfl) (by decide);have hLn:L=3:=hL.o.trans hn10;subst hLn;obtain ⟨x1,x2,rfl⟩:∃ x1 x2,l=x0::[x1,x2]:=by
   have h0:=hx0.o;rcases l with _ | ⟨y0,_ | ⟨y1,_ | ⟨y2,_ | ⟨y3,r⟩⟩⟩⟩ <;> simp at hn10
   simp only [List.headD_cons] at h0;subst h0;exact ⟨_,_,rfl⟩
  have hf:D=some { Fc.zero with kd:=2,st:=nv,ed:=zbu x2 }:=by
   rw [hD.o];try rw [hnv.o]
   have hm1:m=1:=hm.o;subst hm1;try rw [hxm.o]
   rw [g2]
   rfl
  have p2:=Y (show w0.cell? ⟨bk,off+2,none⟩=some (.string ⟨x2.toArray⟩) from hcl.o 2 (by simp));have n2:=Y (fun W=>zba x2 (hle.o x2 (by simp)) W);generalize hv2:zbu x2=v2 at n2 hf;replace hf:=Y hf;clear hv2;replace g2:=Y g2;clear hcl hle hn10 hc;have q2:=p2.o;go_wp2_with fail
  refine (n2.o _).mono ?_;rintro e u ⟨rfl,rfl⟩;go_wp2_with (refine zab rfl 28 _ _ rfl U _ _ 28 rfl rfl uz.o rfl (by kernel_rfl) rfl (fun WS HS=>?_))
  refine bodyPost_ret (zaf rfl _ _ U _ _ _ _ rfl HS.o.1 Tryz.underlying28 rfl (by kernel_rfl)) rfl ?_;rw [hFo.o,hf.o];exact ⟨zao (B:=U) hwU ((hx0'.o.mono (T:=fun k=>U<=k) (fun _ h=>h.elim)).then HS.o.2 (fun k _ e=>by have:U=k:=e;omega)),none,0,0,none,0,0,none,0,0,rfl,⟨zac.nil _ _ _,⟨[],rfl,zac.nil _ _ _,fun p hp=>by cases hp⟩,zac.nil _ _ _⟩⟩
 have mb2:(T.toList==[97,112,112,114,111,118,101])=false:=by rw [hTl.o,beq_eq_false_iff_ne];exact g2
 replace g2:=Y g2
 by_cases g3:x0=Scr.fPublish
 ·have pb:(T.toList==[112,117,98,108,105,115,104])=true:=by rw [hTl.o,g3];rfl
  have hn10:l.length=3:=hc.o 2 _ (by rw [<- hx0.o,g3];rfl) (by decide);have hLn:L=3:=hL.o.trans hn10;subst hLn;obtain ⟨x1,x2,rfl⟩:∃ x1 x2,l=x0::[x1,x2]:=by
   have h0:=hx0.o;rcases l with _ | ⟨y0,_ | ⟨y1,_ | ⟨y2,_ | ⟨y3,r⟩⟩⟩⟩ <;> simp at hn10
   simp only [List.headD_cons] at h0;subst h0;exact ⟨_,_,rfl⟩
  have hf:D=some { Fc.zero with kd:=3,st:=nv,lb:=zc8 x2 }:=by
   rw [hD.o];try rw [hnv.o]
   have hm1:m=1:=hm.o;subst hm1;try rw [hxm.o]
   rw [g3]
   rfl
  have p2:=Y (show w0.cell? ⟨bk,off+2,none⟩=some (.string ⟨x2.toArray⟩) from hcl.o 2 (by simp));have n2:=Y (fun W=>zeJ x2 (hle.o x2 (by simp)) W);generalize hv2:zc8 x2=v2 at n2 hf;replace hf:=Y hf;clear hv2;replace g3:=Y g3;clear hcl hle hn10 hc;have q2:=p2.o;go_wp2_with fail
  refine (n2.o _).mono ?_;rintro e u ⟨a3,n3,c3,rfl,hr3,hxn⟩;replace uz:=Y (hxn.at uz.o id);have hx2:=Y (hx0'.o.trans hxn);have hz2:=Y hxn.size;replace hr3:=Y hr3;clear hxn q2;go_wp2_with (refine zab rfl 28 _ _ rfl U _ _ 28 rfl rfl uz.o rfl (by kernel_rfl) rfl (fun WS HS=>?_))
  have e2:=hz2.o;have e5:=HS.o.2.size;refine bodyPost_ret (zaf rfl _ _ U _ _ _ _ rfl HS.o.1 Tryz.underlying28 rfl (by kernel_rfl)) rfl ?_;rw [hFo.o,hf.o];exact ⟨zao (B:=U) hwU ((hx2.o.mono (T:=fun k=>U<=k) (fun _ h=>h.elim)).then HS.o.2 (fun k _ e=>by have:U=k:=e;omega)),none,0,0,none,0,0,a3,n3,c3,rfl,⟨zac.nil _ _ _,⟨[],rfl,zac.nil _ _ _,fun p hp=>by cases hp⟩,(hr3.o.mod HS.o.2 (fun k hk e=>by have:U=k:=e;have:=hk.1;omega)).mono (fun k hk=>⟨by have:=hk.1;omega,by have:=hk.2;omega⟩)⟩⟩
 have mb3:(T.toList==[112,117,98,108,105,115,104])=false:=by rw [hTl.o,beq_eq_false_iff_ne];exact g3
 replace g3:=Y g3
 by_cases g4:x0=Scr.fCorrect
 ·have pb:(T.toList==[99,111,114,114,101,99,116])=true:=by rw [hTl.o,g4];rfl
  have hn10:l.length=6:=hc.o 3 _ (by rw [<- hx0.o,g4];rfl) (by decide);have hLn:L=6:=hL.o.trans hn10;subst hLn;obtain ⟨x1,x2,x3,x4,x5,rfl⟩:∃ x1 x2 x3 x4 x5,l=x0::[x1,x2,x3,x4,x5]:=by
   have h0:=hx0.o;rcases l with _ | ⟨y0,_ | ⟨y1,_ | ⟨y2,_ | ⟨y3,_ | ⟨y4,_ | ⟨y5,_ | ⟨y6,r⟩⟩⟩⟩⟩⟩⟩ <;> simp at hn10
   simp only [List.headD_cons] at h0;subst h0;exact ⟨_,_,_,_,_,rfl⟩
  have hf:D=some { Fc.zero with kd:=4,st:=nv,lg:=x2,bk:=zbu x3,se:=zbu x4,tx:=x5 }:=by
   rw [hD.o];try rw [hnv.o]
   have hm1:m=1:=hm.o;subst hm1;try rw [hxm.o]
   rw [g4]
   rfl
  have p2:=Y (show w0.cell? ⟨bk,off+2,none⟩=some (.string ⟨x2.toArray⟩) from hcl.o 2 (by simp));have p3:=Y (show w0.cell? ⟨bk,off+3,none⟩=some (.string ⟨x3.toArray⟩) from hcl.o 3 (by simp));have p4:=Y (show w0.cell? ⟨bk,off+4,none⟩=some (.string ⟨x4.toArray⟩) from hcl.o 4 (by simp));have p5:=Y (show w0.cell? ⟨bk,off+5,none⟩=some (.string ⟨x5.toArray⟩) from hcl.o 5 (by simp));have n3:=Y (fun W=>zba x3 (hle.o x3 (by simp)) W);generalize hv3:zbu x3=v3 at n3 hf;have n4:=Y (fun W=>zba x4 (hle.o x4 (by simp)) W);generalize hv4:zbu x4=v4 at n4 hf;replace hf:=Y hf;clear hv3;clear hv4;replace g4:=Y g4;clear hcl hle hn10 hc;go_upto_region 11 with fail
  try simp only [List.append_eq,List.cons_append,List.nil_append]
  refine rS (fun Wx=>Mod (Eq U) w0 Wx) [(0,true),(1,true),(2,true),(3,true),(4,true),(5,true),(6,true),(8,true),(9,true),(10,true),(12,true),(13,true),(14,true),(7,false),(11,false),(15,true),(16,false),(17,true)] (Mod.drew0 (Eq U) w0) ?_;simp only [zah,List.map_cons,List.map_nil,List.getD_cons_zero,List.getD_cons_succ];have hy:=Y (Mod.drew0 (Eq U) w0);replace uz:=Y (show w0.drew.heap[U]?=_ from uz.o);have hq:=Y (fun W' (hC:Mod (Eq U) w0 W')=>And.intro (hC.cell p2.o (fun h=>hUb h)) (And.intro (hC.cell p3.o (fun h=>hUb h)) (And.intro (hC.cell p4.o (fun h=>hUb h)) (hC.cell p5.o (fun h=>hUb h)))))
  iterate 13 (refine zav (by rfl) ?_ (fun w' hC=>?_) ?_;rotate_left;(obtain ⟨q2,q3,q4,q5⟩:=hq.o _ hC;go_simp;try with_reducible rfl);try simp only [Act.put,sA,sZ,sS])
  refine zak (by rfl) (fun K hK=>?_);go_simp;refine (n3.o _).mono ?_;rintro e u7 ⟨rfl,rfl⟩;refine hK.o _ _ hy.o ?_;clear hK K;try simp only [Act.put,sA,sZ,sS]
  refine zak (by rfl) (fun K hK=>?_);go_simp;refine (n4.o _).mono ?_;rintro e u11 ⟨rfl,rfl⟩;refine hK.o _ _ hy.o ?_;clear hK K;try simp only [Act.put,sA,sZ,sS]
  refine zav (by rfl) ?_ (fun w' hC=>?_) ?_;rotate_left;(obtain ⟨q2,q3,q4,q5⟩:=hq.o _ hC;go_simp;try with_reducible rfl);try simp only [Act.put,sA,sZ,sS]
  refine zak (by rfl) (fun K hK=>?_);refine zbf 28 _ _ rfl U _ _ 28 rfl rfl uz.o rfl (by kernel_rfl) rfl (fun WS HS=>hK.o _ _ (hy.o.trans HS.o.2) ?_);have hmS:=Y (hy.o.trans HS.o.2);have hm6:=Y HS.o.2;have hS1:=Y HS.o.1;clear hK K;try simp only [Act.put]
  refine zav (by rfl) ?_ (fun w' hC=>?_) ?_;rotate_left;(obtain ⟨q2,q3,q4,q5⟩:=hq.o _ hC;go_simp;try with_reducible rfl);try simp only [Act.put,sA,sZ,sS]
  refine zar ?_;go_wp2_with fail
  refine bodyPost_ret (zaf rfl _ _ U _ _ _ _ rfl hS1.o Tryz.underlying28 rfl (by kernel_rfl)) rfl ?_;rw [hFo.o,hf.o];exact ⟨zao (B:=U) hwU ((hx0'.o.mono (T:=fun k=>U<=k) (fun _ h=>h.elim)).then hmS.o (fun k _ e=>by have:U=k:=e;omega)),none,0,0,none,0,0,none,0,0,rfl,⟨zac.nil _ _ _,⟨[],rfl,zac.nil _ _ _,fun p hp=>by cases hp⟩,zac.nil _ _ _⟩⟩
 have mb4:(T.toList==[99,111,114,114,101,99,116])=false:=by rw [hTl.o,beq_eq_false_iff_ne];exact g4
 replace g4:=Y g4
 by_cases g5:x0=Scr.fRetract
 ·have pb:(T.toList==[114,101,116,114,97,99,116])=true:=by rw [hTl.o,g5];rfl
  have hn10:l.length=3:=hc.o 4 _ (by rw [<- hx0.o,g5];rfl) (by decide);have hLn:L=3:=hL.o.trans hn10;subst hLn;obtain ⟨x1,x2,rfl⟩:∃ x1 x2,l=x0::[x1,x2]:=by
   have h0:=hx0.o;rcases l with _ | ⟨y0,_ | ⟨y1,_ | ⟨y2,_ | ⟨y3,r⟩⟩⟩⟩ <;> simp at hn10
   simp only [List.headD_cons] at h0;subst h0;exact ⟨_,_,rfl⟩
  have hf:D=some { Fc.zero with kd:=5,st:=nv,tx:=x2 }:=by
   rw [hD.o];try rw [hnv.o]
   have hm1:m=1:=hm.o;subst hm1;try rw [hxm.o]
   rw [g5]
   rfl
  have p2:=Y (show w0.cell? ⟨bk,off+2,none⟩=some (.string ⟨x2.toArray⟩) from hcl.o 2 (by simp));replace hf:=Y hf;replace g5:=Y g5;clear hcl hle hn10 hc;have q2:=p2.o;go_wp2_with (refine zab rfl 28 _ _ rfl U _ _ 28 rfl rfl uz.o rfl (by kernel_rfl) rfl (fun WS HS=>?_))
  refine bodyPost_ret (zaf rfl _ _ U _ _ _ _ rfl HS.o.1 Tryz.underlying28 rfl (by kernel_rfl)) rfl ?_;rw [hFo.o,hf.o];exact ⟨zao (B:=U) hwU ((hx0'.o.mono (T:=fun k=>U<=k) (fun _ h=>h.elim)).then HS.o.2 (fun k _ e=>by have:U=k:=e;omega)),none,0,0,none,0,0,none,0,0,rfl,⟨zac.nil _ _ _,⟨[],rfl,zac.nil _ _ _,fun p hp=>by cases hp⟩,zac.nil _ _ _⟩⟩
 have mb5:(T.toList==[114,101,116,114,97,99,116])=false:=by rw [hTl.o,beq_eq_false_iff_ne];exact g5
 replace g5:=Y g5
 by_cases g6:x0=Scr.fTakedown
 ·have pb:(T.toList==[116,97,107,101,100,111,119,110])=true:=by rw [hTl.o,g6];rfl
  have hn10:l.length=2:=hc.o 5 _ (by rw [<- hx0.o,g6];rfl) (by decide);have hLn:L=2:=hL.o.trans hn10;subst hLn;obtain ⟨x1,rfl⟩:∃ x1,l=x0::[x1]:=by
   have h0:=hx0.o;rcases l with _ | ⟨y0,_ | ⟨y1,_ | ⟨y2,r⟩⟩⟩ <;> simp at hn10
   simp only [List.headD_cons] at h0;subst h0;exact ⟨_,rfl⟩
  have hf:D=some { Fc.zero with kd:=6,st:=nv }:=by
   rw [hD.o];try rw [hnv.o]
   have hm1:m=1:=hm.o;subst hm1;try rw [hxm.o]
   rw [g6]
   rfl
  replace hf:=Y hf;replace g6:=Y g6;clear hcl hle hn10 hc;go_wp2_with (refine zab rfl 28 _ _ rfl U _ _ 28 rfl rfl uz.o rfl (by kernel_rfl) rfl (fun WS HS=>?_))
  refine bodyPost_ret (zaf rfl _ _ U _ _ _ _ rfl HS.o.1 Tryz.underlying28 rfl (by kernel_rfl)) rfl ?_;rw [hFo.o,hf.o];exact ⟨zao (B:=U) hwU ((hx0'.o.mono (T:=fun k=>U<=k) (fun _ h=>h.elim)).then HS.o.2 (fun k _ e=>by have:U=k:=e;omega)),none,0,0,none,0,0,none,0,0,rfl,⟨zac.nil _ _ _,⟨[],rfl,zac.nil _ _ _,fun p hp=>by cases hp⟩,zac.nil _ _ _⟩⟩
 have mb6:(T.toList==[116,97,107,101,100,111,119,110])=false:=by rw [hTl.o,beq_eq_false_iff_ne];exact g6
 replace g6:=Y g6
 by_cases g7:x0=Scr.fTemplate
 ·have pb:(T.toList==[116,101,109,112,108,97,116,101])=true:=by rw [hTl.o,g7];rfl
  have hn10:l.length=3:=hc.o 6 _ (by rw [<- hx0.o,g7];rfl) (by decide);have hLn:L=3:=hL.o.trans hn10;subst hLn;obtain ⟨x1,x2,rfl⟩:∃ x1 x2,l=x0::[x1,x2]:=by
   have h0:=hx0.o;rcases l with _ | ⟨y0,_ | ⟨y1,_ | ⟨y2,_ | ⟨y3,r⟩⟩⟩⟩ <;> simp at hn10
   simp only [List.headD_cons] at h0;subst h0;exact ⟨_,_,rfl⟩
  have hf:D=some { Fc.zero with kd:=7,nm:=x1,tx:=zbJ x2 }:=by
   rw [hD.o];try rw [hnv.o]
   have hm1:m=1:=hm.o;subst hm1;try rw [hxm.o]
   rw [g7]
   rfl
  have p1:=Y (show w0.cell? ⟨bk,off+1,none⟩=some (.string ⟨x1.toArray⟩) from hcl.o 1 (by simp));have p2:=Y (show w0.cell? ⟨bk,off+2,none⟩=some (.string ⟨x2.toArray⟩) from hcl.o 2 (by simp));have n2:=Y (fun W=>zeu x2 (hle.o x2 (by simp)) W);generalize hv2:zbJ x2=v2 at n2 hf;replace hf:=Y hf;clear hv2;replace g7:=Y g7;clear hcl hle hn10 hc;go_upto_region 17 with fail
  try simp only [List.append_eq,List.cons_append,List.nil_append]
  refine rS (fun Wx=>Mod (Eq U) w0 Wx) [(0,true),(1,true),(2,true),(3,true),(4,true),(5,true),(6,false),(7,true),(8,false),(9,true)] (Mod.drew0 (Eq U) w0) ?_;simp only [zah,List.map_cons,List.map_nil,List.getD_cons_zero,List.getD_cons_succ];have hy:=Y (Mod.drew0 (Eq U) w0);replace uz:=Y (show w0.drew.heap[U]?=_ from uz.o);have hq:=Y (fun W' (hC:Mod (Eq U) w0 W')=>And.intro (hC.cell p1.o (fun h=>hUb h)) (hC.cell p2.o (fun h=>hUb h)))
  iterate 6 (refine zav (by rfl) ?_ (fun w' hC=>?_) ?_;rotate_left;(obtain ⟨q1,q2⟩:=hq.o _ hC;go_simp;try with_reducible rfl);try simp only [Act.put,sA,sZ,sS])
  refine zak (by rfl) (fun K hK=>?_);go_simp;refine (n2.o _).mono ?_;rintro e u6 ⟨rfl,hxn⟩;refine hK.o _ _ (hy.o.then hxn (fun _ _ h=>h.elim)) ?_;replace hy:=Y (hy.o.then hxn (fun _ _ h=>h.elim));replace uz:=Y (hxn.at uz.o id);have hsz6:=Y hxn.size;clear hK K hxn;try simp only [Act.put,sA,sZ,sS]
  refine zav (by rfl) ?_ (fun w' hC=>?_) ?_;rotate_left;(obtain ⟨q1,q2⟩:=hq.o _ hC;go_simp;try with_reducible rfl);try simp only [Act.put,sA,sZ,sS]
  refine zak (by rfl) (fun K hK=>?_);refine zbf 28 _ _ rfl U _ _ 28 rfl rfl uz.o rfl (by kernel_rfl) rfl (fun WS HS=>hK.o _ _ (hy.o.trans HS.o.2) ?_);have hmS:=Y (hy.o.trans HS.o.2);have hm6:=Y HS.o.2;have hS1:=Y HS.o.1;clear hK K;try simp only [Act.put]
  refine zav (by rfl) ?_ (fun w' hC=>?_) ?_;rotate_left;(obtain ⟨q1,q2⟩:=hq.o _ hC;go_simp;try with_reducible rfl);try simp only [Act.put,sA,sZ,sS]
  refine zar ?_;go_wp2_with fail
  refine bodyPost_ret (zaf rfl _ _ U _ _ _ _ rfl hS1.o Tryz.underlying28 rfl (by kernel_rfl)) rfl ?_;rw [hFo.o,hf.o];exact ⟨zao (B:=U) hwU ((hx0'.o.mono (T:=fun k=>U<=k) (fun _ h=>h.elim)).then hmS.o (fun k _ e=>by have:U=k:=e;omega)),none,0,0,none,0,0,none,0,0,rfl,⟨zac.nil _ _ _,⟨[],rfl,zac.nil _ _ _,fun p hp=>by cases hp⟩,zac.nil _ _ _⟩⟩
 have mb7:(T.toList==[116,101,109,112,108,97,116,101])=false:=by rw [hTl.o,beq_eq_false_iff_ne];exact g7
 replace g7:=Y g7
 by_cases g8:x0=Scr.fPartner
 ·have pb:(T.toList==[112,97,114,116,110,101,114])=true:=by rw [hTl.o,g8];rfl
  have hn10:l.length=4:=hc.o 7 _ (by rw [<- hx0.o,g8];rfl) (by decide);have hLn:L=4:=hL.o.trans hn10;subst hLn;obtain ⟨x1,x2,x3,rfl⟩:∃ x1 x2 x3,l=x0::[x1,x2,x3]:=by
   have h0:=hx0.o;rcases l with _ | ⟨y0,_ | ⟨y1,_ | ⟨y2,_ | ⟨y3,_ | ⟨y4,r⟩⟩⟩⟩⟩ <;> simp at hn10
   simp only [List.headD_cons] at h0;subst h0;exact ⟨_,_,_,rfl⟩
  have hf:D=some { Fc.zero with kd:=8,pa:=nv,cl:=zbu x2,un:=zbu x3 }:=by
   rw [hD.o];try rw [hnv.o]
   have hm1:m=1:=hm.o;subst hm1;try rw [hxm.o]
   rw [g8]
   rfl
  have p2:=Y (show w0.cell? ⟨bk,off+2,none⟩=some (.string ⟨x2.toArray⟩) from hcl.o 2 (by simp));have p3:=Y (show w0.cell? ⟨bk,off+3,none⟩=some (.string ⟨x3.toArray⟩) from hcl.o 3 (by simp));have n2:=Y (fun W=>zba x2 (hle.o x2 (by simp)) W);generalize hv2:zbu x2=v2 at n2 hf;have n3:=Y (fun W=>zba x3 (hle.o x3 (by simp)) W);generalize hv3:zbu x3=v3 at n3 hf;replace hf:=Y hf;clear hv2;clear hv3;replace g8:=Y g8;clear hcl hle hn10 hc;go_upto_region 19 with fail
  try simp only [List.append_eq,List.cons_append,List.nil_append]
  refine rS (fun Wx=>Mod (Eq U) w0 Wx) [(0,true),(1,true),(2,true),(3,true),(5,true),(6,true),(7,true),(4,false),(8,false),(9,true),(10,false),(11,true)] (Mod.drew0 (Eq U) w0) ?_;simp only [zah,List.map_cons,List.map_nil,List.getD_cons_zero,List.getD_cons_succ];have hy:=Y (Mod.drew0 (Eq U) w0);replace uz:=Y (show w0.drew.heap[U]?=_ from uz.o);have hq:=Y (fun W' (hC:Mod (Eq U) w0 W')=>And.intro (hC.cell p2.o (fun h=>hUb h)) (hC.cell p3.o (fun h=>hUb h)))
  iterate 7 (refine zav (by rfl) ?_ (fun w' hC=>?_) ?_;rotate_left;(obtain ⟨q2,q3⟩:=hq.o _ hC;go_simp;try with_reducible rfl);try simp only [Act.put,sA,sZ,sS])
  refine zak (by rfl) (fun K hK=>?_);go_simp;refine (n2.o _).mono ?_;rintro e u4 ⟨rfl,rfl⟩;refine hK.o _ _ hy.o ?_;clear hK K;try simp only [Act.put,sA,sZ,sS]
  refine zak (by rfl) (fun K hK=>?_);go_simp;refine (n3.o _).mono ?_;rintro e u8 ⟨rfl,rfl⟩;refine hK.o _ _ hy.o ?_;clear hK K;try simp only [Act.put,sA,sZ,sS]
  refine zav (by rfl) ?_ (fun w' hC=>?_) ?_;rotate_left;(obtain ⟨q2,q3⟩:=hq.o _ hC;go_simp;try with_reducible rfl);try simp only [Act.put,sA,sZ,sS]
  refine zak (by rfl) (fun K hK=>?_);refine zbf 28 _ _ rfl U _ _ 28 rfl rfl uz.o rfl (by kernel_rfl) rfl (fun WS HS=>hK.o _ _ (hy.o.trans HS.o.2) ?_);have hmS:=Y (hy.o.trans HS.o.2);have hm6:=Y HS.o.2;have hS1:=Y HS.o.1;clear hK K;try simp only [Act.put]
  refine zav (by rfl) ?_ (fun w' hC=>?_) ?_;rotate_left;(obtain ⟨q2,q3⟩:=hq.o _ hC;go_simp;try with_reducible rfl);try simp only [Act.put,sA,sZ,sS]
  refine zar ?_;go_wp2_with fail
  refine bodyPost_ret (zaf rfl _ _ U _ _ _ _ rfl hS1.o Tryz.underlying28 rfl (by kernel_rfl)) rfl ?_;rw [hFo.o,hf.o];exact ⟨zao (B:=U) hwU ((hx0'.o.mono (T:=fun k=>U<=k) (fun _ h=>h.elim)).then hmS.o (fun k _ e=>by have:U=k:=e;omega)),none,0,0,none,0,0,none,0,0,rfl,⟨zac.nil _ _ _,⟨[],rfl,zac.nil _ _ _,fun p hp=>by cases hp⟩,zac.nil _ _ _⟩⟩
 have mb8:(T.toList==[112,97,114,116,110,101,114])=false:=by rw [hTl.o,beq_eq_false_iff_ne];exact g8
 replace g8:=Y g8
 by_cases g9:x0=Scr.fLease
 ·have pb:(T.toList==[108,101,97,115,101])=true:=by rw [hTl.o,g9];rfl
  have hn10:l.length=3:=hc.o 8 _ (by rw [<- hx0.o,g9];rfl) (by decide);have hLn:L=3:=hL.o.trans hn10;subst hLn;obtain ⟨x1,x2,rfl⟩:∃ x1 x2,l=x0::[x1,x2]:=by
   have h0:=hx0.o;rcases l with _ | ⟨y0,_ | ⟨y1,_ | ⟨y2,_ | ⟨y3,r⟩⟩⟩⟩ <;> simp at hn10
   simp only [List.headD_cons] at h0;subst h0;exact ⟨_,_,rfl⟩
  have hf:D=some { Fc.zero with kd:=9,pa:=nv,un:=zbu x2 }:=by
   rw [hD.o];try rw [hnv.o]
   have hm1:m=1:=hm.o;subst hm1;try rw [hxm.o]
   rw [g9]
   rfl
  have p2:=Y (show w0.cell? ⟨bk,off+2,none⟩=some (.string ⟨x2.toArray⟩) from hcl.o 2 (by simp));have n2:=Y (fun W=>zba x2 (hle.o x2 (by simp)) W);generalize hv2:zbu x2=v2 at n2 hf;replace hf:=Y hf;clear hv2;replace g9:=Y g9;clear hcl hle hn10 hc;have q2:=p2.o;go_wp2_with fail
  refine (n2.o _).mono ?_;rintro e u ⟨rfl,rfl⟩;go_wp2_with (refine zab rfl 28 _ _ rfl U _ _ 28 rfl rfl uz.o rfl (by kernel_rfl) rfl (fun WS HS=>?_))
  refine bodyPost_ret (zaf rfl _ _ U _ _ _ _ rfl HS.o.1 Tryz.underlying28 rfl (by kernel_rfl)) rfl ?_;rw [hFo.o,hf.o];exact ⟨zao (B:=U) hwU ((hx0'.o.mono (T:=fun k=>U<=k) (fun _ h=>h.elim)).then HS.o.2 (fun k _ e=>by have:U=k:=e;omega)),none,0,0,none,0,0,none,0,0,rfl,⟨zac.nil _ _ _,⟨[],rfl,zac.nil _ _ _,fun p hp=>by cases hp⟩,zac.nil _ _ _⟩⟩
 have mb9:(T.toList==[108,101,97,115,101])=false:=by rw [hTl.o,beq_eq_false_iff_ne];exact g9
 replace g9:=Y g9;have hf:=Y (show D=none by rw [hD.o];exact zlc hx0.o g1.o g2.o g3.o g4.o g5.o g6.o g7.o g8.o g9.o);go_wp2_with (refine zab rfl 28 _ _ rfl U _ _ 28 rfl rfl uz.o rfl (by kernel_rfl) rfl (fun WS HS=>?_))
 refine bodyPost_ret (zaf rfl _ _ U _ _ _ _ rfl HS.o.1 Tryz.underlying28 rfl (by kernel_rfl)) rfl ?_;rw [hFo.o,hf.o];exact ⟨zao (B:=U) hwU ((hx0'.o.mono (T:=fun k=>U<=k) (fun _ h=>h.elim)).then HS.o.2 (fun k _ e=>by have:U=k:=e;omega)),rfl⟩
end Go.Proofs.YtjjfphalcibjfaaGreatDoor
