import Derived.Test.YtjjfphalcibjfaaGreatDoorC16
import Derived.Test.YtjjfphalcibjfaaGreatDoorC4
import Derived.Test.YtjjfphalcibjfaaGreatDoorAppend
import Derived.RangeFuncNested
import Derived.RangeFuncBound
import Derived.Shelf.RegionOpen
import Derived.OwnWalkIn
import Derived.Test.YtjjfphalcibjfaaGreatDoorC14
import Derived.Test.YtjjfphalcibjfaaGreatDoorC0
import Derived.OrdersIn
set_option maxRecDepth 100000
set_option maxHeartbeats 16000000
namespace Go.Proofs.YtjjfphalcibjfaaGreatDoor
open Go.Shelf Go.RowKit Cdk Scr
def zbE (w:World) (R:Nat) (r:Rd):Prop:=w.heap[R]?=some (.cells #[.string ⟨r.rest.toArray⟩,.bool r.more,.bool r.bad] 106 (0,0))
theorem zbE.ext {w w':World} {R:Nat} {r:Rd} (h:zbE w R r) (hx:Ext w w'):zbE w' R r:=hx.at h id
theorem zbE.lt {w:World} {R:Nat} {r:Rd} (h:zbE w R r):R < w.heap.size:=zas h
abbrev RdM (R:Nat) (w w':World):Prop:=Mod (fun k=>k=R) w w'
theorem RdM.ofExt {R:Nat} {w w':World} (h:Ext w w'):RdM R w w':=h.mono (fun _ h=>h.elim)
theorem Gl.rd {R:Nat} {w w':World} (h:Gl w) (hR:10<=R) (hm:RdM R w w'):Gl w':=h.mod hm (fun k hk=>by omega)
theorem zn6 (s:Bs) (c:UInt8) (hs:s.length<=1000000) (w:World) (hG:Gl w):Calls Tryz.prog 80 #[.string ⟨s.toArray⟩,.string ⟨#[c]⟩] w fun e w'=>
  e=.returned (.tuple #[.string ⟨(zby c s).1.toArray⟩,.string ⟨(zby c s).2.1.toArray⟩,.bool (zby c s).2.2])/\Ext w w':=by
 obtain ⟨m,hm⟩:=hG.mx;have h:=Tryz.strings_Cut ⟨s.toArray⟩ ⟨#[c]⟩ m w (by show s.toArray.size < 4294967281;simp;omega) hm;have e:Lib.cut (⟨s.toArray⟩:ByteArray).data.toList (⟨#[c]⟩:ByteArray).data.toList=zby c s:=zfy c s;rw [e] at h;refine h.mono ?_;rintro e w' ⟨rfl,n,rfl⟩;exact ⟨rfl,(Mod.refl _ w).ofDrewN n⟩
theorem zb2 (R:Nat) (r:Rd) (w:World) (hG:Gl w) (h:zbE w R r) (hs:r.rest.length<=1000000):
  Calls Tryz.prog 81 #[.pointer (some ⟨R,0,none⟩)] w fun e w'=>e=.returned (.string ⟨(zaL r).1.toArray⟩)/\zbE w' R (zaL r).2/\RdM R w w':=by
 obtain ⟨rest,more,bad⟩:=r;unfold zbE at h;simp only at h hs;have c0:=cS h 0;have c1:=cS h 1;have c2:=cS h 2;have z:=zad h;cases more with
 | false=>
  have hp:=zai h 2 (.bool true);have hm:=(Mod.refl (fun k=>k=R) w).setCell (a:=⟨R,2,none⟩) (fun _=>rfl) (.bool true);replace h:=Y h;replace hp:=Y hp;replace hm:=Y hm;go_enter Tryz.func81,Tryz.ntmps81;go_wp2_with fail
  go_ret;exact ⟨rfl,hp.o,hm.o⟩
 | true=>
  have hc:=Y (zn6 rest 32 hs w hG);obtain ⟨q,hq⟩:∃ q,q=zby 32 rest:=⟨_,rfl⟩;rw [<- hq] at hc;have hw:zaL ⟨rest,true,bad⟩=(q.1,⟨q.2.1,q.2.2,bad⟩):=by unfold zaL;rw [if_pos rfl,hq]
  rw [hw];obtain ⟨q1,q2,q3⟩:=q;simp only at hc hw ⊢;replace h:=Y h;replace hw:=Y hw;replace hq:=Y hq;go_enter Tryz.func81,Tryz.ntmps81;go_wp2_with fail
  refine hc.o.mono ?_;rintro e w1 ⟨rfl,hx1⟩;have h1:=hx1.at h.o id;have d0:=cS h1 0;have d1:=cS h1 1;have z1:=zad h1;have p0:=zai h1 0 (.string ⟨q2.toArray⟩);have m0:=(RdM.ofExt (R:=R) hx1).setCell (a:=⟨R,0,none⟩) (fun _=>rfl) (.string ⟨q2.toArray⟩);have p1:=zai p0 1 (.bool q3);have m1:=m0.setCell (a:=⟨R,1,none⟩) (fun _=>rfl) (.bool q3);replace p1:=Y p1;replace m1:=Y m1;clear p0 m0 hx1 h1 c0 c1 c2 z hc;go_wp2_with fail
  go_ret;exact ⟨rfl,p1.o,m1.o⟩
theorem zgK (R:Nat) (r:Rd) (w:World) (h:zbE w R r):
  Calls Tryz.prog 121 #[.pointer (some ⟨R,0,none⟩)] w fun e w'=>e=.returned (.string ⟨(zcu r).1.toArray⟩)/\zbE w' R (zcu r).2/\RdM R w w':=by
 obtain ⟨rest,more,bad⟩:=r;unfold zbE at h;simp only at h;have c0:=cS h 0;have c1:=cS h 1;have c2:=cS h 2;have z:=zad h;cases more with
 | false=>
  have hp:=zai h 2 (.bool true);have hm:=(Mod.refl (fun k=>k=R) w).setCell (a:=⟨R,2,none⟩) (fun _=>rfl) (.bool true);replace h:=Y h;replace hp:=Y hp;replace hm:=Y hm;go_enter Tryz.func121,Tryz.ntmps121;go_wp2_with fail
  go_ret;exact ⟨rfl,hp.o,hm.o⟩
 | true=>
  have hp:=zai h 1 (.bool false);have hm:=(Mod.refl (fun k=>k=R) w).setCell (a:=⟨R,1,none⟩) (fun _=>rfl) (.bool false);have e0:(w.setCell ⟨R,1,none⟩ (.bool false)).cell? ⟨R,0,none⟩=some (.string ⟨rest.toArray⟩):=zaa hp 0;replace h:=Y h;replace hp:=Y hp;replace hm:=Y hm;go_enter Tryz.func121,Tryz.ntmps121;go_wp2_with fail
  go_ret;exact ⟨rfl,hp.o,hm.o⟩
theorem zc0 (R:Nat) (r:Rd) (s:Bs) (hs:s.length<=1000000) (w:World) (hG:Gl w) (h:zbE w R r):
  Calls Tryz.prog 177 #[.pointer (some ⟨R,0,none⟩),.string ⟨s.toArray⟩] w fun e w'=>e=.returned (.int .i64 (zbn s r).1)/\zbE w' R (zbn s r).2/\RdM R w w':=by
 obtain ⟨rest,more,bad⟩:=r;unfold zbE at h;simp only at h;unfold zbn;have key:∀ (e:Ending) (w1:World),True:=fun _ _=>trivial
 cases ha:Go.Lib.atoiAll s with
 | ok v=>
  have hA:=Y (Tryz.strconv_Atoi_ok ⟨s.toArray⟩ (by show s.toArray.size<=_;simp;omega) v ha w);replace h:=Y h;go_enter Tryz.func177,Tryz.ntmps177;go_wp2_with fail
  refine hA.o.mono ?_;rintro e w1 ⟨rfl,hw⟩;have hx:Ext w w1:=by
   rcases hw with rfl | ⟨t,rfl⟩
   ·exact Mod.refl _ _
   ·exact Mod.ofBelow (Lib.bytesWorld_below w _ t)
  replace hx:=Y hx;go_wp2_with fail
  go_ret;exact ⟨rfl,hx.o.at h.o id,RdM.ofExt hx.o⟩
 | range=>
  obtain ⟨tp,p,hvar⟩:=hG.er;have hA:=Y (Tryz.strconv_Atoi_range_var ⟨s.toArray⟩ (by show s.toArray.size<=_;simp;omega) ha tp p w hvar);replace h:=Y h;go_enter Tryz.func177,Tryz.ntmps177;go_wp2_with fail
  refine hA.o.mono ?_;rintro e w1 ⟨N,rfl,-,-,hb⟩;have hx:Ext w w1:=Mod.ofBelow hb;have h1:=hx.at h.o id;have c2:=cS h1 2;have z:=zad h1;have hp:=zai h1 2 (.bool true);have hm:=(RdM.ofExt (R:=R) hx).setCell (a:=⟨R,2,none⟩) (fun _=>rfl) (.bool true);replace hp:=Y hp;replace hm:=Y hm;clear hA hb hx h1;go_wp2_with fail
  go_ret;exact ⟨rfl,hp.o,hm.o⟩
 | _=>
  obtain ⟨tp,p,hvar⟩:=hG.es;have hA:=Y (Tryz.strconv_Atoi_syntax_var ⟨s.toArray⟩ (by show s.toArray.size<=_;simp;omega) ha tp p w hvar);replace h:=Y h;go_enter Tryz.func177,Tryz.ntmps177;go_wp2_with fail
  refine hA.o.mono ?_;rintro e w1 ⟨N,rfl,-,-,hb⟩;have hx:Ext w w1:=Mod.ofBelow hb;have h1:=hx.at h.o id;have c2:=cS h1 2;have z:=zad h1;have hp:=zai h1 2 (.bool true);have hm:=(RdM.ofExt (R:=R) hx).setCell (a:=⟨R,2,none⟩) (fun _=>rfl) (.bool true);replace hp:=Y hp;replace hm:=Y hm;clear hA hb hx h1;go_wp2_with fail
  go_ret;exact ⟨rfl,hp.o,hm.o⟩
theorem zmb (c:UInt8) (s:Bs):(zby c s).1.length<=s.length/\(zby c s).2.1.length<=s.length:=by
 rcases zbU (c:=c) s with ⟨-,e,-⟩ | ⟨-,e1,e2,-⟩
 ·have:=congrArg List.length e
  simp only [List.length_append,List.length_cons] at this;omega
 ·rw [e1,e2];simp
theorem zbb (r:Rd):(zaL r).1.length<=r.rest.length/\(zaL r).2.rest.length<=r.rest.length:=by
 unfold zaL;split
 ·exact zmb 32 r.rest
 ·simp
theorem zcE (s:Bs) (r:Rd):(zbn s r).2.rest=r.rest:=by unfold zbn;split <;> rfl
theorem zfF (r:Rd):(zbB r).2.rest.length<=r.rest.length:=by
 unfold zbB;rw [zcE];exact (zbb r).2
theorem zdi (R:Nat) (r:Rd) (w:World) (hG:Gl w) (hR:10<=R) (h:zbE w R r) (hs:r.rest.length<=1000000):
  Calls Tryz.prog 109 #[.pointer (some ⟨R,0,none⟩)] w fun e w'=>e=.returned (.int .i64 (zbB r).1)/\zbE w' R (zbB r).2/\RdM R w w':=by
 have h1:=Y (zb2 R r w hG h hs);have hl:=Y (zbb r);go_enter Tryz.func109,Tryz.ntmps109;go_wp2_with fail
 refine h1.o.mono ?_;rintro e w1 ⟨rfl,hr1,hm1⟩;have h2:=Y (zc0 R (zaL r).2 (zaL r).1 (by have:=hl.o;omega) w1 (hG.rd hR hm1) hr1);go_wp2_with fail
 refine h2.o.mono ?_;rintro e w2 ⟨rfl,hr2,hm2⟩;replace hr2:=Y hr2;have hm:=Y (hm1.trans hm2);clear hm1 hm2 hr1 h1 h2;go_wp2_with fail
 go_ret;exact ⟨rfl,hr2.o,hm.o⟩
def zd2 (w:World) (R:Nat) (t:Bs) (st:St):Prop:=∃ a:Nat,a<=t.length/\match st with
 | .ok r=>r=t.drop a/\w.heap[R]?=some (.cells #[.string ⟨t.toArray⟩,.int .i64 a,.int .i64 0] 184 (0,0))
 | .error e=>e ≠ 0/\w.heap[R]?=some (.cells #[.string ⟨t.toArray⟩,.int .i64 a,.int .i64 e] 184 (0,0))
theorem zd2.lt {w:World} {R:Nat} {t:Bs} {st:St} (h:zd2 w R t st):R < w.heap.size:=by
 obtain ⟨a,-,h⟩:=h;cases st with
 | ok r=>exact zas h.2
 | error e=>exact zas h.2
theorem zd2.mod {S:Nat -> Prop} {w w':World} {R:Nat} {t:Bs} {st:St} (h:zd2 w R t st) (hm:Mod S w w') (hR:¬ S R):zd2 w' R t st:=by
 obtain ⟨a,ha,h⟩:=h;refine ⟨a,ha,?_⟩;cases st with
 | ok r=>exact ⟨h.1,hm.at h.2 hR⟩
 | error e=>exact ⟨h.1,hm.at h.2 hR⟩
theorem zd2.ext {w w':World} {R:Nat} {t:Bs} {st:St} (h:zd2 w R t st) (hx:Ext w w'):zd2 w' R t st:=h.mod hx id
def stE:St -> Int
 | .ok _=>0
 | .error e=>e
theorem zd2.err {w:World} {R:Nat} {t:Bs} {st:St} (h:zd2 w R t st):w.cell? ⟨R,2,none⟩=some (.int .i64 (stE st)):=by
 obtain ⟨a,ha,h⟩:=h;cases st with
 | ok r=>exact zaa h.2 2
 | error e=>exact zaa h.2 2
theorem zd2.ne {w:World} {R:Nat} {t:Bs} {e:Int} (h:zd2 w R t (.error e)):e ≠ 0:=by
 obtain ⟨a,ha,h⟩:=h;exact h.1
theorem zfA (R:Nat) (t:Bs) (st:St) (hs:t.length<=1000000) (w:World) (h:zd2 w R t st):
  Calls Tryz.prog 239 #[.pointer (some ⟨R,0,none⟩),.func (.func 192) #[] #[]] w fun e w'=>e=.returned (.int .i64 (mI st).1)/\zd2 w' R t (mI st).2/\RdM R w w':=by
 obtain ⟨a,ha,h⟩:=h;cases st with
 | error er=>
  simp only at h;obtain ⟨he,h⟩:=h;have c2:=cS h 2;have he1:(er !=0)=true:=by rw [bne_iff_ne];exact he
  have he2:(er==0)=false:=by rw [beq_eq_false_iff_ne];exact he
  replace h:=Y h;go_enter Tryz.func239,Tryz.ntmps239;go_wp2_with fail
  go_ret;exact ⟨rfl,⟨a,ha,he,h.o⟩,Mod.refl _ _⟩
 | ok r=>
  simp only at h;obtain ⟨hr,h⟩:=h;have c0:=cS h 0;have c1:=cS h 1;have c2:=cS h 2;have hce:=enters_of Tryz.func192 (by kernel_rfl) rfl;have hd0:=(Mod.drew0 (fun _=>False) w).at h id;have hm0:=RdM.ofExt (R:=R) (Mod.drew0 (fun _=>False) w);replace h:=Y h;go_enter Tryz.func239,Tryz.ntmps239;go_upto_region 4 with (fail)
  refine rS (fun W=>W.heap[R]?=some (.cells #[.string ⟨t.toArray⟩,.int .i64 a,.int .i64 0] 184 (0,0))) [(0,true),(1,true),(2,true),(3,true),(4,true),(5,true),(6,true),(7,true),(8,true),(9,false),(10,true),(11,true),(12,true),(13,true),(14,true),(15,true),(16,true)] hd0 ?_;simp only [zah,List.map_cons,List.map_nil,List.getD_cons_zero,List.getD_cons_succ];generalize w.drew=w0 at hd0 hm0 ⊢;clear c0 c1 c2;have h1:=Y (zgE t a ha hs w0);replace hd0:=Y hd0;replace hm0:=Y hm0;repeat (refine zav (by rfl) ?_ (fun w' hC=>?_) ?_;rotate_left;(have q0:=cS hC 0;have q1:=cS hC 1;go_simp;try with_reducible rfl);try simp only [Act.put,sA,sZ,sS])
  refine zak (by rfl) (fun K hK=>?_);go_simp;refine h1.o.mono ?_;rintro e w1 ⟨rfl,hi⟩;clear h1;unfold zjo zlP at hi;have hb0:=cS hd0.o 2;have zR:=zad hd0.o;cases hg:zdt (t.drop a) with
  | none=>
   have em:mI (.ok r)=(0,.error 10):=by unfold mI mR rbI;simp only [hr,hg]
   rw [hg] at hi;simp only at hi;subst hi;refine hK.o _ _ hd0.o ?_;clear hK K;have p2:=Y (zai hd0.o 2 (.int .i64 10));have m2:=Y (hm0.o.setCell (a:=⟨R,2,none⟩) (fun _=>rfl) (.int .i64 10));try simp only [Act.put,sA,sZ,sS]
   repeat (refine qT ?_)
   refine zar ?_;go_wp2_with fail
   go_ret;rw [em];exact ⟨rfl,⟨a,ha,by decide,p2.o⟩,m2.o⟩
  | some x=>
   obtain ⟨n,u⟩:=x;have em:mI (.ok r)=(n,.ok u):=by unfold mI mR rbI;simp only [hr,hg]
   rw [hg] at hi;simp only at hi;obtain ⟨b,hab,hbl,hub,rfl⟩:=hi;refine hK.o _ _ hd0.o ?_;clear hK K;have hb1:=cS hd0.o 1;have p2:=Y (zai hd0.o 1 (.int .i64 b));have m2:=Y (hm0.o.setCell (a:=⟨R,1,none⟩) (fun _=>rfl) (.int .i64 b));try simp only [Act.put,sA,sZ,sS]
   repeat (refine qT ?_)
   refine zar ?_;go_wp2_with fail
   go_ret;rw [em];exact ⟨rfl,⟨b,hbl,hub,p2.o⟩,m2.o⟩
theorem zlw (R:Nat) (t:Bs) (st:St) (hs:t.length<=1000000) (w:World) (h:zd2 w R t st):
  Calls Tryz.prog 241 #[.pointer (some ⟨R,0,none⟩),.func (.func 194) #[] #[]] w fun e w'=>e=.returned (.string ⟨((mS st).1).toArray⟩)/\zd2 w' R t (mS st).2/\RdM R w w':=by
 obtain ⟨a,ha,h⟩:=h;cases st with
 | error er=>
  simp only at h;obtain ⟨he,h⟩:=h;have c2:=cS h 2;have he1:(er !=0)=true:=by rw [bne_iff_ne];exact he
  have he2:(er==0)=false:=by rw [beq_eq_false_iff_ne];exact he
  replace h:=Y h;go_enter Tryz.func241,Tryz.ntmps241;go_wp2_with fail
  go_ret;exact ⟨rfl,⟨a,ha,he,h.o⟩,Mod.refl _ _⟩
 | ok r=>
  simp only at h;obtain ⟨hr,h⟩:=h;have c0:=cS h 0;have c1:=cS h 1;have c2:=cS h 2;have hce:=enters_of Tryz.func194 (by kernel_rfl) rfl;have hd0:=(Mod.drew0 (fun _=>False) w).at h id;have hm0:=RdM.ofExt (R:=R) (Mod.drew0 (fun _=>False) w);replace h:=Y h;go_enter Tryz.func241,Tryz.ntmps241;go_upto_region 4 with (fail)
  refine rS (fun W=>W.heap[R]?=some (.cells #[.string ⟨t.toArray⟩,.int .i64 a,.int .i64 0] 184 (0,0))) [(0,true),(1,true),(2,true),(3,true),(4,true),(5,true),(6,true),(7,true),(8,true),(9,false),(10,true),(11,true),(12,true),(13,true),(14,true),(15,true),(16,true)] hd0 ?_;simp only [zah,List.map_cons,List.map_nil,List.getD_cons_zero,List.getD_cons_succ];generalize w.drew=w0 at hd0 hm0 ⊢;clear c0 c1 c2;have h1:=Y (zgb t a ha hs w0);replace hd0:=Y hd0;replace hm0:=Y hm0;repeat (refine zav (by rfl) ?_ (fun w' hC=>?_) ?_;rotate_left;(have q0:=cS hC 0;have q1:=cS hC 1;go_simp;try with_reducible rfl);try simp only [Act.put,sA,sZ,sS])
  refine zak (by rfl) (fun K hK=>?_);go_simp;refine h1.o.mono ?_;rintro e w1 ⟨rfl,hi⟩;clear h1;unfold znq znX at hi;have hb0:=cS hd0.o 2;have zR:=zad hd0.o;cases hg:zhj (t.drop a) with
  | none=>
   have em:mS (.ok r)=([],.error 10):=by unfold mS mR rbS;simp only [hr,hg]
   rw [hg] at hi;simp only at hi;subst hi;refine hK.o _ _ hd0.o ?_;clear hK K;have p2:=Y (zai hd0.o 2 (.int .i64 10));have m2:=Y (hm0.o.setCell (a:=⟨R,2,none⟩) (fun _=>rfl) (.int .i64 10));try simp only [Act.put,sA,sZ,sS]
   repeat (refine qT ?_)
   refine zar ?_;go_wp2_with fail
   go_ret;rw [em];exact ⟨rfl,⟨a,ha,by decide,p2.o⟩,m2.o⟩
  | some x=>
   obtain ⟨n,u⟩:=x;have em:mS (.ok r)=(n,.ok u):=by unfold mS mR rbS;simp only [hr,hg]
   rw [hg] at hi;simp only at hi;obtain ⟨b,hab,hbl,hub,rfl⟩:=hi;refine hK.o _ _ hd0.o ?_;clear hK K;have hb1:=cS hd0.o 1;have p2:=Y (zai hd0.o 1 (.int .i64 b));have m2:=Y (hm0.o.setCell (a:=⟨R,1,none⟩) (fun _=>rfl) (.int .i64 b));try simp only [Act.put,sA,sZ,sS]
   repeat (refine qT ?_)
   refine zar ?_;go_wp2_with fail
   go_ret;rw [em];exact ⟨rfl,⟨b,hbl,hub,p2.o⟩,m2.o⟩
theorem zbp (R:Nat) (t:Bs) (st:St) (hs:t.length<=1000000) (w:World) (h:zd2 w R t st):
  Calls Tryz.prog 240 #[.pointer (some ⟨R,0,none⟩)] w fun e w'=>e=.returned (.int .i64 (mI st).1)/\zd2 w' R t (mI st).2/\RdM R w w':=by
 have h1:=Y (zfA R t st hs w h);go_enter Tryz.func240,Tryz.ntmps240;go_wp2_with fail
 refine h1.o.mono ?_;rintro e w1 ⟨rfl,hr,hm⟩;replace hr:=Y hr;replace hm:=Y hm;go_wp2_with fail
 go_ret;exact ⟨rfl,hr.o,hm.o⟩
end Go.Proofs.YtjjfphalcibjfaaGreatDoor
namespace Cdk
open Go Go.RowKit
def zpA {α:Type} (F:Fence) (n:Nat) (P:Program) (g:Nat) (lb:Array Value) (encs:α -> Array Value) (Kb:Nat -> Prop) (b0:Nat) (Ok:α -> Prop) (S Sp:List α -> Prop) (N:Nat) (w:World):Prop:=
 ∀ (l:Nat) (J:List α -> World -> Prop) (Jx:List α -> World -> Prop) (W:World),Below w.heap.size w W -> (∀ p A B,J p A -> A.grownBy B none -> J p B) -> (∀ p A v,J p A -> J p (A.setCell ⟨b0,0,none⟩ v)) →
  (∀ pre x W1,J pre W1 -> pre.length < N -> Ok x -> YieldAt F (n - 1) P l (encs x) W1 fun e W'=>
   (e=.returned (.bool true)/\J (pre++[x]) W'/\(W1.heap.size<=W'.heap.size/\∀ k,Kb k -> W'.heap[k]?=W1.heap[k]?)) \/ (e=.returned (.bool false)/\Jx (pre++[x]) W')) →
  J [] W →
  CallsIn F n P g (#[.func (.yield l) #[] #[]]++lb) W fun e W'=>(∃ v,e=.returned v)/\((∃ xs,S xs/\J xs W') \/ (∃ pre,Sp pre/\Jx pre W'))
def zpH {α:Type} (Kb:Nat -> Prop) (I:List α -> World -> Prop) (Ix:Code -> List α -> World -> Prop) (xs:List α) (W:World):Exit -> Act -> World -> Prop
 | .normal,_,W'=>KeepsOthers W W'/\(∀ k,Kb k -> W'.heap[k]?=W.heap[k]?)/\I xs W'
 | .ret,_,W'=>KeepsOthers W W'/\Ix .ret xs W'
 | .exit id,_,W'=>KeepsOthers W W'/\Ix (.exit id) xs W'
 | .goto t,_,W'=>KeepsOthers W W'/\Ix (.goto t) xs W'
 | .panic _,_,_=>False
 | .outgrown,_,_=>False
variable {F:Fence} {n:Nat} {P:Program}
theorem zbX {α:Type} {g:Operand} {ps:Array Tmp} {assign body:Code} {Q:Exit -> Act -> World -> Prop} {a:Act} {w:World}
  (hro:F.round=none) (h1:1<=n) {gf:Nat} {lb:Array Value} (hg:a.eval g=.func (.func gf) #[] lb) (hFg:F.fn gf) (eg:∀ args w,(callFunc gf args).run P w=.ok (.enter gf args) w)
  {encs:α -> Array Value} {Kb:Nat -> Prop} {b0:Nat} {Ok:α -> Prop} {S Sp:List α -> Prop} {N:Nat} {w0:World} (hseq:zpA F (n - 1) P gf lb encs Kb b0 Ok S Sp N w0) (hKb:∀ k,Kb k -> k < w.heap.size) (hb0w:b0 < w.heap.size) (hb0:Below w0.heap.size w0 w) (hps:∀ x,(encs x).size=ps.size)
  (I:List α -> World -> Prop) (Ix:Code -> List α -> World -> Prop) (hI:OwnFrom w.heap.size I) (hIb:∀ p A v,I p A -> I p (A.setCell ⟨b0,0,none⟩ v)) (hIx:∀ c,OwnFrom w.heap.size (Ix c)) (h0:I [] w) (a₁:α -> Act)
  (hassign:∀ (l:Nat) (x:α) (W:World) (K:Act -> World -> Prop),K (a₁ x) W →
   assign.wpIn (F.inRound l) (n - 1 - 1) P (Exit.then K (fun _ _ _=>False)) { tmps:=(ps.zip (encs x)).foldl (fun t (p,v)=>t.setIfInBounds p v) a.tmps,defers:=[] } W)
  (hbody:∀ (l:Nat) (pre:List α) (x:α) (W:World),I pre W -> pre.length < N -> Ok x -> body.wpIn (F.inRound l) (n - 1 - 1) P (zpH Kb I Ix (pre++[x]) W) (a₁ x) W)
  (hdone:∀ (D:Nat) (xs:List α) (W:World),w.heap.size<=D -> S xs -> I xs W -> W.heap[D]?=some (.deferred (some [])) -> Q .normal { a with defers:={ target:=.collected D,args:=#[] }::a.defers } W)
  (hstop:∀ (D:Nat) (c:Code) (pre:List α) (W:World),w.heap.size<=D -> Sp pre -> Ix c pre W -> W.heap[D]?=some (.deferred (some [])) -> c.wpIn F n P Q { a with defers:={ target:=.collected D,args:=#[] }::a.defers } W):
  (Code.rangeFunc g ps assign body).wpIn F n P Q a w:=by
 refine wpIn_rangeFunc ?_;intro fn hfn;rw [hro];obtain ⟨rec,hrec⟩:∃ rec:LoopState -> Option Code -> Loop,rec=fun st pe=>{ state:=st,pending:=pe,fn,tmps:=a.tmps,params:=ps,assign,body,defers:=w.heap.size }:=⟨_,rfl⟩
 obtain ⟨W1,hW1⟩:∃ W1,(w.alloc (.deferred (some []))).alloc (.loop (rec .ready none))=W1:=⟨_,rfl⟩;have hL1:W1.heap[w.heap.size+1]?=some (.loop (rec .ready none)):=by
  rw [<- hW1];have:=World.alloc_heap_new (w.alloc (.deferred (some []))) (.loop (rec .ready none));rwa [World.size_alloc] at this
 have hK1:W1.heap[w.heap.size]?=some (.deferred (some [])):=by
  rw [<- hW1];exact (Below.heap_alloc _ _ _ (by simp)).trans (World.alloc_heap_new w _)
 have hI1:I [] W1:=by rw [<- hW1];exact hI.alloc _ (hI.alloc _ h0)
 have hb1:Below w0.heap.size w0 W1:=by
  rw [<- hW1];exact hb0.trans ((((Below.refl _ w).alloc (Nat.le_refl _) _).alloc (by simp) _).mono hb0.size)
 refine ⟨w.heap.size+1,[{ target:=.collected w.heap.size,args:=#[] }],W1,{ target:=.fn (.func gf) lb,args:=#[.func (.yield (w.heap.size+1)) #[] #[]] },W1,gf,
  #[.func (.yield (w.heap.size+1)) #[] #[]]++lb,W1,?_,?_,?_,?_,fun _=>h1,?_⟩
 ·rw [<- hW1,hrec];exact run_enterLoop_outer _ _ _ _ _
 ·simp only [resolve,hg]
  simp [go_sem]
 ·intro f' hf';simp [Target.leads] at hf';subst hf';exact hFg
 ·simp [invoke,go_sem,eg]
 ·have hkeep:∀ {A B:World} {o:Obj} {k:Nat},A.grownBy B none -> A.heap[k]?=some o -> B.heap[k]?=some o:=fun hg' hk=>
   (hg'.block _ (Array.getElem?_eq_some_iff.1 hk).1 (by simp)).trans hk
  refine (hseq (w.heap.size+1)
   (fun pre W=>I pre W/\W.heap[w.heap.size+1]?=some (.loop (rec .ready none))/\W.heap[w.heap.size]?=some (.deferred (some [])))
   (fun pre W=>∃ c,Ix c pre W/\W.heap[w.heap.size+1]?=some (.loop (rec .done (some c)))/\W.heap[w.heap.size]?=some (.deferred (some [])))
   W1 hb1
   (fun s A B hs hg'=>⟨hI s A B none hs.1 hg' (fun r e=>by cases e),hkeep hg' hs.2.1,hkeep hg' hs.2.2⟩)
   (fun s A v hs=>⟨hIb s A v hs.1,by rw [Below.heap_setCell A ⟨b0,0,none⟩ v _ (by simp only;omega)];exact hs.2.1,by rw [Below.heap_setCell A ⟨b0,0,none⟩ v _ (by simp only;omega)];exact hs.2.2⟩)
   ?_ ⟨hI1,hL1,hK1⟩).mono ?_
  ·
   rintro pre x W ⟨hi,hl,hk⟩ hlen hok;have hlt:w.heap.size+1 < W.heap.size:=(Array.getElem?_eq_some_iff.1 hl).1;have hy:=run_yield (P:=P) (args:=encs x) hl (by rw [hrec];exact hps x);rw [hrec] at hy;refine ⟨fn,_,assign,body,hy,roundIn_of_wpIn hfn (hassign _ x W _ ⟨_,run_beginRound hl (by rw [hrec]),?_⟩)⟩;obtain ⟨W2,hW2⟩:∃ W2,W.putObj (w.heap.size+1) (.loop { rec .ready none with state:=.busy })=W2:=⟨_,rfl⟩;have hl2:W2.heap[w.heap.size+1]?=some (.loop { rec .ready none with state:=.busy }):=by rw [<- hW2];exact World.putObj_heap_same hlt
   have ho2:∀ k,k ≠ w.heap.size+1 -> W2.heap[k]?=W.heap[k]?:=fun k hk=>by rw [<- hW2];exact World.putObj_heap_other (by omega)
   have hk2:W2.heap[w.heap.size]?=some (.deferred (some [])):=(ho2 _ (by omega)).trans hk;have hs2:W2.heap.size=W.heap.size:=by rw [<- hW2];simp
   have hi2:I pre W2:=by rw [<- hW2];exact hI.putObj (s:=pre) _ hi (by omega) hl rfl
   have hgoal:=hbody (w.heap.size+1) pre x W2 hi2 hlen hok;rw [hW2];refine wpIn_mono hgoal ?_;have fin:∀ (jump:Option Code) (W3:World),KeepsOthers W2 W3 →
     (Instr.endRound (w.heap.size+1) jump).run P W3=.ok (.bool jump.isNone) (W3.putObj (w.heap.size+1) (.loop (rec (if jump.isNone then .ready else .done) jump))) ∧
     W3.heap[w.heap.size+1]?=some (.loop { rec .ready none with state:=.busy }) ∧
     (W3.putObj (w.heap.size+1) (.loop (rec (if jump.isNone then .ready else .done) jump))).heap[w.heap.size+1]?=some (.loop (rec (if jump.isNone then .ready else .done) jump)) ∧
     (W3.putObj (w.heap.size+1) (.loop (rec (if jump.isNone then .ready else .done) jump))).heap[w.heap.size]?=some (.deferred (some [])):=fun jump W3 hk3=>by
    have hl3:=hk3.same _ _ hl2 rfl;have:=run_endRound (P:=P) jump hl3;rw [hrec] at this ⊢;exact ⟨this,by rw [hrec] at hl3;exact hl3,World.putObj_heap_same (Array.getElem?_eq_some_iff.1 hl3).1,(World.putObj_heap_other (by omega)).trans (hk3.same _ _ hk2 rfl)⟩
   rintro e a3 W3 hp;cases e with
   | normal=>
    obtain ⟨hk3,hb3,hi3⟩:=hp;obtain ⟨hr,hl3,hl4,hk4⟩:=fin none W3 hk3;refine ⟨_,_,hr,.inl ⟨rfl,⟨hI.putObj (s:=pre++[x]) _ hi3 (by omega) hl3 rfl,hl4,hk4⟩,by have:=hk3.size;simp;omega,fun k hk=>?_⟩⟩;have hkw:=hKb k hk;have e1:(W3.putObj (w.heap.size+1) (.loop (rec (if (none:Option Code).isNone then .ready else .done) none))).heap[k]?=W3.heap[k]?:=World.putObj_heap_other (by omega);rw [e1,hb3 k hk,ho2 k (by omega)]
   | ret=>
    obtain ⟨hk3,hi3⟩:=hp;obtain ⟨hr,hl3,hl4,hk4⟩:=fin (some .ret) W3 hk3;exact ⟨_,_,hr,.inr ⟨rfl,.ret,(hIx _).putObj _ hi3 (by omega) hl3 rfl,hl4,hk4⟩⟩
   | exit id=>
    obtain ⟨hk3,hi3⟩:=hp;obtain ⟨hr,hl3,hl4,hk4⟩:=fin (some (.exit id)) W3 hk3;exact ⟨_,_,hr,.inr ⟨rfl,.exit id,(hIx _).putObj _ hi3 (by omega) hl3 rfl,hl4,hk4⟩⟩
   | goto t=>
    obtain ⟨hk3,hi3⟩:=hp;obtain ⟨hr,hl3,hl4,hk4⟩:=fin (some (.goto t)) W3 hk3;exact ⟨_,_,hr,.inr ⟨rfl,.goto t,(hIx _).putObj _ hi3 (by omega) hl3 rfl,hl4,hk4⟩⟩
   | panic ch=>exact hp.elim
   | outgrown=>exact hp.elim
  ·rintro e W2 ⟨⟨v,rfl⟩,(⟨xs,hS,hi,hl,hk⟩ | ⟨pre,hSp,c,hi,hl,hk⟩)⟩
   ·exact ⟨none,_,by have:=run_endLoop (P:=P) hl (by rw [hrec];simp);rw [hrec] at this;exact this,hdone _ xs _ (Nat.le_refl _) hS (hI.putObj (s:=xs) _ hi (by omega) hl rfl) ((World.putObj_heap_other (by omega)).trans hk)⟩
   ·exact ⟨some c,_,by have:=run_endLoop (P:=P) hl (by rw [hrec];simp);rw [hrec] at this;exact this,hstop _ c pre _ (Nat.le_refl _) hSp ((hIx c).putObj _ hi (by omega) hl rfl) ((World.putObj_heap_other (by omega)).trans hk)⟩
end Cdk
namespace Go.Proofs.YtjjfphalcibjfaaGreatDoor
open Go.Shelf Go.RowKit Cdk Scr
attribute [local go_sem] Oper.semAt_some
theorem znl (s:Bs) (a b:Nat):(⟨s.toArray⟩:ByteArray).extract a b=⟨((s.take b).drop a).toArray⟩:=by
 apply ByteArray.ext;rw [ByteArray.data_extract];apply Array.ext';simp [List.extract_eq_take_drop,List.drop_take]
theorem zld (c:UInt8) (s:Bs):(Lib.index s [c]=-1/\parts c s=[s]) \/ (∃ i:Nat,Lib.index s [c]=i/\i < s.length/\parts c s=s.take i::parts c (s.drop (i+1))):=by
 have hcut:=zfy c s;unfold Lib.cut at hcut;have hge:-1<=Lib.index s [c]:=Lib.index_ge _ _;have hro:=Lib.index_room s [c]
 by_cases h1:Lib.index s [c]=-1
 ·rw [if_neg (by omega)] at hcut
  refine .inl ⟨h1,?_⟩;rw [zcv,<- hcut];rfl
 ·rw [if_pos (by omega)] at hcut
  have h2:=hro (by omega);simp only [List.length_cons,List.length_nil] at h2;refine .inr ⟨(Lib.index s [c]).toNat,by omega,by omega,?_⟩;rw [zcv,<- hcut];rfl
abbrev zpM (Bz Bc Bk:Nat):Nat -> Prop:=fun k=>k=Bz \/ k=Bc \/ k=Bk
theorem zmx (n l Bz Bc Bk:Nat) (hn:1<=n) (hne:Bz ≠ Bc/\Bz ≠ Bk) (c:UInt8) (s:Bs) (hs:s.length<=1000000) (J Jx:List Bs -> World -> Prop) (hJ:∀ p A B,J p A -> A.grownBy B none -> J p B) (hJw:∀ p A v,J p A -> J p (A.setCell ⟨Bz,0,none⟩ v))
  (hY:∀ pre x W,J pre W -> pre.length < (parts c s).length -> x.length<=1000000 -> YieldAt Fence.wide (n - 1) Tryz.prog l #[.string ⟨x.toArray⟩] W fun e W'=>
   (e=.returned (.bool true)/\J (pre++[x]) W'/\(W.heap.size<=W'.heap.size/\∀ k,zpM Bz Bc Bk k -> W'.heap[k]?=W.heap[k]?)) \/ (e=.returned (.bool false)/\Jx (pre++[x]) W'))
  (W:World) (hz:W.heap[Bz]?=some (.cells #[.string ⟨s.toArray⟩] 9 (0,0))) (hc:W.heap[Bc]?=some (.cells #[.string ⟨#[c]⟩] 9 (0,0))) (hk:W.heap[Bk]?=some (.cells #[.int .i64 0] 3 (0,0))) (h0:J [] W):
  CallsIn Fence.wide n Tryz.prog 264 #[.func (.yield l) #[] #[],.pointer (some ⟨Bc,0,none⟩),.pointer (some ⟨Bz,0,none⟩),.pointer (some ⟨Bk,0,none⟩)] W fun e W'=>(∃ v,e=.returned v) ∧
   ((∃ ys,ys=parts c s/\J ys W') \/ (∃ pre,pre <+:parts c s/\Jx pre W')):=by
 refine callsIn_wide.2 ?_;have cc:=zaa hc 0;go_enter Tryz.func264,Tryz.ntmps264;obtain ⟨SC,hSC⟩:∃ SC,SC=parts c s:=⟨_,rfl⟩;rw [<- hSC] at hY ⊢;replace hY:=Y hY;replace hJ:=Y hJ;replace hJw:=Y hJw;replace hz:=Y hz;replace hk:=Y hk;replace hc:=Y hc;go_wp2_with fail
 go_loopg [] (s.length+1) (fun g wr=>∃ (pre:List Bs) (rest:Bs),wr.heap[Bz]?=some (.cells #[.string ⟨rest.toArray⟩] 9 (0,0))/\wr.heap[Bc]?=some (.cells #[.string ⟨#[c]⟩] 9 (0,0))/\wr.heap[Bk]?=some (.cells #[.int .i64 0] 3 (0,0))/\SC=pre++parts c rest/\J pre wr/\rest.length < g/\rest.length<=1000000)
 case atStart=>exact ⟨[],s,hz.o,hc.o,hk.o,by rw [hSC];rfl,h0,by omega,hs⟩
 case round=>
  clear h0 hc hk hz hSC cc;obtain ⟨pre,rest,hz,hc,hk,hsc,hJp,hlen,hrl⟩:=hrel;have z0:=cS hz 0;have c0:=cS hc 0;have k0:=cS hk 0;have hix:=Y (Tryz.strings_Index_one ⟨rest.toArray⟩ c wr);replace hz:=Y hz;replace hc:=Y hc;replace hk:=Y hk;replace hJp:=Y hJp;replace hlen:=Y hlen;rcases zld c rest with ⟨e1,e2⟩ | ⟨i,e1,e2,e3⟩
  ·rw [Lib.index_one] at e1
   have e1':Lib.indexByte (⟨rest.toArray⟩:ByteArray).data.toList c=-1:=e1;rw [e1'] at hix;rw [e2] at hsc;have hy:=hY.o pre rest wr hJp.o (by rw [hsc];simp) hrl;obtain ⟨yfn,ytmps,yassign,ybody,hyr,hyR⟩:=hy;replace hyR:=Y hyR;replace hsc:=Y hsc;clear e1 e2 e1';go_wp2_with fail
   refine hix.o.mono ?_;rintro e w1 ⟨rfl,rfl⟩;go_upto_region 10 with fail
   refine (wpIn_wide (n:=n)).1 ?_
   gi_wp2
   refine hyR.o.mono ?_;rintro e' W3 (⟨rfl,hJ3,-⟩ | ⟨rfl,hJx3⟩)
   ·replace hJ3:=Y hJ3
    gi_wp2
    go_end0
    exact ⟨⟨_,rfl⟩,.inl ⟨_,hsc.o.symm,hJ3.o⟩⟩
   ·replace hJx3:=Y hJx3
    gi_wp2
    go_end0
    exact ⟨⟨_,rfl⟩,.inr ⟨_,by rw [hsc.o];exact List.prefix_refl _,hJx3.o⟩⟩
  ·rw [Lib.index_one] at e1
   have e1':Lib.indexByte (⟨rest.toArray⟩:ByteArray).data.toList c=i:=e1;rw [e1'] at hix;rw [e3] at hsc;have hy:=hY.o pre (rest.take i) wr hJp.o (by rw [hsc];simp) (by rw [List.length_take];omega);obtain ⟨yfn,ytmps,yassign,ybody,hyr,hyR⟩:=hy;have x1:(⟨rest.toArray⟩:ByteArray).extract 0 i=⟨(rest.take i).toArray⟩:=by rw [znl,List.drop_zero]
   have x2:(⟨rest.toArray⟩:ByteArray).extract (i+1) rest.length=⟨(rest.drop (i+1)).toArray⟩:=by rw [znl,List.take_length]
   have hsz:(⟨rest.toArray⟩:ByteArray).size=rest.length:=rfl;have hii:(i:Int)<=(rest.length:Int):=by omega
   have hi0:¬ (i:Int) < 0:=by omega
   have hii1:(i:Int)+1<=(rest.length:Int):=by omega
   replace hyR:=Y hyR;replace hsc:=Y hsc;clear e1 e1';go_wp2_with fail
   refine hix.o.mono ?_;rintro e w1 ⟨rfl,rfl⟩;go_upto_region 8 with fail
   refine (wpIn_wide (n:=n)).1 ?_
   gi_wp2
   refine hyR.o.mono ?_;rintro e' W3 (⟨rfl,hJ3,-,hB3⟩ | ⟨rfl,hJx3⟩)
   ·have hz3:=(hB3 Bz (.inl rfl)).trans hz.o
    have hc3:=(hB3 Bc (.inr (.inl rfl))).trans hc.o;have hk3:=(hB3 Bk (.inr (.inr rfl))).trans hk.o;have z3:=cS hz3 0;have c3:=cS hc3 0;have fz:=zad hz3;have hJ4:=Y (hJw.o _ _ (.string ⟨(rest.drop (i+1)).toArray⟩) hJ3);have hz4:=Y (zdX (v:=.string ⟨(rest.drop (i+1)).toArray⟩) hz3);have hc4:=Y ((zan W3 (b:=Bz) (k:=Bc) 0 (.string ⟨(rest.drop (i+1)).toArray⟩) (fun e=>hne.1 e.symm)).trans hc3);have hk4:=Y ((zan W3 (b:=Bz) (k:=Bk) 0 (.string ⟨(rest.drop (i+1)).toArray⟩) (fun e=>hne.2 e.symm)).trans hk3);clear hB3 hz3 hc3 hk3 hJ3 z0 c0 k0
    gi_wp2
    go_wp2_with fail
    go_roundg (rest.length)
    case measure=>have:=hlen.o;omega
    case rel=>exact ⟨pre++[rest.take i],rest.drop (i+1),hz4.o,hc4.o,hk4.o,by rw [hsc.o];simp,hJ4.o,by rw [List.length_drop];omega,by rw [List.length_drop];omega⟩
   ·replace hJx3:=Y hJx3
    gi_wp2
    go_wp2_with fail
    try simp only [Exit.noGoto_normal]
    refine bodyPost_ret (results_none rfl _ _ _) rfl ?_;exact ⟨⟨_,rfl⟩,.inr ⟨pre++[rest.take i],⟨parts c (rest.drop (i+1)),by rw [hsc.o];simp⟩,hJx3.o⟩⟩
theorem zhT (n Bz Bc Bk:Nat) (hn:1<=n) (hne:Bz ≠ Bc/\Bz ≠ Bk) (c:UInt8) (s:Bs) (hs:s.length<=1000000) (w:World) (hz:w.heap[Bz]?=some (.cells #[.string ⟨s.toArray⟩] 9 (0,0))) (hc:w.heap[Bc]?=some (.cells #[.string ⟨#[c]⟩] 9 (0,0))) (hk:w.heap[Bk]?=some (.cells #[.int .i64 0] 3 (0,0))):
  zpA Fence.wide n Tryz.prog 264 #[.pointer (some ⟨Bc,0,none⟩),.pointer (some ⟨Bz,0,none⟩),.pointer (some ⟨Bk,0,none⟩)] (fun x=>#[.string ⟨x.toArray⟩]) (zpM Bz Bc Bk) Bz (fun x=>x.length<=1000000) (fun ys=>ys=parts c s) (fun pre=>pre <+:parts c s) (parts c s).length w:=fun l J Jx W hW hJ hJw hY h0=>
 zmx n l Bz Bc Bk hn hne c s hs J Jx hJ hJw hY W ((hW.block Bz (zas hz)).trans hz) ((hW.block Bc (zas hc)).trans hc) ((hW.block Bk (zas hk)).trans hk) h0
theorem zeG (c:UInt8) (s:Bs) (w:World):Calls Tryz.prog 207 #[.string ⟨s.toArray⟩,.string ⟨#[c]⟩] w fun e w'=>
  e=.returned (.func (.func 264) #[] #[.pointer (some ⟨w.heap.size+1,0,none⟩),.pointer (some ⟨w.heap.size,0,none⟩),.pointer (some ⟨w.heap.size+1+1,0,none⟩)]) ∧
   w'=((w.alloc (.cells #[.string ⟨s.toArray⟩] 9)).alloc (.cells #[.string ⟨#[c]⟩] 9)).alloc (.cells #[.int .i64 0] 3):=by
 have h1:Calls Tryz.prog 238 #[.string ⟨s.toArray⟩,.string ⟨#[c]⟩,.int .i64 0] w fun e w'=>
   e=.returned (.func (.func 264) #[] #[.pointer (some ⟨w.heap.size+1,0,none⟩),.pointer (some ⟨w.heap.size,0,none⟩),.pointer (some ⟨w.heap.size+1+1,0,none⟩)]) ∧
   w'=((w.alloc (.cells #[.string ⟨s.toArray⟩] 9)).alloc (.cells #[.string ⟨#[c]⟩] 9)).alloc (.cells #[.int .i64 0] 3):=by
  go_enter Tryz.func238,Tryz.ntmps238;go_wp2_with fail
  go_ret;exact ⟨rfl,rfl⟩
 replace h1:=Y h1;go_enter Tryz.func207,Tryz.ntmps207;go_wp2_with fail
 refine h1.o.mono ?_;rintro e w' ⟨rfl,rfl⟩;go_wp2_with fail
 go_ret;exact ⟨rfl,rfl⟩
end Go.Proofs.YtjjfphalcibjfaaGreatDoor
namespace Cdk
open Go Go.RowKit
section
variable {P:Program} {Q:Exit -> Act -> World -> Prop} {l₀ n:Nat}
theorem zhq {o:Oper} {a:Act} {K:Act -> World -> Prop} {r:Result Next} (h:o.upon P a K Q r):o.uponIn (Fence.wide.inRound l₀) n P a K Q r:=by
 unfold Oper.upon at h;unfold Oper.uponIn;split at h
 ·exact h
 ·exact h
 ·exact h
 ·exact ⟨(fun q=>by cases q),callsIn_wide.2 h⟩
 ·exact ⟨(fun q=>by cases q),fun c cs _=>let ⟨v,w',r,s⟩:=h c cs;⟨v,w',r,stepsIn_wide.2 s⟩⟩
 ·exact h
 ·exact h.elim
def zg7 (l:List Oper):Bool:=l.all fun o=>match o.op with | .defer _=>false | _=>true
theorem zhX {l:List Oper} (h:zg7 l=true) {i:Nat} {o:Oper} (ho:l.toArray[i]?=some o):∀ c,o.op ≠ .defer c:=by
 intro c hc;have hm:o ∈ l:=by
  have:=(List.getElem?_eq_some_iff.1 (by simpa using ho)).2;rw [<- this];exact List.getElem_mem _
 have:=List.all_eq_true.1 h o hm;rw [hc] at this;cases this
theorem zk3 {l:List Oper} (hd:zg7 l=true) (hL:¬ LetsOut Q) {i:Nat} {K:Act -> World -> Prop} {a:Act} {w:World} (h:wpOp P l.toArray Q i K a w):wpOpIn (Fence.wide.inRound l₀) n P l.toArray Q i K a w:=by
 unfold wpOp at h;unfold wpOpIn;cases ho:l.toArray[i]? with
 | none=>rw [ho] at h;exact h
 | some o=>
  rw [ho] at h;simp only at h ⊢
  by_cases hw:Region.wanted o (yielded l.toArray a.tmps)=true
  ·rw [if_pos hw] at h ⊢
   refine ⟨fun _ _=>trivial,?_⟩;rcases h with h | h
   ·rw [Oper.semAt_eq _ _ _ (zhX hd ho)]
    exact zhq h
   ·exact absurd h.2 hL
  ·rw [if_neg hw] at h ⊢
   exact ⟨fun _ _=>trivial,h⟩
theorem wpOpIn_mono {ops:Array Oper} {F:Fence} {i:Nat} {K K':Act -> World -> Prop} {a:Act} {w:World} (hk:∀ a w,K a w -> K' a w) (h:wpOpIn F n P ops Q i K a w):wpOpIn F n P ops Q i K' a w:=by
 unfold wpOpIn at h ⊢;cases ho:ops[i]? with
 | none=>rw [ho] at h;exact hk _ _ h
 | some o=>
  rw [ho] at h;simp only at h ⊢
  by_cases hw:Region.wanted o (yielded ops a.tmps)=true
  ·rw [if_pos hw] at h ⊢
   exact Oper.wpIn_mono hk h
  ·rw [if_neg hw] at h ⊢
   exact ⟨h.1,hk _ _ h.2⟩
theorem zgu {md:Region.Mode} {l:List Oper} (hd:zg7 l=true) (hL:¬ LetsOut Q):∀ (fuel:Nat) (listed:Array Bool) (a:Act) (w:World),wpAny P md l.toArray Q fuel listed a w -> wpAnyIn (Fence.wide.inRound l₀) n P md l.toArray Q fuel listed a w
 | 0,_,_,_,h=>h
 | fuel+1,_,_,_,h=>⟨h.1,fun i hi=>wpOpIn_mono (fun a w h=>zgu hd hL fuel _ a w h) (zk3 hd hL (h.2 i hi))⟩
theorem ziU (hL:¬ LetsOut Q):¬ LetsOut (NoPanic Q):=fun ⟨a,w,h⟩=>hL ⟨a,w,h⟩
theorem zch {id:Nat} {l:List Oper} {a:Act} {w:World} (C:World -> Prop) (sch:List (Nat × Bool)) (hm:P.follows .mixedOrders=true)
  (hno:Region.noSelect l.toArray=true) (hd:zg7 l=true) (hok:zb1 .any l.toArray sch (Array.replicate l.length false)=true) (hlen:sch.length<=l.length) (hL:¬ LetsOut Q)
  (hC:C w.drew) (h:wpT P l.toArray C (NoPanic Q) (zah l sch) a w.drew):(Code.region id l.toArray true).wpIn (Fence.wide.inRound l₀) n P Q a w:=by
 have h1:=zc9 (md:=.any) hno (fun _ _ _ _ _ h=>h) sch l.length (Array.replicate l.length false) a w.drew hlen hok hC h;exact wpIn_mono (wpIn_region_any hm (zgu hd (ziU hL) _ _ _ _ (zcO (S:=C) _ _ _ _ h1))) (fun e a w h=>NoPanic.imp e a w h)
end
end Cdk
