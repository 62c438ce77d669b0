import Derived.Test.YtjjfphalcibjfaaGreatDoorC16
import Derived.Test.YtjjfphalcibjfaaGreatDoorTh10
import Derived.Test.YtjjfphalcibjfaaGreatDoorC6
import Derived.Test.YtjjfphalcibjfaaGreatDoorMaps
import Derived.RangeFuncNested
import Derived.RangeFuncBound
import Derived.Shelf.RegionOpen
import Derived.OwnWalkIn
import Derived.Test.YtjjfphalcibjfaaGreatDoorC14
import Derived.Test.YtjjfphalcibjfaaGreatDoorC0
import Derived.OrdersIn
set_option maxRecDepth 100000
set_option maxHeartbeats 16000000
namespace Go.Proofs.YtjjfphalcibjfaaGreatDoor
open Go.Shelf Go.RowKit Cdk Scr
def zbB (w:World) (R:Nat) (r:Rd):Prop:=w.heap[R]?=some (.cells #[.string ⟨r.rest.toArray⟩,.bool r.more,.bool r.bad] 106 (0,0))
theorem zbB.ext {w w':World} {R:Nat} {r:Rd} (h:zbB w R r) (hx:Ext w w'):zbB w' R r:=hx.at h (fun h=>h)
theorem zbB.lt {w:World} {R:Nat} {r:Rd} (h:zbB w R r):R < w.heap.size:=zat h
abbrev RdM (R:Nat) (w w':World):Prop:=Mod (fun k=>k=R) w w'
theorem RdM.ofExt {R:Nat} {w w':World} (h:Ext w w'):RdM R w w':=h.mono (fun _ h=>h.elim)
theorem Gl.rd {R:Nat} {w w':World} (h:Gl w) (hR:10<=R) (hm:RdM R w w'):Gl w':=h.mod hm (fun k hk=>by omega)
theorem zmF (s:Bs) (c:UInt8) (hs:s.length<=1000000) (w:World) (hG:Gl w):Calls Tryz.prog 80 #[.string ⟨s.toArray⟩,.string ⟨#[c]⟩] w fun e w'=>
  e=.returned (.tuple #[.string ⟨(zbY c s).1.toArray⟩,.string ⟨(zbY c s).2.1.toArray⟩,.bool (zbY c s).2.2])/\Ext w w':=by
 obtain ⟨m,hm⟩:=hG.mx;have h:=Tryz.strings_Cut ⟨s.toArray⟩ ⟨#[c]⟩ m w (by show s.toArray.size < 4294967281;simp;omega) hm;have e:Lib.cut (⟨s.toArray⟩:ByteArray).data.toList (⟨#[c]⟩:ByteArray).data.toList=zbY c s:=zd7 c s;rw [e] at h;refine h.mono ?_;rintro e w' ⟨rfl,n,rfl⟩;exact ⟨rfl,(Mod.refl _ w).ofDrewN n⟩
theorem zbD (R:Nat) (r:Rd) (w:World) (hG:Gl w) (h:zbB w R r) (hs:r.rest.length<=1000000):
  Calls Tryz.prog 81 #[.pointer (some ⟨R,0,none⟩)] w fun e w'=>e=.returned (.string ⟨(zaQ r).1.toArray⟩)/\zbB w' R (zaQ r).2/\RdM R w w':=by
 obtain ⟨rest,more,bad⟩:=r;unfold zbB at h;simp only at h hs;have c0:w.cell? ⟨R,0,none⟩=some (.string ⟨rest.toArray⟩):=zaa h 0;have c1:w.cell? ⟨R,1,none⟩=some (.bool more):=zaa h 1;have c2:w.cell? ⟨R,2,none⟩=some (.bool bad):=zaa h 2;have z:=zac h;cases more with
 | false=>
  have hp:=zae h 2 (.bool true);have hm:=(Mod.refl (fun k=>k=R) w).setCell (a:=⟨R,2,none⟩) (fun _=>rfl) (.bool true);replace h:=hid h;replace hp:=hid hp;replace hm:=hid hm;go_enter Tryz.func81,Tryz.ntmps81;go_wp2_with fail
  go_ret;exact ⟨rfl,hp.out,hm.out⟩
 | true=>
  have hc:=hid (zmF rest 32 hs w hG);obtain ⟨q,hq⟩:∃ q,q=zbY 32 rest:=⟨_,rfl⟩;rw [<- hq] at hc;have hw:zaQ ⟨rest,true,bad⟩=(q.1,⟨q.2.1,q.2.2,bad⟩):=by unfold zaQ;rw [if_pos rfl,hq]
  rw [hw];obtain ⟨q1,q2,q3⟩:=q;simp only at hc hw ⊢;replace h:=hid h;replace hw:=hid hw;replace hq:=hid hq;go_enter Tryz.func81,Tryz.ntmps81;go_wp2_with fail
  refine hc.out.mono ?_;rintro e w1 ⟨rfl,hx1⟩;have h1:=hx1.at h.out (fun h=>h);have d0:w1.cell? ⟨R,0,none⟩=some (.string ⟨rest.toArray⟩):=zaa h1 0;have d1:w1.cell? ⟨R,1,none⟩=some (.bool true):=zaa h1 1;have z1:=zac h1;have p0:=zae h1 0 (.string ⟨q2.toArray⟩);have m0:=(RdM.ofExt (R:=R) hx1).setCell (a:=⟨R,0,none⟩) (fun _=>rfl) (.string ⟨q2.toArray⟩);have p1:=zae p0 1 (.bool q3);have m1:=m0.setCell (a:=⟨R,1,none⟩) (fun _=>rfl) (.bool q3);replace p1:=hid p1;replace m1:=hid m1;clear p0 m0 hx1 h1 c0 c1 c2 z hc;go_wp2_with fail
  go_ret;exact ⟨rfl,p1.out,m1.out⟩
theorem zdd (R:Nat) (r:Rd) (w:World) (h:zbB w R r):
  Calls Tryz.prog 121 #[.pointer (some ⟨R,0,none⟩)] w fun e w'=>e=.returned (.string ⟨(zb7 r).1.toArray⟩)/\zbB w' R (zb7 r).2/\RdM R w w':=by
 obtain ⟨rest,more,bad⟩:=r;unfold zbB at h;simp only at h;have c0:w.cell? ⟨R,0,none⟩=some (.string ⟨rest.toArray⟩):=zaa h 0;have c1:w.cell? ⟨R,1,none⟩=some (.bool more):=zaa h 1;have c2:w.cell? ⟨R,2,none⟩=some (.bool bad):=zaa h 2;have z:=zac h;cases more with
 | false=>
  have hp:=zae h 2 (.bool true);have hm:=(Mod.refl (fun k=>k=R) w).setCell (a:=⟨R,2,none⟩) (fun _=>rfl) (.bool true);replace h:=hid h;replace hp:=hid hp;replace hm:=hid hm;go_enter Tryz.func121,Tryz.ntmps121;go_wp2_with fail
  go_ret;exact ⟨rfl,hp.out,hm.out⟩
 | true=>
  have hp:=zae h 1 (.bool false);have hm:=(Mod.refl (fun k=>k=R) w).setCell (a:=⟨R,1,none⟩) (fun _=>rfl) (.bool false);have e0:(w.setCell ⟨R,1,none⟩ (.bool false)).cell? ⟨R,0,none⟩=some (.string ⟨rest.toArray⟩):=zaa hp 0;replace h:=hid h;replace hp:=hid hp;replace hm:=hid hm;go_enter Tryz.func121,Tryz.ntmps121;go_wp2_with fail
  go_ret;exact ⟨rfl,hp.out,hm.out⟩
theorem zcK (R:Nat) (r:Rd) (s:Bs) (hs:s.length<=1000000) (w:World) (hG:Gl w) (h:zbB w R r):
  Calls Tryz.prog 177 #[.pointer (some ⟨R,0,none⟩),.string ⟨s.toArray⟩] w fun e w'=>e=.returned (.int .i64 (zbo s r).1)/\zbB w' R (zbo s r).2/\RdM R w w':=by
 obtain ⟨rest,more,bad⟩:=r;unfold zbB at h;simp only at h;unfold zbo;have key:∀ (e:Ending) (w1:World),True:=fun _ _=>trivial
 cases ha:Go.Lib.atoiAll s with
 | ok v=>
  have hA:=hid (Tryz.strconv_Atoi_ok ⟨s.toArray⟩ (by show s.toArray.size<=_;simp;omega) v ha w);replace h:=hid h;go_enter Tryz.func177,Tryz.ntmps177;go_wp2_with fail
  refine hA.out.mono ?_;rintro e w1 ⟨rfl,hw⟩;have hx:Ext w w1:=by
   rcases hw with rfl | ⟨t,rfl⟩
   ·exact Mod.refl _ _
   ·exact Mod.ofBelow (Lib.bytesWorld_below w _ t)
  replace hx:=hid hx;go_wp2_with fail
  go_ret;exact ⟨rfl,hx.out.at h.out (fun h=>h),RdM.ofExt hx.out⟩
 | range=>
  obtain ⟨tp,p,hvar⟩:=hG.er;have hA:=hid (Tryz.strconv_Atoi_range_var ⟨s.toArray⟩ (by show s.toArray.size<=_;simp;omega) ha tp p w hvar);replace h:=hid h;go_enter Tryz.func177,Tryz.ntmps177;go_wp2_with fail
  refine hA.out.mono ?_;rintro e w1 ⟨N,rfl,-,-,hb⟩;have hx:Ext w w1:=Mod.ofBelow hb;have h1:=hx.at h.out (fun h=>h);have c2:w1.cell? ⟨R,2,none⟩=some (.bool bad):=zaa h1 2;have z:=zac h1;have hp:=zae h1 2 (.bool true);have hm:=(RdM.ofExt (R:=R) hx).setCell (a:=⟨R,2,none⟩) (fun _=>rfl) (.bool true);replace hp:=hid hp;replace hm:=hid hm;clear hA hb hx h1;go_wp2_with fail
  go_ret;exact ⟨rfl,hp.out,hm.out⟩
 | _=>
  obtain ⟨tp,p,hvar⟩:=hG.es;have hA:=hid (Tryz.strconv_Atoi_syntax_var ⟨s.toArray⟩ (by show s.toArray.size<=_;simp;omega) ha tp p w hvar);replace h:=hid h;go_enter Tryz.func177,Tryz.ntmps177;go_wp2_with fail
  refine hA.out.mono ?_;rintro e w1 ⟨N,rfl,-,-,hb⟩;have hx:Ext w w1:=Mod.ofBelow hb;have h1:=hx.at h.out (fun h=>h);have c2:w1.cell? ⟨R,2,none⟩=some (.bool bad):=zaa h1 2;have z:=zac h1;have hp:=zae h1 2 (.bool true);have hm:=(RdM.ofExt (R:=R) hx).setCell (a:=⟨R,2,none⟩) (fun _=>rfl) (.bool true);replace hp:=hid hp;replace hm:=hid hm;clear hA hb hx h1;go_wp2_with fail
  go_ret;exact ⟨rfl,hp.out,hm.out⟩
theorem zjg (c:UInt8) (s:Bs):(zbY c s).1.length<=s.length/\(zbY c s).2.1.length<=s.length:=by
 rcases zdk (c:=c) s with ⟨-,e,-⟩ | ⟨-,e1,e2,-⟩
 ·have:=congrArg List.length e
  simp only [List.length_append,List.length_cons] at this;omega
 ·rw [e1,e2];simp
theorem za6 (r:Rd):(zaQ r).1.length<=r.rest.length/\(zaQ r).2.rest.length<=r.rest.length:=by
 unfold zaQ;split
 ·exact zjg 32 r.rest
 ·simp
theorem zb9 (s:Bs) (r:Rd):(zbo s r).2.rest=r.rest:=by unfold zbo;split <;> rfl
theorem zbm (r:Rd):(zbi r).2.rest.length<=r.rest.length:=by
 unfold zbi;rw [zb9];exact (za6 r).2
theorem zaJ (R:Nat) (r:Rd) (w:World) (hG:Gl w) (hR:10<=R) (h:zbB w R r) (hs:r.rest.length<=1000000):
  Calls Tryz.prog 109 #[.pointer (some ⟨R,0,none⟩)] w fun e w'=>e=.returned (.int .i64 (zbi r).1)/\zbB w' R (zbi r).2/\RdM R w w':=by
 have h1:=hid (zbD R r w hG h hs);have hl:=hid (za6 r);go_enter Tryz.func109,Tryz.ntmps109;go_wp2_with fail
 refine h1.out.mono ?_;rintro e w1 ⟨rfl,hr1,hm1⟩;have h2:=hid (zcK R (zaQ r).2 (zaQ r).1 (by have:=hl.out;omega) w1 (hG.rd hR hm1) hr1);go_wp2_with fail
 refine h2.out.mono ?_;rintro e w2 ⟨rfl,hr2,hm2⟩;replace hr2:=hid hr2;have hm:=hid (hm1.trans hm2);clear hm1 hm2 hr1 h1 h2;go_wp2_with fail
 go_ret;exact ⟨rfl,hr2.out,hm.out⟩
def zde (w:World) (R:Nat) (t:Bs) (st:St):Prop:=∃ a:Nat,a<=t.length/\match st with
 | .ok r=>r=t.drop a/\w.heap[R]?=some (.cells #[.string ⟨t.toArray⟩,.int .i64 a,.int .i64 0] 184 (0,0))
 | .error e=>e ≠ 0/\w.heap[R]?=some (.cells #[.string ⟨t.toArray⟩,.int .i64 a,.int .i64 e] 184 (0,0))
theorem zde.lt {w:World} {R:Nat} {t:Bs} {st:St} (h:zde w R t st):R < w.heap.size:=by
 obtain ⟨a,-,h⟩:=h;cases st with
 | ok r=>exact zat h.2
 | error e=>exact zat h.2
theorem zde.mod {S:Nat -> Prop} {w w':World} {R:Nat} {t:Bs} {st:St} (h:zde w R t st) (hm:Mod S w w') (hR:¬ S R):zde w' R t st:=by
 obtain ⟨a,ha,h⟩:=h;refine ⟨a,ha,?_⟩;cases st with
 | ok r=>exact ⟨h.1,hm.at h.2 hR⟩
 | error e=>exact ⟨h.1,hm.at h.2 hR⟩
theorem zde.ext {w w':World} {R:Nat} {t:Bs} {st:St} (h:zde w R t st) (hx:Ext w w'):zde w' R t st:=h.mod hx (fun h=>h)
def stE:St -> Int
 | .ok _=>0
 | .error e=>e
theorem zde.err {w:World} {R:Nat} {t:Bs} {st:St} (h:zde w R t st):w.cell? ⟨R,2,none⟩=some (.int .i64 (stE st)):=by
 obtain ⟨a,ha,h⟩:=h;cases st with
 | ok r=>exact zaa h.2 2
 | error e=>exact zaa h.2 2
theorem zde.ne {w:World} {R:Nat} {t:Bs} {e:Int} (h:zde w R t (.error e)):e ≠ 0:=by
 obtain ⟨a,ha,h⟩:=h;exact h.1
theorem zer (R:Nat) (t:Bs) (st:St) (hs:t.length<=1000000) (w:World) (h:zde w R t st):
  Calls Tryz.prog 239 #[.pointer (some ⟨R,0,none⟩),.func (.func 192) #[] #[]] w fun e w'=>e=.returned (.int .i64 (mI st).1)/\zde w' R t (mI st).2/\RdM R w w':=by
 obtain ⟨a,ha,h⟩:=h;cases st with
 | error er=>
  simp only at h;obtain ⟨he,h⟩:=h;have c2:w.cell? ⟨R,2,none⟩=some (.int .i64 er):=zaa h 2;have he1:(er !=0)=true:=by rw [bne_iff_ne];exact he
  have he2:(er==0)=false:=by rw [beq_eq_false_iff_ne];exact he
  replace h:=hid h;go_enter Tryz.func239,Tryz.ntmps239;go_wp2_with fail
  go_ret;exact ⟨rfl,⟨a,ha,he,h.out⟩,Mod.refl _ _⟩
 | ok r=>
  simp only at h;obtain ⟨hr,h⟩:=h;have c0:w.cell? ⟨R,0,none⟩=some (.string ⟨t.toArray⟩):=zaa h 0;have c1:w.cell? ⟨R,1,none⟩=some (.int .i64 a):=zaa h 1;have c2:w.cell? ⟨R,2,none⟩=some (.int .i64 0):=zaa h 2;have hce:=enters_of Tryz.func192 (by kernel_rfl) rfl;have hd0:=(Mod.drew0 (fun _=>False) w).at h (fun h=>h);have hm0:=RdM.ofExt (R:=R) (Mod.drew0 (fun _=>False) w);replace h:=hid h;go_enter Tryz.func239,Tryz.ntmps239;go_upto_region 4 with (fail)
  refine zad (fun W=>W.heap[R]?=some (.cells #[.string ⟨t.toArray⟩,.int .i64 a,.int .i64 0] 184 (0,0))) [(0,true),(1,true),(2,true),(3,true),(4,true),(5,true),(6,true),(7,true),(8,true),(9,false),(10,true),(11,true),(12,true),(13,true),(14,true),(15,true),(16,true)]
   (by as_aux_lemma=>kernel_rfl) (by as_aux_lemma=>kernel_rfl) (by as_aux_lemma=>kernel_rfl) (by decide) hd0 ?_
  simp only [zak,List.map_cons,List.map_nil,List.getD_cons_zero,List.getD_cons_succ];generalize w.drew=w0 at hd0 hm0 ⊢;clear c0 c1 c2;have h1:=hid (zfP t a ha hs w0);replace hd0:=hid hd0;replace hm0:=hid hm0;repeat (refine zaB (by rfl) ?_ (fun w' hC=>?_) ?_;rotate_left;(have q0:w'.cell? ⟨R,0,none⟩=some (.string ⟨t.toArray⟩):=zaa hC 0;have q1:w'.cell? ⟨R,1,none⟩=some (.int .i64 a):=zaa hC 1;go_simp;try with_reducible rfl);try simp only [Act.put,sA,sZ,sS])
  refine zaj (by rfl) (fun K hK=>?_);go_simp;refine h1.out.mono ?_;rintro e w1 ⟨rfl,hi⟩;clear h1;unfold zmT zmS at hi;have hb0:w0.cell? ⟨R,2,none⟩=some (.int .i64 0):=zaa hd0.out 2;have zR:=zac hd0.out;cases hg:zex (t.drop a) with
  | none=>
   have em:mI (.ok r)=(0,.error 10):=by unfold mI mR rbI;simp only [hr,hg]
   rw [hg] at hi;simp only at hi;subst hi;refine hK.out _ _ hd0.out ?_;clear hK K;have p2:=hid (zae hd0.out 2 (.int .i64 10));have m2:=hid (hm0.out.setCell (a:=⟨R,2,none⟩) (fun _=>rfl) (.int .i64 10));try simp only [Act.put,sA,sZ,sS]
   repeat (refine qT ?_)
   refine zas ?_;go_wp2_with fail
   go_ret;rw [em];exact ⟨rfl,⟨a,ha,by decide,p2.out⟩,m2.out⟩
  | some x=>
   obtain ⟨n,u⟩:=x;have em:mI (.ok r)=(n,.ok u):=by unfold mI mR rbI;simp only [hr,hg]
   rw [hg] at hi;simp only at hi;obtain ⟨b,hab,hbl,hub,rfl⟩:=hi;refine hK.out _ _ hd0.out ?_;clear hK K;have hb1:w0.cell? ⟨R,1,none⟩=some (.int .i64 a):=zaa hd0.out 1;have p2:=hid (zae hd0.out 1 (.int .i64 b));have m2:=hid (hm0.out.setCell (a:=⟨R,1,none⟩) (fun _=>rfl) (.int .i64 b));try simp only [Act.put,sA,sZ,sS]
   repeat (refine qT ?_)
   refine zas ?_;go_wp2_with fail
   go_ret;rw [em];exact ⟨rfl,⟨b,hbl,hub,p2.out⟩,m2.out⟩
theorem zjS (R:Nat) (t:Bs) (st:St) (hs:t.length<=1000000) (w:World) (h:zde w R t st):
  Calls Tryz.prog 241 #[.pointer (some ⟨R,0,none⟩),.func (.func 194) #[] #[]] w fun e w'=>e=.returned (.string ⟨((mS st).1).toArray⟩)/\zde w' R t (mS st).2/\RdM R w w':=by
 obtain ⟨a,ha,h⟩:=h;cases st with
 | error er=>
  simp only at h;obtain ⟨he,h⟩:=h;have c2:w.cell? ⟨R,2,none⟩=some (.int .i64 er):=zaa h 2;have he1:(er !=0)=true:=by rw [bne_iff_ne];exact he
  have he2:(er==0)=false:=by rw [beq_eq_false_iff_ne];exact he
  replace h:=hid h;go_enter Tryz.func241,Tryz.ntmps241;go_wp2_with fail
  go_ret;exact ⟨rfl,⟨a,ha,he,h.out⟩,Mod.refl _ _⟩
 | ok r=>
  simp only at h;obtain ⟨hr,h⟩:=h;have c0:w.cell? ⟨R,0,none⟩=some (.string ⟨t.toArray⟩):=zaa h 0;have c1:w.cell? ⟨R,1,none⟩=some (.int .i64 a):=zaa h 1;have c2:w.cell? ⟨R,2,none⟩=some (.int .i64 0):=zaa h 2;have hce:=enters_of Tryz.func194 (by kernel_rfl) rfl;have hd0:=(Mod.drew0 (fun _=>False) w).at h (fun h=>h);have hm0:=RdM.ofExt (R:=R) (Mod.drew0 (fun _=>False) w);replace h:=hid h;go_enter Tryz.func241,Tryz.ntmps241;go_upto_region 4 with (fail)
  refine zad (fun W=>W.heap[R]?=some (.cells #[.string ⟨t.toArray⟩,.int .i64 a,.int .i64 0] 184 (0,0))) [(0,true),(1,true),(2,true),(3,true),(4,true),(5,true),(6,true),(7,true),(8,true),(9,false),(10,true),(11,true),(12,true),(13,true),(14,true),(15,true),(16,true)]
   (by as_aux_lemma=>kernel_rfl) (by as_aux_lemma=>kernel_rfl) (by as_aux_lemma=>kernel_rfl) (by decide) hd0 ?_
  simp only [zak,List.map_cons,List.map_nil,List.getD_cons_zero,List.getD_cons_succ];generalize w.drew=w0 at hd0 hm0 ⊢;clear c0 c1 c2;have h1:=hid (zfc t a ha hs w0);replace hd0:=hid hd0;replace hm0:=hid hm0;repeat (refine zaB (by rfl) ?_ (fun w' hC=>?_) ?_;rotate_left;(have q0:w'.cell? ⟨R,0,none⟩=some (.string ⟨t.toArray⟩):=zaa hC 0;have q1:w'.cell? ⟨R,1,none⟩=some (.int .i64 a):=zaa hC 1;go_simp;try with_reducible rfl);try simp only [Act.put,sA,sZ,sS])
  refine zaj (by rfl) (fun K hK=>?_);go_simp;refine h1.out.mono ?_;rintro e w1 ⟨rfl,hi⟩;clear h1;unfold znJ znI at hi;have hb0:w0.cell? ⟨R,2,none⟩=some (.int .i64 0):=zaa hd0.out 2;have zR:=zac hd0.out;cases hg:zkE (t.drop a) with
  | none=>
   have em:mS (.ok r)=([],.error 10):=by unfold mS mR rbS;simp only [hr,hg]
   rw [hg] at hi;simp only at hi;subst hi;refine hK.out _ _ hd0.out ?_;clear hK K;have p2:=hid (zae hd0.out 2 (.int .i64 10));have m2:=hid (hm0.out.setCell (a:=⟨R,2,none⟩) (fun _=>rfl) (.int .i64 10));try simp only [Act.put,sA,sZ,sS]
   repeat (refine qT ?_)
   refine zas ?_;go_wp2_with fail
   go_ret;rw [em];exact ⟨rfl,⟨a,ha,by decide,p2.out⟩,m2.out⟩
  | some x=>
   obtain ⟨n,u⟩:=x;have em:mS (.ok r)=(n,.ok u):=by unfold mS mR rbS;simp only [hr,hg]
   rw [hg] at hi;simp only at hi;obtain ⟨b,hab,hbl,hub,rfl⟩:=hi;refine hK.out _ _ hd0.out ?_;clear hK K;have hb1:w0.cell? ⟨R,1,none⟩=some (.int .i64 a):=zaa hd0.out 1;have p2:=hid (zae hd0.out 1 (.int .i64 b));have m2:=hid (hm0.out.setCell (a:=⟨R,1,none⟩) (fun _=>rfl) (.int .i64 b));try simp only [Act.put,sA,sZ,sS]
   repeat (refine qT ?_)
   refine zas ?_;go_wp2_with fail
   go_ret;rw [em];exact ⟨rfl,⟨b,hbl,hub,p2.out⟩,m2.out⟩
theorem zbj (R:Nat) (t:Bs) (st:St) (hs:t.length<=1000000) (w:World) (h:zde w R t st):
  Calls Tryz.prog 240 #[.pointer (some ⟨R,0,none⟩)] w fun e w'=>e=.returned (.int .i64 (mI st).1)/\zde w' R t (mI st).2/\RdM R w w':=by
 have h1:=hid (zer R t st hs w h);go_enter Tryz.func240,Tryz.ntmps240;go_wp2_with fail
 refine h1.out.mono ?_;rintro e w1 ⟨rfl,hr,hm⟩;replace hr:=hid hr;replace hm:=hid hm;go_wp2_with fail
 go_ret;exact ⟨rfl,hr.out,hm.out⟩
end Go.Proofs.YtjjfphalcibjfaaGreatDoor
namespace Cdk
open Go Go.RowKit
def znT {α:Type} (F:Fence) (n:Nat) (P:Program) (g:Nat) (lb:Array Value) (encs:α -> Array Value) (Kb:Nat -> Prop) (b0:Nat) (Ok:α -> Prop) (S Sp:List α -> Prop) (N:Nat) (w:World):Prop:=
 ∀ (l:Nat) (J:List α -> World -> Prop) (Jx:List α -> World -> Prop) (W:World),Below w.heap.size w W -> (∀ p A B,J p A -> A.grownBy B none -> J p B) -> (∀ p A v,J p A -> J p (A.setCell ⟨b0,0,none⟩ v)) →
  (∀ pre x W1,J pre W1 -> pre.length < N -> Ok x -> YieldAt F (n - 1) P l (encs x) W1 fun e W'=>
   (e=.returned (.bool true)/\J (pre++[x]) W'/\(W1.heap.size<=W'.heap.size/\∀ k,Kb k -> W'.heap[k]?=W1.heap[k]?)) \/ (e=.returned (.bool false)/\Jx (pre++[x]) W')) →
  J [] W →
  CallsIn F n P g (#[.func (.yield l) #[] #[]]++lb) W fun e W'=>(∃ v,e=.returned v)/\((∃ xs,S xs/\J xs W') \/ (∃ pre,Sp pre/\Jx pre W'))
def znQ {α:Type} (Kb:Nat -> Prop) (I:List α -> World -> Prop) (Ix:Code -> List α -> World -> Prop) (xs:List α) (W:World):Exit -> Act -> World -> Prop
 | .normal,_,W'=>KeepsOthers W W'/\(∀ k,Kb k -> W'.heap[k]?=W.heap[k]?)/\I xs W'
 | .ret,_,W'=>KeepsOthers W W'/\Ix .ret xs W'
 | .exit id,_,W'=>KeepsOthers W W'/\Ix (.exit id) xs W'
 | .goto t,_,W'=>KeepsOthers W W'/\Ix (.goto t) xs W'
 | .panic _,_,_=>False
 | .outgrown,_,_=>False
variable {F:Fence} {n:Nat} {P:Program}
theorem zbN {α:Type} {g:Operand} {ps:Array Tmp} {assign body:Code} {Q:Exit -> Act -> World -> Prop} {a:Act} {w:World}
  (hro:F.round=none) (h1:1<=n) {gf:Nat} {lb:Array Value} (hg:a.eval g=.func (.func gf) #[] lb) (hFg:F.fn gf) (eg:∀ args w,(callFunc gf args).run P w=.ok (.enter gf args) w)
  {encs:α -> Array Value} {Kb:Nat -> Prop} {b0:Nat} {Ok:α -> Prop} {S Sp:List α -> Prop} {N:Nat} {w0:World} (hseq:znT F (n - 1) P gf lb encs Kb b0 Ok S Sp N w0) (hKb:∀ k,Kb k -> k < w.heap.size) (hb0w:b0 < w.heap.size) (hb0:Below w0.heap.size w0 w) (hps:∀ x,(encs x).size=ps.size)
  (I:List α -> World -> Prop) (Ix:Code -> List α -> World -> Prop) (hI:OwnFrom w.heap.size I) (hIb:∀ p A v,I p A -> I p (A.setCell ⟨b0,0,none⟩ v)) (hIx:∀ c,OwnFrom w.heap.size (Ix c)) (h0:I [] w) (a₁:α -> Act)
  (hassign:∀ (l:Nat) (x:α) (W:World) (K:Act -> World -> Prop),K (a₁ x) W →
   assign.wpIn (F.inRound l) (n - 1 - 1) P (Exit.then K (fun _ _ _=>False)) { tmps:=(ps.zip (encs x)).foldl (fun t (p,v)=>t.setIfInBounds p v) a.tmps,defers:=[] } W)
  (hbody:∀ (l:Nat) (pre:List α) (x:α) (W:World),I pre W -> pre.length < N -> Ok x -> body.wpIn (F.inRound l) (n - 1 - 1) P (znQ Kb I Ix (pre++[x]) W) (a₁ x) W)
  (hdone:∀ (D:Nat) (xs:List α) (W:World),w.heap.size<=D -> S xs -> I xs W -> W.heap[D]?=some (.deferred (some [])) -> Q .normal { a with defers:={ target:=.collected D,args:=#[] }::a.defers } W)
  (hstop:∀ (D:Nat) (c:Code) (pre:List α) (W:World),w.heap.size<=D -> Sp pre -> Ix c pre W -> W.heap[D]?=some (.deferred (some [])) -> c.wpIn F n P Q { a with defers:={ target:=.collected D,args:=#[] }::a.defers } W):
  (Code.rangeFunc g ps assign body).wpIn F n P Q a w:=by
 refine wpIn_rangeFunc ?_;intro fn hfn;rw [hro];obtain ⟨rec,hrec⟩:∃ rec:LoopState -> Option Code -> Loop,rec=fun st pe=>{ state:=st,pending:=pe,fn,tmps:=a.tmps,params:=ps,assign,body,defers:=w.heap.size }:=⟨_,rfl⟩
 obtain ⟨W1,hW1⟩:∃ W1,(w.alloc (.deferred (some []))).alloc (.loop (rec .ready none))=W1:=⟨_,rfl⟩;have hL1:W1.heap[w.heap.size+1]?=some (.loop (rec .ready none)):=by
  rw [<- hW1];have:=World.alloc_heap_new (w.alloc (.deferred (some []))) (.loop (rec .ready none));rwa [World.size_alloc] at this
 have hK1:W1.heap[w.heap.size]?=some (.deferred (some [])):=by
  rw [<- hW1];exact (Below.heap_alloc _ _ _ (by simp)).trans (World.alloc_heap_new w _)
 have hI1:I [] W1:=by rw [<- hW1];exact hI.alloc _ (hI.alloc _ h0)
 have hb1:Below w0.heap.size w0 W1:=by
  rw [<- hW1];exact hb0.trans ((((Below.refl _ w).alloc (Nat.le_refl _) _).alloc (by simp) _).mono hb0.size)
 refine ⟨w.heap.size+1,[{ target:=.collected w.heap.size,args:=#[] }],W1,{ target:=.fn (.func gf) lb,args:=#[.func (.yield (w.heap.size+1)) #[] #[]] },W1,gf,
  #[.func (.yield (w.heap.size+1)) #[] #[]]++lb,W1,?_,?_,?_,?_,fun _=>h1,?_⟩
 ·rw [<- hW1,hrec];exact run_enterLoop_outer _ _ _ _ _
 ·simp only [resolve,hg]
  simp [go_sem]
 ·intro f' hf';simp [Target.leads] at hf';subst hf';exact hFg
 ·simp [invoke,go_sem,eg]
 ·have hkeep:∀ {A B:World} {o:Obj} {k:Nat},A.grownBy B none -> A.heap[k]?=some o -> B.heap[k]?=some o:=fun hg' hk=>
   (hg'.block _ (Array.getElem?_eq_some_iff.1 hk).1 (by simp)).trans hk
  refine (hseq (w.heap.size+1)
   (fun pre W=>I pre W/\W.heap[w.heap.size+1]?=some (.loop (rec .ready none))/\W.heap[w.heap.size]?=some (.deferred (some [])))
   (fun pre W=>∃ c,Ix c pre W/\W.heap[w.heap.size+1]?=some (.loop (rec .done (some c)))/\W.heap[w.heap.size]?=some (.deferred (some [])))
   W1 hb1
   (fun s A B hs hg'=>⟨hI s A B none hs.1 hg' (fun r e=>by cases e),hkeep hg' hs.2.1,hkeep hg' hs.2.2⟩)
   (fun s A v hs=>⟨hIb s A v hs.1,by rw [Below.heap_setCell A ⟨b0,0,none⟩ v _ (by simp only;omega)];exact hs.2.1,by rw [Below.heap_setCell A ⟨b0,0,none⟩ v _ (by simp only;omega)];exact hs.2.2⟩)
   ?_ ⟨hI1,hL1,hK1⟩).mono ?_
  ·
   rintro pre x W ⟨hi,hl,hk⟩ hlen hok;have hlt:w.heap.size+1 < W.heap.size:=(Array.getElem?_eq_some_iff.1 hl).1;have hy:=run_yield (P:=P) (args:=encs x) hl (by rw [hrec];exact hps x);rw [hrec] at hy;refine ⟨fn,_,assign,body,hy,roundIn_of_wpIn hfn (hassign _ x W _ ⟨_,run_beginRound hl (by rw [hrec]),?_⟩)⟩;obtain ⟨W2,hW2⟩:∃ W2,W.putObj (w.heap.size+1) (.loop { rec .ready none with state:=.busy })=W2:=⟨_,rfl⟩;have hl2:W2.heap[w.heap.size+1]?=some (.loop { rec .ready none with state:=.busy }):=by rw [<- hW2];exact World.putObj_heap_same hlt
   have ho2:∀ k,k ≠ w.heap.size+1 -> W2.heap[k]?=W.heap[k]?:=fun k hk=>by rw [<- hW2];exact World.putObj_heap_other (by omega)
   have hk2:W2.heap[w.heap.size]?=some (.deferred (some [])):=(ho2 _ (by omega)).trans hk;have hs2:W2.heap.size=W.heap.size:=by rw [<- hW2];simp
   have hi2:I pre W2:=by rw [<- hW2];exact hI.putObj (s:=pre) _ hi (by omega) hl rfl
   have hgoal:=hbody (w.heap.size+1) pre x W2 hi2 hlen hok;rw [hW2];refine wpIn_mono hgoal ?_;have fin:∀ (jump:Option Code) (W3:World),KeepsOthers W2 W3 →
     (Instr.endRound (w.heap.size+1) jump).run P W3=.ok (.bool jump.isNone) (W3.putObj (w.heap.size+1) (.loop (rec (if jump.isNone then .ready else .done) jump))) ∧
     W3.heap[w.heap.size+1]?=some (.loop { rec .ready none with state:=.busy }) ∧
     (W3.putObj (w.heap.size+1) (.loop (rec (if jump.isNone then .ready else .done) jump))).heap[w.heap.size+1]?=some (.loop (rec (if jump.isNone then .ready else .done) jump)) ∧
     (W3.putObj (w.heap.size+1) (.loop (rec (if jump.isNone then .ready else .done) jump))).heap[w.heap.size]?=some (.deferred (some [])):=fun jump W3 hk3=>by
    have hl3:=hk3.same _ _ hl2 rfl;have:=run_endRound (P:=P) jump hl3;rw [hrec] at this ⊢;exact ⟨this,by rw [hrec] at hl3;exact hl3,World.putObj_heap_same (Array.getElem?_eq_some_iff.1 hl3).1,(World.putObj_heap_other (by omega)).trans (hk3.same _ _ hk2 rfl)⟩
   rintro e a3 W3 hp;cases e with
   | normal=>
    obtain ⟨hk3,hb3,hi3⟩:=hp;obtain ⟨hr,hl3,hl4,hk4⟩:=fin none W3 hk3;refine ⟨_,_,hr,.inl ⟨rfl,⟨hI.putObj (s:=pre++[x]) _ hi3 (by omega) hl3 rfl,hl4,hk4⟩,by have:=hk3.size;simp;omega,fun k hk=>?_⟩⟩;have hkw:=hKb k hk;have e1:(W3.putObj (w.heap.size+1) (.loop (rec (if (none:Option Code).isNone then .ready else .done) none))).heap[k]?=W3.heap[k]?:=World.putObj_heap_other (by omega);rw [e1,hb3 k hk,ho2 k (by omega)]
   | ret=>
    obtain ⟨hk3,hi3⟩:=hp;obtain ⟨hr,hl3,hl4,hk4⟩:=fin (some .ret) W3 hk3;exact ⟨_,_,hr,.inr ⟨rfl,.ret,(hIx _).putObj _ hi3 (by omega) hl3 rfl,hl4,hk4⟩⟩
   | exit id=>
    obtain ⟨hk3,hi3⟩:=hp;obtain ⟨hr,hl3,hl4,hk4⟩:=fin (some (.exit id)) W3 hk3;exact ⟨_,_,hr,.inr ⟨rfl,.exit id,(hIx _).putObj _ hi3 (by omega) hl3 rfl,hl4,hk4⟩⟩
   | goto t=>
    obtain ⟨hk3,hi3⟩:=hp;obtain ⟨hr,hl3,hl4,hk4⟩:=fin (some (.goto t)) W3 hk3;exact ⟨_,_,hr,.inr ⟨rfl,.goto t,(hIx _).putObj _ hi3 (by omega) hl3 rfl,hl4,hk4⟩⟩
   | panic ch=>exact hp.elim
   | outgrown=>exact hp.elim
  ·rintro e W2 ⟨⟨v,rfl⟩,(⟨xs,hS,hi,hl,hk⟩ | ⟨pre,hSp,c,hi,hl,hk⟩)⟩
   ·exact ⟨none,_,by have:=run_endLoop (P:=P) hl (by rw [hrec];simp);rw [hrec] at this;exact this,hdone _ xs _ (Nat.le_refl _) hS (hI.putObj (s:=xs) _ hi (by omega) hl rfl) ((World.putObj_heap_other (by omega)).trans hk)⟩
   ·exact ⟨some c,_,by have:=run_endLoop (P:=P) hl (by rw [hrec];simp);rw [hrec] at this;exact this,hstop _ c pre _ (Nat.le_refl _) hSp ((hIx c).putObj _ hi (by omega) hl rfl) ((World.putObj_heap_other (by omega)).trans hk)⟩
end Cdk
namespace Go.Proofs.YtjjfphalcibjfaaGreatDoor
open Go.Shelf Go.RowKit Cdk Scr
attribute [local go_sem] Oper.semAt_some
theorem zlY (s:Bs) (a b:Nat):(⟨s.toArray⟩:ByteArray).extract a b=⟨((s.take b).drop a).toArray⟩:=by
 apply ByteArray.ext;rw [ByteArray.data_extract];apply Array.ext';simp [List.extract_eq_take_drop,List.drop_take]
theorem zjb (c:UInt8) (s:Bs):(Lib.index s [c]=-1/\parts c s=[s]) \/ (∃ i:Nat,Lib.index s [c]=i/\i < s.length/\parts c s=s.take i::parts c (s.drop (i+1))):=by
 have hcut:=zd7 c s;unfold Lib.cut at hcut;have hge:-1<=Lib.index s [c]:=Lib.index_ge _ _;have hro:=Lib.index_room s [c]
 by_cases h1:Lib.index s [c]=-1
 ·rw [if_neg (by omega)] at hcut
  refine .inl ⟨h1,?_⟩;rw [zb8,<- hcut];rfl
 ·rw [if_pos (by omega)] at hcut
  have h2:=hro (by omega);simp only [List.length_cons,List.length_nil] at h2;refine .inr ⟨(Lib.index s [c]).toNat,by omega,by omega,?_⟩;rw [zb8,<- hcut];rfl
abbrev zog (Bz Bc Bk:Nat):Nat -> Prop:=fun k=>k=Bz \/ k=Bc \/ k=Bk
theorem zkW (n l Bz Bc Bk:Nat) (hn:1<=n) (hne:Bz ≠ Bc/\Bz ≠ Bk) (c:UInt8) (s:Bs) (hs:s.length<=1000000) (J Jx:List Bs -> World -> Prop) (hJ:∀ p A B,J p A -> A.grownBy B none -> J p B) (hJw:∀ p A v,J p A -> J p (A.setCell ⟨Bz,0,none⟩ v))
  (hY:∀ pre x W,J pre W -> pre.length < (parts c s).length -> x.length<=1000000 -> YieldAt Fence.wide (n - 1) Tryz.prog l #[.string ⟨x.toArray⟩] W fun e W'=>
   (e=.returned (.bool true)/\J (pre++[x]) W'/\(W.heap.size<=W'.heap.size/\∀ k,zog Bz Bc Bk k -> W'.heap[k]?=W.heap[k]?)) \/ (e=.returned (.bool false)/\Jx (pre++[x]) W'))
  (W:World) (hz:W.heap[Bz]?=some (.cells #[.string ⟨s.toArray⟩] 9 (0,0))) (hc:W.heap[Bc]?=some (.cells #[.string ⟨#[c]⟩] 9 (0,0))) (hk:W.heap[Bk]?=some (.cells #[.int .i64 0] 3 (0,0))) (h0:J [] W):
  CallsIn Fence.wide n Tryz.prog 264 #[.func (.yield l) #[] #[],.pointer (some ⟨Bc,0,none⟩),.pointer (some ⟨Bz,0,none⟩),.pointer (some ⟨Bk,0,none⟩)] W fun e W'=>(∃ v,e=.returned v) ∧
   ((∃ ys,ys=parts c s/\J ys W') \/ (∃ pre,pre <+:parts c s/\Jx pre W')):=by
 refine callsIn_wide.2 ?_;have cc:=zaa hc 0;go_enter Tryz.func264,Tryz.ntmps264;obtain ⟨SC,hSC⟩:∃ SC,SC=parts c s:=⟨_,rfl⟩;rw [<- hSC] at hY ⊢;replace hY:=hid hY;replace hJ:=hid hJ;replace hJw:=hid hJw;replace hz:=hid hz;replace hk:=hid hk;replace hc:=hid hc;go_wp2_with fail
 go_loopg [] (s.length+1) (fun g wr=>∃ (pre:List Bs) (rest:Bs),wr.heap[Bz]?=some (.cells #[.string ⟨rest.toArray⟩] 9 (0,0))/\wr.heap[Bc]?=some (.cells #[.string ⟨#[c]⟩] 9 (0,0))/\wr.heap[Bk]?=some (.cells #[.int .i64 0] 3 (0,0))/\SC=pre++parts c rest/\J pre wr/\rest.length < g/\rest.length<=1000000)
 case atStart=>exact ⟨[],s,hz.out,hc.out,hk.out,by rw [hSC];rfl,h0,by omega,hs⟩
 case round=>
  clear h0 hc hk hz hSC cc;obtain ⟨pre,rest,hz,hc,hk,hsc,hJp,hlen,hrl⟩:=hrel;have z0:wr.cell? ⟨Bz,0,none⟩=some (.string ⟨rest.toArray⟩):=zaa hz 0;have c0:wr.cell? ⟨Bc,0,none⟩=some (.string ⟨#[c]⟩):=zaa hc 0;have k0:wr.cell? ⟨Bk,0,none⟩=some (.int .i64 0):=zaa hk 0;have hix:=hid (Tryz.strings_Index_one ⟨rest.toArray⟩ c wr);replace hz:=hid hz;replace hc:=hid hc;replace hk:=hid hk;replace hJp:=hid hJp;replace hlen:=hid hlen;rcases zjb c rest with ⟨e1,e2⟩ | ⟨i,e1,e2,e3⟩
  ·rw [Lib.index_one] at e1
   have e1':Lib.indexByte (⟨rest.toArray⟩:ByteArray).data.toList c=-1:=e1;rw [e1'] at hix;rw [e2] at hsc;have hy:=hY.out pre rest wr hJp.out (by rw [hsc];simp) hrl;obtain ⟨yfn,ytmps,yassign,ybody,hyr,hyR⟩:=hy;replace hyR:=hid hyR;replace hsc:=hid hsc;clear e1 e2 e1';go_wp2_with fail
   refine hix.out.mono ?_;rintro e w1 ⟨rfl,rfl⟩;go_upto_region 10 with fail
   refine (wpIn_wide (n:=n)).1 ?_
   gi_wp2
   refine hyR.out.mono ?_;rintro e' W3 (⟨rfl,hJ3,-⟩ | ⟨rfl,hJx3⟩)
   ·replace hJ3:=hid hJ3
    gi_wp2
    go_end0
    exact ⟨⟨_,rfl⟩,.inl ⟨_,hsc.out.symm,hJ3.out⟩⟩
   ·replace hJx3:=hid hJx3
    gi_wp2
    go_end0
    exact ⟨⟨_,rfl⟩,.inr ⟨_,by rw [hsc.out];exact List.prefix_refl _,hJx3.out⟩⟩
  ·rw [Lib.index_one] at e1
   have e1':Lib.indexByte (⟨rest.toArray⟩:ByteArray).data.toList c=i:=e1;rw [e1'] at hix;rw [e3] at hsc;have hy:=hY.out pre (rest.take i) wr hJp.out (by rw [hsc];simp) (by rw [List.length_take];omega);obtain ⟨yfn,ytmps,yassign,ybody,hyr,hyR⟩:=hy;have x1:(⟨rest.toArray⟩:ByteArray).extract 0 i=⟨(rest.take i).toArray⟩:=by rw [zlY,List.drop_zero]
   have x2:(⟨rest.toArray⟩:ByteArray).extract (i+1) rest.length=⟨(rest.drop (i+1)).toArray⟩:=by rw [zlY,List.take_length]
   have hsz:(⟨rest.toArray⟩:ByteArray).size=rest.length:=rfl;have hii:(i:Int)<=(rest.length:Int):=by omega
   have hi0:¬ (i:Int) < 0:=by omega
   have hii1:(i:Int)+1<=(rest.length:Int):=by omega
   replace hyR:=hid hyR;replace hsc:=hid hsc;clear e1 e1';go_wp2_with fail
   refine hix.out.mono ?_;rintro e w1 ⟨rfl,rfl⟩;go_upto_region 8 with fail
   refine (wpIn_wide (n:=n)).1 ?_
   gi_wp2
   refine hyR.out.mono ?_;rintro e' W3 (⟨rfl,hJ3,-,hB3⟩ | ⟨rfl,hJx3⟩)
   ·have hz3:=(hB3 Bz (.inl rfl)).trans hz.out
    have hc3:=(hB3 Bc (.inr (.inl rfl))).trans hc.out;have hk3:=(hB3 Bk (.inr (.inr rfl))).trans hk.out;have z3:W3.cell? ⟨Bz,0,none⟩=some (.string ⟨rest.toArray⟩):=zaa hz3 0;have c3:W3.cell? ⟨Bc,0,none⟩=some (.string ⟨#[c]⟩):=zaa hc3 0;have fz:=zac hz3;have hJ4:=hid (hJw.out _ _ (.string ⟨(rest.drop (i+1)).toArray⟩) hJ3);have hz4:=hid (zc1 (v:=.string ⟨(rest.drop (i+1)).toArray⟩) hz3);have hc4:=hid ((zar W3 (b:=Bz) (k:=Bc) 0 (.string ⟨(rest.drop (i+1)).toArray⟩) (fun e=>hne.1 e.symm)).trans hc3);have hk4:=hid ((zar W3 (b:=Bz) (k:=Bk) 0 (.string ⟨(rest.drop (i+1)).toArray⟩) (fun e=>hne.2 e.symm)).trans hk3);clear hB3 hz3 hc3 hk3 hJ3 z0 c0 k0
    gi_wp2
    go_wp2_with fail
    go_roundg (rest.length)
    case measure=>have:=hlen.out;omega
    case rel=>exact ⟨pre++[rest.take i],rest.drop (i+1),hz4.out,hc4.out,hk4.out,by rw [hsc.out];simp,hJ4.out,by rw [List.length_drop];omega,by rw [List.length_drop];omega⟩
   ·replace hJx3:=hid hJx3
    gi_wp2
    go_wp2_with fail
    try simp only [Exit.noGoto_normal]
    refine bodyPost_ret (results_none rfl _ _ _) rfl ?_;exact ⟨⟨_,rfl⟩,.inr ⟨pre++[rest.take i],⟨parts c (rest.drop (i+1)),by rw [hsc.out];simp⟩,hJx3.out⟩⟩
theorem zf9 (n Bz Bc Bk:Nat) (hn:1<=n) (hne:Bz ≠ Bc/\Bz ≠ Bk) (c:UInt8) (s:Bs) (hs:s.length<=1000000) (w:World) (hz:w.heap[Bz]?=some (.cells #[.string ⟨s.toArray⟩] 9 (0,0))) (hc:w.heap[Bc]?=some (.cells #[.string ⟨#[c]⟩] 9 (0,0))) (hk:w.heap[Bk]?=some (.cells #[.int .i64 0] 3 (0,0))):
  znT Fence.wide n Tryz.prog 264 #[.pointer (some ⟨Bc,0,none⟩),.pointer (some ⟨Bz,0,none⟩),.pointer (some ⟨Bk,0,none⟩)] (fun x=>#[.string ⟨x.toArray⟩]) (zog Bz Bc Bk) Bz (fun x=>x.length<=1000000) (fun ys=>ys=parts c s) (fun pre=>pre <+:parts c s) (parts c s).length w:=fun l J Jx W hW hJ hJw hY h0=>
 zkW n l Bz Bc Bk hn hne c s hs J Jx hJ hJw hY W ((hW.block Bz (zat hz)).trans hz) ((hW.block Bc (zat hc)).trans hc) ((hW.block Bk (zat hk)).trans hk) h0
theorem zdQ (c:UInt8) (s:Bs) (w:World):Calls Tryz.prog 207 #[.string ⟨s.toArray⟩,.string ⟨#[c]⟩] w fun e w'=>
  e=.returned (.func (.func 264) #[] #[.pointer (some ⟨w.heap.size+1,0,none⟩),.pointer (some ⟨w.heap.size,0,none⟩),.pointer (some ⟨w.heap.size+1+1,0,none⟩)]) ∧
   w'=((w.alloc (.cells #[.string ⟨s.toArray⟩] 9)).alloc (.cells #[.string ⟨#[c]⟩] 9)).alloc (.cells #[.int .i64 0] 3):=by
 have h1:Calls Tryz.prog 238 #[.string ⟨s.toArray⟩,.string ⟨#[c]⟩,.int .i64 0] w fun e w'=>
   e=.returned (.func (.func 264) #[] #[.pointer (some ⟨w.heap.size+1,0,none⟩),.pointer (some ⟨w.heap.size,0,none⟩),.pointer (some ⟨w.heap.size+1+1,0,none⟩)]) ∧
   w'=((w.alloc (.cells #[.string ⟨s.toArray⟩] 9)).alloc (.cells #[.string ⟨#[c]⟩] 9)).alloc (.cells #[.int .i64 0] 3):=by
  go_enter Tryz.func238,Tryz.ntmps238;go_wp2_with fail
  go_ret;exact ⟨rfl,rfl⟩
 replace h1:=hid h1;go_enter Tryz.func207,Tryz.ntmps207;go_wp2_with fail
 refine h1.out.mono ?_;rintro e w' ⟨rfl,rfl⟩;go_wp2_with fail
 go_ret;exact ⟨rfl,rfl⟩
end Go.Proofs.YtjjfphalcibjfaaGreatDoor
namespace Cdk
open Go Go.RowKit
section
variable {P:Program} {Q:Exit -> Act -> World -> Prop} {l₀ n:Nat}
theorem zgr {o:Oper} {a:Act} {K:Act -> World -> Prop} {r:Result Next} (h:o.upon P a K Q r):o.uponIn (Fence.wide.inRound l₀) n P a K Q r:=by
 unfold Oper.upon at h;unfold Oper.uponIn;split at h
 ·exact h
 ·exact h
 ·exact h
 ·exact ⟨(fun q=>by cases q),callsIn_wide.2 h⟩
 ·exact ⟨(fun q=>by cases q),fun c cs _=>let ⟨v,w',r,s⟩:=h c cs;⟨v,w',r,stepsIn_wide.2 s⟩⟩
 ·exact h
 ·exact h.elim
def zfQ (l:List Oper):Bool:=l.all fun o=>match o.op with | .defer _=>false | _=>true
theorem zgB {l:List Oper} (h:zfQ l=true) {i:Nat} {o:Oper} (ho:l.toArray[i]?=some o):∀ c,o.op ≠ .defer c:=by
 intro c hc;have hm:o ∈ l:=by
  have:=(List.getElem?_eq_some_iff.1 (by simpa using ho)).2;rw [<- this];exact List.getElem_mem _
 have:=List.all_eq_true.1 h o hm;rw [hc] at this;cases this
theorem zka {l:List Oper} (hd:zfQ l=true) (hL:¬ LetsOut Q) {i:Nat} {K:Act -> World -> Prop} {a:Act} {w:World} (h:wpOp P l.toArray Q i K a w):wpOpIn (Fence.wide.inRound l₀) n P l.toArray Q i K a w:=by
 unfold wpOp at h;unfold wpOpIn;cases ho:l.toArray[i]? with
 | none=>rw [ho] at h;exact h
 | some o=>
  rw [ho] at h;simp only at h ⊢
  by_cases hw:Region.wanted o (yielded l.toArray a.tmps)=true
  ·rw [if_pos hw] at h ⊢
   refine ⟨fun _ _=>trivial,?_⟩;rcases h with h | h
   ·rw [Oper.semAt_eq _ _ _ (zgB hd ho)]
    exact zgr h
   ·exact absurd h.2 hL
  ·rw [if_neg hw] at h ⊢
   exact ⟨fun _ _=>trivial,h⟩
theorem wpOpIn_mono {ops:Array Oper} {F:Fence} {i:Nat} {K K':Act -> World -> Prop} {a:Act} {w:World} (hk:∀ a w,K a w -> K' a w) (h:wpOpIn F n P ops Q i K a w):wpOpIn F n P ops Q i K' a w:=by
 unfold wpOpIn at h ⊢;cases ho:ops[i]? with
 | none=>rw [ho] at h;exact hk _ _ h
 | some o=>
  rw [ho] at h;simp only at h ⊢
  by_cases hw:Region.wanted o (yielded ops a.tmps)=true
  ·rw [if_pos hw] at h ⊢
   exact Oper.wpIn_mono hk h
  ·rw [if_neg hw] at h ⊢
   exact ⟨h.1,hk _ _ h.2⟩
theorem zeZ {md:Region.Mode} {l:List Oper} (hd:zfQ l=true) (hL:¬ LetsOut Q):∀ (fuel:Nat) (listed:Array Bool) (a:Act) (w:World),wpAny P md l.toArray Q fuel listed a w -> wpAnyIn (Fence.wide.inRound l₀) n P md l.toArray Q fuel listed a w
 | 0,_,_,_,h=>h
 | fuel+1,_,_,_,h=>⟨h.1,fun i hi=>wpOpIn_mono (fun a w h=>zeZ hd hL fuel _ a w h) (zka hd hL (h.2 i hi))⟩
theorem zg5 (hL:¬ LetsOut Q):¬ LetsOut (NoPanic Q):=fun ⟨a,w,h⟩=>hL ⟨a,w,h⟩
theorem zb1 {id:Nat} {l:List Oper} {a:Act} {w:World} (C:World -> Prop) (sch:List (Nat × Bool)) (hm:P.follows .mixedOrders=true)
  (hno:Region.noSelect l.toArray=true) (hd:zfQ l=true) (hok:zbT .any l.toArray sch (Array.replicate l.length false)=true) (hlen:sch.length<=l.length) (hL:¬ LetsOut Q)
  (hC:C w.drew) (h:wpT P l.toArray C (NoPanic Q) (zak l sch) a w.drew):(Code.region id l.toArray true).wpIn (Fence.wide.inRound l₀) n P Q a w:=by
 have h1:=zcC (md:=.any) hno (fun _ _ _ _ _ h=>h) sch l.length (Array.replicate l.length false) a w.drew hlen hok hC h;exact wpIn_mono (wpIn_region_any hm (zeZ hd (zg5 hL) _ _ _ _ (zcn (S:=C) _ _ _ _ h1))) (fun e a w h=>NoPanic.imp e a w h)
end
end Cdk
