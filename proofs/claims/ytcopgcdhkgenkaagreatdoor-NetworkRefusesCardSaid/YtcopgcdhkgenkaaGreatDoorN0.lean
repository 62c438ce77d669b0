import Derived.Test.YtcopgcdhkgenkaaGreatDoorV45
set_option linter.all false
set_option maxRecDepth 100000
set_option maxHeartbeats 16000000
namespace Go.Proofs.YtcopgcdhkgenkaaGreatDoor
open Go.Shelf Go.RowKit Cdk Scr Go.Sort
def svL (p:ByteArray × ByteArray):ByteArray × Value:=(p.1,.string p.2)
def dFL (k:Int):List (ByteArray × ByteArray):=if k=1 then [(⟨(akB 1).toArray⟩,⟨#[49]⟩),(⟨(tkB 1).toArray⟩,.empty),(⟨(llB 1).toArray⟩,.empty)] else [(⟨(akB 6).toArray⟩,⟨#[49]⟩),(⟨(tkB 6).toArray⟩,.empty),(fnB 8,.empty),(fnB 9,.empty),(⟨(llB 6).toArray⟩,.empty)]
theorem dF_eq (k:Int) (hk:k=1 \/ k=6):dF k=(dFL k).map svL:=by rcases hk with rfl | rfl <;> rfl
theorem elRd:El Tryz.prog 387 (.agg #[.string .empty,.int .i64 0]) 2 24:=⟨by kernel_rfl,rfl,by decide,by decide⟩
theorem holds_of_own {w:World} {B g n cap:Nat} {rs:List (ByteArray × Int)} (h:Cdk.Own w B 387 2 rdC (.slice (some ⟨g,0,none⟩) n cap) rs):HoldsK rdC 2 w g 0 rs.toArray:=by
 intro j hj;rw [size_flatK] at hj;have hj':j < rs.length*2:=by simpa using hj
 rcases h.2 with ⟨e,-⟩ | ⟨g',cap',cur,e,h3,h4,h5⟩
 ·cases e
 ·injection e with e1 e2 e3
  injection e1 with e1
  injection e1 with e1
  subst e1;refine ⟨?_,freeN h4 _⟩;obtain ⟨x,hx⟩:∃ x,rs[j / 2]?=some x:=⟨_,List.getElem?_eq_getElem (show j / 2 < rs.length by omega)⟩;have hfl:=flat_get rdC 2 rdC_len rs (j / 2) (j % 2) x hx (by omega);rw [show j / 2*2+j % 2=j by omega] at hfl;rw [get_flatK rdC 2 rs.toArray j hj];have hx2:rs.toArray[j / 2]! =x:=by
   rw [getElem!_pos _ _ (by simp;omega)];have:=(List.getElem?_eq_some_iff.1 hx).2;simpa using this
  rw [hx2];have hm:j % 2 < (rdC x).length:=by rw [rdC_len];omega
  rw [List.getElem?_eq_getElem hm] at hfl;obtain ⟨ao,cp,he,hr,-⟩:=h.row;injection he with he1 he2 he3
  subst he1;obtain ⟨b,off,e4,e5⟩:=hr j _ hfl;injection e4 with e4
  injection e4 with e4 e6
  subst e4 e6;rw [e5,getElem!_pos (rdC x) (j % 2) hm]
  rfl
theorem rowIs_of_holds {w:World} {g:Nat} {d:Array (ByteArray × Int)} (h:HoldsK rdC 2 w g 0 d):RowIs w (some ⟨g,0,none⟩) (d.toList.flatMap rdC):=by
 intro j u hu;have hj:=(List.getElem?_eq_some_iff.1 hu).1;rw [flat_length rdC 2 rdC_len] at hj;have hj2:j < d.size*2:=by simpa using hj
 have h1:=(h j (by rw [size_flatK];exact hj2)).1;rw [get_flatK rdC 2 d j hj2] at h1;obtain ⟨x,hx⟩:∃ x,d.toList[j / 2]?=some x:=⟨_,List.getElem?_eq_getElem (show j / 2 < d.toList.length by simp;omega)⟩;have hfl:=flat_get rdC 2 rdC_len d.toList (j / 2) (j % 2) x hx (by omega);rw [show j / 2*2+j % 2=j by omega] at hfl;have hx2:d[j / 2]! =x:=by
  rw [getElem!_pos _ _ (by omega)];have:=(List.getElem?_eq_some_iff.1 hx).2;simpa using this
 have hm:j % 2 < (rdC x).length:=by rw [rdC_len];omega
 rw [hx2,getElem!_pos (rdC x) (j % 2) hm] at h1;rw [hfl,List.getElem?_eq_getElem hm] at hu;injection hu with hu
 exact ⟨g,0,rfl,by rw [<- hu];exact h1⟩
theorem reads_any {a1 a2:Option Addr} {c1 c2:Nat} {k:Int} {url word:ByteArray} {rd mm:Nat} (l:List (ByteArray × ByteArray)) (hl:1<=l.length/\l.length<=12) (hsz:∀ q ∈ l,q.2.size<=1000) (w:World) (hG:Gl w) (hR:RdrAt w a1 a2 c1 c2 k url word rd mm (l.map svL)):
  Calls Tryz.prog 249 #[.pointer (some ⟨rd,0,none⟩)] w fun e w'=>(∃ v rs,e=.returned v/\RowAt (fun j=>w.heap.size<=j) w' rdC v rs/\(1<=rs.length/\rs.length<=12))/\Ext w w':=by
 have s8:w.cell? ⟨rd,8,none⟩=some (.map (some mm)):=cellN hR.at_ 8;have hm':=hid hR.map;have hsm:=hid (fun (t:ByteArray) (ht:t.size<=1000) (W:World) (hx:Ext w W)=>(show Calls Tryz.prog 19 #[.string t] W (fun e w'=>e=.returned (.int .i64 (crc t.data.toList))/\W=w') from sum_any t.data.toList W (hG.ext hx) (by show t.size<=1000000;omega)));have hsz':=hid hsz;have hl':=hid hl;have hMm:=hid (show mm < w.heap.size by obtain ⟨es,cl,hh,_⟩:=hm'.out;exact lt_of_at hh);clear hR hG hsz hl;go_enter Tryz.func249,Tryz.ntmps249;go_wp2_with (at_range;refine wpList_range rfl _ _ _ rfl Tryz.underlying218 hm'.out rfl ?_;intro w1 hRg;go_frame)
 obtain ⟨hit0,hx1,hz1⟩:=hRg.out;replace hit0:=hid hit0;replace hx1:=hid hx1;clear hRg;go_loopg [3] l.length (fun g v3 wr=>∃ (seen:List ByteArray) (rs:List (ByteArray × Int)),restL l svL seen<=g/\rs.length+restL l svL seen<=l.length/\rs.length=seen.length/\Cdk.Own wr (w.heap.size+1) 387 2 rdC v3 rs/\IterAt wr Value.string mm w.heap.size (l.map svL) seen/\Ext w wr)
 case atStart=>
  have h0:restL l svL []<=l.length:=by unfold restL;exact List.length_filter_le _ _
  exact ⟨[],[],h0,by simpa using h0,rfl,Own.nil _ _ _ _ _,hit0.out,hx1.out⟩
 case round=>
  obtain ⟨seen,rs,hg,hrl,hrs,hO,hit,hxr⟩:=hrel;have hi:=hid hit;have hO':=hid hO;have hxr':=hid hxr;have hg':=hid hg;have hrl':=hid hrl;have hrs':=hid hrs;clear hit hO hxr hg hrl hrs
  go_upto_region 4 with (first
   | (at_next;go_loud (refine wpList_nextL rfl _ rfl (keyOk_string Tryz.underlying9).inj hi.out rfl (fun hall=>?_) (fun q w2 H=>?_)) <;> go_frame))
  ·have hne:0 < rs.length:=by
    rw [hrs'.out];cases hl:l with
    | nil=>have:=hl'.out.1;rw [hl] at this;simp at this
    | cons q r=>
     have:=hall.out q (by rw [hl];exact List.mem_cons_self ..);cases seen with
     | nil=>cases this
     | cons _ _=>simp
   have hn12:rs.length<=12:=by have:=hrl'.out;have:=hl'.out;omega
   obtain ⟨g,cap,rfl,hcm⟩:∃ g cap,u3=.slice (some ⟨g,0,none⟩) rs.length cap/\(rs.length<=cap/\cap<=maxLen):=by
    rcases hO'.out.2 with ⟨_,h0⟩ | ⟨g,cap,cur,e,h3,h4,h5,h6,h7⟩
    ·omega
    ·exact ⟨g,cap,e,h5,h6⟩
   have hgb:=hid (hO'.out.block g rfl);have hso:=hid (sortRds_any g 0 cap rs hn12 wr hgb.out.2 (holds_of_own hO'.out));clear hall hi hm';go_wp2_with fail
   refine hso.out.mono ?_;rintro e w3 ⟨rfl,⟨d',hd',hH'⟩,hm3⟩;have hH:=hid hH';have hm3':=hid hm3;clear hH' hm3 hso;go_wp2_with fail
   go_ret;refine ⟨⟨_,d'.toList,rfl,?_,by simp [hd'];omega⟩,hxr'.out.then hm3'.out (fun j hj e=>by have:=hgb.out.1;omega)⟩;refine ⟨some ⟨g,0,none⟩,cap,by simp [hd'],rowIs_of_holds hH.out,fun b off e _=>?_,by simp [hd'];exact hcm.1,⟨by simp [hd'];omega,by have:=hcm.2;unfold maxLen at this;omega⟩,fun e=>nomatch e⟩;injection e with e
   injection e with e
   have:=hgb.out.1;omega
  ·obtain ⟨hql,hqs,hit2,hm2,-⟩:=H.out
   obtain ⟨qk,qv⟩:=q;have hen:=entryL (P:=Tryz.prog) hit2 hql;have hit2':=hid hit2;have hx2:Hid (Ext w w2):=hid (hxr'.out.then hm2 (fun j hj e=>by omega));have hO2:=hid (hO'.out.mod hm2 (fun k hk e=>by have:=(hO'.out.block k hk).1;omega));have hrl2:=hid (restL_lt (f:=svL) hql hqs);have hsum:=hid (hsm.out qv (hsz'.out _ hql) w2 hx2.out);generalize crc qv.data.toList=Z at hsum;have hbw:=hid (show w.heap.size+1<=w2.heap.size by have:=hx1.out.size;have h5:=hx2.out.size;obtain ⟨h6,-⟩:=hit2.lt;omega);clear hm2 hit2 hi H hql hqs hm';simp only [svL] at hen ⊢;go_wp2_with fail
   refine hsum.out.mono ?_;rintro e w3 ⟨rfl,rfl⟩;have hxN:=Mod.alloc (Mod.refl (fun _=>False) w2) (.cells #[.string qk,.int .i64 (Z)] 387);have hrN:=hid (RowIs.new w2 [.string qk,.int .i64 (Z)] 387);have hON:=hid (hO2.out.ext hxN);have hbs:Hid (w.heap.size+1<=(w2.alloc (.cells #[.string qk,.int .i64 (Z)] 387)).heap.size):=hid (Nat.le_trans hbw.out hxN.size);have hxN':=hid hxN;have hlb:rs.length+1<=137438953472:=by have:=hrl'.out;have:=hl'.out;omega
   clear hxN hen;go_wp2_with (at_builtin;go_loud (refine wpList_app (f:=rdC) (base:=w.heap.size+1) rfl _ _ 333 rfl Tryz.underlying333 elRd rfl hON.out _ 1 1 rfl [(qk,Z)] rfl hrN.out rdC_len (fun y hy u hu=>by simp only [List.mem_singleton] at hy;subst hy;simp [rdC] at hu;rcases hu with rfl | rfl <;> rfl) hlb hbs.out (fun e=>nomatch e) (fun v4 w4 H=>?_)))
   have hO4:=hid H.out.1;have hB:=hid (fun k (e:_=some k)=>(hON.out.block k e).1);have hx4:Hid (Ext w w4):=hid ((hx2.out.trans hxN'.out).then H.out.2 (fun k hk e=>by have:=hB.out _ e;omega));have hi4:=hid ((hit2'.out.mod hxN'.out (fun h=>h) (fun h=>h)).mod H.out.2 (fun e=>by have:=hB.out _ e;obtain ⟨h1,h2,h3⟩:=hit2'.out.lt;have h7:=hO2.out.ne_iter hit2'.out;have h8:=hMm.out;omega) (fun e=>by have:=hB.out _ e;omega));clear H hON hrN hbs hxN' hO2;go_wp2_with fail
   go_roundg (gk - 1)
   case measure=>have:=hrl2.out;have:=hg'.out;omega
   case rel=>
    refine ⟨qk::seen,rs++[(qk,Z)],?_,?_,by simp [hrs'.out],hO4.out,hi4.out,hx4.out⟩
    ·have h1:restL l svL (qk::seen) < restL l svL seen:=hrl2.out;have:=hg'.out;omega
    ·have h1:restL l svL (qk::seen) < restL l svL seen:=hrl2.out;have:=hrl'.out;simp only [List.length_append,List.length_cons,List.length_nil];omega
theorem results_ct {P:Program} {fn:Func} {p q:Tmp} {ty:TypeId} (h:fn.results=#[.cell p ty,.tmp q]) (tmps:Array Value) (w:World) (a1:Addr) (v1 v2:Value) (hp:tmps.getD p undef=.pointer (some a1)) (hq:tmps.getD q undef=v2)
  (l1:(loadVar ty a1).run P w=.ok v1 w):(results fn tmps).run P w=.ok (.tuple #[v1,v2]) w:=by
 have hp':tmps[p]?.getD undef=.pointer (some a1):=by simpa using hp
 have hq':tmps[q]?.getD undef=v2:=by simpa using hq
 simp [results,h,hp',hq',asAddr,l1]
theorem render_any:RenderSpec:=by
 intro k hk a1 a2 w hG;have hmm:=@run_makeMap Tryz.prog;have hap:=hid (fun W (h:Gl W)=>adrParse_any k hk W h);unfold adrA at hap;have hkw:=hid (fun W=>kindWord_any k hk W);have hr1:=hid (fun rd mm (W:World) (h:Gl W) (h12:12<=mm) (hR:RdrAt W a1 a2 0 0 k (adrS k) ⟨(kwB k).toArray⟩ rd mm [])=>read_new ⟨(akB k).toArray⟩ ⟨#[49]⟩ (valAdr_spec k hk a1 a2) rfl W h h12 hR);have ha2:assoc (upd ([]:List (ByteArray × Value)) ⟨(akB k).toArray⟩ (.string ⟨#[49]⟩)) (⟨(tkB k).toArray⟩:ByteArray)=none:=by rcases hk with rfl | rfl <;> kernel_rfl
 have hr2:=hid (fun rd mm (W:World) (h:Gl W) (h12:12<=mm) (hR:RdrAt W a1 a2 0 0 k (adrS k) ⟨(kwB k).toArray⟩ rd mm (upd [] ⟨(akB k).toArray⟩ (.string ⟨#[49]⟩)))=>read_new ⟨(tkB k).toArray⟩ .empty (valTemplate_any k hk a1 a2) ha2 W h h12 hR);have hdk:upd (upd ([]:List (ByteArray × Value)) ⟨(akB k).toArray⟩ (.string ⟨#[49]⟩)) ⟨(tkB k).toArray⟩ (.string .empty)=dk k:=by rcases hk with rfl | rfl <;> kernel_rfl
 rw [hdk] at hr2;have hrn:=hid (fun rd mm (W:World) (h:Gl W) (h12:12<=mm) (hR:RdrAt W a1 a2 0 0 k (adrS k) ⟨(kwB k).toArray⟩ rd mm (dk k))=>run_any k hk a1 a2 0 0 (adrS k) ⟨(kwB k).toArray⟩ rd mm W h hR h12);have hrs:=hid (fun rd mm (W:World) (h:Gl W) (hR:RdrAt W a1 a2 0 0 k (adrS k) ⟨(kwB k).toArray⟩ rd mm (dF k))=>reads_any (dFL k) (by rcases hk with rfl | rfl <;> decide) (by rcases hk with rfl | rfl <;> decide) W h (dF_eq k hk ▸ hR));have e1:(⟨#[97,100,100,114,101,115,115]⟩:ByteArray)++adrS k=⟨(akB k).toArray⟩:=by rcases hk with rfl | rfl <;> kernel_rfl
 have e2:(⟨#[116,101,109,112,108,97,116,101,47]⟩:ByteArray)++⟨(kwB k).toArray⟩=⟨(tkB k).toArray⟩:=by rcases hk with rfl | rfl <;> kernel_rfl
 have hsz:(adrS k).size<=10:=by rcases hk with rfl | rfl <;> decide
 have hsw:(⟨(kwB k).toArray⟩:ByteArray).size<=10:=by rcases hk with rfl | rfl <;> decide
 have hk2:(k==2)=false:=by rcases hk with rfl | rfl <;> rfl
 rw [<- e1] at hr1;rw [<- e1,<- e2] at hr2;obtain ⟨X,hX⟩:∃ X,X=adrS k:=⟨_,rfl⟩;obtain ⟨Y,hY⟩:∃ Y,Y=(⟨(kwB k).toArray⟩:ByteArray):=⟨_,rfl⟩;obtain ⟨Z,hZ⟩:∃ Z,Z=(⟨(ktB k).toArray⟩:ByteArray):=⟨_,rfl⟩;rw [<- hX] at hap hr1 hr2 hrn hrs hsz ⊢;rw [<- hY] at hkw hr1 hr2 hrn hrs hsw;rw [<- hZ] at hkw hrn;replace hX:=hid hX;replace hY:=hid hY;replace hZ:=hid hZ;clear ha2 hdk e1 e2;unfold stV;obtain ⟨U,hU⟩:∃ U,U=w.heap.size:=⟨_,rfl⟩;have hx0:=allocs_ext (S:=fun _=>False) [.cells #[.slice a1 0 0,.slice a2 0 0] 235,.cells #[.string ⟨#[]⟩,.string ⟨#[]⟩,.slice none 0 0] 335] w;have hg:=allocs_get [.cells #[.slice a1 0 0,.slice a2 0 0] 235,.cells #[.string ⟨#[]⟩,.string ⟨#[]⟩,.slice none 0 0] 335] w;have hz:=allocs_size [.cells #[.slice a1 0 0,.slice a2 0 0] 235,.cells #[.string ⟨#[]⟩,.string ⟨#[]⟩,.slice none 0 0] 335] w;have k0:=hg 0 (by simp);have k1:=hg 1 (by simp);simp only [allocs,<- hU,Nat.add_zero,List.length_cons,List.length_nil] at hx0 k0 k1 hz;clear hg;replace hU:=hid hU;replace hx0:=hid hx0;replace k0:=hid k0;replace k1:=hid k1;replace hz:=hid hz;go_enter Tryz.func172,Tryz.ntmps172;go_wp2_with fail
 simp only [<- hU.out];generalize (w.alloc (.cells #[.slice a1 0 0,.slice a2 0 0] 235)).alloc (.cells #[.string ⟨#[]⟩,.string ⟨#[]⟩,.slice none 0 0] 335)=w1 at hx0 k0 k1 hz ⊢;refine (hap.out w1 (hG.ext hx0.out)).mono ?_;rintro e w2 ⟨rfl,hx2⟩;have hxA:=Mod.alloc (Mod.refl (fun _=>False) w2) (.cells #[.int .i64 k,.string ⟨#[]⟩,.int .i64 0,.string ⟨#[]⟩] 454);have hA:=heap_alloc_new w2 (.cells #[.int .i64 k,.string ⟨#[]⟩,.int .i64 0,.string ⟨#[]⟩] 454);go_upto_region 2 with fail
 obtain ⟨A,hAe⟩:∃ A,A=w2.heap.size:=⟨_,rfl⟩;rw [<- hAe] at hA ⊢;generalize w2.alloc (.cells #[.int .i64 k,.string ⟨#[]⟩,.int .i64 0,.string ⟨#[]⟩] 454)=w3 at hxA hA ⊢;have hx3:=hid ((hx0.out.trans hx2).trans hxA);have hx13:=hx2.trans hxA;have k03:=hid (hx13.at k0.out (fun h=>h));have k13:=hid (hx13.at k1.out (fun h=>h));have hA3:=hid hA;have hUA:Hid (U+1 < A):=hid (by have:=hx2.size;have:=hz.out;have:=hAe;omega);replace hAe:=hid hAe;have a0:w3.cell? ⟨A,0,none⟩=some (.int .i64 k):=cellN hA 0;clear hx2 hxA hA hx13 k0 k1;go_wp2_with fail
 refine (hkw.out w3).mono ?_;rintro e w3' ⟨rfl,rfl⟩;have a1':w3.cell? ⟨A,1,none⟩=some (.string ⟨#[]⟩):=cellN hA3.out 1;have a2':w3.cell? ⟨A,2,none⟩=some (.int .i64 0):=cellN hA3.out 2;have a3':w3.cell? ⟨A,3,none⟩=some (.string ⟨#[]⟩):=cellN hA3.out 3;have s0:w3.cell? ⟨U,0,none⟩=some (.slice a1 0 0):=cellN k03.out 0;have s1:w3.cell? ⟨U,1,none⟩=some (.slice a2 0 0):=cellN k03.out 1;have hxB:=allocs_ext (S:=fun _=>False) [.map #[] 0,.cells (rdrC a1 a2 0 0 k X Y w3.heap.size) 461] w3;have hg:=allocs_get [.map #[] 0,.cells (rdrC a1 a2 0 0 k X Y w3.heap.size) 461] w3;have m0:=hg 0 (by simp);have m1:=hg 1 (by simp);unfold rdrC at hxB m0 m1;simp only [allocs,Nat.add_zero,List.length_cons,List.length_nil] at hxB m0 m1;obtain ⟨m,hm⟩:∃ m,m=w3.heap.size:=⟨_,rfl⟩;rw [<- hm] at hxB m0 m1;clear hg;have h12:Hid (12<=m/\w.heap.size<=m):=hid (by have h1:=hG.size;have h2:=hx3.out.size;omega);replace hxB:=hid hxB;replace m0:=hid m0;replace m1:=hid m1;replace hm:=hid hm;go_upto_region 6 with fail
 simp only [<- hm.out];generalize (w3.alloc (.map #[] 0)).alloc (.cells #[.slice a1 0 0,.slice a2 0 0,.int .i64 k,.string ⟨#[]⟩,.int .i64 0,.string ⟨#[]⟩,.string X,.string Y,.map (some m)] 461)=w4 at hxB m0 m1 ⊢;have hR4:Hid (RdrAt w4 a1 a2 0 0 k X Y (m+1) m []):=hid ⟨m1.out,⟨#[],0,m0.out,by simp,by simp,by simp,by simp⟩⟩;have hx4:=hid (hx3.out.trans hxB.out);have c4:=hid (hxB.out.cell a0 (fun h=>h));have p4:=hid (hxB.out.at k13.out (fun h=>h));have hnm:Hid (m ≠ A/\m ≠ U+1):=hid (by have h1:=lt_of_at hA3.out;have h2:=hm.out;have h3:=hUA.out;omega);clear a0 a1' a2' a3' s0 s1 hxB m0 m1 k03 k13 hA3 hx3 hkw hap;go_wp2_with fail
 refine (hr1.out (m+1) m w4 (hG.ext hx4.out) h12.out.1 hR4.out).mono ?_;rintro e w5 ⟨rfl,hR5,hm5⟩;have hR5':=hid hR5;have hx5:Hid (Ext w w5):=hid (hx4.out.then hm5 (fun q hq e=>by have:=h12.out.2;omega));have c5:=hid (hm5.cell c4.out (fun e=>hnm.out.1 e));have p5:=hid (hm5.at p4.out (fun e=>hnm.out.2 e));clear hR5 hm5 hR4 hx4 c4 p4 hr1;go_wp2_with fail
 refine (hr2.out (m+1) m w5 (hG.ext hx5.out) h12.out.1 hR5'.out).mono ?_;rintro e w6 ⟨rfl,hR6,hm6⟩;have hR6':=hid hR6;have hx6:Hid (Ext w w6):=hid (hx5.out.then hm6 (fun q hq e=>by have:=h12.out.2;omega));have c6:w6.cell? ⟨A,0,none⟩=some (.int .i64 k):=hm6.cell c5.out (fun e=>hnm.out.1 e);have p6:=hid (hm6.at p5.out (fun e=>hnm.out.2 e));clear hR6 hm6 hR5' hx5 c5 p5 hr2;go_wp2_with fail
 refine (hrn.out (m+1) m w6 (hG.ext hx6.out) h12.out.1 hR6'.out).mono ?_;rintro e w7 ⟨⟨t,rfl⟩,hR7,hm7⟩;have hR7':=hid hR7;have hx7:Hid (Ext w w7):=hid (hx6.out.then hm7 (fun q hq e=>by have:=h12.out.2;omega));have p7:=hid (hm7.at p6.out (fun e=>hnm.out.2 e));clear hR7 hm7 hR6' hx6 c6 p6 hrn;go_wp2_with fail
 refine (hrs.out (m+1) m w7 (hG.ext hx7.out) hR7'.out).mono ?_;rintro e w8 ⟨⟨v,rs,rfl,hro,hn⟩,hx8⟩;have hz7:=hid (show U+1 < w7.heap.size/\w.heap.size<=w7.heap.size from ⟨lt_of_at p7.out,hx7.out.size⟩);have p8:=hx8.at p7.out (fun h=>h);have hx8':=hid (hx7.out.trans hx8);have hro':=hid hro;obtain ⟨vo,vc,rfl,-⟩:=hro;have q0:w8.cell? ⟨U+1,0,none⟩=some (.string ⟨#[]⟩):=cellN p8 0;have q1:w8.cell? ⟨U+1,1,none⟩=some (.string ⟨#[]⟩):=cellN p8 1;have q2:w8.cell? ⟨U+1,2,none⟩=some (.slice none 0 0):=cellN p8 2;have z0:=freeN p8 0;have p81:=put_at' p8 0 (.string X);have z1:(w8.setCell ⟨U+1,0,none⟩ (.string X)).frozen? ⟨U+1,1,none⟩=false:=freeN p81 1;have p82:=put_at' p81 1 (.string t);have z2:((w8.setCell ⟨U+1,0,none⟩ (.string X)).setCell ⟨U+1,1,none⟩ (.string t)).frozen? ⟨U+1,2,none⟩=false:=freeN p82 2;have p83:=hid (put_at' p82 2 (.slice vo rs.length vc));have hmS:Hid (Cdk.Mod (Eq (U+1)) w8 (((w8.setCell ⟨U+1,0,none⟩ (.string X)).setCell ⟨U+1,1,none⟩ (.string t)).setCell ⟨U+1,2,none⟩ (.slice vo rs.length vc))):=hid ((((Mod.refl _ w8).setCell (a:=⟨U+1,0,none⟩) (fun _=>rfl) _).setCell (a:=⟨U+1,1,none⟩) (fun _=>rfl) _).setCell (a:=⟨U+1,2,none⟩) (fun _=>rfl) _);clear p81 p82;replace p8:=hid p8;clear hx8 p7 hR7' hx7 hrs;go_wp2_with fail
 have p9:(((w8.setCell ⟨U+1,0,none⟩ (.string X)).setCell ⟨U+1,1,none⟩ (.string t)).setCell ⟨U+1,2,none⟩ (.slice vo rs.length vc)).heap[U+1]?=some (.cells #[.string X,.string t,.slice vo rs.length vc] 335 (0,0)):=p83.out;generalize ((w8.setCell ⟨U+1,0,none⟩ (.string X)).setCell ⟨U+1,1,none⟩ (.string t)).setCell ⟨U+1,2,none⟩ (.slice vo rs.length vc)=wF at p9 p83 hmS ⊢;refine bodyPost_ret (results_ct rfl _ _ ⟨U+1,0,none⟩ _ (.int .i64 0) rfl rfl (run_loadVar_row _ _ _ _ _ _ _ p9 Tryz.underlying335 rfl (by kernel_rfl))) rfl ?_;have hUw:=hU.out;have hxs:=hx8'.out;have hsz7:=hx8'.out.size;refine ⟨⟨t,_,rs,rfl,?_,hn⟩,hxs.then hmS.out (fun q hq e=>by omega)⟩;obtain ⟨vo',vc',e,hr,hb,hc⟩:=hro'.out;injection e with e4 e5 e6
 subst e4 e6;refine ⟨vo,vc,rfl,?_,fun b off e h=>?_,hc⟩
 ·exact hr.mod hmS.out (fun b off e h=>by
   have h1:=hb b off e (by omega);have h2:=hz7.out
   omega)
 ·have h1:=hb b off e h
  have h2:=hz7.out;omega
theorem wraps_u8 (n:Int) (h₀:0<=n) (h₁:n < 256):IntKind.u8.wrap n=n:=by rw [IntKind.wrap_u8];omega
theorem xor8 (x y:UInt8):bits .xor .u8 (x.toNat:Int) (y.toNat:Int)=((x ^^^ y).toNat:Int):=by
 have hx:=x.toNat_lt;have hy:=y.toNat_lt;have ha:x.toNat % 2 ^ IntKind.u8.bits=x.toNat:=Nat.mod_eq_of_lt hx;have hb:y.toNat % 2 ^ IntKind.u8.bits=y.toNat:=Nat.mod_eq_of_lt hy;rw [UInt8.toNat_xor];simp only [bits,BitVec.ofInt_natCast,BitVec.toNat_xor,BitVec.toNat_ofNat,ha,hb];have:=Nat.xor_lt_two_pow (n:=8) hx hy;exact wraps_u8 _ (Int.natCast_nonneg _) (by have h2:x.toNat ^^^ y.toNat < 256:=this;omega)
def flipL (l:Bs):Bs:=l.set (l.length / 2) (l.getD (l.length / 2) 0 ^^^ 1)
theorem flip_any (l:Bs) (hl:1<=l.length/\l.length<=1000000) (w:World):Calls Tryz.prog 79 #[strV l] w fun e w'=>e=.returned (strV (flipL l))/\Ext w w':=by
 obtain ⟨X,hX⟩:∃ X:ByteArray,X=⟨l.toArray⟩:=⟨_,rfl⟩;have hXs:X.size=l.length:=by rw [hX];rfl
 have hXl:X.data.toList=l:=by rw [hX]
 unfold strV;rw [<- hX];have hcv:=Lib.run_convert_string_bytes (P:=Tryz.prog) w 9 38 5 X Tryz.underlying9 Tryz.underlying38 Tryz.underlying5;have hlen:(0:Int) < (X.size:Int):=by omega
 have hlen2:0 < X.size:=by omega
 obtain ⟨k,hk⟩:∃ k,k=X.size / 2:=⟨_,rfl⟩;have hw64:wrap64 ((X.size:Int) / 2)=(k:Int):=by rw [IntWalk.wrap64_in _ (by omega)];omega
 have hkl:k < X.size:=by omega
 have hki:(k:Int) < (X.size:Int):=by omega
 have hx1:Ext w (Lib.bytesWorld w 5 X):=⟨rfl,rfl,rfl,by rw [Lib.bytesWorld_size];omega,fun k hk _=>Lib.bytesWorld_at_old w _ X k hk⟩;have hc:=Lib.bytesWorld_cell w 5 X (k) hkl;have hall:=hid (fun j hj=>Lib.bytesWorld_cell w 5 X j hj);have hf:(Lib.bytesWorld w 5 X).frozen? ⟨w.heap.size,k,none⟩=false:=by
  have hsz:X.size<=(Lib.bytesCells w 5 X).size:=by simp [Lib.bytesCells]
  simp [World.frozen?,Lib.bytesWorld_at_new];try omega
 have hcell:∀ j,j < X.size -> ∃ cs t fr,(Lib.bytesWorld w 5 X).heap[w.heap.size]?=some (.cells cs t fr)/\j < cs.size:=fun j hj=>⟨_,_,_,Lib.bytesWorld_at_new w _ X,by simp [Lib.bytesCells];omega⟩
 generalize Lib.bytesWorld w 5 X=WB at hcell hcv hx1 hc hall hf;obtain ⟨b,hb⟩:∃ b,b=X.data.toList.getD (k) 0:=⟨_,rfl⟩;rw [<- hb] at hc;have hxo:bits .xor .u8 (b.toNat:Int) 1=((b.toNat ^^^ 1:Nat):Int):=by
  have h:=xor8 b 1;rw [UInt8.toNat_xor] at h;exact h
 have hfin:Hid (∀ cap,(convert 38 9 (.slice (some ⟨w.heap.size,0,none⟩) X.size cap)).run Tryz.prog (WB.setCell ⟨w.heap.size,k,none⟩ (.int .u8 ((b.toNat ^^^ 1:Nat):Int)))=.ok (strV (flipL l)) (WB.setCell ⟨w.heap.size,k,none⟩ (.int .u8 ((b.toNat ^^^ 1:Nat):Int)))):=by
  intro cap;have hbl:b=l.getD k 0:=by rw [hb,hXl]
  have hfl:flipL l=l.set k (b ^^^ 1):=by unfold flipL;rw [<- hXs,<- hk,hbl]
  have hll:(flipL l).length=X.size:=by rw [hfl,List.length_set,hXs]
  have:=run_convert_bytes_back (P:=Tryz.prog) (WB.setCell ⟨w.heap.size,k,none⟩ (.int .u8 ((b.toNat ^^^ 1:Nat):Int))) 38 9 5 ⟨w.heap.size,0,none⟩ cap (flipL l) Tryz.underlying38 Tryz.underlying5 Tryz.underlying9 (fun j hj=>?_)
  ·rw [hll] at this;exact this
  ·rw [Addr.add_lit,Nat.zero_add]
   have hjl:j < X.size:=by omega
   have hga:=hall.out j hjl;rw [hXl] at hga
   by_cases e:j=k
   ·subst e
    have hset:(WB.setCell ⟨w.heap.size,j,none⟩ (.int .u8 ((b.toNat ^^^ 1:Nat):Int))).cell? ⟨w.heap.size,j,none⟩=some (.int .u8 ((b.toNat ^^^ 1:Nat):Int)):=by
     obtain ⟨cs,t,fr,hcs,hcj⟩:=hcell j hjl;rw [cellN (put_at' hcs j _)];simp [hcj]
    rw [hset];simp [hfl]
   ·have hset:(WB.setCell ⟨w.heap.size,k,none⟩ (.int .u8 ((b.toNat ^^^ 1:Nat):Int))).cell? ⟨w.heap.size,j,none⟩=WB.cell? ⟨w.heap.size,j,none⟩:=by
     obtain ⟨cs,t,fr,hcs,hcj⟩:=hcell j hjl;rw [cellN (put_at' hcs k _),cellN hcs];simp [Ne.symm e]
    rw [hset,hga];have hjl2:j < l.length:=by omega
    simp [hfl,List.getElem_set,Ne.symm e,List.getElem?_eq_getElem hjl2]
 have hx2:Hid (Ext w (WB.setCell ⟨w.heap.size,k,none⟩ (.int .u8 ((b.toNat ^^^ 1:Nat):Int)))):=hid (hx1.setCell (a:=⟨w.heap.size,k,none⟩) (fun h=>absurd h (by show ¬ w.heap.size < w.heap.size;omega)) _);replace hb:=hid hb;replace hX:=hid hX;replace hk:=hid hk;replace hXl:=hid hXl;replace hXs:=hid hXs;replace hx1:=hid hx1;go_enter Tryz.func79,Tryz.ntmps79;have hcv2:=hfin.out (grownCap w X.size 0 5);unfold strV at hcv2;go_wp2_with fail
 go_ret;exact ⟨rfl,hx2.out⟩
open Go.Shelf Go.RowKit Cdk Scr Nt
theorem pending_any {b:Nat} {t c:Int} {da:Addr} {r:Value} {m:Nat} {fa qa:Value} {s:Int} {B:Nat} (q:List Lt) (w:World) (hB:NetB w b t c (.pointer (some da)) r m fa qa s) (hq:LtsAt w B qa q) (hl:q.length<=1024):
  Calls Tryz.prog 21 #[.pointer (some ⟨b,0,none⟩)] w fun e w'=>(∃ v,e=.returned v/\StrsAt (fun k=>w.heap.size<=k/\k < w'.heap.size) w' v (q.map (·.tx)))/\Ext w w':=by
 have hm:=hid (missing_any w hB);obtain ⟨n,hn⟩:∃ n,n=q.length:=⟨_,rfl⟩;obtain ⟨aq,cq,rfl,hrw,-⟩:=hq.row;rw [<- hn] at hB hq;have c6:w.cell? ⟨b,6,none⟩=some (.slice aq n cq):=cellN hB 6;obtain ⟨i0,hi,hz0,hz1,hz2⟩:=info_parts elS.row;obtain ⟨w2,hrun,hown,hg⟩:=run_make_own (P:=Tryz.prog) w w.heap.size 40 9 i0 _ 1 Tryz.underlying40 hi hz0 (by rw [hz1]) .i64 .i64 n (by rw [hz2];omega) (by simp only [maxLen];omega) (Nat.le_refl _);have hx2:Ext w w2:=Mod.ofGrown hg (fun k hk=>nomatch hk);have hO2:Cdk.Own w2 w.heap.size 9 1 strC (.slice (some ⟨w.heap.size,0,none⟩) 0 n) []:=hown;have d6:w2.cell? ⟨b,6,none⟩=some (.slice aq n cq):=cellN (hx2.at hB (fun h=>h)) 6;replace hB:=hid hB;replace hn:=hid hn;replace hrw:=hid hrw;replace hx2:=hid hx2;replace hO2:=hid hO2;clear hown hg hq;go_enter Tryz.func21,Tryz.ntmps21;go_wp2_with fail
 refine hm.out.mono ?_;rintro e w1 ⟨rfl,rfl⟩;go_wp2_with fail
 go_loopg [3,5,19] n (fun g s3 s5 i wr=>∃ k:Nat,k+g=n/\i=.int .i64 k/\Cdk.Own wr w.heap.size 9 1 strC s3 ((q.take k).map (·.tx))/\Ext w wr)
 case atStart=>exact ⟨0,by omega,rfl,hO2.out,hx2.out⟩
 case round=>
  clear hO2 hx2;obtain ⟨k,hk,rfl,hO,hx⟩:=hrel;replace hk:=hid hk
  by_cases hlt:k < n
  ·have hkl:k < q.length:=by have:=hn.out;omega
   have hdi:(k:Int) < (n:Int):=by omega
   have hd:decide ((k:Int) < (n:Int))=true:=decide_eq_true hdi;obtain ⟨ab,off,rfl,-⟩:=hrw.out.at (by rw [flat_length ltC 5 ltC_len];omega);obtain ⟨g0,g1,g2,g3,g4⟩:=row5 (hrw.out.ext hx) hkl;have htk:(q.take k).map (·.tx)++[q[k].tx]=(q.take (k+1)).map (·.tx):=by rw [List.take_succ_eq_append_getElem hkl,List.map_append];rfl
   have hlk:((q.take k).map (·.tx)).length=k:=by simp;omega
   generalize q[k]=y at g0 g1 g2 g3 g4 htk;obtain ⟨tx,rc,du,he,se⟩:=y;simp only at g0 g1 g2 g3 g4 htk;unfold strV at g0;obtain ⟨av,cv,rfl,-,-⟩:=hO.row;rw [hlk] at hO ⊢;have hxA:=allocs_ext (S:=fun _=>False) [.cells #[.string ⟨tx.toArray⟩,.int .i64 rc,.int .i64 du,.bool he,.int .i64 se] 82,.cells #[.string ⟨tx.toArray⟩] 9] wr;have hgA:=allocs_get [.cells #[.string ⟨tx.toArray⟩,.int .i64 rc,.int .i64 du,.bool he,.int .i64 se] 82,.cells #[.string ⟨tx.toArray⟩] 9] wr;have hr1:=hgA 1 (by simp);simp only [allocs] at hxA hr1;have hrS:=hid (RowIs.block (cs:=[strV tx]) hr1);replace hxA:=hid hxA;clear hgA hr1;have hO1:=hid (hO.ext hxA.out);have hwz:w.heap.size<=wr.heap.size:=hx.size;have hbl:=hid (fun k (h:(Value.slice av k cv).ownBlock=some k)=>True.intro);have hlb:((q.take k).map (·.tx)).length+[tx].length<=137438953472:=by rw [hlk];simp only [List.length_singleton];omega
   replace hO:=hid hO;replace hx:=hid hx;replace htk:=hid htk;go_wp2_with (at_builtin;refine wpList_app (f:=strC) (base:=w.heap.size) rfl _ _ 40 rfl Tryz.underlying40 elS rfl hO1.out _ 1 1 rfl [tx] rfl hrS.out strC_len (fun y hy u hu=>by simp only [List.mem_singleton] at hy;subst hy;simp [strC,strV] at hu;subst hu;rfl) hlb (by have:=hxA.out.size;omega) (fun e=>nomatch e) (fun v' w' H=>?_))
   obtain ⟨hO3,hM3⟩:=H.out;have hx3:=hid ((hx.out.trans hxA.out).then hM3 (fun k hk e=>by have:=(hO1.out.block _ e).1;omega));rw [htk.out] at hO3;replace hO3:=hid hO3;clear H hM3 hO1 hO hxA hx;go_wp2_with fail
   go_roundg (gk - 1)
   case measure=>have:=hk.out;omega
   case rel=>exact ⟨k+1,by have:=hk.out;omega,by go_num,hO3.out,hx3.out⟩
  ·obtain rfl:k=n:=by have:=hk.out;omega
   have hdi:¬ (k:Int) < (k:Int):=by omega
   have hd:decide ((k:Int) < (k:Int))=false:=decide_eq_false hdi;have htk:(q.take k).map (·.tx)=q.map (·.tx):=by rw [List.take_of_length_le (by have:=hn.out;omega)]
   rw [htk] at hO;replace hO:=hid hO;replace hx:=hid hx;go_wp2_with fail
   go_ret;exact ⟨⟨_,rfl,own_rowAt hO.out (by rw [List.length_map];omega)⟩,hx.out⟩
theorem tick_nil (w:World):Calls Tryz.prog 13 #[.pointer none] w fun e w'=>e=.returned (.int .i64 1)/\Ext w w':=by
 have hm:=hid (fun W=>missing_nil W);go_enter Tryz.func13,Tryz.ntmps13;go_wp2_with fail
 refine (hm.out _).mono ?_;rintro e w1 ⟨rfl,rfl⟩;go_wp2_with fail
 go_ret;exact ⟨rfl,(Mod.refl _ w).alloc _⟩
end Go.Proofs.YtcopgcdhkgenkaaGreatDoor
