import Derived.Test.YtjjfphalcibjfaaGreatDoorD5
import Derived.Test.YtjjfphalcibjfaaGreatDoorC6
import Derived.Lib.BufferRead
import Derived.Test.YtjjfphalcibjfaaGreatDoorD10
set_option maxRecDepth 100000
set_option maxHeartbeats 16000000
namespace Go.Proofs.YtjjfphalcibjfaaGreatDoor
open Go.Shelf Go.RowKit Cdk Scr
attribute [local go_sem] Oper.semAt_some
theorem el5:El Tryz.prog 5 (.int .u8 0) 1 1:=⟨by kernel_rfl,rfl,by decide,by decide⟩
def u8L (c:UInt8):List Value:=[.int .u8 c.toNat]
theorem zew (c:UInt8):(u8L c).length=1:=rfl
theorem zm7 (l:Bs) (j:Nat) (hj:j < l.length):(l.flatMap u8L)[j]?=some (.int .u8 l[j].toNat):=by
 have:=flat_get u8L 1 zew l j 0 l[j] (List.getElem?_eq_getElem hj) (by decide);simpa [u8L] using this
theorem zff (c:UInt8) (w:World):Calls Tryz.prog 186 #[.string ⟨#[48,49,50,51,52,53,54,55,56,57,97,98,99,100,101,102]⟩,.int .u8 c.toNat] w fun e w'=>e=.returned (.int .i64 (zlZ c))/\w'=w:=by
 have h:=Tryz.strings_IndexByte ⟨#[48,49,50,51,52,53,54,55,56,57,97,98,99,100,101,102]⟩ c.toNat w;have e:((c.toNat:Int)).toNat.toUInt8=c:=by simp
 rw [e] at h;have e2:Lib.indexByte (⟨#[48,49,50,51,52,53,54,55,56,57,97,98,99,100,101,102]⟩:ByteArray).data.toList c=zlZ c:=zmj c;rw [e2] at h;exact h
theorem zi1 (s:Bs) (r:Rd):(hexOf s r).2.rest=r.rest:=by
 unfold hexOf;split
 ·rfl
 ·split <;> rfl
theorem zhm (r:Rd):(zfJ r).2.rest.length<=r.rest.length:=by
 unfold zfJ;rw [zi1];exact (za6 r).2
theorem zkA {s:Bs} (h:s ≠ [42]) (ho:s.length % 2=1) (r:Rd):hexOf s r=([],{ r with bad:=true }):=by
 unfold hexOf;rw [if_neg h,zgD s ho]
theorem zgp {c:UInt8} {x:Nat} (h:hexV c=some x):zlZ c=(x:Int):=by unfold zlZ;rw [h]
theorem zgI {c:UInt8} (h:hexV c=none):zlZ c=-1:=by unfold zlZ;rw [h]
def zn0 (U:Option Bs) (q:Rd):Bs × Rd:=match U with
 | some l=>(l,q)
 | none=>([],{ q with bad:=true })
theorem zmq {s:Bs} (h:s ≠ [42]) (q:Rd):hexOf s q=zn0 (unhex s) q:=by
 unfold hexOf;rw [if_neg h];cases unhex s <;> rfl
theorem zoj (x y:Nat) (hx:x < 16) (hy:y < 16):bits .or .i64 ((x:Int)*16) (y:Int) % 256=((UInt8.ofNat (16*x+y)).toNat:Int):=by
 have h:∀ x y:Fin 16,bits .or .i64 ((x.val:Int)*16) (y.val:Int) % 256=((UInt8.ofNat (16*x.val+y.val)).toNat:Int):=by decide+kernel
 exact h ⟨x,hx⟩ ⟨y,hy⟩
theorem zfS {W:World} {B:Nat} {v:Value} {l:Bs} (h:Cdk.Own W B 5 1 u8L v l):∃ ao cap,v=.slice ao l.length cap/\(convert 63 9 v).run Tryz.prog W=.ok (.string ⟨l.toArray⟩) W:=by
 obtain ⟨ao,cap,rfl,hr,hb⟩:=h.row;refine ⟨ao,cap,rfl,?_⟩;cases ao with
 | none=>
  have h0:l=[]:=by
   cases l with
   | nil=>rfl
   | cons c l=>
    obtain ⟨b,off,e,-⟩:=hr 0 (.int .u8 c.toNat) (by simp [u8L]);cases e
  subst h0;exact Lib.run_convert_nil_bytes W _ _ _ cap Tryz.underlying63 Tryz.underlying5 Tryz.underlying9
 | some a=>
  refine run_convert_bytes_back W _ _ _ a cap l Tryz.underlying63 Tryz.underlying5 Tryz.underlying9 (fun j hj=>?_);obtain ⟨b,off,e,hc⟩:=hr j (.int .u8 l[j].toNat) (zm7 l j hj);cases e
  rw [show (⟨b,off,none⟩:Addr).add j=⟨b,off+j,none⟩ from by simp [Addr.add]];exact hc
theorem zhv (R:Nat) (r:Rd) (w:World) (hG:Gl w) (_hR:10<=R) (h:zbB w R r) (hs:r.rest.length<=1000000):
  Calls Tryz.prog 129 #[.pointer (some ⟨R,0,none⟩)] w fun e w'=>e=.returned (.string ⟨(zfJ r).1.toArray⟩)/\zbB w' R (zfJ r).2/\RdM R w w':=by
 have hRlt:=h.lt;have h1:=hid (zbD R r w hG h hs);have hl:=hid (za6 r);unfold zfJ;generalize zaQ r=sq at h1 hl ⊢;obtain ⟨s,rest,more,bad⟩:=sq;obtain ⟨q,hq⟩:∃ q:Rd,q=⟨rest,more,bad⟩:=⟨_,rfl⟩;have hsl:s.length<=1000000:=by have:=hl.out.1;simp only at this;omega
 simp only [<- hq] at h1 ⊢;clear hl;replace hq:=hid hq;go_enter Tryz.func129,Tryz.ntmps129;go_wp2_with fail
 refine h1.out.mono ?_;rintro e w1 ⟨rfl,hr1,hm1⟩;have hsz1:w.heap.size<=w1.heap.size:=hm1.size;replace hr1:=hid hr1;replace hm1:=hid hm1;clear h1
 by_cases hst:s=[42]
 ·subst hst
  have e0:=hid (show hexOf [42] q=([],q) from rfl);go_wp2_with fail
  go_ret;rw [e0.out];exact ⟨rfl,hr1.out,hm1.out⟩
 ·have hse:(s==[42])=false:=by rw [beq_eq_false_iff_ne];exact hst
  go_upto_region 4 with (fail)
  obtain ⟨S,hS⟩:∃ S:ByteArray,S=⟨s.toArray⟩:=⟨_,rfl⟩;have hSs:S.size=s.length:=by rw [hS];rfl
  have hSd:S.data.toList=s:=by rw [hS]
  rw [<- hS];replace hS:=hid hS;clear hse
  by_cases hodd:s.length % 2=1
  ·have e0:=hid (zkA hst hodd q)
   have ht:(S.size:Int).tmod 2=1:=by rw [Int.tmod_eq_emod_of_nonneg (by omega)];omega
   have hr2:=hr1.out;rw [hq.out] at hr2;unfold zbB at hr2;simp only at hr2;have c2:w1.cell? ⟨R,2,none⟩=some (.bool bad):=zaa hr2 2;have zR:=zac hr2;have hp:=hid (zae hr2 2 (.bool true));have hm3:=hid (hm1.out.setCell (a:=⟨R,2,none⟩) (fun _=>rfl) (.bool true));replace hr2:=hid hr2;replace hst:=hid hst;replace hSd:=hid hSd;go_wp2_with fail
   go_ret;rw [e0.out,hq.out];exact ⟨rfl,hp.out,hm3.out⟩
  ·have ht:(S.size:Int).tmod 2=0:=by rw [Int.tmod_eq_emod_of_nonneg (by omega)];omega
   have hev:Hid (S.size % 2=0):=hid (by omega);have hsl2:Hid (S.size<=1000000):=hid (by omega);obtain ⟨m,hm⟩:∃ m,m=S.size / 2:=⟨_,rfl⟩;have hdv:(S.size:Int).tdiv 2=(m:Int):=by rw [Int.tdiv_eq_ediv_of_nonneg (by omega)];omega
   have hm6:Hid (m<=1000000):=hid (by have:=hsl2.out;omega);have hmw:wrap64 (m:Int)=m:=zmx (Nat.lt_of_le_of_lt hm6.out (by decide));replace hm:=hid hm;obtain ⟨U,hU⟩:∃ U,U=unhex s:=⟨_,rfl⟩;have hres:Hid (hexOf s q=zn0 U q):=hid (by rw [hU];exact zmq hst q);have hU0:Hid (U=(unhex (S.data.toList.drop 0)).map (fun l=>[]++l)):=hid (by rw [hSd,List.drop_zero,<- hU];simp);replace hst:=hid hst;replace hSd:=hid hSd;replace hSs:=hid hSs;replace hU:=hid hU;clear hodd hsl;go_wp2_with (at_make;refine zeD u8L rfl _ _ _ rfl Tryz.underlying63 el5 m rfl _ rfl hmw (by have:=hm6.out;omega) (base:=w.heap.size) hsz1 (fun v1 w2 H1=>?_))
   obtain ⟨hO1,hx1⟩:=H1.out;obtain ⟨ao1,cap1,rfl,-⟩:=hO1.row;have hr2:=hid (hr1.out.ext hx1);have hm2:=hid (hm1.out.then hx1 (fun _ _ h=>h.elim));clear H1;replace hO1:=hid hO1;clear hx1;simp only [List.length_nil];go_wp2_with fail
   go_loopg [4,5] S.size (fun g b i wr=>∃ (j:Nat) (l:Bs) (av:Option Addr) (cv:Nat),j+g=S.size/\j % 2=0/\i=.int .i64 j/\b=.slice av l.length cv/\Cdk.Own wr w.heap.size 5 1 u8L (.slice av l.length cv) l/\zbB wr R q/\RdM R w wr/\U=(unhex (S.data.toList.drop j)).map (fun t=>l++t)/\l.length<=j)
   case atStart=>exact ⟨0,[],ao1,cap1,by omega,rfl,rfl,rfl,hO1.out,hr2.out,hm2.out,hU0.out,by simp⟩
   case round=>
    clear hO1 hr2 hm2 hU0 hU;obtain ⟨j,l,av,cv,hj,hj2,rfl,rfl,hO,hr,hm,hUj,hlj⟩:=hrel;replace hj:=hid hj;replace hj2:=hid hj2;replace hO:=hid hO;replace hr:=hid hr;replace hm:=hid hm
    by_cases hlt:j < S.size
    ·have hlt1:j+1 < S.size:=by have:=hev.out;have:=hj2.out;omega
     have hd:decide ((j:Int) < (S.size:Int))=true:=decide_eq_true (by omega);have hdi:(j:Int) < (S.size:Int):=by omega
     have hdi1:(j:Int)+1 < (S.size:Int):=by omega
     have hUd:unhex (S.data.toList.drop j)=_:=ziT (s:=S.data.toList) (j:=j) (by have:=zaO S;omega);have hx1:S.data.toList[j]'(by have:=zaO S;omega)=S[j]:=rfl;have hx2:S.data.toList[j+1]'(by have:=zaO S;omega)=S[j+1]:=rfl;rw [hx1,hx2] at hUd;clear hx1 hx2;have k1:=hid (fun W=>zff S[j] W);have k2:=hid (fun W=>zff S[j+1] W);have hsz:=hsl2.out;cases hv1:hexV S[j] with
     | none=>
      rw [hv1] at hUd;rw [zgI hv1] at k1;replace hv1:=hid hv1;have hUn:U=none:=by rw [hUj,hUd];rfl
      have hr2:=hr.out;rw [hq.out] at hr2;unfold zbB at hr2;simp only at hr2;have c2:wr.cell? ⟨R,2,none⟩=some (.bool bad):=zaa hr2 2;have zR:=zac hr2;have hp:=hid (zae hr2 2 (.bool true));have hm3:=hid (hm.out.setCell (a:=⟨R,2,none⟩) (fun _=>rfl) (.bool true));replace hr2:=hid hr2;replace hUn:=hid hUn;clear hUd hUj;go_wp2_with fail
      refine (k1.out _).mono ?_;rintro e w2 ⟨rfl,rfl⟩;go_wp2_with fail
      refine (k2.out _).mono ?_;rintro e w3 ⟨rfl,rfl⟩;go_wp2_with fail
      go_ret;rw [hres.out,hUn.out,hq.out];exact ⟨rfl,hp.out,hm3.out⟩
     | some x=>
      rw [hv1] at hUd;rw [zgp hv1] at k1;have hx16:=zjl hv1;have hx0:¬ (x:Int) < 0:=by omega
      replace hv1:=hid hv1;cases hv2:hexV S[j+1] with
      | none=>
       rw [hv2] at hUd;rw [zgI hv2] at k2;replace hv2:=hid hv2;have hUn:U=none:=by rw [hUj,hUd];rfl
       have hr2:=hr.out;rw [hq.out] at hr2;unfold zbB at hr2;simp only at hr2;have c2:wr.cell? ⟨R,2,none⟩=some (.bool bad):=zaa hr2 2;have zR:=zac hr2;have hp:=hid (zae hr2 2 (.bool true));have hm3:=hid (hm.out.setCell (a:=⟨R,2,none⟩) (fun _=>rfl) (.bool true));replace hr2:=hid hr2;replace hUn:=hid hUn;clear hUd hUj;go_wp2_with fail
       refine (k1.out _).mono ?_;rintro e w2 ⟨rfl,rfl⟩;go_wp2_with fail
       refine (k2.out _).mono ?_;rintro e w3 ⟨rfl,rfl⟩;go_wp2_with fail
       go_ret;rw [hres.out,hUn.out,hq.out];exact ⟨rfl,hp.out,hm3.out⟩
      | some y=>
       rw [hv2] at hUd;rw [zgp hv2] at k2;have hy16:=zjl hv2;have hy0:¬ (y:Int) < 0:=by omega
       replace hv2:=hid hv2;simp only at hUd;rw [hUd] at hUj;have e8:=zoj x y hx16 hy16;generalize UInt8.ofNat (16*x+y)=c at e8 hUj;replace hUj:=hid hUj;clear hUd;go_wp2_with fail
       refine (k1.out _).mono ?_;rintro e w2 ⟨rfl,rfl⟩;go_wp2_with fail
       refine (k2.out _).mono ?_;rintro e w3 ⟨rfl,rfl⟩;go_upto_region 16 with fail
       have hxa:=Mod.alloc (Mod.refl (fun _=>False) w3) (.cells #[.int .u8 c.toNat] 5);go_wp2_with (at_builtin;refine zaX rfl _ _ _ rfl Tryz.underlying63 el5 rfl (hO.out.ext hxa) _ 1 1 rfl [c] rfl (by exact zaR.new _ _ _) zew (fun z hz u hu=>by simp only [List.mem_singleton] at hz;subst hz;simp [u8L] at hu;subst hu;rfl) (by have:=hsz;simp only [List.length_singleton];omega) (by have:=hm.out.size;rw [World.size_alloc];omega) (fun e=>nomatch e) (fun v6 w6 H6=>?_);skip)
       obtain ⟨hO6,hm6⟩:=H6.out;have hmx:Mod (fun k=>(Value.slice av l.length cv).ownBlock=some k) w3 w6:=(hxa.mono (fun _ h=>h.elim)).trans hm6;have hRo:(Value.slice av l.length cv).ownBlock ≠ some R:=fun e=>by have:=(hO.out.block _ e).1;omega
       have hr6:=hid (zbB.lt hr.out);have hr7:zbB w6 R q:=hmx.at hr.out hRo;have hm7:=hid (hm.out.then hmx (fun k hk e=>by have:=(hO.out.block _ e).1;omega));obtain ⟨av6,cv6,rfl,-⟩:=hO6.row;have hl6:(l++[c]).length=l.length+1:=by simp
       rw [hl6];rw [hl6] at hO6;clear H6 hm6 hmx hxa;replace hO6:=hid hO6;replace hr7:=hid hr7;go_wp2_with fail
       go_roundg (gk - 2)
       case measure=>have:=hj.out;omega
       case rel=>exact ⟨j+2,l++[c],av6,cv6,by have:=hj.out;omega,by have:=hj2.out;omega,by go_num,by rw [hl6],by rw [hl6];exact hO6.out,hr7.out,hm7.out,by rw [hUj.out];cases unhex (S.data.toList.drop (j+2)) <;> simp,by simp;omega⟩
    ·obtain rfl:j=S.size:=by have:=hj.out;omega
     have hdi:¬ (S.size:Int) < (S.size:Int):=by omega
     have hd:decide ((S.size:Int) < (S.size:Int))=false:=decide_eq_false hdi;rw [List.drop_eq_nil_of_le (Nat.le_of_eq (zaO S).symm)] at hUj;obtain ⟨ao9,cap9,he9,hcv⟩:=zfS hO.out;injection he9 with e91 e92 e93
     subst e91 e93;replace hUj:=hid hUj;go_wp2_with fail
     go_ret;rw [hres.out,hUj.out];exact ⟨by simp [unhex,zn0],hr.out,hm.out⟩
attribute [local go_sem] Oper.semAt_some
theorem zdi {S:Nat -> Prop} {w W W':World} {row:Option Nat} (h:Mod S w W) (hg:W.grownBy W' row) (hr:∀ r,row=some r -> w.heap.size<=r):Mod S w W':=
 ⟨hg.os.trans h.os,hg.tape.trans h.tape,hg.output.trans h.output,Nat.le_trans h.size hg.size,fun k hk hs=>(hg.block k (Nat.lt_of_lt_of_le hk h.size) (fun e=>by have:=hr k e.symm;omega)).trans (h.block k hk hs)⟩
structure LsS (w:World) (L:Nat) (pre:List Bs) (W:World):Prop where
 mod:Ext w W
 size:L+5<=W.heap.size
 fn:W.heap[L]?=some (.cells #[.func (.func 182) #[] #[]] 43 (0,0))
 box:∃ v,W.heap[L+1]?=some (.cells #[v] 22 (0,0))/\Cdk.Own W (L+5) 9 1 zdj v pre
 bz:∃ u:Value,W.heap[L+2]?=some (.cells #[u] 9 (0,0))
theorem zmo (w:World) (L B:Nat) (hL:w.heap.size<=L) (hB:L<=B):OwnFrom B (fun p W=>LsS w L p W):=by
 intro p W W' row h hg hrow;have hr:=fun r e=>(hrow r e).2
 obtain ⟨v,h1,h2⟩:=h.box;obtain ⟨sv,h3⟩:=h.bz;exact ⟨zdi h.mod hg (fun r e=>by have:=(hrow r e).1;omega),Nat.le_trans h.size hg.size,zao hg hr h.fn,⟨v,zao hg hr h1,zcb hg hr h2⟩,⟨sv,zao hg hr h3⟩⟩
theorem zmI {w:World} {L:Nat} (hL:w.heap.size<=L) {p:List Bs} {W:World} (v:Value) (h:LsS w L p W):LsS w L p (W.setCell ⟨L+2,0,none⟩ v):=by
 obtain ⟨u,h1,h2⟩:=h.box;obtain ⟨sv,h3⟩:=h.bz;refine ⟨zaG (B:=L) hL ((h.mod.mono (T:=fun k=>L<=k) (fun _ h=>h.elim)).setCell (fun _=>by show L<=L+2;omega) _),by simpa [World.setCell] using h.size,(zar W (k:=L) 0 _ (by omega)).trans h.fn,⟨u,(zar W (k:=L+1) 0 _ (by omega)).trans h1,?_⟩,⟨v,zc1 h3⟩⟩;refine h2.mod ((Mod.refl (Eq (L+2)) W).setCell (fun _=>rfl) _) (fun k hk e=>?_);subst e;exact absurd (h2.block _ hk).1 (by omega)
theorem zmA (x:Bs) (w:World):Calls Tryz.prog 182 #[.string ⟨x.toArray⟩] w fun e w'=>e=.returned (.string ⟨x.toArray⟩)/\w=w':=by
 go_enter Tryz.func182,Tryz.ntmps182;go_wp2_with fail
 go_ret;exact ⟨rfl,rfl⟩
def StP (w:World) (l:List Bs) (e:Ending) (w':World):Prop:=∃ (ao:Option Addr) (cap:Nat),e=.returned (.slice ao l.length cap)/\zbw (fun k=>w.heap.size<=k/\k < w'.heap.size) w' (.slice ao l.length cap) l/\Ext w w'
theorem zfu (s:Bs) (hs:s.length<=1000000) (w:World):
  Calls Tryz.prog 181 #[.string ⟨s.toArray⟩,.func (.func 182) #[] #[]] w (StP w (textsOf s)):=by
 by_cases hst:s=[42]
 ·subst hst
  have e0:textsOf [42]=[]:=rfl;rw [e0];have hx:=Mod.alloc (Mod.refl (fun _=>False) w) (.cells #[.func (.func 182) #[] #[]] 43);replace hx:=hid hx;go_enter Tryz.func181,Tryz.ntmps181;go_wp2_with fail
  go_ret;exact ⟨none,0,rfl,zai.nil _ _ _,hx.out⟩
 ·have e0:textsOf s=parts 44 s:=by unfold textsOf;rw [if_neg hst]
  rw [e0];have hse:(s==[42])=false:=by rw [beq_eq_false_iff_ne];exact hst
  refine (callsIn_wide (n:=3)).1 ?_;refine callsIn_of_wp_marks Tryz.func181 rfl trivial ?_ rfl;simp only [Tryz.ntmps181,List.size_toArray,List.length_cons,List.length_nil,Nat.reduceAdd,Nat.reduceSub,Array.replicate_succ,Array.replicate_zero,List.push_toArray,List.append_toArray,List.nil_append,List.cons_append];refine (wpIn_wide (n:=3)).2 ?_;go_wp2_with fail
  refine (zdQ 44 s _).mono ?_;rintro e w1 ⟨rfl,rfl⟩;go_wp2_with fail
  try simp only [World.size_alloc]
  obtain ⟨L,hL⟩:∃ L,L=w.heap.size:=⟨_,rfl⟩;simp only [<- hL];have hx5:=(((((Mod.refl (fun _=>False) w).alloc (.cells #[.func (.func 182) #[] #[]] 43)).alloc (.cells #[.slice none 0 0] 22)).alloc (.cells #[.string ⟨s.toArray⟩] 9)).alloc (.cells #[.string ⟨#[44]⟩] 9)).alloc (.cells #[.int .i64 0] 3);have hg4:∀ k,(((((w.alloc (.cells #[.func (.func 182) #[] #[]] 43)).alloc (.cells #[.slice none 0 0] 22)).alloc (.cells #[.string ⟨s.toArray⟩] 9)).alloc (.cells #[.string ⟨#[44]⟩] 9)).alloc (.cells #[.int .i64 0] 3)).heap[k]?=
    if k=L+4 then some (.cells #[.int .i64 0] 3 (0,0)) else if k=L+3 then some (.cells #[.string ⟨#[44]⟩] 9 (0,0)) else if k=L+2 then some (.cells #[.string ⟨s.toArray⟩] 9 (0,0)) else if k=L+1 then some (.cells #[.slice none 0 0] 22 (0,0)) else if k=L then some (.cells #[.func (.func 182) #[] #[]] 43 (0,0)) else w.heap[k]?:=by
   intro k;simp only [zaA,World.size_alloc,<- hL]
  have hs4:(((((w.alloc (.cells #[.func (.func 182) #[] #[]] 43)).alloc (.cells #[.slice none 0 0] 22)).alloc (.cells #[.string ⟨s.toArray⟩] 9)).alloc (.cells #[.string ⟨#[44]⟩] 9)).alloc (.cells #[.int .i64 0] 3)).heap.size=L+5:=by simp only [World.size_alloc,<- hL]
  generalize (((((w.alloc (.cells #[.func (.func 182) #[] #[]] 43)).alloc (.cells #[.slice none 0 0] 22)).alloc (.cells #[.string ⟨s.toArray⟩] 9)).alloc (.cells #[.string ⟨#[44]⟩] 9)).alloc (.cells #[.int .i64 0] 3))=w4 at hx5 hg4 hs4 ⊢;have b0:=hg4 L;have b1:=hg4 (L+1);have b2:=hg4 (L+1+1);have b3:=hg4 (L+1+1+1);have b4:=hg4 (L+1+1+1+1);simp at b0 b1 b2 b3 b4;clear hg4;have hwL:w.heap.size<=L:=Nat.le_of_eq hL.symm;have hI0:LsS w L [] w4:=⟨hx5,by omega,b0,⟨_,b1,Own.nil _ _ _ _ _⟩,⟨_,b2⟩⟩;replace hL:=hid hL;have hseq:=zf9 2 (L+1+1) (L+1+1+1) (L+1+1+1+1) (by omega) ⟨by omega,by omega⟩ 44 s hs w4 b2 b3 b4;refine (wpIn_wide (n:=3)).1 ?_;refine zbN (F:=Fence.wide) rfl (by omega) (gf:=264) (lb:=#[.pointer (some ⟨L+1+1+1,0,none⟩),.pointer (some ⟨L+1+1,0,none⟩),.pointer (some ⟨L+1+1+1+1,0,none⟩)]) rfl trivial (enters_of Tryz.func264 (by kernel_rfl) rfl)
   hseq (fun k hk=>by rcases hk with rfl | rfl | rfl <;> omega) (by omega) (Below.refl _ _) (fun _=>rfl) (fun pre W=>LsS w L pre W) (fun _ _ _=>False)
   (zmo w L w4.heap.size hwL (by omega)) (fun p A v hh=>zmI hwL v hh) (fun c s W W' row h _ _=>h) hI0 ?aa ?assign ?body ?done (fun D c pre W _ _ h=>h.elim)
  case assign=>
   intro l x W K hK
   gi_wp2
   exact hK
  case body=>
   rintro l pre x W hI hlen hxl;obtain ⟨v,hb1,hown⟩:=hI.box;obtain ⟨av,cv,rfl,-,-⟩:=hown.row;have q0:W.cell? ⟨L,0,none⟩=some (.func (.func 182) #[] #[]):=zaa hI.fn 0;have q1:W.cell? ⟨L+1,0,none⟩=some (.slice av pre.length cv):=zaa hb1 0;have z1:=zac hb1;have hsz:Hid (L+5<=W.heap.size):=hid hI.size;have hplen:pre.length<=1000001:=by have:=zcg 44 s;omega
   have hce:=enters_of Tryz.func182 (by kernel_rfl) rfl;replace hI:=hid hI;replace hown:=hid hown;replace hb1:=hid hb1;refine wpIn_block ?_;refine zb1 (fun W'=>W'.heap[L]?=some (.cells #[.func (.func 182) #[] #[]] 43 (0,0))/\W'.heap[L+1]?=some (.cells #[.slice av pre.length cv] 22 (0,0))) [(0,true),(1,true),(2,true),(3,false),(4,false),(5,false),(6,false)]
    (by as_aux_lemma=>kernel_rfl) (by as_aux_lemma=>kernel_rfl) (by as_aux_lemma=>kernel_rfl) (by as_aux_lemma=>kernel_rfl) (by decide) (fun ⟨a,w,h⟩=>h) ⟨hI.out.fn,hb1.out⟩ ?_
   simp only [zak,List.map_cons,List.map_nil,List.getD_cons_zero,List.getD_cons_succ];have hW0:=Mod.drew0 (fun _=>False) W;have hm0:=hI.out.mod.drew;have ho0:=hown.out.ext hW0;have hsz0:L+5<=W.drew.heap.size:=hsz.out;have hC0:W.drew.heap[L]?=some (.cells #[.func (.func 182) #[] #[]] 43 (0,0))/\W.drew.heap[L+1]?=some (.cells #[.slice av pre.length cv] 22 (0,0)):=⟨hI.out.fn,hb1.out⟩;have hk0:=KeepsOthers.drew W;have hs0:∀ k:Nat,W.drew.heap[k]?=W.heap[k]?:=fun _=>rfl
   generalize W.drew=W1 at hm0 ho0 hsz0 hC0 hk0 hs0 ⊢;have htn:=hid (zmA x W1);replace hm0:=hid hm0;replace ho0:=hid ho0;replace hk0:=hid hk0;replace hs0:=hid hs0;replace hC0:=hid hC0;clear q0 q1 hW0;repeat (first | (refine zkk (by rfl) (by rfl) ?_ (fun w' hC=>?_) ?_;rotate_left;(obtain ⟨hC1,hC2⟩:=hC;have q0:w'.cell? ⟨L,0,none⟩=some (.func (.func 182) #[] #[]):=zaa hC1 0;have q1:w'.cell? ⟨L+1,0,none⟩=some (.slice av pre.length cv):=zaa hC2 0;go_simp;try with_reducible rfl);try simp only [Act.put,sA,sZ,sS]) | (refine zlB (by rfl) (by rfl) ?_ (fun w' hC=>?_) ?_;rotate_left;(go_simp;try with_reducible rfl);try simp only [Act.put,sA,sZ,sS]))
   refine zea (by rfl) (fun K hK=>?_);go_simp;refine htn.out.mono ?_;rintro e W1' ⟨rfl,rfl⟩;refine hK.out _ _ hC0.out ?_;clear hK K htn;try simp only [Act.put,sA,sZ,sS]
   refine zea (by rfl) (fun K hK=>?_);go_simp;have hxA:=Mod.alloc (Mod.refl (fun _=>False) W1) (.cells #[.string ⟨x.toArray⟩] 9);refine hK.out _ _ ⟨hxA.at hC0.out.1 (fun h=>h),hxA.at hC0.out.2 (fun h=>h)⟩ ?_;clear hK K;try simp only [Act.put,sA,sZ,sS]
   refine zea (by rfl) (fun K hK=>?_);refine zem _ _ 22 rfl Tryz.underlying22 el9 rfl (ho0.out.ext hxA) _ 1 1 rfl [x] rfl (by exact zaR.new _ _ _) za5 (fun y hy u hu=>by simp only [List.mem_singleton] at hy;subst hy;simp [zdj,zbR] at hu;subst hu;rfl) (by simp only [List.length_singleton];omega) (by rw [World.size_alloc];omega) (fun e=>nomatch e) (fun v6 w6 H6=>?_);obtain ⟨hO6,hm6⟩:=H6.out;have hC6:w6.heap[L]?=some (.cells #[.func (.func 182) #[] #[]] 43 (0,0))/\w6.heap[L+1]?=some (.cells #[.slice av pre.length cv] 22 (0,0)):=
    ⟨hm6.at (hxA.at hC0.out.1 (fun h=>h)) (fun e=>by have:=(ho0.out.block _ e).1;omega),hm6.at (hxA.at hC0.out.2 (fun h=>h)) (fun e=>by have:=(ho0.out.block _ e).1;omega)⟩
   refine hK.out _ _ hC6 ?_;clear hK K H6;have hlen6:(pre++[x]).length=pre.length+1:=by simp
   obtain ⟨av6,cv6,rfl,-,-⟩:=hO6.row;rw [hlen6] at hO6;try simp only [Act.put,sA,sZ,sS]
   refine zkT (by rfl) (fun K hK=>?_);have z6:=zac hC6.2;have q6:w6.cell? ⟨L+1,0,none⟩=some (.slice av pre.length cv):=zaa hC6.2 0;go_simp;refine hK.out _ _ ?_;clear hK K;have hma:Mod (fun k=>(Value.slice av pre.length cv).ownBlock=some k) W1 w6:=(((Mod.refl _ W1).alloc _)).trans hm6;have hsz6:W1.heap.size<=w6.heap.size:=hma.size;show KeepsOthers W _/\_/\_
   refine ⟨(hk0.out.trans (zbH hma (fun k o hk ho e=>?_))).trans (KeepsOthers.setCell _ _ _),fun k hk=>?_,?_⟩
   ·obtain ⟨c,hc⟩:=ho0.out.cells e
    rw [hk] at hc;cases hc;cases ho
   ·have hk2:k ≠ L+1/\k < L+5:=by rcases hk with rfl | rfl | rfl <;> omega
    rw [zar w6 0 _ hk2.1,hma.block k (by omega) (fun e=>by have:=(ho0.out.block _ e).1;omega),hs0.out k]
   ·have hmf:Ext w (w6.setCell ⟨L+1,0,none⟩ (.slice av6 (pre.length+1) cv6)):=zaG (B:=L) hwL ((((hm0.out.then hma (fun k hk e=>by have:=(ho0.out.block _ e).1;omega)).mono (T:=fun k=>L<=k) (fun _ h=>h.elim))).setCell (fun _=>by show L<=L+1;omega) _)
    have hszf:L+5<=(w6.setCell ⟨L+1,0,none⟩ (.slice av6 (pre.length+1) cv6)).heap.size:=by
     have:(w6.setCell ⟨L+1,0,none⟩ (.slice av6 (pre.length+1) cv6)).heap.size=w6.heap.size:=by simp [World.setCell]
     omega
    refine ⟨hmf,hszf,(zar w6 0 _ (by omega)).trans hC6.1,⟨_,zc1 hC6.2,?_⟩,?_⟩
    ·exact hO6.mod ((Mod.refl (Eq (L+1)) w6).setCell (a:=⟨L+1,0,none⟩) (fun _=>rfl) _) (fun k hk e=>by have:=(hO6.block _ hk).1;omega)
    ·obtain ⟨u,hu⟩:=hI.out.bz
     refine ⟨u,(zar w6 0 _ (by omega)).trans ?_⟩;rw [hma.block (L+2) (by omega) (fun e=>by have:=(ho0.out.block _ e).1;omega),hs0.out (L+2)];exact hu
  case done=>
   rintro D xs W hD hxs hI hK;obtain ⟨v,hb1,hown⟩:=hI.box;obtain ⟨av,cv,rfl,-,-⟩:=hown.row;have q1:W.cell? ⟨L+1,0,none⟩=some (.slice av xs.length cv):=zaa hb1 0;have hnl:xs.length<=140737488355328:=by rw [hxs];have:=zcg 44 s;omega
   have hrow:=hid (zbM hown hnl);replace hI:=hid hI;replace hown:=hid hown;replace hK:=hid hK;replace hxs:=hid hxs;replace hb1:=hid hb1;go_wp2_with fail
   have hgD:W.grownBy (W.putObj D (.deferred none)) (some D):=grownBy_putObj' W D _;have hrD:∀ r,some D=some r -> ∃ o:Obj,W.heap[r]?=some o/\o.isCells=false:=fun r e=>by cases e;exact ⟨_,hK.out,rfl⟩
   refine ⟨by simp,.inl ⟨_,_,rfl,run_takeDeferred hK.out,?_⟩⟩;refine ⟨_,by simp [results,go_sem];rfl,?_⟩;rw [<- hxs.out];have hszD:(W.putObj D (.deferred none)).heap.size=W.heap.size:=by simp
   refine ⟨av,cv,rfl,?_,zdi hI.out.mod hgD (fun r e=>by cases e;omega)⟩;exact zai.mono (zbM (zcb hgD hrD hown.out) hnl) (fun k hk=>⟨by omega,hk.2⟩)
def inF:Nat -> Rr Fc
 | 0,r=>
  let lg:=zaQ r
  let rv:=zbi lg.2
  let bs:=zbi rv.2
  let au:=zaQ bs.2
  let tp:=zaQ au.2
  let lb:=zb3 tp.2
  let hx:=zfJ lb.2
  let bl:List Bk × Rd:=match zgm hx.1 with | .ok l=>(l,hx.2) | .error _=>([],Scr.bad hx.2)
  let ti:=zb7 bl.2
  ({ Fc.zero with lg:=lg.1,rv:=rv.1,bs:=bs.1,au:=au.1,tp:=textsOf tp.1,lb:=lb.1,bl:=bl.1,ti:=ti.1 },ti.2)
 | 1,r=>let ed:=zbi r;({ Fc.zero with ed:=ed.1 },ed.2)
 | 2,r=>let lb:=zb3 r;({ Fc.zero with lb:=lb.1 },lb.2)
 | 3,r=>
  let lg:=zaQ r
  let bk:=zbi lg.2
  let se:=zbi bk.2
  let tx:=zb7 se.2
  ({ Fc.zero with lg:=lg.1,bk:=bk.1,se:=se.1,tx:=tx.1 },tx.2)
 | 4,r=>let tx:=zb7 r;({ Fc.zero with tx:=tx.1 },tx.2)
 | _,r=>(Fc.zero,r)
theorem zlK {j:Nat} (hj:j < 6) (r:Rd):zbe j r=(zby { (inF j (zbi r).2).1 with st:=(zbi r).1 },(inF j (zbi r).2).2):=by
 match j with
 | 0=>rfl
 | 1=>rfl
 | 2=>rfl
 | 3=>rfl
 | 4=>rfl
 | 5=>rfl
 | n+6=>exact absurd hj (by omega)
theorem zc5 (r:Rd):(zb7 r).2.rest.length<=r.rest.length:=by unfold zb7;split <;> simp
def FcP (w:World) (R:Nat) (T:Fc × Rd) (e:Ending) (w':World):Prop:=∃ (a1:Option Addr) (n1 c1:Nat) (a2:Option Addr) (n2 c2:Nat) (a3:Option Addr) (n3 c3:Nat),e=.returned (.agg (fcA a1 n1 c1 a2 n2 c2 a3 n3 c3 T.1))/\FcAt (fun k=>w.heap.size<=k/\k < w'.heap.size) w' ⟨.slice a1 n1 c1,.slice a2 n2 c2,.slice a3 n3 c3⟩ T.1/\zbB w' R T.2/\RdM R w w'
theorem fApprove (R:Nat) (r0:Rd) (w:World) (hG:Gl w) (hR:10<=R) (h:zbB w R r0) (hl:r0.rest.length<=1000000):
  Calls Tryz.prog 114 #[.pointer (some ⟨R,0,none⟩)] w (FcP w R (inF 1 r0)):=by
 have hRlt:=h.lt;obtain ⟨U,hU⟩:∃ U,U=w.heap.size:=⟨_,rfl⟩;have hx0:=(Mod.refl (fun _=>False) w).alloc (.cells zF9 28);have hUc:=heap_alloc_new w (.cells zF9 28);rw [<- hU] at hUc;have hr0:=hid (h.ext hx0);have hG0:=hid (hG.ext hx0);have hm0:=hid (RdM.ofExt (R:=R) hx0);have hU0:=hid hUc;have hl0:=hid hl;have hs0:U < (w.alloc (.cells zF9 28)).heap.size:=by rw [World.size_alloc,hU];omega
 obtain ⟨M,hM⟩:∃ M,M=inF 1 r0:=⟨_,rfl⟩;rw [<- hM];unfold inF at hM;simp only at hM;replace hM:=hid hM;clear hUc hx0 h hl hG;go_enter Tryz.func114,Tryz.ntmps114;go_wp2_with fail
 rw [<- hU];have hwU:w.heap.size<=U:=Nat.le_of_eq hU.symm;have hRU:R < U:=by omega
 generalize (w.alloc (.cells zF9 28))=W0 at hr0 hG0 hm0 hU0 hs0 ⊢;replace hU:=hid hU;have k0:=hid (zaJ R r0 W0 hG0.out hR hr0.out hl0.out);refine k0.out.mono ?_;rintro e W1 ⟨rfl,hrn,hn⟩;have hln:=zbm r0;generalize hq0:zbi r0=q0 at hrn hln  ⊢;obtain ⟨x0,r1⟩:=q0;simp only at hrn hln  ⊢;have hr1:=hid hrn;have hl1:Hid (r1.rest.length<=1000000):=hid (Nat.le_trans hln hl0.out);have hG1:=hid (hG0.out.rd hR hn);have hm1:=hid (hm0.out.trans hn);have hU1:=hid (hn.at hU0.out (by omega));have hs1:U < W1.heap.size:=by have:=hn.size;omega
 replace hq0:=hid hq0;clear hrn hln hn k0 hr0 hl0 hm0 hU0 hG0;obtain ⟨VB,hVB⟩:∃ VB:Array Value,VB=#[.int .i64 0,.int .i64 0,.int .i64 0,.int .i64 0,.string ⟨#[]⟩,.int .i64 0,.int .i64 0,.string ⟨#[]⟩,.string ⟨#[]⟩,.slice none 0 0,.slice none 0 0,.int .i64 0,.slice none 0 0,.int .i64 0,.int .i64 0,.int .i64 x0,.int .i64 0,.int .i64 0,.string ⟨#[]⟩,.string ⟨#[]⟩,.int .i64 0,.int .i64 0,.int .i64 0]:=⟨_,rfl⟩;have hVs:Hid (VB.size=23):=hid (by rw [hVB];rfl);have hV1:Hid (VB.toList.all (·.oneCell')=true):=hid (by rw [hVB];rfl);go_wp2_with (refine zab rfl 28 _ _ rfl U _ VB 28 rfl (by rw [hVB];rfl) hU1.out (by rw [hVs.out];rfl) (by rw [hVs.out];kernel_rfl) hV1.out (fun WS HS=>?_))
 refine bodyPost_ret (results_cell_row rfl _ _ U _ _ _ _ rfl HS.out.1 Tryz.underlying28 rfl (by rw [hVs.out];kernel_rfl)) rfl ?_;have hMe:M=({ Fc.zero with ed:=x0 },r1):=by
  rw [hM.out];simp only [show zbi r0=(x0,r1) from hq0.out]
 rw [hMe];have hsS:=HS.out.2.size;refine ⟨none,0,0,none,0,0,none,0,0,by rw [hVB];rfl,⟨zai.nil _ _ _,zaD.nil _ _,?_⟩,HS.out.2.at hr1.out (by omega),hm1.out.then HS.out.2 (fun k hk e=>by omega)⟩;exact zai.nil _ _ _
theorem fCorrect (R:Nat) (r0:Rd) (w:World) (hG:Gl w) (hR:10<=R) (h:zbB w R r0) (hl:r0.rest.length<=1000000):
  Calls Tryz.prog 120 #[.pointer (some ⟨R,0,none⟩)] w (FcP w R (inF 3 r0)):=by
 have hRlt:=h.lt;obtain ⟨U,hU⟩:∃ U,U=w.heap.size:=⟨_,rfl⟩;have hx0:=(Mod.refl (fun _=>False) w).alloc (.cells zF9 28);have hUc:=heap_alloc_new w (.cells zF9 28);rw [<- hU] at hUc;have hr0:=hid (h.ext hx0);have hG0:=hid (hG.ext hx0);have hm0:=hid (RdM.ofExt (R:=R) hx0);have hU0:=hid hUc;have hl0:=hid hl;have hs0:U < (w.alloc (.cells zF9 28)).heap.size:=by rw [World.size_alloc,hU];omega
 obtain ⟨M,hM⟩:∃ M,M=inF 3 r0:=⟨_,rfl⟩;rw [<- hM];unfold inF at hM;simp only at hM;replace hM:=hid hM;clear hUc hx0 h hl hG;go_enter Tryz.func120,Tryz.ntmps120;go_wp2_with fail
 rw [<- hU];have hwU:w.heap.size<=U:=Nat.le_of_eq hU.symm;have hRU:R < U:=by omega
 generalize (w.alloc (.cells zF9 28))=W0 at hr0 hG0 hm0 hU0 hs0 ⊢;replace hU:=hid hU;have k0:=hid (zbD R r0 W0 hG0.out hr0.out hl0.out);refine k0.out.mono ?_;rintro e W1 ⟨rfl,hrn,hn⟩;have hln:=(fun r=>(za6 r).2) r0;generalize hq0:zaQ r0=q0 at hrn hln  ⊢;obtain ⟨x0,r1⟩:=q0;simp only at hrn hln  ⊢;have hr1:=hid hrn;have hl1:Hid (r1.rest.length<=1000000):=hid (Nat.le_trans hln hl0.out);have hG1:=hid (hG0.out.rd hR hn);have hm1:=hid (hm0.out.trans hn);have hU1:=hid (hn.at hU0.out (by omega));have hs1:U < W1.heap.size:=by have:=hn.size;omega
 replace hq0:=hid hq0;clear hrn hln hn k0 hr0 hl0 hm0 hU0 hG0;go_wp2_with fail
 have k1:=hid (zaJ R r1 W1 hG1.out hR hr1.out hl1.out);refine k1.out.mono ?_;rintro e W2 ⟨rfl,hrn,hn⟩;have hln:=zbm r1;generalize hq1:zbi r1=q1 at hrn hln  ⊢;obtain ⟨x1,r2⟩:=q1;simp only at hrn hln  ⊢;have hr2:=hid hrn;have hl2:Hid (r2.rest.length<=1000000):=hid (Nat.le_trans hln hl1.out);have hG2:=hid (hG1.out.rd hR hn);have hm2:=hid (hm1.out.trans hn);have hU2:=hid (hn.at hU1.out (by omega));have hs2:U < W2.heap.size:=by have:=hn.size;omega
 replace hq1:=hid hq1;clear hrn hln hn k1 hr1 hl1 hm1 hU1 hG1;go_wp2_with fail
 have k2:=hid (zaJ R r2 W2 hG2.out hR hr2.out hl2.out);refine k2.out.mono ?_;rintro e W3 ⟨rfl,hrn,hn⟩;have hln:=zbm r2;generalize hq2:zbi r2=q2 at hrn hln  ⊢;obtain ⟨x2,r3⟩:=q2;simp only at hrn hln  ⊢;have hr3:=hid hrn;have hl3:Hid (r3.rest.length<=1000000):=hid (Nat.le_trans hln hl2.out);have hG3:=hid (hG2.out.rd hR hn);have hm3:=hid (hm2.out.trans hn);have hU3:=hid (hn.at hU2.out (by omega));have hs3:U < W3.heap.size:=by have:=hn.size;omega
 replace hq2:=hid hq2;clear hrn hln hn k2 hr2 hl2 hm2 hU2 hG2;go_wp2_with fail
 have k3:=hid (zdd R r3 W3 hr3.out);refine k3.out.mono ?_;rintro e W4 ⟨rfl,hrn,hn⟩;have hln:=zc5 r3;generalize hq3:zb7 r3=q3 at hrn hln  ⊢;obtain ⟨x3,r4⟩:=q3;simp only at hrn hln  ⊢;have hr4:=hid hrn;have hl4:Hid (r4.rest.length<=1000000):=hid (Nat.le_trans hln hl3.out);have hG4:=hid (hG3.out.rd hR hn);have hm4:=hid (hm3.out.trans hn);have hU4:=hid (hn.at hU3.out (by omega));have hs4:U < W4.heap.size:=by have:=hn.size;omega
 replace hq3:=hid hq3;clear hrn hln hn k3 hr3 hl3 hm3 hU3 hG3;obtain ⟨VB,hVB⟩:∃ VB:Array Value,VB=#[.int .i64 0,.int .i64 0,.int .i64 0,.int .i64 0,.string ⟨x0.toArray⟩,.int .i64 0,.int .i64 0,.string ⟨#[]⟩,.string ⟨#[]⟩,.slice none 0 0,.slice none 0 0,.int .i64 0,.slice none 0 0,.int .i64 0,.int .i64 0,.int .i64 0,.int .i64 x1,.int .i64 x2,.string ⟨x3.toArray⟩,.string ⟨#[]⟩,.int .i64 0,.int .i64 0,.int .i64 0]:=⟨_,rfl⟩;have hVs:Hid (VB.size=23):=hid (by rw [hVB];rfl);have hV1:Hid (VB.toList.all (·.oneCell')=true):=hid (by rw [hVB];rfl);go_wp2_with (refine zab rfl 28 _ _ rfl U _ VB 28 rfl (by rw [hVB];rfl) hU4.out (by rw [hVs.out];rfl) (by rw [hVs.out];kernel_rfl) hV1.out (fun WS HS=>?_))
 refine bodyPost_ret (results_cell_row rfl _ _ U _ _ _ _ rfl HS.out.1 Tryz.underlying28 rfl (by rw [hVs.out];kernel_rfl)) rfl ?_;have hMe:M=({ Fc.zero with lg:=x0,bk:=x1,se:=x2,tx:=x3 },r4):=by
  rw [hM.out];simp only [show zaQ r0=(x0,r1) from hq0.out,show zbi r1=(x1,r2) from hq1.out,show zbi r2=(x2,r3) from hq2.out,show zb7 r3=(x3,r4) from hq3.out]
 rw [hMe];have hsS:=HS.out.2.size;refine ⟨none,0,0,none,0,0,none,0,0,by rw [hVB];rfl,⟨zai.nil _ _ _,zaD.nil _ _,?_⟩,HS.out.2.at hr4.out (by omega),hm4.out.then HS.out.2 (fun k hk e=>by omega)⟩;exact zai.nil _ _ _
theorem fRetract (R:Nat) (r0:Rd) (w:World) (hG:Gl w) (hR:10<=R) (h:zbB w R r0) (hl:r0.rest.length<=1000000):
  Calls Tryz.prog 123 #[.pointer (some ⟨R,0,none⟩)] w (FcP w R (inF 4 r0)):=by
 have hRlt:=h.lt;obtain ⟨U,hU⟩:∃ U,U=w.heap.size:=⟨_,rfl⟩;have hx0:=(Mod.refl (fun _=>False) w).alloc (.cells zF9 28);have hUc:=heap_alloc_new w (.cells zF9 28);rw [<- hU] at hUc;have hr0:=hid (h.ext hx0);have hG0:=hid (hG.ext hx0);have hm0:=hid (RdM.ofExt (R:=R) hx0);have hU0:=hid hUc;have hl0:=hid hl;have hs0:U < (w.alloc (.cells zF9 28)).heap.size:=by rw [World.size_alloc,hU];omega
 obtain ⟨M,hM⟩:∃ M,M=inF 4 r0:=⟨_,rfl⟩;rw [<- hM];unfold inF at hM;simp only at hM;replace hM:=hid hM;clear hUc hx0 h hl hG;go_enter Tryz.func123,Tryz.ntmps123;go_wp2_with fail
 rw [<- hU];have hwU:w.heap.size<=U:=Nat.le_of_eq hU.symm;have hRU:R < U:=by omega
 generalize (w.alloc (.cells zF9 28))=W0 at hr0 hG0 hm0 hU0 hs0 ⊢;replace hU:=hid hU;have k0:=hid (zdd R r0 W0 hr0.out);refine k0.out.mono ?_;rintro e W1 ⟨rfl,hrn,hn⟩;have hln:=zc5 r0;generalize hq0:zb7 r0=q0 at hrn hln  ⊢;obtain ⟨x0,r1⟩:=q0;simp only at hrn hln  ⊢;have hr1:=hid hrn;have hl1:Hid (r1.rest.length<=1000000):=hid (Nat.le_trans hln hl0.out);have hG1:=hid (hG0.out.rd hR hn);have hm1:=hid (hm0.out.trans hn);have hU1:=hid (hn.at hU0.out (by omega));have hs1:U < W1.heap.size:=by have:=hn.size;omega
 replace hq0:=hid hq0;clear hrn hln hn k0 hr0 hl0 hm0 hU0 hG0;obtain ⟨VB,hVB⟩:∃ VB:Array Value,VB=#[.int .i64 0,.int .i64 0,.int .i64 0,.int .i64 0,.string ⟨#[]⟩,.int .i64 0,.int .i64 0,.string ⟨#[]⟩,.string ⟨#[]⟩,.slice none 0 0,.slice none 0 0,.int .i64 0,.slice none 0 0,.int .i64 0,.int .i64 0,.int .i64 0,.int .i64 0,.int .i64 0,.string ⟨x0.toArray⟩,.string ⟨#[]⟩,.int .i64 0,.int .i64 0,.int .i64 0]:=⟨_,rfl⟩;have hVs:Hid (VB.size=23):=hid (by rw [hVB];rfl);have hV1:Hid (VB.toList.all (·.oneCell')=true):=hid (by rw [hVB];rfl);go_wp2_with (refine zab rfl 28 _ _ rfl U _ VB 28 rfl (by rw [hVB];rfl) hU1.out (by rw [hVs.out];rfl) (by rw [hVs.out];kernel_rfl) hV1.out (fun WS HS=>?_))
 refine bodyPost_ret (results_cell_row rfl _ _ U _ _ _ _ rfl HS.out.1 Tryz.underlying28 rfl (by rw [hVs.out];kernel_rfl)) rfl ?_;have hMe:M=({ Fc.zero with tx:=x0 },r1):=by
  rw [hM.out];simp only [show zb7 r0=(x0,r1) from hq0.out]
 rw [hMe];have hsS:=HS.out.2.size;refine ⟨none,0,0,none,0,0,none,0,0,by rw [hVB];rfl,⟨zai.nil _ _ _,zaD.nil _ _,?_⟩,HS.out.2.at hr1.out (by omega),hm1.out.then HS.out.2 (fun k hk e=>by omega)⟩;exact zai.nil _ _ _
theorem fPublish (R:Nat) (r0:Rd) (w:World) (hG:Gl w) (hR:10<=R) (h:zbB w R r0) (hl:r0.rest.length<=1000000):
  Calls Tryz.prog 117 #[.pointer (some ⟨R,0,none⟩)] w (FcP w R (inF 2 r0)):=by
 have hRlt:=h.lt;obtain ⟨U,hU⟩:∃ U,U=w.heap.size:=⟨_,rfl⟩;have hx0:=(Mod.refl (fun _=>False) w).alloc (.cells zF9 28);have hUc:=heap_alloc_new w (.cells zF9 28);rw [<- hU] at hUc;have hr0:=hid (h.ext hx0);have hG0:=hid (hG.ext hx0);have hm0:=hid (RdM.ofExt (R:=R) hx0);have hU0:=hid hUc;have hl0:=hid hl;have hs0:U < (w.alloc (.cells zF9 28)).heap.size:=by rw [World.size_alloc,hU];omega
 obtain ⟨M,hM⟩:∃ M,M=inF 2 r0:=⟨_,rfl⟩;rw [<- hM];unfold inF at hM;simp only at hM;replace hM:=hid hM;clear hUc hx0 h hl hG;go_enter Tryz.func117,Tryz.ntmps117;go_wp2_with fail
 rw [<- hU];have hwU:w.heap.size<=U:=Nat.le_of_eq hU.symm;have hRU:R < U:=by omega
 generalize (w.alloc (.cells zF9 28))=W0 at hr0 hG0 hm0 hU0 hs0 ⊢;replace hU:=hid hU;have k0:=hid (zgw R r0 W0 hG0.out hR hr0.out hl0.out);refine k0.out.mono ?_;rintro e W1 ⟨vl,rfl,hil,hrn,hn⟩;have hln:=zgz r0;generalize hq0:zb3 r0=q0 at hrn hln hil ⊢;obtain ⟨x0,r1⟩:=q0;simp only at hrn hln hil ⊢;have hr1:=hid hrn;have hl1:Hid (r1.rest.length<=1000000):=hid (Nat.le_trans hln hl0.out);have hG1:=hid (hG0.out.rd hR hn);have hm1:=hid (hm0.out.trans hn);have hU1:=hid (hn.at hU0.out (by omega));have hs1:U < W1.heap.size:=by have:=hn.size;omega
 obtain ⟨ao,cap,rfl⟩:=hil.slice;have hOl:=hid (zai.mono (F':=fun k=>U < k/\k < W1.heap.size) hil (fun k hk=>⟨by have:=hk.1;omega,hk.2⟩));clear hil;replace hq0:=hid hq0;clear hrn hln hn k0 hr0 hl0 hm0 hU0 hG0;obtain ⟨VB,hVB⟩:∃ VB:Array Value,VB=#[.int .i64 0,.int .i64 0,.int .i64 0,.int .i64 0,.string ⟨#[]⟩,.int .i64 0,.int .i64 0,.string ⟨#[]⟩,.string ⟨#[]⟩,.slice none 0 0,.slice none 0 0,.int .i64 x0.til,.slice ao x0.aft.length cap,.int .i64 x0.app,.int .i64 x0.den,.int .i64 0,.int .i64 0,.int .i64 0,.string ⟨#[]⟩,.string ⟨#[]⟩,.int .i64 0,.int .i64 0,.int .i64 0]:=⟨_,rfl⟩;have hVs:Hid (VB.size=23):=hid (by rw [hVB];rfl);have hV1:Hid (VB.toList.all (·.oneCell')=true):=hid (by rw [hVB];rfl);go_wp2_with (refine zab rfl 28 _ _ rfl U _ VB 28 rfl (by rw [hVB];rfl) hU1.out (by rw [hVs.out];rfl) (by rw [hVs.out];kernel_rfl) hV1.out (fun WS HS=>?_))
 refine bodyPost_ret (results_cell_row rfl _ _ U _ _ _ _ rfl HS.out.1 Tryz.underlying28 rfl (by rw [hVs.out];kernel_rfl)) rfl ?_;have hMe:M=({ Fc.zero with lb:=x0 },r1):=by
  rw [hM.out];simp only [show zb3 r0=(x0,r1) from hq0.out]
 rw [hMe];have hsS:=HS.out.2.size;refine ⟨none,0,0,none,0,0,ao,x0.aft.length,cap,by rw [hVB];rfl,⟨zai.nil _ _ _,zaD.nil _ _,?_⟩,HS.out.2.at hr1.out (by omega),hm1.out.then HS.out.2 (fun k hk e=>by omega)⟩;exact zai.mono (hOl.out.mod HS.out.2 (fun k hk e=>by omega)) (fun k hk=>⟨by have:=hk.1;omega,by have:=hk.2;omega⟩)
theorem fTakedown (R:Nat) (r0:Rd) (w:World) (hG:Gl w) (_hR:10<=R) (h:zbB w R r0) (hl:r0.rest.length<=1000000):
  Calls Tryz.prog 125 #[.pointer (some ⟨R,0,none⟩)] w (FcP w R (inF 5 r0)):=by
 have hRlt:=h.lt;obtain ⟨U,hU⟩:∃ U,U=w.heap.size:=⟨_,rfl⟩;have hx0:=(Mod.refl (fun _=>False) w).alloc (.cells zF9 28);have hUc:=heap_alloc_new w (.cells zF9 28);rw [<- hU] at hUc;have hr0:=hid (h.ext hx0);have hG0:=hid (hG.ext hx0);have hm0:=hid (RdM.ofExt (R:=R) hx0);have hU0:=hid hUc;have hl0:=hid hl;have hs0:U < (w.alloc (.cells zF9 28)).heap.size:=by rw [World.size_alloc,hU];omega
 obtain ⟨M,hM⟩:∃ M,M=inF 5 r0:=⟨_,rfl⟩;rw [<- hM];unfold inF at hM;simp only at hM;replace hM:=hid hM;clear hUc hx0 h hl hG;go_enter Tryz.func125,Tryz.ntmps125;go_upto_region 1 with fail
 rw [<- hU];have hwU:w.heap.size<=U:=Nat.le_of_eq hU.symm;have hRU:R < U:=by omega
 generalize (w.alloc (.cells zF9 28))=W0 at hr0 hG0 hm0 hU0 hs0 ⊢;replace hU:=hid hU;obtain ⟨VB,hVB⟩:∃ VB:Array Value,VB=zF9:=⟨_,rfl⟩;have hVs:Hid (VB.size=23):=hid (by rw [hVB];rfl);have hV1:Hid (VB.toList.all (·.oneCell')=true):=hid (by rw [hVB];rfl);go_wp2_with (refine zab rfl 28 _ _ rfl U _ VB 28 rfl (by rw [hVB];rfl) hU0.out (by rw [hVs.out];rfl) (by rw [hVs.out];kernel_rfl) hV1.out (fun WS HS=>?_))
 refine bodyPost_ret (results_cell_row rfl _ _ U _ _ _ _ rfl HS.out.1 Tryz.underlying28 rfl (by rw [hVs.out];kernel_rfl)) rfl ?_;have hMe:M=(Fc.zero,r0):=by
  rw [hM.out]
 rw [hMe];have hsS:=HS.out.2.size;refine ⟨none,0,0,none,0,0,none,0,0,by rw [hVB];rfl,⟨zai.nil _ _ _,zaD.nil _ _,?_⟩,HS.out.2.at hr0.out (by omega),hm0.out.then HS.out.2 (fun k hk e=>by omega)⟩;exact zai.nil _ _ _
end Go.Proofs.YtjjfphalcibjfaaGreatDoor
