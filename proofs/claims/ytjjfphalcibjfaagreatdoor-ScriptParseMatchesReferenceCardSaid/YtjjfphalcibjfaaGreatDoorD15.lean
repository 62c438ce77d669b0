import Derived.Test.YtjjfphalcibjfaaGreatDoorD5
import Derived.Test.YtjjfphalcibjfaaGreatDoorC4
import Derived.Lib.BufferRead
import Derived.Test.YtjjfphalcibjfaaGreatDoorD10
set_option maxRecDepth 100000
set_option maxHeartbeats 16000000
namespace Go.Proofs.YtjjfphalcibjfaaGreatDoor
open Go.Shelf Go.RowKit Cdk Scr
attribute [local go_sem] Oper.semAt_some
theorem el5:El Tryz.prog 5 (.int .u8 0) 1 1:=⟨by kernel_rfl,rfl,by decide,by decide⟩
def u8L (c:UInt8):List Value:=[.int .u8 c.toNat]
theorem zev (c:UInt8):(u8L c).length=1:=rfl
theorem zo7 (l:Bs) (j:Nat) (hj:j < l.length):(l.flatMap u8L)[j]?=some (.int .u8 l[j].toNat):=by
 have:=flat_get u8L 1 zev l j 0 l[j] (List.getElem?_eq_getElem hj) (by decide);simpa [u8L] using this
theorem zgc (c:UInt8) (w:World):Calls Tryz.prog 186 #[.string ⟨#[48,49,50,51,52,53,54,55,56,57,97,98,99,100,101,102]⟩,.int .u8 c.toNat] w fun e w'=>e=.returned (.int .i64 (zna c))/\w'=w:=by
 have h:=Tryz.strings_IndexByte ⟨#[48,49,50,51,52,53,54,55,56,57,97,98,99,100,101,102]⟩ c.toNat w;have e:((c.toNat:Int)).toNat.toUInt8=c:=by simp
 rw [e] at h;have e2:Lib.indexByte (⟨#[48,49,50,51,52,53,54,55,56,57,97,98,99,100,101,102]⟩:ByteArray).data.toList c=zna c:=znY c;rw [e2] at h;exact h
theorem zke (s:Bs) (r:Rd):(hexOf s r).2.rest=r.rest:=by
 unfold hexOf;split
 ·rfl
 ·split <;> rfl
theorem zjd (r:Rd):(zfp r).2.rest.length<=r.rest.length:=by
 unfold zfp;rw [zke];exact (zbb r).2
theorem zk1 {s:Bs} (h:s ≠ [42]) (ho:s.length % 2=1) (r:Rd):hexOf s r=([],{ r with bad:=true }):=by
 unfold hexOf;rw [if_neg h,zhR s ho]
theorem zhH {c:UInt8} {x:Nat} (h:hexV c=some x):zna c=(x:Int):=by unfold zna;rw [h]
theorem zhJ {c:UInt8} (h:hexV c=none):zna c=-1:=by unfold zna;rw [h]
def zpG (U:Option Bs) (q:Rd):Bs × Rd:=match U with
 | some l=>(l,q)
 | none=>([],{ q with bad:=true })
theorem zny {s:Bs} (h:s ≠ [42]) (q:Rd):hexOf s q=zpG (unhex s) q:=by
 unfold hexOf;rw [if_neg h];cases unhex s <;> rfl
theorem zpU (x y:Nat) (hx:x < 16) (hy:y < 16):bits .or .i64 ((x:Int)*16) (y:Int) % 256=((UInt8.ofNat (16*x+y)).toNat:Int):=by
 have h:∀ x y:Fin 16,bits .or .i64 ((x.val:Int)*16) (y.val:Int) % 256=((UInt8.ofNat (16*x.val+y.val)).toNat:Int):=by decide+kernel
 exact h ⟨x,hx⟩ ⟨y,hy⟩
theorem zeY {W:World} {B:Nat} {v:Value} {l:Bs} (h:Cdk.Own W B 5 1 u8L v l):∃ ao cap,v=.slice ao l.length cap/\(convert 63 9 v).run Tryz.prog W=.ok (.string ⟨l.toArray⟩) W:=by
 obtain ⟨ao,cap,rfl,hr,hb⟩:=h.row;refine ⟨ao,cap,rfl,?_⟩;cases ao with
 | none=>
  have h0:l=[]:=by
   cases l with
   | nil=>rfl
   | cons c l=>
    obtain ⟨b,off,e,-⟩:=hr 0 (.int .u8 c.toNat) (by simp [u8L]);cases e
  subst h0;exact Lib.run_convert_nil_bytes W _ _ _ cap Tryz.underlying63 Tryz.underlying5 Tryz.underlying9
 | some a=>
  refine run_convert_bytes_back W _ _ _ a cap l Tryz.underlying63 Tryz.underlying5 Tryz.underlying9 (fun j hj=>?_);obtain ⟨b,off,e,hc⟩:=hr j (.int .u8 l[j].toNat) (zo7 l j hj);cases e
  rw [show (⟨b,off,none⟩:Addr).add j=⟨b,off+j,none⟩ from by simp [Addr.add]];exact hc
theorem zje (R:Nat) (r:Rd) (w:World) (hG:Gl w) (_hR:10<=R) (h:zbE w R r) (hs:r.rest.length<=1000000):
  Calls Tryz.prog 129 #[.pointer (some ⟨R,0,none⟩)] w fun e w'=>e=.returned (.string ⟨(zfp r).1.toArray⟩)/\zbE w' R (zfp r).2/\RdM R w w':=by
 have hRlt:=h.lt;have h1:=Y (zb2 R r w hG h hs);have hl:=Y (zbb r);unfold zfp;generalize zaL r=sq at h1 hl ⊢;obtain ⟨s,rest,more,bad⟩:=sq;obtain ⟨q,hq⟩:∃ q:Rd,q=⟨rest,more,bad⟩:=⟨_,rfl⟩;have hsl:s.length<=1000000:=by have:=hl.o.1;simp only at this;omega
 simp only [<- hq] at h1 ⊢;clear hl;replace hq:=Y hq;go_enter Tryz.func129,Tryz.ntmps129;go_wp2_with fail
 refine h1.o.mono ?_;rintro e w1 ⟨rfl,hr1,hm1⟩;have hsz1:w.heap.size<=w1.heap.size:=hm1.size;replace hr1:=Y hr1;replace hm1:=Y hm1;clear h1
 by_cases hst:s=[42]
 ·subst hst
  have e0:=Y (show hexOf [42] q=([],q) from rfl);go_wp2_with fail
  go_ret;rw [e0.o];exact ⟨rfl,hr1.o,hm1.o⟩
 ·have hse:(s==[42])=false:=by rw [beq_eq_false_iff_ne];exact hst
  go_upto_region 4 with (fail)
  obtain ⟨S,hS⟩:∃ S:ByteArray,S=⟨s.toArray⟩:=⟨_,rfl⟩;have hSs:S.size=s.length:=by rw [hS];rfl
  have hSd:S.data.toList=s:=by rw [hS]
  rw [<- hS];replace hS:=Y hS;clear hse
  by_cases hodd:s.length % 2=1
  ·have e0:=Y (zk1 hst hodd q)
   have ht:(S.size:Int).tmod 2=1:=by rw [Int.tmod_eq_emod_of_nonneg (by omega)];omega
   have hr2:=hr1.o;rw [hq.o] at hr2;unfold zbE at hr2;simp only at hr2;have c2:=cS hr2 2;have zR:=zad hr2;have hp:=Y (zai hr2 2 (.bool true));have hm3:=Y (hm1.o.setCell (a:=⟨R,2,none⟩) (fun _=>rfl) (.bool true));replace hr2:=Y hr2;replace hst:=Y hst;replace hSd:=Y hSd;go_wp2_with fail
   go_ret;rw [e0.o,hq.o];exact ⟨rfl,hp.o,hm3.o⟩
  ·have ht:(S.size:Int).tmod 2=0:=by rw [Int.tmod_eq_emod_of_nonneg (by omega)];omega
   have hev:Hid (S.size % 2=0):=Y (by omega);have hsl2:Hid (S.size<=1000000):=Y (by omega);obtain ⟨m,hm⟩:∃ m,m=S.size / 2:=⟨_,rfl⟩;have hdv:(S.size:Int).tdiv 2=(m:Int):=by rw [Int.tdiv_eq_ediv_of_nonneg (by omega)];omega
   have hm6:Hid (m<=1000000):=Y (by have:=hsl2.o;omega);have hmw:wrap64 (m:Int)=m:=zm0 (Nat.lt_of_le_of_lt hm6.o (by decide));replace hm:=Y hm;obtain ⟨U,hU⟩:∃ U,U=unhex s:=⟨_,rfl⟩;have hres:Hid (hexOf s q=zpG U q):=Y (by rw [hU];exact zny hst q);have hU0:Hid (U=(unhex (S.data.toList.drop 0)).map (fun l=>[]++l)):=Y (by rw [hSd,List.drop_zero,<- hU];simp);replace hst:=Y hst;replace hSd:=Y hSd;replace hSs:=Y hSs;replace hU:=Y hU;clear hodd hsl;go_wp2_with (at_make;refine zfo u8L rfl _ _ _ rfl Tryz.underlying63 el5 m rfl _ rfl hmw (by have:=hm6.o;omega) (base:=w.heap.size) hsz1 (fun v1 w2 H1=>?_))
   obtain ⟨hO1,hx1⟩:=H1.o;obtain ⟨ao1,cap1,rfl,-⟩:=hO1.row;have hr2:=Y (hr1.o.ext hx1);have hm2:=Y (hm1.o.then hx1 (fun _ _ h=>h.elim));clear H1;replace hO1:=Y hO1;clear hx1;simp only [List.length_nil];go_wp2_with fail
   go_loopg [4,5] S.size (fun g b i wr=>∃ (j:Nat) (l:Bs) (av:Option Addr) (cv:Nat),j+g=S.size/\j % 2=0/\i=.int .i64 j/\b=.slice av l.length cv/\Cdk.Own wr w.heap.size 5 1 u8L (.slice av l.length cv) l/\zbE wr R q/\RdM R w wr/\U=(unhex (S.data.toList.drop j)).map (fun t=>l++t)/\l.length<=j)
   case atStart=>exact ⟨0,[],ao1,cap1,by omega,rfl,rfl,rfl,hO1.o,hr2.o,hm2.o,hU0.o,by simp⟩
   case round=>
    clear hO1 hr2 hm2 hU0 hU;obtain ⟨j,l,av,cv,hj,hj2,rfl,rfl,hO,hr,hm,hUj,hlj⟩:=hrel;replace hj:=Y hj;replace hj2:=Y hj2;replace hO:=Y hO;replace hr:=Y hr;replace hm:=Y hm
    by_cases hlt:j < S.size
    ·have hlt1:j+1 < S.size:=by have:=hev.o;have:=hj2.o;omega
     have hd:decide ((j:Int) < (S.size:Int))=true:=decide_eq_true (by omega);have hdi:(j:Int) < (S.size:Int):=by omega
     have hdi1:(j:Int)+1 < (S.size:Int):=by omega
     have hUd:unhex (S.data.toList.drop j)=_:=zkE (s:=S.data.toList) (j:=j) (by have:=zaN S;omega);have hx1:S.data.toList[j]'(by have:=zaN S;omega)=S[j]:=rfl;have hx2:S.data.toList[j+1]'(by have:=zaN S;omega)=S[j+1]:=rfl;rw [hx1,hx2] at hUd;clear hx1 hx2;have k1:=Y (fun W=>zgc S[j] W);have k2:=Y (fun W=>zgc S[j+1] W);have hsz:=hsl2.o;cases hv1:hexV S[j] with
     | none=>
      rw [hv1] at hUd;rw [zhJ hv1] at k1;replace hv1:=Y hv1;have hUn:U=none:=by rw [hUj,hUd];rfl
      have hr2:=hr.o;rw [hq.o] at hr2;unfold zbE at hr2;simp only at hr2;have c2:=cS hr2 2;have zR:=zad hr2;have hp:=Y (zai hr2 2 (.bool true));have hm3:=Y (hm.o.setCell (a:=⟨R,2,none⟩) (fun _=>rfl) (.bool true));replace hr2:=Y hr2;replace hUn:=Y hUn;clear hUd hUj;go_wp2_with fail
      refine (k1.o _).mono ?_;rintro e w2 ⟨rfl,rfl⟩;go_wp2_with fail
      refine (k2.o _).mono ?_;rintro e w3 ⟨rfl,rfl⟩;go_wp2_with fail
      go_ret;rw [hres.o,hUn.o,hq.o];exact ⟨rfl,hp.o,hm3.o⟩
     | some x=>
      rw [hv1] at hUd;rw [zhH hv1] at k1;have hx16:=ziD hv1;have hx0:¬ (x:Int) < 0:=by omega
      replace hv1:=Y hv1;cases hv2:hexV S[j+1] with
      | none=>
       rw [hv2] at hUd;rw [zhJ hv2] at k2;replace hv2:=Y hv2;have hUn:U=none:=by rw [hUj,hUd];rfl
       have hr2:=hr.o;rw [hq.o] at hr2;unfold zbE at hr2;simp only at hr2;have c2:=cS hr2 2;have zR:=zad hr2;have hp:=Y (zai hr2 2 (.bool true));have hm3:=Y (hm.o.setCell (a:=⟨R,2,none⟩) (fun _=>rfl) (.bool true));replace hr2:=Y hr2;replace hUn:=Y hUn;clear hUd hUj;go_wp2_with fail
       refine (k1.o _).mono ?_;rintro e w2 ⟨rfl,rfl⟩;go_wp2_with fail
       refine (k2.o _).mono ?_;rintro e w3 ⟨rfl,rfl⟩;go_wp2_with fail
       go_ret;rw [hres.o,hUn.o,hq.o];exact ⟨rfl,hp.o,hm3.o⟩
      | some y=>
       rw [hv2] at hUd;rw [zhH hv2] at k2;have hy16:=ziD hv2;have hy0:¬ (y:Int) < 0:=by omega
       replace hv2:=Y hv2;simp only at hUd;rw [hUd] at hUj;have e8:=zpU x y hx16 hy16;generalize UInt8.ofNat (16*x+y)=c at e8 hUj;replace hUj:=Y hUj;clear hUd;go_wp2_with fail
       refine (k1.o _).mono ?_;rintro e w2 ⟨rfl,rfl⟩;go_wp2_with fail
       refine (k2.o _).mono ?_;rintro e w3 ⟨rfl,rfl⟩;go_upto_region 16 with fail
       have hxa:=Mod.alloc (Mod.refl (fun _=>False) w3) (.cells #[.int .u8 c.toNat] 5);go_wp2_with (at_builtin;refine zaI rfl _ _ _ rfl Tryz.underlying63 el5 rfl (hO.o.ext hxa) _ 1 1 rfl [c] rfl (by exact zaJ.new _ _ _) zev (fun z hz u hu=>by simp only [List.mem_singleton] at hz;subst hz;simp [u8L] at hu;subst hu;rfl) (by have:=hsz;simp only [List.length_singleton];omega) (by have:=hm.o.size;rw [World.size_alloc];omega) (fun e=>nomatch e) (fun v6 w6 H6=>?_);skip)
       obtain ⟨hO6,hm6⟩:=H6.o;have hmx:Mod (fun k=>(Value.slice av l.length cv).ownBlock=some k) w3 w6:=(hxa.mono (fun _ h=>h.elim)).trans hm6;have hRo:(Value.slice av l.length cv).ownBlock ≠ some R:=fun e=>by have:=(hO.o.block _ e).1;omega
       have hr6:=Y (zbE.lt hr.o);have hr7:zbE w6 R q:=hmx.at hr.o hRo;have hm7:=Y (hm.o.then hmx (fun k hk e=>by have:=(hO.o.block _ e).1;omega));obtain ⟨av6,cv6,rfl,-⟩:=hO6.row;have hl6:(l++[c]).length=l.length+1:=by simp
       rw [hl6];rw [hl6] at hO6;clear H6 hm6 hmx hxa;replace hO6:=Y hO6;replace hr7:=Y hr7;go_wp2_with fail
       go_roundg (gk - 2)
       case measure=>have:=hj.o;omega
       case rel=>exact ⟨j+2,l++[c],av6,cv6,by have:=hj.o;omega,by have:=hj2.o;omega,by go_num,by rw [hl6],by rw [hl6];exact hO6.o,hr7.o,hm7.o,by rw [hUj.o];cases unhex (S.data.toList.drop (j+2)) <;> simp,by simp;omega⟩
    ·obtain rfl:j=S.size:=by have:=hj.o;omega
     have hdi:¬ (S.size:Int) < (S.size:Int):=by omega
     have hd:decide ((S.size:Int) < (S.size:Int))=false:=decide_eq_false hdi;rw [List.drop_eq_nil_of_le (Nat.le_of_eq (zaN S).symm)] at hUj;obtain ⟨ao9,cap9,he9,hcv⟩:=zeY hO.o;injection he9 with e91 e92 e93
     subst e91 e93;replace hUj:=Y hUj;go_wp2_with fail
     go_ret;rw [hres.o,hUj.o];exact ⟨by simp [unhex,zpG],hr.o,hm.o⟩
attribute [local go_sem] Oper.semAt_some
theorem zd0 {S:Nat -> Prop} {w W W':World} {row:Option Nat} (h:Mod S w W) (hg:W.grownBy W' row) (hr:∀ r,row=some r -> w.heap.size<=r):Mod S w W':=
 ⟨hg.os.trans h.os,hg.tape.trans h.tape,hg.output.trans h.output,Nat.le_trans h.size hg.size,fun k hk hs=>(hg.block k (Nat.lt_of_lt_of_le hk h.size) (fun e=>by have:=hr k e.symm;omega)).trans (h.block k hk hs)⟩
structure LsS (w:World) (L:Nat) (pre:List Bs) (W:World):Prop where
 mod:Ext w W
 size:L+5<=W.heap.size
 fn:W.heap[L]?=some (.cells #[.func (.func 182) #[] #[]] 43 (0,0))
 box:∃ v,W.heap[L+1]?=some (.cells #[v] 22 (0,0))/\Cdk.Own W (L+5) 9 1 zdz v pre
 bz:∃ u:Value,W.heap[L+2]?=some (.cells #[u] 9 (0,0))
theorem znu (w:World) (L B:Nat) (hL:w.heap.size<=L) (hB:L<=B):OwnFrom B (fun p W=>LsS w L p W):=by
 intro p W W' row h hg hrow;have hr:=fun r e=>(hrow r e).2
 obtain ⟨v,h1,h2⟩:=h.box;obtain ⟨sv,h3⟩:=h.bz;exact ⟨zd0 h.mod hg (fun r e=>by have:=(hrow r e).1;omega),Nat.le_trans h.size hg.size,zaq hg hr h.fn,⟨v,zaq hg hr h1,zcA hg hr h2⟩,⟨sv,zaq hg hr h3⟩⟩
theorem znL {w:World} {L:Nat} (hL:w.heap.size<=L) {p:List Bs} {W:World} (v:Value) (h:LsS w L p W):LsS w L p (W.setCell ⟨L+2,0,none⟩ v):=by
 obtain ⟨u,h1,h2⟩:=h.box;obtain ⟨sv,h3⟩:=h.bz;refine ⟨zao (B:=L) hL ((h.mod.mono (T:=fun k=>L<=k) (fun _ h=>h.elim)).setCell (fun _=>by show L<=L+2;omega) _),by simpa [World.setCell] using h.size,(zan W (k:=L) 0 _ (by omega)).trans h.fn,⟨u,(zan W (k:=L+1) 0 _ (by omega)).trans h1,?_⟩,⟨v,zdX h3⟩⟩;refine h2.mod ((Mod.refl (Eq (L+2)) W).setCell (fun _=>rfl) _) (fun k hk e=>?_);subst e;exact absurd (h2.block _ hk).1 (by omega)
theorem zok (x:Bs) (w:World):Calls Tryz.prog 182 #[.string ⟨x.toArray⟩] w fun e w'=>e=.returned (.string ⟨x.toArray⟩)/\w=w':=by
 go_enter Tryz.func182,Tryz.ntmps182;go_wp2_with fail
 go_ret;exact ⟨rfl,rfl⟩
def StP (w:World) (l:List Bs) (e:Ending) (w':World):Prop:=∃ (ao:Option Addr) (cap:Nat),e=.returned (.slice ao l.length cap)/\zbC (fun k=>w.heap.size<=k/\k < w'.heap.size) w' (.slice ao l.length cap) l/\Ext w w'
theorem zhg (s:Bs) (hs:s.length<=1000000) (w:World):
  Calls Tryz.prog 181 #[.string ⟨s.toArray⟩,.func (.func 182) #[] #[]] w (StP w (textsOf s)):=by
 by_cases hst:s=[42]
 ·subst hst
  have e0:textsOf [42]=[]:=rfl;rw [e0];have hx:=Mod.alloc (Mod.refl (fun _=>False) w) (.cells #[.func (.func 182) #[] #[]] 43);replace hx:=Y hx;go_enter Tryz.func181,Tryz.ntmps181;go_wp2_with fail
  go_ret;exact ⟨none,0,rfl,zac.nil _ _ _,hx.o⟩
 ·have e0:textsOf s=parts 44 s:=by unfold textsOf;rw [if_neg hst]
  rw [e0];have hse:(s==[42])=false:=by rw [beq_eq_false_iff_ne];exact hst
  refine (callsIn_wide (n:=3)).1 ?_;refine callsIn_of_wp_marks Tryz.func181 rfl trivial ?_ rfl;simp only [Tryz.ntmps181,List.size_toArray,List.length_cons,List.length_nil,Nat.reduceAdd,Nat.reduceSub,Array.replicate_succ,Array.replicate_zero,List.push_toArray,List.append_toArray,List.nil_append,List.cons_append];refine (wpIn_wide (n:=3)).2 ?_;go_wp2_with fail
  refine (zeG 44 s _).mono ?_;rintro e w1 ⟨rfl,rfl⟩;go_wp2_with fail
  try simp only [World.size_alloc]
  obtain ⟨L,hL⟩:∃ L,L=w.heap.size:=⟨_,rfl⟩;simp only [<- hL];have hx5:=(((((Mod.refl (fun _=>False) w).alloc (.cells #[.func (.func 182) #[] #[]] 43)).alloc (.cells #[.slice none 0 0] 22)).alloc (.cells #[.string ⟨s.toArray⟩] 9)).alloc (.cells #[.string ⟨#[44]⟩] 9)).alloc (.cells #[.int .i64 0] 3);have hg4:∀ k,(((((w.alloc (.cells #[.func (.func 182) #[] #[]] 43)).alloc (.cells #[.slice none 0 0] 22)).alloc (.cells #[.string ⟨s.toArray⟩] 9)).alloc (.cells #[.string ⟨#[44]⟩] 9)).alloc (.cells #[.int .i64 0] 3)).heap[k]?=
    if k=L+4 then some (.cells #[.int .i64 0] 3 (0,0)) else if k=L+3 then some (.cells #[.string ⟨#[44]⟩] 9 (0,0)) else if k=L+2 then some (.cells #[.string ⟨s.toArray⟩] 9 (0,0)) else if k=L+1 then some (.cells #[.slice none 0 0] 22 (0,0)) else if k=L then some (.cells #[.func (.func 182) #[] #[]] 43 (0,0)) else w.heap[k]?:=by
   intro k;simp only [zaG,World.size_alloc,<- hL]
  have hs4:(((((w.alloc (.cells #[.func (.func 182) #[] #[]] 43)).alloc (.cells #[.slice none 0 0] 22)).alloc (.cells #[.string ⟨s.toArray⟩] 9)).alloc (.cells #[.string ⟨#[44]⟩] 9)).alloc (.cells #[.int .i64 0] 3)).heap.size=L+5:=by simp only [World.size_alloc,<- hL]
  generalize (((((w.alloc (.cells #[.func (.func 182) #[] #[]] 43)).alloc (.cells #[.slice none 0 0] 22)).alloc (.cells #[.string ⟨s.toArray⟩] 9)).alloc (.cells #[.string ⟨#[44]⟩] 9)).alloc (.cells #[.int .i64 0] 3))=w4 at hx5 hg4 hs4 ⊢;have b0:=hg4 L;have b1:=hg4 (L+1);have b2:=hg4 (L+1+1);have b3:=hg4 (L+1+1+1);have b4:=hg4 (L+1+1+1+1);simp at b0 b1 b2 b3 b4;clear hg4;have hwL:w.heap.size<=L:=Nat.le_of_eq hL.symm;have hI0:LsS w L [] w4:=⟨hx5,by omega,b0,⟨_,b1,Own.nil _ _ _ _ _⟩,⟨_,b2⟩⟩;replace hL:=Y hL;have hseq:=zhT 2 (L+1+1) (L+1+1+1) (L+1+1+1+1) (by omega) ⟨by omega,by omega⟩ 44 s hs w4 b2 b3 b4;refine (wpIn_wide (n:=3)).1 ?_;refine zbX (F:=Fence.wide) rfl (by omega) (gf:=264) (lb:=#[.pointer (some ⟨L+1+1+1,0,none⟩),.pointer (some ⟨L+1+1,0,none⟩),.pointer (some ⟨L+1+1+1+1,0,none⟩)]) rfl trivial (enters_of Tryz.func264 (by kernel_rfl) rfl)
   hseq (fun k hk=>by rcases hk with rfl | rfl | rfl <;> omega) (by omega) (Below.refl _ _) (fun _=>rfl) (fun pre W=>LsS w L pre W) (fun _ _ _=>False)
   (znu w L w4.heap.size hwL (by omega)) (fun p A v hh=>znL hwL v hh) (fun c s W W' row h _ _=>h) hI0 ?aa ?assign ?body ?done (fun D c pre W _ _ h=>h.elim)
  case assign=>
   intro l x W K hK
   gi_wp2
   exact hK
  case body=>
   rintro l pre x W hI hlen hxl;obtain ⟨v,hb1,hown⟩:=hI.box;obtain ⟨av,cv,rfl,-,-⟩:=hown.row;have q0:=cS hI.fn 0;have q1:=cS hb1 0;have z1:=zad hb1;have hsz:Hid (L+5<=W.heap.size):=Y hI.size;have hplen:pre.length<=1000001:=by have:=zcw 44 s;omega
   have hce:=enters_of Tryz.func182 (by kernel_rfl) rfl;replace hI:=Y hI;replace hown:=Y hown;replace hb1:=Y hb1;refine wpIn_block ?_;refine zch (fun W'=>W'.heap[L]?=some (.cells #[.func (.func 182) #[] #[]] 43 (0,0))/\W'.heap[L+1]?=some (.cells #[.slice av pre.length cv] 22 (0,0))) [(0,true),(1,true),(2,true),(3,false),(4,false),(5,false),(6,false)]
    (by as_aux_lemma=>kernel_rfl) (by as_aux_lemma=>kernel_rfl) (by as_aux_lemma=>kernel_rfl) (by as_aux_lemma=>kernel_rfl) (by decide) (fun ⟨a,w,h⟩=>h) ⟨hI.o.fn,hb1.o⟩ ?_
   simp only [zah,List.map_cons,List.map_nil,List.getD_cons_zero,List.getD_cons_succ];have hW0:=Mod.drew0 (fun _=>False) W;have hm0:=hI.o.mod.drew;have ho0:=hown.o.ext hW0;have hsz0:L+5<=W.drew.heap.size:=hsz.o;have hC0:W.drew.heap[L]?=some (.cells #[.func (.func 182) #[] #[]] 43 (0,0))/\W.drew.heap[L+1]?=some (.cells #[.slice av pre.length cv] 22 (0,0)):=⟨hI.o.fn,hb1.o⟩;have hk0:=KeepsOthers.drew W;have hs0:∀ k:Nat,W.drew.heap[k]?=W.heap[k]?:=fun _=>rfl
   generalize W.drew=W1 at hm0 ho0 hsz0 hC0 hk0 hs0 ⊢;have htn:=Y (zok x W1);replace hm0:=Y hm0;replace ho0:=Y ho0;replace hk0:=Y hk0;replace hs0:=Y hs0;replace hC0:=Y hC0;clear q0 q1 hW0;repeat (first | (refine zia (by rfl) (by rfl) ?_ (fun w' hC=>?_) ?_;rotate_left;(obtain ⟨hC1,hC2⟩:=hC;have q0:=cS hC1 0;have q1:=cS hC2 0;go_simp;try with_reducible rfl);try simp only [Act.put,sA,sZ,sS]) | (refine ziJ (by rfl) (by rfl) ?_ (fun w' hC=>?_) ?_;rotate_left;(go_simp;try with_reducible rfl);try simp only [Act.put,sA,sZ,sS]))
   refine zdF (by rfl) (fun K hK=>?_);go_simp;refine htn.o.mono ?_;rintro e W1' ⟨rfl,rfl⟩;refine hK.o _ _ hC0.o ?_;clear hK K htn;try simp only [Act.put,sA,sZ,sS]
   refine zdF (by rfl) (fun K hK=>?_);go_simp;have hxA:=Mod.alloc (Mod.refl (fun _=>False) W1) (.cells #[.string ⟨x.toArray⟩] 9);refine hK.o _ _ ⟨hxA.at hC0.o.1 id,hxA.at hC0.o.2 id⟩ ?_;clear hK K;try simp only [Act.put,sA,sZ,sS]
   refine zdF (by rfl) (fun K hK=>?_);refine zdU _ _ 22 rfl Tryz.underlying22 el9 rfl (ho0.o.ext hxA) _ 1 1 rfl [x] rfl (by exact zaJ.new _ _ _) zaC (fun y hy u hu=>by simp only [List.mem_singleton] at hy;subst hy;simp [zdz,zb0] at hu;subst hu;rfl) (by simp only [List.length_singleton];omega) (by rw [World.size_alloc];omega) (fun e=>nomatch e) (fun v6 w6 H6=>?_);obtain ⟨hO6,hm6⟩:=H6.o;have hC6:w6.heap[L]?=some (.cells #[.func (.func 182) #[] #[]] 43 (0,0))/\w6.heap[L+1]?=some (.cells #[.slice av pre.length cv] 22 (0,0)):=
    ⟨hm6.at (hxA.at hC0.o.1 id) (fun e=>by have:=(ho0.o.block _ e).1;omega),hm6.at (hxA.at hC0.o.2 id) (fun e=>by have:=(ho0.o.block _ e).1;omega)⟩
   refine hK.o _ _ hC6 ?_;clear hK K H6;have hlen6:(pre++[x]).length=pre.length+1:=by simp
   obtain ⟨av6,cv6,rfl,-,-⟩:=hO6.row;rw [hlen6] at hO6;try simp only [Act.put,sA,sZ,sS]
   refine zkd (by rfl) (fun K hK=>?_);have z6:=zad hC6.2;have q6:=cS hC6.2 0;go_simp;refine hK.o _ _ ?_;clear hK K;have hma:Mod (fun k=>(Value.slice av pre.length cv).ownBlock=some k) W1 w6:=(((Mod.refl _ W1).alloc _)).trans hm6;have hsz6:W1.heap.size<=w6.heap.size:=hma.size;show KeepsOthers W _/\_/\_
   refine ⟨(hk0.o.trans (zbN hma (fun k o hk ho e=>?_))).trans (KeepsOthers.setCell _ _ _),fun k hk=>?_,?_⟩
   ·obtain ⟨c,hc⟩:=ho0.o.cells e
    rw [hk] at hc;cases hc;cases ho
   ·have hk2:k ≠ L+1/\k < L+5:=by rcases hk with rfl | rfl | rfl <;> omega
    rw [zan w6 0 _ hk2.1,hma.block k (by omega) (fun e=>by have:=(ho0.o.block _ e).1;omega),hs0.o k]
   ·have hmf:Ext w (w6.setCell ⟨L+1,0,none⟩ (.slice av6 (pre.length+1) cv6)):=zao (B:=L) hwL ((((hm0.o.then hma (fun k hk e=>by have:=(ho0.o.block _ e).1;omega)).mono (T:=fun k=>L<=k) (fun _ h=>h.elim))).setCell (fun _=>by show L<=L+1;omega) _)
    have hszf:L+5<=(w6.setCell ⟨L+1,0,none⟩ (.slice av6 (pre.length+1) cv6)).heap.size:=by
     have:(w6.setCell ⟨L+1,0,none⟩ (.slice av6 (pre.length+1) cv6)).heap.size=w6.heap.size:=by simp [World.setCell]
     omega
    refine ⟨hmf,hszf,(zan w6 0 _ (by omega)).trans hC6.1,⟨_,zdX hC6.2,?_⟩,?_⟩
    ·exact hO6.mod ((Mod.refl (Eq (L+1)) w6).setCell (a:=⟨L+1,0,none⟩) (fun _=>rfl) _) (fun k hk e=>by have:=(hO6.block _ hk).1;omega)
    ·obtain ⟨u,hu⟩:=hI.o.bz
     refine ⟨u,(zan w6 0 _ (by omega)).trans ?_⟩;rw [hma.block (L+2) (by omega) (fun e=>by have:=(ho0.o.block _ e).1;omega),hs0.o (L+2)];exact hu
  case done=>
   rintro D xs W hD hxs hI hK;obtain ⟨v,hb1,hown⟩:=hI.box;obtain ⟨av,cv,rfl,-,-⟩:=hown.row;have q1:=cS hb1 0;have hnl:xs.length<=140737488355328:=by rw [hxs];have:=zcw 44 s;omega
   have hrow:=Y (zbV hown hnl);replace hI:=Y hI;replace hown:=Y hown;replace hK:=Y hK;replace hxs:=Y hxs;replace hb1:=Y hb1;go_wp2_with fail
   have hgD:W.grownBy (W.putObj D (.deferred none)) (some D):=grownBy_putObj' W D _;have hrD:∀ r,some D=some r -> ∃ o:Obj,W.heap[r]?=some o/\o.isCells=false:=fun r e=>by cases e;exact ⟨_,hK.o,rfl⟩
   refine ⟨by simp,.inl ⟨_,_,rfl,run_takeDeferred hK.o,?_⟩⟩;refine ⟨_,by simp [results,go_sem];rfl,?_⟩;rw [<- hxs.o];have hszD:(W.putObj D (.deferred none)).heap.size=W.heap.size:=by simp
   refine ⟨av,cv,rfl,?_,zd0 hI.o.mod hgD (fun r e=>by cases e;omega)⟩;exact zac.mono (zbV (zcA hgD hrD hown.o) hnl) (fun k hk=>⟨by omega,hk.2⟩)
def inF:Nat -> Rr Fc
 | 0,r=>
  let lg:=zaL r
  let rv:=zbB lg.2
  let bs:=zbB rv.2
  let au:=zaL bs.2
  let tp:=zaL au.2
  let lb:=zbK tp.2
  let hx:=zfp lb.2
  let bl:List Bk × Rd:=match zdm hx.1 with | .ok l=>(l,hx.2) | .error _=>([],Scr.bad hx.2)
  let ti:=zcu bl.2
  ({ Fc.zero with lg:=lg.1,rv:=rv.1,bs:=bs.1,au:=au.1,tp:=textsOf tp.1,lb:=lb.1,bl:=bl.1,ti:=ti.1 },ti.2)
 | 1,r=>let ed:=zbB r;({ Fc.zero with ed:=ed.1 },ed.2)
 | 2,r=>let lb:=zbK r;({ Fc.zero with lb:=lb.1 },lb.2)
 | 3,r=>
  let lg:=zaL r
  let bk:=zbB lg.2
  let se:=zbB bk.2
  let tx:=zcu se.2
  ({ Fc.zero with lg:=lg.1,bk:=bk.1,se:=se.1,tx:=tx.1 },tx.2)
 | 4,r=>let tx:=zcu r;({ Fc.zero with tx:=tx.1 },tx.2)
 | _,r=>(Fc.zero,r)
theorem zmj {j:Nat} (hj:j < 6) (r:Rd):za8 j r=(zbD { (inF j (zbB r).2).1 with st:=(zbB r).1 },(inF j (zbB r).2).2):=by
 match j with
 | 0=>rfl
 | 1=>rfl
 | 2=>rfl
 | 3=>rfl
 | 4=>rfl
 | 5=>rfl
 | n+6=>exact absurd hj (by omega)
theorem zhe (r:Rd):(zcu r).2.rest.length<=r.rest.length:=by unfold zcu;split <;> simp
def FcP (w:World) (R:Nat) (T:Fc × Rd) (e:Ending) (w':World):Prop:=∃ (a1:Option Addr) (n1 c1:Nat) (a2:Option Addr) (n2 c2:Nat) (a3:Option Addr) (n3 c3:Nat),e=.returned (.agg (fcA a1 n1 c1 a2 n2 c2 a3 n3 c3 T.1))/\FcAt (fun k=>w.heap.size<=k/\k < w'.heap.size) w' ⟨.slice a1 n1 c1,.slice a2 n2 c2,.slice a3 n3 c3⟩ T.1/\zbE w' R T.2/\RdM R w w'
structure StR (w:World) (R U:Nat) (Z:Array Value) (t:TypeId) (r:Rd) (W:World):Prop where
 rd:zbE W R r
 gl:Gl W
 md:RdM R w W
 uc:W.heap[U]?=some (.cells Z t (0,0))
 lt:U < W.heap.size
 le:r.rest.length<=1000000
 wU:w.heap.size<=U
 RU:R < U
 R10:10<=R
theorem StR.start {w:World} {R U:Nat} {r:Rd} (hG:Gl w) (hR:10<=R) (h:zbE w R r) (hl:r.rest.length<=1000000) (hU:U=w.heap.size) (Z:Array Value) (t:TypeId):StR w R U Z t r (w.alloc (.cells Z t)):=by
 have hx0:=(Mod.refl (fun _=>False) w).alloc (.cells Z t);have:=h.lt;exact ⟨h.ext hx0,hG.ext hx0,RdM.ofExt hx0,by rw [hU];exact heap_alloc_new w _,by rw [World.size_alloc,hU];omega,hl,by omega,by omega,hR⟩
theorem StR.next {w W W':World} {R U:Nat} {Z:Array Value} {t:TypeId} {r r':Rd} (s:StR w R U Z t r W) (hr:zbE W' R r') (hn:RdM R W W') (hl:r'.rest.length<=r.rest.length):StR w R U Z t r' W':=
 ⟨hr,s.gl.rd s.R10 hn,s.md.trans hn,hn.at s.uc (by have:=s.RU;omega),Nat.lt_of_lt_of_le s.lt hn.size,Nat.le_trans hl s.le,s.wU,s.RU,s.R10⟩
theorem zcx {w W:World} {R U:Nat} {Z:Array Value} {t:TypeId} {r:Rd} (s:StR w R U Z t r W):Calls Tryz.prog 109 #[.pointer (some ⟨R,0,none⟩)] W fun e W'=>∃ (x:Int) (r':Rd),e=.returned (.int .i64 x)/\zbB r=(x,r')/\StR w R U Z t r' W'/\RdM R W W':=by
 refine (zdi R r W s.gl s.R10 s.rd s.le).mono ?_;rintro e W' ⟨rfl,hr,hn⟩;exact ⟨_,_,rfl,rfl,s.next hr hn (zfF r),hn⟩
theorem zjh {w W:World} {R U:Nat} {Z:Array Value} {t:TypeId} {r:Rd} (s:StR w R U Z t r W):Calls Tryz.prog 81 #[.pointer (some ⟨R,0,none⟩)] W fun e W'=>∃ (x:Bs) (r':Rd),e=.returned (.string ⟨x.toArray⟩)/\zaL r=(x,r')/\StR w R U Z t r' W'/\RdM R W W':=by
 refine (zb2 R r W s.gl s.rd s.le).mono ?_;rintro e W' ⟨rfl,hr,hn⟩;exact ⟨_,_,rfl,rfl,s.next hr hn ((zbb r).2),hn⟩
theorem zis {w W:World} {R U:Nat} {Z:Array Value} {t:TypeId} {r:Rd} (s:StR w R U Z t r W):Calls Tryz.prog 121 #[.pointer (some ⟨R,0,none⟩)] W fun e W'=>∃ (x:Bs) (r':Rd),e=.returned (.string ⟨x.toArray⟩)/\zcu r=(x,r')/\StR w R U Z t r' W'/\RdM R W W':=by
 refine (zgK R r W s.rd).mono ?_;rintro e W' ⟨rfl,hr,hn⟩;exact ⟨_,_,rfl,rfl,s.next hr hn (zhe r),hn⟩
theorem zox {w W:World} {R U:Nat} {Z:Array Value} {t:TypeId} {r:Rd} (s:StR w R U Z t r W):Calls Tryz.prog 129 #[.pointer (some ⟨R,0,none⟩)] W fun e W'=>∃ (x:Bs) (r':Rd),e=.returned (.string ⟨x.toArray⟩)/\zfp r=(x,r')/\StR w R U Z t r' W'/\RdM R W W':=by
 refine (zje R r W s.gl s.R10 s.rd s.le).mono ?_;rintro e W' ⟨rfl,hr,hn⟩;exact ⟨_,_,rfl,rfl,s.next hr hn (zjd r),hn⟩
theorem zmi {w W:World} {R U:Nat} {Z:Array Value} {t:TypeId} {r:Rd} (s:StR w R U Z t r W):Calls Tryz.prog 118 #[.pointer (some ⟨R,0,none⟩)] W fun e W'=>∃ (x:Lb) (ao:Option Addr) (cap:Nat) (r':Rd),e=.returned (.agg #[.int .i64 x.til,.slice ao x.aft.length cap,.int .i64 x.app,.int .i64 x.den])/\zaF (fun k=>U < k/\k < W'.heap.size) W' (.slice ao x.aft.length cap) x.aft/\zbK r=(x,r')/\StR w R U Z t r' W'/\RdM R W W':=by
 refine (zhF R r W s.gl s.R10 s.rd s.le).mono ?_;rintro e W' ⟨vl,rfl,hil,hr,hn⟩;have:=s.lt;obtain ⟨ao,cap,rfl⟩:=hil.slice;exact ⟨_,ao,cap,_,rfl,zac.mono hil (fun k hk=>⟨by have:=hk.1;omega,hk.2⟩),rfl,s.next hr hn (zh4 r),hn⟩
theorem zlG {w W:World} {R U:Nat} {Z:Array Value} {t:TypeId} {r:Rd} (s:StR w R U Z t r W):Calls Tryz.prog 139 #[.pointer (some ⟨R,0,none⟩)] W fun e W'=>∃ (x:List Int) (al:Option Addr) (cl:Nat) (r':Rd),e=.returned (.slice al x.length cl)/\zaF (fun k=>U < k/\k < W'.heap.size) W' (.slice al x.length cl) x/\zfM r=(x,r')/\StR w R U Z t r' W'/\RdM R W W':=by
 refine (zja R r W s.gl s.R10 s.rd s.le).mono ?_;rintro e W' ⟨al,cl,rfl,hil,hr,hn⟩;have:=s.lt;exact ⟨_,al,cl,_,rfl,zac.mono hil (fun k hk=>⟨by have:=hk.1;omega,hk.2⟩),rfl,s.next hr hn (zmI r),hn⟩
theorem fApprove (R:Nat) (r0:Rd) (w:World) (hG:Gl w) (hR:10<=R) (h:zbE w R r0) (hl:r0.rest.length<=1000000):
  Calls Tryz.prog 114 #[.pointer (some ⟨R,0,none⟩)] w (FcP w R (inF 1 r0)):=by
 obtain ⟨U,hU⟩:∃ U,U=w.heap.size:=⟨_,rfl⟩;have S0:=Y (StR.start hG hR h hl hU zF9 28);obtain ⟨M,hM⟩:∃ M,M=inF 1 r0:=⟨_,rfl⟩;rw [<- hM];unfold inF at hM;simp only at hM;replace hM:=Y hM;have hwU:=S0.o.wU;have hRU:=S0.o.RU;clear h hl hG;go_enter Tryz.func114,Tryz.ntmps114;go_wp2_with fail
 rw [<- hU];generalize (w.alloc (.cells zF9 28))=W0 at S0 ⊢;replace hU:=Y hU;refine (zcx S0.o).mono ?_;rintro e W1 ⟨x0,r1,rfl,hq0,hS,hn⟩;have S1:=Y hS;replace hq0:=Y hq0;clear hS hn S0;obtain ⟨VB,hVB⟩:∃ VB:Array Value,VB=#[.int .i64 0,.int .i64 0,.int .i64 0,.int .i64 0,.string ⟨#[]⟩,.int .i64 0,.int .i64 0,.string ⟨#[]⟩,.string ⟨#[]⟩,.slice none 0 0,.slice none 0 0,.int .i64 0,.slice none 0 0,.int .i64 0,.int .i64 0,.int .i64 x0,.int .i64 0,.int .i64 0,.string ⟨#[]⟩,.string ⟨#[]⟩,.int .i64 0,.int .i64 0,.int .i64 0]:=⟨_,rfl⟩;have hVs:Hid (VB.size=23):=Y (by rw [hVB];rfl);have hV1:Hid (VB.toList.all (·.oneCell')=true):=Y (by rw [hVB];rfl);go_wp2_with (refine zab rfl 28 _ _ rfl U _ VB 28 rfl (by rw [hVB];rfl) S1.o.uc (by rw [hVs.o];rfl) (by rw [hVs.o];kernel_rfl) hV1.o (fun WS HS=>?_))
 refine bodyPost_ret (results_cell_row rfl _ _ U _ _ _ _ rfl HS.o.1 Tryz.underlying28 rfl (by rw [hVs.o];kernel_rfl)) rfl ?_
 rw [show M=({ Fc.zero with ed:=x0 },r1) by
  rw [hM.o]
  simp only [show zbB r0=(x0,r1) from hq0.o]]
 have hsS:=HS.o.2.size;exact ⟨none,0,0,none,0,0,none,0,0,by rw [hVB];rfl,⟨zac.nil _ _ _,zaE.nil _ _,zac.nil _ _ _⟩,HS.o.2.at S1.o.rd (by omega),S1.o.md.then HS.o.2 (fun k hk e=>by omega)⟩
theorem fCorrect (R:Nat) (r0:Rd) (w:World) (hG:Gl w) (hR:10<=R) (h:zbE w R r0) (hl:r0.rest.length<=1000000):
  Calls Tryz.prog 120 #[.pointer (some ⟨R,0,none⟩)] w (FcP w R (inF 3 r0)):=by
 obtain ⟨U,hU⟩:∃ U,U=w.heap.size:=⟨_,rfl⟩;have S0:=Y (StR.start hG hR h hl hU zF9 28);obtain ⟨M,hM⟩:∃ M,M=inF 3 r0:=⟨_,rfl⟩;rw [<- hM];unfold inF at hM;simp only at hM;replace hM:=Y hM;have hwU:=S0.o.wU;have hRU:=S0.o.RU;clear h hl hG;go_enter Tryz.func120,Tryz.ntmps120;go_wp2_with fail
 rw [<- hU];generalize (w.alloc (.cells zF9 28))=W0 at S0 ⊢;replace hU:=Y hU;refine (zjh S0.o).mono ?_;rintro e W1 ⟨x0,r1,rfl,hq0,hS,hn⟩;have S1:=Y hS;replace hq0:=Y hq0;clear hS hn S0;go_wp2_with fail
 refine (zcx S1.o).mono ?_;rintro e W2 ⟨x1,r2,rfl,hq1,hS,hn⟩;have S2:=Y hS;replace hq1:=Y hq1;clear hS hn S1;go_wp2_with fail
 refine (zcx S2.o).mono ?_;rintro e W3 ⟨x2,r3,rfl,hq2,hS,hn⟩;have S3:=Y hS;replace hq2:=Y hq2;clear hS hn S2;go_wp2_with fail
 refine (zis S3.o).mono ?_;rintro e W4 ⟨x3,r4,rfl,hq3,hS,hn⟩;have S4:=Y hS;replace hq3:=Y hq3;clear hS hn S3;obtain ⟨VB,hVB⟩:∃ VB:Array Value,VB=#[.int .i64 0,.int .i64 0,.int .i64 0,.int .i64 0,.string ⟨x0.toArray⟩,.int .i64 0,.int .i64 0,.string ⟨#[]⟩,.string ⟨#[]⟩,.slice none 0 0,.slice none 0 0,.int .i64 0,.slice none 0 0,.int .i64 0,.int .i64 0,.int .i64 0,.int .i64 x1,.int .i64 x2,.string ⟨x3.toArray⟩,.string ⟨#[]⟩,.int .i64 0,.int .i64 0,.int .i64 0]:=⟨_,rfl⟩;have hVs:Hid (VB.size=23):=Y (by rw [hVB];rfl);have hV1:Hid (VB.toList.all (·.oneCell')=true):=Y (by rw [hVB];rfl);go_wp2_with (refine zab rfl 28 _ _ rfl U _ VB 28 rfl (by rw [hVB];rfl) S4.o.uc (by rw [hVs.o];rfl) (by rw [hVs.o];kernel_rfl) hV1.o (fun WS HS=>?_))
 refine bodyPost_ret (results_cell_row rfl _ _ U _ _ _ _ rfl HS.o.1 Tryz.underlying28 rfl (by rw [hVs.o];kernel_rfl)) rfl ?_
 rw [show M=({ Fc.zero with lg:=x0,bk:=x1,se:=x2,tx:=x3 },r4) by
  rw [hM.o]
  simp only [show zaL r0=(x0,r1) from hq0.o,show zbB r1=(x1,r2) from hq1.o,show zbB r2=(x2,r3) from hq2.o,show zcu r3=(x3,r4) from hq3.o]]
 have hsS:=HS.o.2.size;exact ⟨none,0,0,none,0,0,none,0,0,by rw [hVB];rfl,⟨zac.nil _ _ _,zaE.nil _ _,zac.nil _ _ _⟩,HS.o.2.at S4.o.rd (by omega),S4.o.md.then HS.o.2 (fun k hk e=>by omega)⟩
theorem fRetract (R:Nat) (r0:Rd) (w:World) (hG:Gl w) (hR:10<=R) (h:zbE w R r0) (hl:r0.rest.length<=1000000):
  Calls Tryz.prog 123 #[.pointer (some ⟨R,0,none⟩)] w (FcP w R (inF 4 r0)):=by
 obtain ⟨U,hU⟩:∃ U,U=w.heap.size:=⟨_,rfl⟩;have S0:=Y (StR.start hG hR h hl hU zF9 28);obtain ⟨M,hM⟩:∃ M,M=inF 4 r0:=⟨_,rfl⟩;rw [<- hM];unfold inF at hM;simp only at hM;replace hM:=Y hM;have hwU:=S0.o.wU;have hRU:=S0.o.RU;clear h hl hG;go_enter Tryz.func123,Tryz.ntmps123;go_wp2_with fail
 rw [<- hU];generalize (w.alloc (.cells zF9 28))=W0 at S0 ⊢;replace hU:=Y hU;refine (zis S0.o).mono ?_;rintro e W1 ⟨x0,r1,rfl,hq0,hS,hn⟩;have S1:=Y hS;replace hq0:=Y hq0;clear hS hn S0;obtain ⟨VB,hVB⟩:∃ VB:Array Value,VB=#[.int .i64 0,.int .i64 0,.int .i64 0,.int .i64 0,.string ⟨#[]⟩,.int .i64 0,.int .i64 0,.string ⟨#[]⟩,.string ⟨#[]⟩,.slice none 0 0,.slice none 0 0,.int .i64 0,.slice none 0 0,.int .i64 0,.int .i64 0,.int .i64 0,.int .i64 0,.int .i64 0,.string ⟨x0.toArray⟩,.string ⟨#[]⟩,.int .i64 0,.int .i64 0,.int .i64 0]:=⟨_,rfl⟩;have hVs:Hid (VB.size=23):=Y (by rw [hVB];rfl);have hV1:Hid (VB.toList.all (·.oneCell')=true):=Y (by rw [hVB];rfl);go_wp2_with (refine zab rfl 28 _ _ rfl U _ VB 28 rfl (by rw [hVB];rfl) S1.o.uc (by rw [hVs.o];rfl) (by rw [hVs.o];kernel_rfl) hV1.o (fun WS HS=>?_))
 refine bodyPost_ret (results_cell_row rfl _ _ U _ _ _ _ rfl HS.o.1 Tryz.underlying28 rfl (by rw [hVs.o];kernel_rfl)) rfl ?_
 rw [show M=({ Fc.zero with tx:=x0 },r1) by
  rw [hM.o]
  simp only [show zcu r0=(x0,r1) from hq0.o]]
 have hsS:=HS.o.2.size;exact ⟨none,0,0,none,0,0,none,0,0,by rw [hVB];rfl,⟨zac.nil _ _ _,zaE.nil _ _,zac.nil _ _ _⟩,HS.o.2.at S1.o.rd (by omega),S1.o.md.then HS.o.2 (fun k hk e=>by omega)⟩
theorem fPublish (R:Nat) (r0:Rd) (w:World) (hG:Gl w) (hR:10<=R) (h:zbE w R r0) (hl:r0.rest.length<=1000000):
  Calls Tryz.prog 117 #[.pointer (some ⟨R,0,none⟩)] w (FcP w R (inF 2 r0)):=by
 obtain ⟨U,hU⟩:∃ U,U=w.heap.size:=⟨_,rfl⟩;have S0:=Y (StR.start hG hR h hl hU zF9 28);obtain ⟨M,hM⟩:∃ M,M=inF 2 r0:=⟨_,rfl⟩;rw [<- hM];unfold inF at hM;simp only at hM;replace hM:=Y hM;have hwU:=S0.o.wU;have hRU:=S0.o.RU;clear h hl hG;go_enter Tryz.func117,Tryz.ntmps117;go_wp2_with fail
 rw [<- hU];generalize (w.alloc (.cells zF9 28))=W0 at S0 ⊢;replace hU:=Y hU;refine (zmi S0.o).mono ?_;rintro e W1 ⟨x0,ao,cap,r1,rfl,hil,hq0,hS,hn⟩;have S1:=Y hS;replace hq0:=Y hq0;have hOl:=Y hil;clear hil;clear hS hn S0;obtain ⟨VB,hVB⟩:∃ VB:Array Value,VB=#[.int .i64 0,.int .i64 0,.int .i64 0,.int .i64 0,.string ⟨#[]⟩,.int .i64 0,.int .i64 0,.string ⟨#[]⟩,.string ⟨#[]⟩,.slice none 0 0,.slice none 0 0,.int .i64 x0.til,.slice ao x0.aft.length cap,.int .i64 x0.app,.int .i64 x0.den,.int .i64 0,.int .i64 0,.int .i64 0,.string ⟨#[]⟩,.string ⟨#[]⟩,.int .i64 0,.int .i64 0,.int .i64 0]:=⟨_,rfl⟩;have hVs:Hid (VB.size=23):=Y (by rw [hVB];rfl);have hV1:Hid (VB.toList.all (·.oneCell')=true):=Y (by rw [hVB];rfl);go_wp2_with (refine zab rfl 28 _ _ rfl U _ VB 28 rfl (by rw [hVB];rfl) S1.o.uc (by rw [hVs.o];rfl) (by rw [hVs.o];kernel_rfl) hV1.o (fun WS HS=>?_))
 refine bodyPost_ret (results_cell_row rfl _ _ U _ _ _ _ rfl HS.o.1 Tryz.underlying28 rfl (by rw [hVs.o];kernel_rfl)) rfl ?_
 rw [show M=({ Fc.zero with lb:=x0 },r1) by
  rw [hM.o]
  simp only [show zbK r0=(x0,r1) from hq0.o]]
 have hsS:=HS.o.2.size;exact ⟨none,0,0,none,0,0,ao,x0.aft.length,cap,by rw [hVB];rfl,⟨zac.nil _ _ _,zaE.nil _ _,zac.mono (hOl.o.mod HS.o.2 (fun k hk e=>by omega)) (fun k hk=>⟨by have:=hk.1;omega,by have:=hk.2;omega⟩)⟩,HS.o.2.at S1.o.rd (by omega),S1.o.md.then HS.o.2 (fun k hk e=>by omega)⟩
theorem fTakedown (R:Nat) (r0:Rd) (w:World) (hG:Gl w) (hR:10<=R) (h:zbE w R r0) (hl:r0.rest.length<=1000000):
  Calls Tryz.prog 125 #[.pointer (some ⟨R,0,none⟩)] w (FcP w R (inF 5 r0)):=by
 obtain ⟨U,hU⟩:∃ U,U=w.heap.size:=⟨_,rfl⟩;have S0:=Y (StR.start hG hR h hl hU zF9 28);obtain ⟨M,hM⟩:∃ M,M=inF 5 r0:=⟨_,rfl⟩;rw [<- hM];unfold inF at hM;simp only at hM;replace hM:=Y hM;have hwU:=S0.o.wU;have hRU:=S0.o.RU;clear h hl hG;go_enter Tryz.func125,Tryz.ntmps125;go_upto_region 1 with fail
 rw [<- hU];generalize (w.alloc (.cells zF9 28))=W0 at S0 ⊢;replace hU:=Y hU;obtain ⟨VB,hVB⟩:∃ VB:Array Value,VB=zF9:=⟨_,rfl⟩;have hVs:Hid (VB.size=23):=Y (by rw [hVB];rfl);have hV1:Hid (VB.toList.all (·.oneCell')=true):=Y (by rw [hVB];rfl);go_wp2_with (refine zab rfl 28 _ _ rfl U _ VB 28 rfl (by rw [hVB];rfl) S0.o.uc (by rw [hVs.o];rfl) (by rw [hVs.o];kernel_rfl) hV1.o (fun WS HS=>?_))
 refine bodyPost_ret (results_cell_row rfl _ _ U _ _ _ _ rfl HS.o.1 Tryz.underlying28 rfl (by rw [hVs.o];kernel_rfl)) rfl ?_;rw [show M=(Fc.zero,r0) by rw [hM.o]];have hsS:=HS.o.2.size;exact ⟨none,0,0,none,0,0,none,0,0,by rw [hVB];rfl,⟨zac.nil _ _ _,zaE.nil _ _,zac.nil _ _ _⟩,HS.o.2.at S0.o.rd (by omega),S0.o.md.then HS.o.2 (fun k hk e=>by omega)⟩
end Go.Proofs.YtjjfphalcibjfaaGreatDoor
