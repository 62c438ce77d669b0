import Derived.Test.YtcopgcdhkgenkaaGreatDoorPK10
import Derived.Test.YtcopgcdhkgenkaaGreatDoorShelf
set_option linter.all false
set_option maxRecDepth 100000
set_option maxHeartbeats 16000000
namespace Go.Proofs.YtcopgcdhkgenkaaGreatDoor.Ps
open Go.RowKit Cdk Tpl
def numOk (w:Bs):Prop:=w ≠ []/\w.length<=6/\∀ c ∈ w,isD c=true
def NumOk (T:List Tk):Prop:=∀ t ∈ T,t.kind=3 -> numOk t.text
theorem decFrom_num:∀ (l:Bs) (acc:Nat),(∀ c ∈ l,isD c=true) -> ∃ m:Nat,Lib.decFrom acc l=some m/\(m:Int)=l.foldl (fun n c=>10*n+(c.toNat - 48:Int)) (acc:Int)
 | [],acc,_=>⟨acc,rfl,rfl⟩
 | c::l,acc,h=>by
  have hc:=h c (by simp)
  simp only [isD,Bool.and_eq_true,decide_eq_true_eq] at hc
  obtain ⟨m,h1,h2⟩:=decFrom_num l (acc*10+(c.toNat - 48)) (fun d hd=>h d (by simp [hd]))
  refine ⟨m,?_,?_⟩
  ·simp only [Lib.decFrom,Lib.digitVal,if_pos hc];exact h1
  ·rw [h2,List.foldl_cons]
   congr 1
   omega
theorem atoi_num {l:Bs} (h:numOk l):Lib.atoi l=some (num l):=by
 obtain ⟨h1,h2,h3⟩:=h
 cases l with
 | nil=>exact absurd rfl h1
 | cons c r=>
  have hc:=h3 c (by simp)
  simp only [isD,Bool.and_eq_true,decide_eq_true_eq] at hc
  obtain ⟨m,h4,h5⟩:=decFrom_num (c::r) 0 h3
  have n1:(c==45)=false:=by rw [beq_eq_false_iff_ne];rintro rfl;revert hc;decide
  have n2:(c==43)=false:=by rw [beq_eq_false_iff_ne];rintro rfl;revert hc;decide
  simp only [Lib.atoi,n1,n2,Lib.decNat,List.isEmpty_cons,h4]
  show some ((m:Nat):Int)=some (num (c::r))
  rw [h5]
  rfl
theorem bytes_ext (w:World) (e:TypeId) (s:ByteArray):Ext w (Lib.bytesWorld w e s):=by
 have h1:=((Mod.refl (fun _=>False) w).drew).alloc (.cells (Lib.bytesCells w e s) e)
 unfold Lib.bytesWorld World.freeze
 split
 ·exact h1
 ·refine ⟨h1.os,h1.tape,h1.output,by simp,fun k hk hs=>?_⟩
  rw [Array.getElem?_modify,if_neg (by show w.heap.size ≠ k;omega)]
  exact h1.block k hk hs
theorem Atoi_num (l:Bs) (h:numOk l) (w:World):Calls Tryz.prog 310 #[.string ⟨l.toArray⟩] w fun e w'=>e=.returned (.tuple #[.int .i64 (num l),.nilIface])/\Ext w w':=by
 have hs:(⟨l.toArray⟩:ByteArray).size<=18:=by
  show l.toArray.size<=18
  have:=h.2.1
  simp;omega
 refine (Tryz.strconv_Atoi ⟨l.toArray⟩ (num l) hs (atoi_num h) w).mono ?_
 rintro e w' ⟨rfl,t,rfl⟩
 exact ⟨rfl,bytes_ext w _ t⟩
def loopT (sz f depth:Nat) (nm arg:Bs) (ct:Int) (r:List Tk):Except Nat (Nd × List Tk):=do
 let (_,r) <- Tpl.need sz 7 r
 let (k,_,r) <- listS sz f depth [wEnd] r []
 .ok (.mk 3 [] nm arg ct [] k [],r)
def argS:List Tk -> Bs × List Tk
 | t::r=>if t.kind=4 then (t.text,r) else ([],t::r)
 | []=>([],[])
def cntS:List Tk -> Int × List Tk
 | t::r=>if t.kind=3 then (num t.text,r) else (0,t::r)
 | []=>(0,[])
theorem loopS_eq (sz f depth:Nat) {ts:List Tk} {n:Tk} {r:List Tk} (h:Tpl.need sz 2 ts=.ok (n,r)):loopS sz (f+1) depth ts=loopT sz f depth n.text (argS r).1 (cntS (argS r).2).1 (cntS (argS r).2).2:=by
 simp only [loopS,h,bind,Except.bind,loopT]
 cases r with
 | nil=>rfl
 | cons t r=>
  by_cases h4:t.kind=4
  ·simp only [argS,if_pos h4]
   cases r with
   | nil=>rfl
   | cons u r=>
    by_cases h3:u.kind=3
    ·simp only [cntS,if_pos h3]
    ·simp only [cntS,if_neg h3]
  ·simp only [argS,if_neg h4]
   by_cases h3:t.kind=3
   ·simp only [cntS,if_pos h3]
   ·simp only [cntS,if_neg h3]
theorem arg_hit {T:List Tk} {k:Nat} (hk:k < T.length) (hkd:T[k].kind=4):argS (T.drop k)=(T[k].text,T.drop (k+1)):=by
 rw [drop_tok hk];simp only [argS,if_pos hkd]
theorem arg_no {r:List Tk} (h:moreB 4 r=false):argS r=([],r):=by
 cases r with
 | nil=>rfl
 | cons t r=>simp only [moreB,decide_eq_false_iff_not] at h;simp only [argS,if_neg h]
theorem cnt_hit {T:List Tk} {k:Nat} (hk:k < T.length) (hkd:T[k].kind=3):cntS (T.drop k)=(num T[k].text,T.drop (k+1)):=by
 rw [drop_tok hk];simp only [cntS,if_pos hkd]
theorem cnt_no {r:List Tk} (h:moreB 3 r=false):cntS r=(0,r):=by
 cases r with
 | nil=>rfl
 | cons t r=>simp only [moreB,decide_eq_false_iff_not] at h;simp only [cntS,if_neg h]
def ListP (B:Nat) (ao:Option Addr) (cap:Nat) (T:List Tk) (sz k:Nat) (w:World) (r:Except Nat (List Nd × Bs × List Tk)) (e:Ending) (w':World):Prop:=
 (∃ l wd k' v,r=.ok (l,wd,T.drop k')/\k<=k'/\e=.returned (.tuple #[v,.string ⟨wd.toArray⟩])/\NodesAt (Since w w') w' v l/\Rd B ao cap T sz k' w'/\Mod (Eq B) w w') \/ (∃ a,r=.error a/\e=.panicked [misE a]/\Mod (Eq B) w w')
def ListC (fuel:Nat):Prop:=∀ (B:Nat) (ao:Option Addr) (cap:Nat) (T:List Tk) (sz k depth:Nat) (vw:Value) (words:List Bs) (w:World),Rd B ao cap T sz k w -> NumOk T -> depth<=8 -> StrsAt (fun b=>b ≠ B) w vw words -> words.length<=2 →
 2*(T.length - k)+1<=fuel -> Calls Tryz.prog 399 #[.pointer (some ⟨B,0,none⟩),.int .i64 depth,vw] w (ListP B ao cap T sz k w (listS sz fuel depth words (T.drop k) []))
theorem loop_any (fuel:Nat) (ih:ListC fuel) {B:Nat} {ao:Option Addr} {cap:Nat} {T:List Tk} {sz k:Nat} (depth:Nat) (w:World) (h:Rd B ao cap T sz k w) (hT:NumOk T) (hd:depth<=8) (hf:2*(T.length - k)<=fuel):
  Calls Tryz.prog 489 #[.pointer (some ⟨B,0,none⟩),.int .i64 depth] w
   (ResP B ao cap T sz k w (loopS sz (fuel+1) depth (T.drop k)) fun nd v w'=>∃ c:NC,v=ncV c/\NodeAt (Since w w') w' c nd):=by
 obtain ⟨post,hpost⟩:∃ post,post=ResP B ao cap T sz k w (loopS sz (fuel+1) depth (T.drop k)) (fun nd v w'=>∃ c:NC,v=ncV c/\NodeAt (Since w w') w' c nd):=⟨_,rfl⟩
 rw [<- hpost]
 replace hpost:=hid hpost
 have hBw:=lt_of_at h.cell
 have hsm:=h.small
 replace h:=hid h
 replace hT:=hid hT
 replace ih:=hid ih
 have hfl:=fld_text
 go_enter Tryz.func489,Tryz.ntmps489
 go_wp2_with fail
 have hx1:=Mod.alloc (Mod.refl (fun _=>False) w) (.cells #[.int .i64 0,.string ⟨#[]⟩,.string ⟨#[]⟩,.string ⟨#[]⟩,.int .i64 0,.slice none 0 0,.slice none 0 0,.slice none 0 0] 673)
 have hR0:=heap_alloc_new w (.cells #[.int .i64 0,.string ⟨#[]⟩,.string ⟨#[]⟩,.string ⟨#[]⟩,.int .i64 0,.slice none 0 0,.slice none 0 0,.slice none 0 0] 673)
 have hs1:(w.alloc (.cells #[.int .i64 0,.string ⟨#[]⟩,.string ⟨#[]⟩,.string ⟨#[]⟩,.int .i64 0,.slice none 0 0,.slice none 0 0,.slice none 0 0] 673)).heap.size=w.heap.size+1:=World.size_alloc _ _
 generalize (w.alloc (.cells #[.int .i64 0,.string ⟨#[]⟩,.string ⟨#[]⟩,.string ⟨#[]⟩,.int .i64 0,.slice none 0 0,.slice none 0 0,.slice none 0 0] 673))=w1 at hx1 hR0 hs1 ⊢
 obtain ⟨R,hR⟩:∃ R,R=w.heap.size:=⟨_,rfl⟩
 rw [<- hR] at hR0 hs1 hBw ⊢
 replace hR:=hid hR
 refine (need_any 2 _ (h.out.ext hx1)).mono ?_
 rintro e w2 (⟨hk,hkd,rfl,hrd2,hm2⟩ | ⟨a,ha,rfl,hx2⟩)
 ·replace hkd:=hid hkd
  have hBR:¬ B=R:=by omega
  have hR02:=hm2.at hR0 hBR
  have hmw2:=hx1.mono (T:=Eq B) (fun _ h=>h.elim) |>.trans hm2
  clear hx1 hm2 hR0
  unfold tokV
  go_wp2_with fail
  have hxa:=Mod.alloc (Mod.refl (fun _=>False) w2) (.cells #[.int .i64 3,.string ⟨#[]⟩,.string ⟨T[k].text.toArray⟩,.string ⟨#[]⟩,.int .i64 0,.slice none 0 0,.slice none 0 0,.slice none 0 0] 673)
  have hQa:=heap_alloc_new w2 (.cells #[.int .i64 3,.string ⟨#[]⟩,.string ⟨T[k].text.toArray⟩,.string ⟨#[]⟩,.int .i64 0,.slice none 0 0,.slice none 0 0,.slice none 0 0] 673)
  have hRQ:R < w2.heap.size:=lt_of_at hR02
  generalize hQ:w2.heap.size=Q at hQa hRQ ⊢
  generalize (w2.alloc (.cells #[.int .i64 3,.string ⟨#[]⟩,.string ⟨T[k].text.toArray⟩,.string ⟨#[]⟩,.int .i64 0,.slice none 0 0,.slice none 0 0,.slice none 0 0] 673))=wa at hxa hQa ⊢
  have hBQ:¬ B=Q:=by omega
  have hQR:¬ Q=R:=by omega
  have hRQ':¬ R=Q:=by omega
  have hRa:=hxa.at hR02 (fun h=>h)
  have hrda:=hrd2.ext hxa
  have hma:=hid (hmw2.then hxa (fun _ _ h=>h.elim))
  replace hQ:=hid hQ
  clear hxa hrd2 hmw2 hR02
  refine (more_any 4 _ hrda).mono ?_;rintro e wb ⟨rfl,hxb⟩
  cases h4:moreB 4 (T.drop (k+1)) with
  | true=>
   obtain ⟨hk4,hkd4⟩:=more_hit h4
   replace h4:=hid h4
   go_wp2_with fail
   refine (need_ok 4 _ (hrda.ext hxb) hk4 hkd4).mono ?_;rintro e wn ⟨rfl,hrdn,hmn⟩
   have hRn:=hmn.at (hxb.at hRa (fun h=>h)) hBR
   have hQn:=hmn.at (hxb.at hQa (fun h=>h)) hBQ
   have hmwn:=hid ((hma.out.then hxb (fun _ _ h=>h.elim)).trans hmn)
   replace hkd4:=hid hkd4
   clear hxb hmn hRa hQa
   unfold tokV
   obtain ⟨a0,a1,a2,a3,a4,a5,a6,a7⟩:=cells8 hQn
   have z0:=free_of' hQn
   replace hRn:=hid hRn
   replace hQn:=hid hQn
   replace hrdn:=hid hrdn
   go_wp2_with fail
   have hQc:=put_at hQn.out 3 (.string ⟨T[k+1].text.toArray⟩)
   have hRc:=(put_ne wn (b:=Q) (k:=R) 3 (.string ⟨T[k+1].text.toArray⟩) (by omega)).trans hRn.out
   have hmq:=(Mod.refl (Eq Q) wn).setCell (a:=⟨Q,3,none⟩) (fun _=>rfl) (.string ⟨T[k+1].text.toArray⟩)
   clear a0 a1 a2 a3 a4 a5 a6 a7 z0
   generalize (wn.setCell ⟨Q,3,none⟩ (.string ⟨T[k+1].text.toArray⟩))=wc at hQc hRc hmq ⊢
   simp only [sA,sZ,sS] at hQc
   have hrdc:=hrdn.out.mod hmq (by omega) (fun b off e e'=>rd_old h.out (by omega) b off e (by have:=hR.out;omega))
   have hmwc:=hid (hmwn.out.then hmq (fun j hj e=>by have:=hR.out;omega))
   clear hmq
   refine (more_any 3 _ hrdc).mono ?_;rintro e wd ⟨rfl,hxd⟩
   cases h3:moreB 3 (T.drop (k+1+1)) with
   | true=>
    obtain ⟨hk3,hkd3⟩:=more_hit h3
    have hno:=hid (hT.out T[k+1+1] (List.getElem_mem _) hkd3)
    have hsp:Hid (loopS sz (fuel+1) depth (T.drop k)=loopT sz fuel depth T[k].text T[k+1].text (num T[k+1+1].text) (T.drop (k+1+1+1))):=hid (by
     rw [loopS_eq sz fuel depth (need_hit hk hkd.out),arg_hit hk4 hkd4.out,cnt_hit hk3 hkd3])
    replace h3:=hid h3
    go_wp2_with fail
    refine (need_ok 3 _ (hrdc.ext hxd) hk3 hkd3).mono ?_;rintro e wn ⟨rfl,hrdn,hmn⟩
    have hRn:=hmn.at (hxd.at hRc (fun h=>h)) hBR
    have hQn:=hmn.at (hxd.at hQc (fun h=>h)) hBQ
    have hmwn:=hid ((hmwc.out.then hxd (fun _ _ h=>h.elim)).trans hmn)
    replace hkd3:=hid hkd3
    replace hrdc:=hid hrdc
    replace hRc:=hid hRc
    replace hQc:=hid hQc
    clear hxd hmn
    unfold tokV
    go_wp2_with fail
    refine (Atoi_num T[k+1+1].text hno.out wn).mono ?_;rintro e wo ⟨rfl,hxo⟩
    have hRo:=hxo.at hRn (fun h=>h)
    have hQo:=hxo.at hQn (fun h=>h)
    have hrdo:=hrdn.ext hxo
    have hmwo:=hid (hmwn.out.then hxo (fun _ _ h=>h.elim))
    obtain ⟨a0,a1,a2,a3,a4,a5,a6,a7⟩:=cells8 hQo
    have z0:=free_of' hQo
    replace hRo:=hid hRo
    replace hQo:=hid hQo
    replace hrdo:=hid hrdo
    clear hRn hQn hrdn hxo
    go_wp2_with fail
    have hQd:=put_at hQo.out 4 (.int .i64 (num T[k+1+1].text))
    have hRd:=(put_ne wo (b:=Q) (k:=R) 4 (.int .i64 (num T[k+1+1].text)) (by omega)).trans hRo.out
    have hmq:=(Mod.refl (Eq Q) wo).setCell (a:=⟨Q,4,none⟩) (fun _=>rfl) (.int .i64 (num T[k+1+1].text))
    clear a0 a1 a2 a3 a4 a5 a6 a7 z0
    generalize (wo.setCell ⟨Q,4,none⟩ (.int .i64 (num T[k+1+1].text)))=wd at hQd hRd hmq ⊢
    simp only [sA,sZ,sS] at hQd
    have hrdd:=hrdo.out.mod hmq (by omega) (fun b off e e'=>rd_old h.out (by omega) b off e (by have:=hR.out;omega))
    have hmd:=hid (hmwo.out.then hmq (fun j hj e=>by have:=hR.out;omega))
    clear hmq
    refine (need_any 7 _ hrdd).mono ?_
    rintro e we (⟨hk7,hkd7,rfl,hrde,hme⟩ | ⟨a,ha,rfl,hxe⟩)
    ·have hsp7:=need_hit (sz:=sz) hk7 hkd7
     replace hkd7:=hid hkd7
     have hRe:=hme.at hRd hBR
     have hQe:=hme.at hQd hBQ
     have hmwe:=hid (hmd.out.trans hme)
     replace hQd:=hid hQd
     replace hRd:=hid hRd
     replace hrdd:=hid hrdd
     replace hsp7:=hid hsp7
     clear hme
     go_wp2_with fail
     have hxf:=Mod.alloc (Mod.refl (fun _=>False) we) (.cells #[.string ⟨#[101,110,100]⟩] 9)
     have hF:RowIs (we.alloc (.cells #[.string ⟨#[101,110,100]⟩] 9)) (some ⟨we.heap.size,0,none⟩) ([wEnd].flatMap strC):=RowIs.new we [strV wEnd] 9
     have hFT:Thaw (we.alloc (.cells #[.string ⟨#[101,110,100]⟩] 9)) we.heap.size:=⟨_,_,heap_alloc_new we _⟩
     have hsf:(we.alloc (.cells #[.string ⟨#[101,110,100]⟩] 9)).heap.size=we.heap.size+1:=World.size_alloc _ _
     have hBe:=lt_of_at hrde.cell
     have hRee:=lt_of_at hRe
     have hQee:=lt_of_at hQe
     generalize hE:we.heap.size=E at hF hFT hsf hBe hRee hQee ⊢
     generalize (we.alloc (.cells #[.string ⟨#[101,110,100]⟩] 9))=wf at hxf hF hFT hsf ⊢
     replace hE:=hid hE
     replace hsf:=hid hsf
     refine (ih.out B ao cap T sz (k+1+1+1+1) depth (.slice (some ⟨E,0,none⟩) 1 1) [wEnd] wf (hrde.ext hxf) hT.out hd ⟨some ⟨E,0,none⟩,1,rfl,hF,fun b off e=>?_,.some hFT _ _⟩ (by decide) (by omega)).mono ?_
     ·injection e with e;injection e with e _ _;omega
     rintro e wg (⟨l,wd',k',v,hl,hkk,rfl,hnv,hrdg,hmg⟩ | ⟨a,ha,rfl,hmg⟩)
     ·have hRg:=hmg.at (hxf.at hRe (fun h=>h)) hBR
      have hQg:=hmg.at (hxf.at hQe (fun h=>h)) hBQ
      obtain ⟨aov,nv,capv,hv⟩:=hnv.slice
      subst hv
      obtain ⟨a0,a1,a2,a3,a4,a5,a6,a7⟩:=cells8 hQg
      obtain ⟨b0,b1,b2,b3,b4,b5,b6,b7⟩:=cells8 hRg
      have z0:=free_of' hQg
      have z1:=free_of' hRg
      have hmwg:=hid ((hmwe.out.then hxf (fun _ _ h=>h.elim)).trans hmg)
      have hRf:=lt_of_at (hxf.at hRe (fun h=>h))
      have hQf:=lt_of_at (hxf.at hQe (fun h=>h))
      have hws:=(hmwe.out.then hxf (fun _ _ h=>h.elim)).size
      replace hl:=hid hl
      replace hRe:=hid hRe
      replace hQe:=hid hQe
      replace hrde:=hid hrde
      replace hrdg:=hid hrdg
      replace hmg:=hid hmg
      replace hRg:=hid hRg
      replace hQg:=hid hQg
      replace hnv:=hid hnv
      go_wp2_with fail
      change bodyPost _ _ _ _ _ (put8 (wg.setCell ⟨Q,6,none⟩ (.slice aov nv capv)) R (.int .i64 3) (.string ⟨#[]⟩) (.string ⟨T[k].text.toArray⟩) (.string ⟨(T[k+1].text:Bs).toArray⟩) (.int .i64 (num T[k+1+1].text)) (.slice none 0 0) (.slice aov nv capv) (.slice none 0 0))
      have hQh:=put_at hQg.out 6 (.slice aov nv capv)
      have hmh:=(Mod.refl (Eq Q) wg).setCell (a:=⟨Q,6,none⟩) (fun _=>rfl) (.slice aov nv capv)
      have hRh:=(put_ne wg (b:=Q) (k:=R) 6 (.slice aov nv capv) (by omega)).trans hRg.out
      generalize (wg.setCell ⟨Q,6,none⟩ (.slice aov nv capv))=wh at hQh hmh hRh ⊢
      have hRz:=put8_at (x0:=.int .i64 3) (x1:=.string ⟨#[]⟩) (x2:=.string ⟨T[k].text.toArray⟩) (x3:=.string ⟨(T[k+1].text:Bs).toArray⟩) (x4:=.int .i64 (num T[k+1+1].text)) (x5:=.slice none 0 0) (x6:=.slice aov nv capv) (x7:=.slice none 0 0) hRh
      have hmz:=put8_mod wh R (.int .i64 3) (.string ⟨#[]⟩) (.string ⟨T[k].text.toArray⟩) (.string ⟨(T[k+1].text:Bs).toArray⟩) (.int .i64 (num T[k+1+1].text)) (.slice none 0 0) (.slice aov nv capv) (.slice none 0 0)
      generalize (put8 wh R (.int .i64 3) (.string ⟨#[]⟩) (.string ⟨T[k].text.toArray⟩) (.string ⟨(T[k+1].text:Bs).toArray⟩) (.int .i64 (num T[k+1+1].text)) (.slice none 0 0) (.slice aov nv capv) (.slice none 0 0))=wz at hRz hmz ⊢
      refine bodyPost_ret (results_cell_row rfl _ _ R _ _ _ _ rfl hRz Tryz.underlying673 rfl node_size) rfl ?_
      rw [hpost.out]
      have hRR:=hR.out
      have hzz:Mod (fun j=>j=Q \/ j=R) wg wz:=(hmh.mono (fun _ h=>.inl h.symm)).then hmz (fun _ _ h=>.inr h.symm)
      have hrdz:=hrdg.out.mod hzz (by omega) (fun b off e e'=>rd_old h.out (by omega) b off e (by omega))
      have hnz:=(hnv.out.mod hzz (fun j hj e=>by have:=hj.1;omega)).mono (F':=Since w wz) (fun j hj=>⟨by have:=hj.1;omega,by have:=hj.2;have:=hzz.size;omega⟩)
      refine .inl ⟨_,k',_,?_,by omega,rfl,⟨⟨3,[],T[k].text,T[k+1].text,num T[k+1+1].text,.slice none 0 0,.slice aov nv capv,.slice none 0 0⟩,rfl,.mk ⟨3,[],T[k].text,T[k+1].text,num T[k+1+1].text,.slice none 0 0,.slice aov nv capv,.slice none 0 0⟩ [] l [] (StrsAt.nil _ _) hnz (NodesAt.nil _ _)⟩,hrdz,hmwg.out.then hzz (fun j hj e=>by omega)⟩
      rw [hsp.out]
      simp only [loopT,hsp7.out,hl.out,bind,Except.bind]
     ·go_wp2_with fail
      refine ⟨rfl,?_⟩
      rw [hpost.out]
      refine .inr ⟨a,?_,rfl,((hmwe.out.then hxf (fun _ _ h=>h.elim)).trans hmg)⟩
      rw [hsp.out]
      simp only [loopT,hsp7.out,ha,bind,Except.bind]
    ·go_wp2_with fail
     refine ⟨rfl,?_⟩
     rw [hpost.out]
     refine .inr ⟨a,?_,rfl,hmd.out.then hxe (fun _ _ h=>h.elim)⟩
     rw [hsp.out]
     simp only [loopT,ha,bind,Except.bind]
   | false=>
    have hsp:Hid (loopS sz (fuel+1) depth (T.drop k)=loopT sz fuel depth T[k].text T[k+1].text 0 (T.drop (k+1+1))):=hid (by
     rw [loopS_eq sz fuel depth (need_hit hk hkd.out),arg_hit hk4 hkd4.out,cnt_no h3])
    replace h3:=hid h3
    have hRd:=hxd.at hRc (fun h=>h)
    have hQd:=hxd.at hQc (fun h=>h)
    have hrdd:=hrdc.ext hxd
    have hmd:=hid (hmwc.out.then hxd (fun _ _ h=>h.elim))
    replace hrdc:=hid hrdc
    replace hRc:=hid hRc
    replace hQc:=hid hQc
    clear hxd
    go_wp2_with fail
    refine (need_any 7 _ hrdd).mono ?_
    rintro e we (⟨hk7,hkd7,rfl,hrde,hme⟩ | ⟨a,ha,rfl,hxe⟩)
    ·have hsp7:=need_hit (sz:=sz) hk7 hkd7
     replace hkd7:=hid hkd7
     have hRe:=hme.at hRd hBR
     have hQe:=hme.at hQd hBQ
     have hmwe:=hid (hmd.out.trans hme)
     replace hQd:=hid hQd
     replace hRd:=hid hRd
     replace hrdd:=hid hrdd
     replace hsp7:=hid hsp7
     clear hme
     go_wp2_with fail
     have hxf:=Mod.alloc (Mod.refl (fun _=>False) we) (.cells #[.string ⟨#[101,110,100]⟩] 9)
     have hF:RowIs (we.alloc (.cells #[.string ⟨#[101,110,100]⟩] 9)) (some ⟨we.heap.size,0,none⟩) ([wEnd].flatMap strC):=RowIs.new we [strV wEnd] 9
     have hFT:Thaw (we.alloc (.cells #[.string ⟨#[101,110,100]⟩] 9)) we.heap.size:=⟨_,_,heap_alloc_new we _⟩
     have hsf:(we.alloc (.cells #[.string ⟨#[101,110,100]⟩] 9)).heap.size=we.heap.size+1:=World.size_alloc _ _
     have hBe:=lt_of_at hrde.cell
     have hRee:=lt_of_at hRe
     have hQee:=lt_of_at hQe
     generalize hE:we.heap.size=E at hF hFT hsf hBe hRee hQee ⊢
     generalize (we.alloc (.cells #[.string ⟨#[101,110,100]⟩] 9))=wf at hxf hF hFT hsf ⊢
     replace hE:=hid hE
     replace hsf:=hid hsf
     refine (ih.out B ao cap T sz (k+1+1+1) depth (.slice (some ⟨E,0,none⟩) 1 1) [wEnd] wf (hrde.ext hxf) hT.out hd ⟨some ⟨E,0,none⟩,1,rfl,hF,fun b off e=>?_,.some hFT _ _⟩ (by decide) (by omega)).mono ?_
     ·injection e with e;injection e with e _ _;omega
     rintro e wg (⟨l,wd',k',v,hl,hkk,rfl,hnv,hrdg,hmg⟩ | ⟨a,ha,rfl,hmg⟩)
     ·have hRg:=hmg.at (hxf.at hRe (fun h=>h)) hBR
      have hQg:=hmg.at (hxf.at hQe (fun h=>h)) hBQ
      obtain ⟨aov,nv,capv,hv⟩:=hnv.slice
      subst hv
      obtain ⟨a0,a1,a2,a3,a4,a5,a6,a7⟩:=cells8 hQg
      obtain ⟨b0,b1,b2,b3,b4,b5,b6,b7⟩:=cells8 hRg
      have z0:=free_of' hQg
      have z1:=free_of' hRg
      have hmwg:=hid ((hmwe.out.then hxf (fun _ _ h=>h.elim)).trans hmg)
      have hRf:=lt_of_at (hxf.at hRe (fun h=>h))
      have hQf:=lt_of_at (hxf.at hQe (fun h=>h))
      have hws:=(hmwe.out.then hxf (fun _ _ h=>h.elim)).size
      replace hl:=hid hl
      replace hRe:=hid hRe
      replace hQe:=hid hQe
      replace hrde:=hid hrde
      replace hrdg:=hid hrdg
      replace hmg:=hid hmg
      replace hRg:=hid hRg
      replace hQg:=hid hQg
      replace hnv:=hid hnv
      go_wp2_with fail
      change bodyPost _ _ _ _ _ (put8 (wg.setCell ⟨Q,6,none⟩ (.slice aov nv capv)) R (.int .i64 3) (.string ⟨#[]⟩) (.string ⟨T[k].text.toArray⟩) (.string ⟨(T[k+1].text:Bs).toArray⟩) (.int .i64 (0)) (.slice none 0 0) (.slice aov nv capv) (.slice none 0 0))
      have hQh:=put_at hQg.out 6 (.slice aov nv capv)
      have hmh:=(Mod.refl (Eq Q) wg).setCell (a:=⟨Q,6,none⟩) (fun _=>rfl) (.slice aov nv capv)
      have hRh:=(put_ne wg (b:=Q) (k:=R) 6 (.slice aov nv capv) (by omega)).trans hRg.out
      generalize (wg.setCell ⟨Q,6,none⟩ (.slice aov nv capv))=wh at hQh hmh hRh ⊢
      have hRz:=put8_at (x0:=.int .i64 3) (x1:=.string ⟨#[]⟩) (x2:=.string ⟨T[k].text.toArray⟩) (x3:=.string ⟨(T[k+1].text:Bs).toArray⟩) (x4:=.int .i64 (0)) (x5:=.slice none 0 0) (x6:=.slice aov nv capv) (x7:=.slice none 0 0) hRh
      have hmz:=put8_mod wh R (.int .i64 3) (.string ⟨#[]⟩) (.string ⟨T[k].text.toArray⟩) (.string ⟨(T[k+1].text:Bs).toArray⟩) (.int .i64 (0)) (.slice none 0 0) (.slice aov nv capv) (.slice none 0 0)
      generalize (put8 wh R (.int .i64 3) (.string ⟨#[]⟩) (.string ⟨T[k].text.toArray⟩) (.string ⟨(T[k+1].text:Bs).toArray⟩) (.int .i64 (0)) (.slice none 0 0) (.slice aov nv capv) (.slice none 0 0))=wz at hRz hmz ⊢
      refine bodyPost_ret (results_cell_row rfl _ _ R _ _ _ _ rfl hRz Tryz.underlying673 rfl node_size) rfl ?_
      rw [hpost.out]
      have hRR:=hR.out
      have hzz:Mod (fun j=>j=Q \/ j=R) wg wz:=(hmh.mono (fun _ h=>.inl h.symm)).then hmz (fun _ _ h=>.inr h.symm)
      have hrdz:=hrdg.out.mod hzz (by omega) (fun b off e e'=>rd_old h.out (by omega) b off e (by omega))
      have hnz:=(hnv.out.mod hzz (fun j hj e=>by have:=hj.1;omega)).mono (F':=Since w wz) (fun j hj=>⟨by have:=hj.1;omega,by have:=hj.2;have:=hzz.size;omega⟩)
      refine .inl ⟨_,k',_,?_,by omega,rfl,⟨⟨3,[],T[k].text,T[k+1].text,0,.slice none 0 0,.slice aov nv capv,.slice none 0 0⟩,rfl,.mk ⟨3,[],T[k].text,T[k+1].text,0,.slice none 0 0,.slice aov nv capv,.slice none 0 0⟩ [] l [] (StrsAt.nil _ _) hnz (NodesAt.nil _ _)⟩,hrdz,hmwg.out.then hzz (fun j hj e=>by omega)⟩
      rw [hsp.out]
      simp only [loopT,hsp7.out,hl.out,bind,Except.bind]
     ·go_wp2_with fail
      refine ⟨rfl,?_⟩
      rw [hpost.out]
      refine .inr ⟨a,?_,rfl,((hmwe.out.then hxf (fun _ _ h=>h.elim)).trans hmg)⟩
      rw [hsp.out]
      simp only [loopT,hsp7.out,ha,bind,Except.bind]
    ·go_wp2_with fail
     refine ⟨rfl,?_⟩
     rw [hpost.out]
     refine .inr ⟨a,?_,rfl,hmd.out.then hxe (fun _ _ h=>h.elim)⟩
     rw [hsp.out]
     simp only [loopT,ha,bind,Except.bind]
  | false=>
   have h4':=arg_no h4
   replace h4:=hid h4
   replace h4':=hid h4'
   have hRc:=hxb.at hRa (fun h=>h)
   have hQc:=hxb.at hQa (fun h=>h)
   have hrdc:=hrda.ext hxb
   have hmwc:=hid (hma.out.then hxb (fun _ _ h=>h.elim))
   clear hxb
   replace hrda:=hid hrda
   replace hRa:=hid hRa
   replace hQa:=hid hQa
   go_wp2_with fail
   refine (more_any 3 _ hrdc).mono ?_;rintro e wd ⟨rfl,hxd⟩
   cases h3:moreB 3 (T.drop (k+1)) with
   | true=>
    obtain ⟨hk3,hkd3⟩:=more_hit h3
    have hno:=hid (hT.out T[k+1] (List.getElem_mem _) hkd3)
    have hsp:Hid (loopS sz (fuel+1) depth (T.drop k)=loopT sz fuel depth T[k].text [] (num T[k+1].text) (T.drop (k+1+1))):=hid (by
     rw [loopS_eq sz fuel depth (need_hit hk hkd.out),h4'.out,cnt_hit hk3 hkd3])
    replace h3:=hid h3
    go_wp2_with fail
    refine (need_ok 3 _ (hrdc.ext hxd) hk3 hkd3).mono ?_;rintro e wn ⟨rfl,hrdn,hmn⟩
    have hRn:=hmn.at (hxd.at hRc (fun h=>h)) hBR
    have hQn:=hmn.at (hxd.at hQc (fun h=>h)) hBQ
    have hmwn:=hid ((hmwc.out.then hxd (fun _ _ h=>h.elim)).trans hmn)
    replace hkd3:=hid hkd3
    replace hrdc:=hid hrdc
    replace hRc:=hid hRc
    replace hQc:=hid hQc
    clear hxd hmn
    unfold tokV
    go_wp2_with fail
    refine (Atoi_num T[k+1].text hno.out wn).mono ?_;rintro e wo ⟨rfl,hxo⟩
    have hRo:=hxo.at hRn (fun h=>h)
    have hQo:=hxo.at hQn (fun h=>h)
    have hrdo:=hrdn.ext hxo
    have hmwo:=hid (hmwn.out.then hxo (fun _ _ h=>h.elim))
    obtain ⟨a0,a1,a2,a3,a4,a5,a6,a7⟩:=cells8 hQo
    have z0:=free_of' hQo
    replace hRo:=hid hRo
    replace hQo:=hid hQo
    replace hrdo:=hid hrdo
    clear hRn hQn hrdn hxo
    go_wp2_with fail
    have hQd:=put_at hQo.out 4 (.int .i64 (num T[k+1].text))
    have hRd:=(put_ne wo (b:=Q) (k:=R) 4 (.int .i64 (num T[k+1].text)) (by omega)).trans hRo.out
    have hmq:=(Mod.refl (Eq Q) wo).setCell (a:=⟨Q,4,none⟩) (fun _=>rfl) (.int .i64 (num T[k+1].text))
    clear a0 a1 a2 a3 a4 a5 a6 a7 z0
    generalize (wo.setCell ⟨Q,4,none⟩ (.int .i64 (num T[k+1].text)))=wd at hQd hRd hmq ⊢
    simp only [sA,sZ,sS] at hQd
    have hrdd:=hrdo.out.mod hmq (by omega) (fun b off e e'=>rd_old h.out (by omega) b off e (by have:=hR.out;omega))
    have hmd:=hid (hmwo.out.then hmq (fun j hj e=>by have:=hR.out;omega))
    clear hmq
    refine (need_any 7 _ hrdd).mono ?_
    rintro e we (⟨hk7,hkd7,rfl,hrde,hme⟩ | ⟨a,ha,rfl,hxe⟩)
    ·have hsp7:=need_hit (sz:=sz) hk7 hkd7
     replace hkd7:=hid hkd7
     have hRe:=hme.at hRd hBR
     have hQe:=hme.at hQd hBQ
     have hmwe:=hid (hmd.out.trans hme)
     replace hQd:=hid hQd
     replace hRd:=hid hRd
     replace hrdd:=hid hrdd
     replace hsp7:=hid hsp7
     clear hme
     go_wp2_with fail
     have hxf:=Mod.alloc (Mod.refl (fun _=>False) we) (.cells #[.string ⟨#[101,110,100]⟩] 9)
     have hF:RowIs (we.alloc (.cells #[.string ⟨#[101,110,100]⟩] 9)) (some ⟨we.heap.size,0,none⟩) ([wEnd].flatMap strC):=RowIs.new we [strV wEnd] 9
     have hFT:Thaw (we.alloc (.cells #[.string ⟨#[101,110,100]⟩] 9)) we.heap.size:=⟨_,_,heap_alloc_new we _⟩
     have hsf:(we.alloc (.cells #[.string ⟨#[101,110,100]⟩] 9)).heap.size=we.heap.size+1:=World.size_alloc _ _
     have hBe:=lt_of_at hrde.cell
     have hRee:=lt_of_at hRe
     have hQee:=lt_of_at hQe
     generalize hE:we.heap.size=E at hF hFT hsf hBe hRee hQee ⊢
     generalize (we.alloc (.cells #[.string ⟨#[101,110,100]⟩] 9))=wf at hxf hF hFT hsf ⊢
     replace hE:=hid hE
     replace hsf:=hid hsf
     refine (ih.out B ao cap T sz (k+1+1+1) depth (.slice (some ⟨E,0,none⟩) 1 1) [wEnd] wf (hrde.ext hxf) hT.out hd ⟨some ⟨E,0,none⟩,1,rfl,hF,fun b off e=>?_,.some hFT _ _⟩ (by decide) (by omega)).mono ?_
     ·injection e with e;injection e with e _ _;omega
     rintro e wg (⟨l,wd',k',v,hl,hkk,rfl,hnv,hrdg,hmg⟩ | ⟨a,ha,rfl,hmg⟩)
     ·have hRg:=hmg.at (hxf.at hRe (fun h=>h)) hBR
      have hQg:=hmg.at (hxf.at hQe (fun h=>h)) hBQ
      obtain ⟨aov,nv,capv,hv⟩:=hnv.slice
      subst hv
      obtain ⟨a0,a1,a2,a3,a4,a5,a6,a7⟩:=cells8 hQg
      obtain ⟨b0,b1,b2,b3,b4,b5,b6,b7⟩:=cells8 hRg
      have z0:=free_of' hQg
      have z1:=free_of' hRg
      have hmwg:=hid ((hmwe.out.then hxf (fun _ _ h=>h.elim)).trans hmg)
      have hRf:=lt_of_at (hxf.at hRe (fun h=>h))
      have hQf:=lt_of_at (hxf.at hQe (fun h=>h))
      have hws:=(hmwe.out.then hxf (fun _ _ h=>h.elim)).size
      replace hl:=hid hl
      replace hRe:=hid hRe
      replace hQe:=hid hQe
      replace hrde:=hid hrde
      replace hrdg:=hid hrdg
      replace hmg:=hid hmg
      replace hRg:=hid hRg
      replace hQg:=hid hQg
      replace hnv:=hid hnv
      go_wp2_with fail
      change bodyPost _ _ _ _ _ (put8 (wg.setCell ⟨Q,6,none⟩ (.slice aov nv capv)) R (.int .i64 3) (.string ⟨#[]⟩) (.string ⟨T[k].text.toArray⟩) (.string ⟨([]:Bs).toArray⟩) (.int .i64 (num T[k+1].text)) (.slice none 0 0) (.slice aov nv capv) (.slice none 0 0))
      have hQh:=put_at hQg.out 6 (.slice aov nv capv)
      have hmh:=(Mod.refl (Eq Q) wg).setCell (a:=⟨Q,6,none⟩) (fun _=>rfl) (.slice aov nv capv)
      have hRh:=(put_ne wg (b:=Q) (k:=R) 6 (.slice aov nv capv) (by omega)).trans hRg.out
      generalize (wg.setCell ⟨Q,6,none⟩ (.slice aov nv capv))=wh at hQh hmh hRh ⊢
      have hRz:=put8_at (x0:=.int .i64 3) (x1:=.string ⟨#[]⟩) (x2:=.string ⟨T[k].text.toArray⟩) (x3:=.string ⟨([]:Bs).toArray⟩) (x4:=.int .i64 (num T[k+1].text)) (x5:=.slice none 0 0) (x6:=.slice aov nv capv) (x7:=.slice none 0 0) hRh
      have hmz:=put8_mod wh R (.int .i64 3) (.string ⟨#[]⟩) (.string ⟨T[k].text.toArray⟩) (.string ⟨([]:Bs).toArray⟩) (.int .i64 (num T[k+1].text)) (.slice none 0 0) (.slice aov nv capv) (.slice none 0 0)
      generalize (put8 wh R (.int .i64 3) (.string ⟨#[]⟩) (.string ⟨T[k].text.toArray⟩) (.string ⟨([]:Bs).toArray⟩) (.int .i64 (num T[k+1].text)) (.slice none 0 0) (.slice aov nv capv) (.slice none 0 0))=wz at hRz hmz ⊢
      refine bodyPost_ret (results_cell_row rfl _ _ R _ _ _ _ rfl hRz Tryz.underlying673 rfl node_size) rfl ?_
      rw [hpost.out]
      have hRR:=hR.out
      have hzz:Mod (fun j=>j=Q \/ j=R) wg wz:=(hmh.mono (fun _ h=>.inl h.symm)).then hmz (fun _ _ h=>.inr h.symm)
      have hrdz:=hrdg.out.mod hzz (by omega) (fun b off e e'=>rd_old h.out (by omega) b off e (by omega))
      have hnz:=(hnv.out.mod hzz (fun j hj e=>by have:=hj.1;omega)).mono (F':=Since w wz) (fun j hj=>⟨by have:=hj.1;omega,by have:=hj.2;have:=hzz.size;omega⟩)
      refine .inl ⟨_,k',_,?_,by omega,rfl,⟨⟨3,[],T[k].text,[],num T[k+1].text,.slice none 0 0,.slice aov nv capv,.slice none 0 0⟩,rfl,.mk ⟨3,[],T[k].text,[],num T[k+1].text,.slice none 0 0,.slice aov nv capv,.slice none 0 0⟩ [] l [] (StrsAt.nil _ _) hnz (NodesAt.nil _ _)⟩,hrdz,hmwg.out.then hzz (fun j hj e=>by omega)⟩
      rw [hsp.out]
      simp only [loopT,hsp7.out,hl.out,bind,Except.bind]
     ·go_wp2_with fail
      refine ⟨rfl,?_⟩
      rw [hpost.out]
      refine .inr ⟨a,?_,rfl,((hmwe.out.then hxf (fun _ _ h=>h.elim)).trans hmg)⟩
      rw [hsp.out]
      simp only [loopT,hsp7.out,ha,bind,Except.bind]
    ·go_wp2_with fail
     refine ⟨rfl,?_⟩
     rw [hpost.out]
     refine .inr ⟨a,?_,rfl,hmd.out.then hxe (fun _ _ h=>h.elim)⟩
     rw [hsp.out]
     simp only [loopT,ha,bind,Except.bind]
   | false=>
    have hsp:Hid (loopS sz (fuel+1) depth (T.drop k)=loopT sz fuel depth T[k].text [] 0 (T.drop (k+1))):=hid (by
     rw [loopS_eq sz fuel depth (need_hit hk hkd.out),h4'.out,cnt_no h3])
    replace h3:=hid h3
    have hRd:=hxd.at hRc (fun h=>h)
    have hQd:=hxd.at hQc (fun h=>h)
    have hrdd:=hrdc.ext hxd
    have hmd:=hid (hmwc.out.then hxd (fun _ _ h=>h.elim))
    replace hrdc:=hid hrdc
    replace hRc:=hid hRc
    replace hQc:=hid hQc
    clear hxd
    go_wp2_with fail
    refine (need_any 7 _ hrdd).mono ?_
    rintro e we (⟨hk7,hkd7,rfl,hrde,hme⟩ | ⟨a,ha,rfl,hxe⟩)
    ·have hsp7:=need_hit (sz:=sz) hk7 hkd7
     replace hkd7:=hid hkd7
     have hRe:=hme.at hRd hBR
     have hQe:=hme.at hQd hBQ
     have hmwe:=hid (hmd.out.trans hme)
     replace hQd:=hid hQd
     replace hRd:=hid hRd
     replace hrdd:=hid hrdd
     replace hsp7:=hid hsp7
     clear hme
     go_wp2_with fail
     have hxf:=Mod.alloc (Mod.refl (fun _=>False) we) (.cells #[.string ⟨#[101,110,100]⟩] 9)
     have hF:RowIs (we.alloc (.cells #[.string ⟨#[101,110,100]⟩] 9)) (some ⟨we.heap.size,0,none⟩) ([wEnd].flatMap strC):=RowIs.new we [strV wEnd] 9
     have hFT:Thaw (we.alloc (.cells #[.string ⟨#[101,110,100]⟩] 9)) we.heap.size:=⟨_,_,heap_alloc_new we _⟩
     have hsf:(we.alloc (.cells #[.string ⟨#[101,110,100]⟩] 9)).heap.size=we.heap.size+1:=World.size_alloc _ _
     have hBe:=lt_of_at hrde.cell
     have hRee:=lt_of_at hRe
     have hQee:=lt_of_at hQe
     generalize hE:we.heap.size=E at hF hFT hsf hBe hRee hQee ⊢
     generalize (we.alloc (.cells #[.string ⟨#[101,110,100]⟩] 9))=wf at hxf hF hFT hsf ⊢
     replace hE:=hid hE
     replace hsf:=hid hsf
     refine (ih.out B ao cap T sz (k+1+1) depth (.slice (some ⟨E,0,none⟩) 1 1) [wEnd] wf (hrde.ext hxf) hT.out hd ⟨some ⟨E,0,none⟩,1,rfl,hF,fun b off e=>?_,.some hFT _ _⟩ (by decide) (by omega)).mono ?_
     ·injection e with e;injection e with e _ _;omega
     rintro e wg (⟨l,wd',k',v,hl,hkk,rfl,hnv,hrdg,hmg⟩ | ⟨a,ha,rfl,hmg⟩)
     ·have hRg:=hmg.at (hxf.at hRe (fun h=>h)) hBR
      have hQg:=hmg.at (hxf.at hQe (fun h=>h)) hBQ
      obtain ⟨aov,nv,capv,hv⟩:=hnv.slice
      subst hv
      obtain ⟨a0,a1,a2,a3,a4,a5,a6,a7⟩:=cells8 hQg
      obtain ⟨b0,b1,b2,b3,b4,b5,b6,b7⟩:=cells8 hRg
      have z0:=free_of' hQg
      have z1:=free_of' hRg
      have hmwg:=hid ((hmwe.out.then hxf (fun _ _ h=>h.elim)).trans hmg)
      have hRf:=lt_of_at (hxf.at hRe (fun h=>h))
      have hQf:=lt_of_at (hxf.at hQe (fun h=>h))
      have hws:=(hmwe.out.then hxf (fun _ _ h=>h.elim)).size
      replace hl:=hid hl
      replace hRe:=hid hRe
      replace hQe:=hid hQe
      replace hrde:=hid hrde
      replace hrdg:=hid hrdg
      replace hmg:=hid hmg
      replace hRg:=hid hRg
      replace hQg:=hid hQg
      replace hnv:=hid hnv
      go_wp2_with fail
      change bodyPost _ _ _ _ _ (put8 (wg.setCell ⟨Q,6,none⟩ (.slice aov nv capv)) R (.int .i64 3) (.string ⟨#[]⟩) (.string ⟨T[k].text.toArray⟩) (.string ⟨([]:Bs).toArray⟩) (.int .i64 (0)) (.slice none 0 0) (.slice aov nv capv) (.slice none 0 0))
      have hQh:=put_at hQg.out 6 (.slice aov nv capv)
      have hmh:=(Mod.refl (Eq Q) wg).setCell (a:=⟨Q,6,none⟩) (fun _=>rfl) (.slice aov nv capv)
      have hRh:=(put_ne wg (b:=Q) (k:=R) 6 (.slice aov nv capv) (by omega)).trans hRg.out
      generalize (wg.setCell ⟨Q,6,none⟩ (.slice aov nv capv))=wh at hQh hmh hRh ⊢
      have hRz:=put8_at (x0:=.int .i64 3) (x1:=.string ⟨#[]⟩) (x2:=.string ⟨T[k].text.toArray⟩) (x3:=.string ⟨([]:Bs).toArray⟩) (x4:=.int .i64 (0)) (x5:=.slice none 0 0) (x6:=.slice aov nv capv) (x7:=.slice none 0 0) hRh
      have hmz:=put8_mod wh R (.int .i64 3) (.string ⟨#[]⟩) (.string ⟨T[k].text.toArray⟩) (.string ⟨([]:Bs).toArray⟩) (.int .i64 (0)) (.slice none 0 0) (.slice aov nv capv) (.slice none 0 0)
      generalize (put8 wh R (.int .i64 3) (.string ⟨#[]⟩) (.string ⟨T[k].text.toArray⟩) (.string ⟨([]:Bs).toArray⟩) (.int .i64 (0)) (.slice none 0 0) (.slice aov nv capv) (.slice none 0 0))=wz at hRz hmz ⊢
      refine bodyPost_ret (results_cell_row rfl _ _ R _ _ _ _ rfl hRz Tryz.underlying673 rfl node_size) rfl ?_
      rw [hpost.out]
      have hRR:=hR.out
      have hzz:Mod (fun j=>j=Q \/ j=R) wg wz:=(hmh.mono (fun _ h=>.inl h.symm)).then hmz (fun _ _ h=>.inr h.symm)
      have hrdz:=hrdg.out.mod hzz (by omega) (fun b off e e'=>rd_old h.out (by omega) b off e (by omega))
      have hnz:=(hnv.out.mod hzz (fun j hj e=>by have:=hj.1;omega)).mono (F':=Since w wz) (fun j hj=>⟨by have:=hj.1;omega,by have:=hj.2;have:=hzz.size;omega⟩)
      refine .inl ⟨_,k',_,?_,by omega,rfl,⟨⟨3,[],T[k].text,[],0,.slice none 0 0,.slice aov nv capv,.slice none 0 0⟩,rfl,.mk ⟨3,[],T[k].text,[],0,.slice none 0 0,.slice aov nv capv,.slice none 0 0⟩ [] l [] (StrsAt.nil _ _) hnz (NodesAt.nil _ _)⟩,hrdz,hmwg.out.then hzz (fun j hj e=>by omega)⟩
      rw [hsp.out]
      simp only [loopT,hsp7.out,hl.out,bind,Except.bind]
     ·go_wp2_with fail
      refine ⟨rfl,?_⟩
      rw [hpost.out]
      refine .inr ⟨a,?_,rfl,((hmwe.out.then hxf (fun _ _ h=>h.elim)).trans hmg)⟩
      rw [hsp.out]
      simp only [loopT,hsp7.out,ha,bind,Except.bind]
    ·go_wp2_with fail
     refine ⟨rfl,?_⟩
     rw [hpost.out]
     refine .inr ⟨a,?_,rfl,hmd.out.then hxe (fun _ _ h=>h.elim)⟩
     rw [hsp.out]
     simp only [loopT,ha,bind,Except.bind]
 ·go_wp2_with fail
  refine ⟨rfl,?_⟩
  rw [hpost.out]
  refine .inr ⟨a,?_,rfl,((hx1.trans hx2).mono (fun _ h=>h.elim))⟩
  simp only [loopS,ha,bind,Except.bind]
theorem condition_any (fuel:Nat) (ih:ListC fuel) {B:Nat} {ao:Option Addr} {cap:Nat} {T:List Tk} {sz k:Nat} (depth:Nat) (w:World) (h:Rd B ao cap T sz k w) (hT:NumOk T) (hd:depth<=8) (hf:2*(T.length - k)<=fuel):
  Calls Tryz.prog 490 #[.pointer (some ⟨B,0,none⟩),.int .i64 depth] w
   (ResP B ao cap T sz k w (condS sz (fuel+1) depth (T.drop k)) fun nd v w'=>∃ c:NC,v=ncV c/\NodeAt (Since w w') w' c nd):=by
 obtain ⟨post,hpost⟩:∃ post,post=ResP B ao cap T sz k w (condS sz (fuel+1) depth (T.drop k)) (fun nd v w'=>∃ c:NC,v=ncV c/\NodeAt (Since w w') w' c nd):=⟨_,rfl⟩
 rw [<- hpost]
 replace hpost:=hid hpost
 have hBw:=lt_of_at h.cell
 have hsm:=h.small
 replace h:=hid h
 replace hT:=hid hT
 replace ih:=hid ih
 have hfl:=fld_text
 go_enter Tryz.func490,Tryz.ntmps490
 go_wp2_with fail
 have hx1:=Mod.alloc (Mod.refl (fun _=>False) w) (.cells #[.int .i64 0,.string ⟨#[]⟩,.string ⟨#[]⟩,.string ⟨#[]⟩,.int .i64 0,.slice none 0 0,.slice none 0 0,.slice none 0 0] 673)
 have hR0:=heap_alloc_new w (.cells #[.int .i64 0,.string ⟨#[]⟩,.string ⟨#[]⟩,.string ⟨#[]⟩,.int .i64 0,.slice none 0 0,.slice none 0 0,.slice none 0 0] 673)
 have hs1:(w.alloc (.cells #[.int .i64 0,.string ⟨#[]⟩,.string ⟨#[]⟩,.string ⟨#[]⟩,.int .i64 0,.slice none 0 0,.slice none 0 0,.slice none 0 0] 673)).heap.size=w.heap.size+1:=World.size_alloc _ _
 generalize (w.alloc (.cells #[.int .i64 0,.string ⟨#[]⟩,.string ⟨#[]⟩,.string ⟨#[]⟩,.int .i64 0,.slice none 0 0,.slice none 0 0,.slice none 0 0] 673))=w1 at hx1 hR0 hs1 ⊢
 obtain ⟨R,hR⟩:∃ R,R=w.heap.size:=⟨_,rfl⟩
 rw [<- hR] at hR0 hs1 hBw ⊢
 replace hR:=hid hR
 refine (need_any 2 _ (h.out.ext hx1)).mono ?_
 rintro e w2 (⟨hk,hkd,rfl,hrd2,hm2⟩ | ⟨a,ha,rfl,hx2⟩)
 ·replace hkd:=hid hkd
  have hBR:¬ B=R:=by omega
  have hR02:=hm2.at hR0 hBR
  have hmw2:=hx1.mono (T:=Eq B) (fun _ h=>h.elim) |>.trans hm2
  clear hx1 hm2 hR0
  unfold tokV
  go_wp2_with fail
  have hxa:=Mod.alloc (Mod.refl (fun _=>False) w2) (.cells #[.int .i64 4,.string ⟨#[]⟩,.string ⟨T[k].text.toArray⟩,.string ⟨#[]⟩,.int .i64 0,.slice none 0 0,.slice none 0 0,.slice none 0 0] 673)
  have hQa:=heap_alloc_new w2 (.cells #[.int .i64 4,.string ⟨#[]⟩,.string ⟨T[k].text.toArray⟩,.string ⟨#[]⟩,.int .i64 0,.slice none 0 0,.slice none 0 0,.slice none 0 0] 673)
  have hRQ:R < w2.heap.size:=lt_of_at hR02
  generalize hQ:w2.heap.size=Q at hQa hRQ ⊢
  generalize (w2.alloc (.cells #[.int .i64 4,.string ⟨#[]⟩,.string ⟨T[k].text.toArray⟩,.string ⟨#[]⟩,.int .i64 0,.slice none 0 0,.slice none 0 0,.slice none 0 0] 673))=wd at hxa hQa ⊢
  have hBQ:¬ B=Q:=by omega
  have hQR:¬ Q=R:=by omega
  have hRQ':¬ R=Q:=by omega
  have hRd:=hxa.at hR02 (fun h=>h)
  have hQd:=hQa
  have hrdd:=hrd2.ext hxa
  have hmd:=hid (hmw2.then hxa (fun _ _ h=>h.elim))
  replace hQ:=hid hQ
  clear hxa hrd2 hmw2 hR02 hQa
  refine (need_any 7 _ hrdd).mono ?_
  rintro e we (⟨hk7,hkd7,rfl,hrde,hme⟩ | ⟨a,ha,rfl,hxe⟩)
  ·have hsp7:=need_hit (sz:=sz) hk7 hkd7
   replace hkd7:=hid hkd7
   have hRe:=hme.at hRd hBR
   have hQe:=hme.at hQd hBQ
   have hmwe:=hid (hmd.out.trans hme)
   replace hQd:=hid hQd
   replace hRd:=hid hRd
   replace hrdd:=hid hrdd
   replace hsp7:=hid hsp7
   clear hme
   go_wp2_with fail
   have hxf:=Mod.alloc (Mod.refl (fun _=>False) we) (.cells #[.string ⟨#[101,108,115,101]⟩,.string ⟨#[101,110,100]⟩] 9)
   have hF:RowIs (we.alloc (.cells #[.string ⟨#[101,108,115,101]⟩,.string ⟨#[101,110,100]⟩] 9)) (some ⟨we.heap.size,0,none⟩) ([wElse,wEnd].flatMap strC):=RowIs.new we [strV wElse,strV wEnd] 9
   have hFT:Thaw (we.alloc (.cells #[.string ⟨#[101,108,115,101]⟩,.string ⟨#[101,110,100]⟩] 9)) we.heap.size:=⟨_,_,heap_alloc_new we _⟩
   have hsf:(we.alloc (.cells #[.string ⟨#[101,108,115,101]⟩,.string ⟨#[101,110,100]⟩] 9)).heap.size=we.heap.size+1:=World.size_alloc _ _
   have hBe:=lt_of_at hrde.cell
   have hRee:=lt_of_at hRe
   have hQee:=lt_of_at hQe
   generalize hE:we.heap.size=E at hF hFT hsf hBe hRee hQee ⊢
   generalize (we.alloc (.cells #[.string ⟨#[101,108,115,101]⟩,.string ⟨#[101,110,100]⟩] 9))=wf at hxf hF hFT hsf ⊢
   replace hE:=hid hE
   replace hsf:=hid hsf
   refine (ih.out B ao cap T sz (k+1+1) depth (.slice (some ⟨E,0,none⟩) 2 2) [wElse,wEnd] wf (hrde.ext hxf) hT.out hd ⟨some ⟨E,0,none⟩,2,rfl,hF,fun b off e=>?_,.some hFT _ _⟩ (by decide) (by omega)).mono ?_
   ·injection e with e;injection e with e _ _;omega
   rintro e wg (⟨l,wd',k',v,hl,hkk,rfl,hnv,hrdg,hmg⟩ | ⟨a,ha,rfl,hmg⟩)
   ·have hRg:=hmg.at (hxf.at hRe (fun h=>h)) hBR
    have hQg:=hmg.at (hxf.at hQe (fun h=>h)) hBQ
    obtain ⟨aov,nv,capv,hv⟩:=hnv.slice
    subst hv
    obtain ⟨a0,a1,a2,a3,a4,a5,a6,a7⟩:=cells8 hQg
    obtain ⟨b0,b1,b2,b3,b4,b5,b6,b7⟩:=cells8 hRg
    have z0:=free_of' hQg
    have z1:=free_of' hRg
    have hmwg:=hid ((hmwe.out.then hxf (fun _ _ h=>h.elim)).trans hmg)
    have hRf:=lt_of_at (hxf.at hRe (fun h=>h))
    have hQf:=lt_of_at (hxf.at hQe (fun h=>h))
    have hws:=(hmwe.out.then hxf (fun _ _ h=>h.elim)).size
    have hBg:=lt_of_at hrdg.cell
    have hgs:=hmg.size
    replace hl:=hid hl
    replace hRe:=hid hRe
    replace hQe:=hid hQe
    replace hrde:=hid hrde
    replace hrdg:=hid hrdg
    replace hmg:=hid hmg
    replace hRg:=hid hRg
    replace hQg:=hid hQg
    replace hnv:=hid hnv
    have hbeq:(wd'==[101,108,115,101])=decide (wd'=wElse):=by rw [Bool.eq_iff_iff,decide_eq_true_eq,beq_iff_eq];rfl
    cases hw:decide (wd'=wElse) with
    | true=>
     rw [hw] at hbeq
     rw [decide_eq_true_eq] at hw
     replace hw:=hid hw
     go_wp2_with fail
     clear a0 a1 a2 a3 a4 a5 a6 a7 b0 b1 b2 b3 b4 b5 b6 b7 z0 z1
     have hQh:=put_at hQg.out 6 (.slice aov nv capv)
     have hmh:=(Mod.refl (Eq Q) wg).setCell (a:=⟨Q,6,none⟩) (fun _=>rfl) (.slice aov nv capv)
     have hRh:=(put_ne wg (b:=Q) (k:=R) 6 (.slice aov nv capv) (by omega)).trans hRg.out
     simp only [sA,sZ,sS] at hQh
     have hxi:=Mod.alloc (Mod.refl (fun _=>False) (wg.setCell ⟨Q,6,none⟩ (.slice aov nv capv))) (.cells #[.string ⟨#[101,110,100]⟩] 9)
     have hI:RowIs ((wg.setCell ⟨Q,6,none⟩ (.slice aov nv capv)).alloc (.cells #[.string ⟨#[101,110,100]⟩] 9)) (some ⟨(wg.setCell ⟨Q,6,none⟩ (.slice aov nv capv)).heap.size,0,none⟩) ([wEnd].flatMap strC):=RowIs.new _ [strV wEnd] 9
     have hIT:Thaw ((wg.setCell ⟨Q,6,none⟩ (.slice aov nv capv)).alloc (.cells #[.string ⟨#[101,110,100]⟩] 9)) wg.heap.size:=by
      have h9:=heap_alloc_new (wg.setCell ⟨Q,6,none⟩ (.slice aov nv capv)) (.cells #[.string ⟨#[101,110,100]⟩] 9)
      have e9:(wg.setCell ⟨Q,6,none⟩ (.slice aov nv capv)).heap.size=wg.heap.size:=by simp [World.setCell]
      rw [e9] at h9
      exact ⟨_,_,h9⟩
     have hhs:(wg.setCell ⟨Q,6,none⟩ (.slice aov nv capv)).heap.size=wg.heap.size:=by simp [World.setCell]
     have hsi:((wg.setCell ⟨Q,6,none⟩ (.slice aov nv capv)).alloc (.cells #[.string ⟨#[101,110,100]⟩] 9)).heap.size=(wg.setCell ⟨Q,6,none⟩ (.slice aov nv capv)).heap.size+1:=World.size_alloc _ _
     rw [hhs] at hI hsi
     have hRi:=hxi.at hRh (fun h=>h)
     have hQi:=hxi.at hQh (fun h=>h)
     have hmi:Mod (Eq Q) wg ((wg.setCell ⟨Q,6,none⟩ (.slice aov nv capv)).alloc (.cells #[.string ⟨#[101,110,100]⟩] 9)):=hmh.then hxi (fun _ _ h=>h.elim)
     clear hmh hxi hQh hRh hhs
     first | generalize ((wg.setCell ⟨Q,6,none⟩ (.slice aov nv capv)).alloc (.cells #[.string ⟨#[101,110,100]⟩] 9))=wi at hI hIT hsi hRi hQi hmi ⊢ | (trace_state;exact test_gen)
     generalize hI':wg.heap.size=I at hI hIT hsi hBg hgs ⊢
     replace hI':=hid hI'
     replace hsi:=hid hsi
     have hRR:=hR.out
     have hrdi:=hrdg.out.mod hmi (by omega) (fun b off e e'=>rd_old h.out (by omega) b off e (by omega))
     refine (ih.out B ao cap T sz k' depth (.slice (some ⟨I,0,none⟩) 1 1) [wEnd] wi hrdi hT.out hd ⟨some ⟨I,0,none⟩,1,rfl,hI,fun b off e=>?_,.some hIT _ _⟩ (by decide) (by omega)).mono ?_
     ·injection e with e;injection e with e _ _;omega
     rintro e wj (⟨l2,wd2,k2,v2,hl2,hkk2,rfl,hnv2,hrdj,hmj⟩ | ⟨a,ha,rfl,hmj⟩)
     ·have hRj:=hmj.at hRi hBR
      have hQj:=hmj.at hQi hBQ
      obtain ⟨aou,nu,capu,hv⟩:=hnv2.slice
      subst hv
      obtain ⟨a0,a1,a2,a3,a4,a5,a6,a7⟩:=cells8 hQj
      obtain ⟨b0,b1,b2,b3,b4,b5,b6,b7⟩:=cells8 hRj
      have z0:=free_of' hQj
      have z1:=free_of' hRj
      have hQiw:=lt_of_at hQi
      have hRiw:=lt_of_at hRi
      replace hRi:=hid hRi
      replace hQi:=hid hQi
      replace hrdi:=hid hrdi
      replace hrdj:=hid hrdj
      replace hmj:=hid hmj
      replace hmi:=hid hmi
      replace hRj:=hid hRj
      replace hQj:=hid hQj
      replace hnv2:=hid hnv2
      replace hl2:=hid hl2
      replace hRR:=hid hRR
      go_wp2_with fail
      change bodyPost _ _ _ _ _ (put8 (wj.setCell ⟨Q,7,none⟩ (.slice aou nu capu)) R (.int .i64 4) (.string ⟨#[]⟩) (.string ⟨T[k].text.toArray⟩) (.string ⟨#[]⟩) (.int .i64 0) (.slice none 0 0) (.slice aov nv capv) (.slice aou nu capu))
      have hQh:=put_at hQj.out 7 (.slice aou nu capu)
      have hmh:=(Mod.refl (Eq Q) wj).setCell (a:=⟨Q,7,none⟩) (fun _=>rfl) (.slice aou nu capu)
      have hRh:=(put_ne wj (b:=Q) (k:=R) 7 (.slice aou nu capu) (by omega)).trans hRj.out
      generalize (wj.setCell ⟨Q,7,none⟩ (.slice aou nu capu))=wh at hQh hmh hRh ⊢
      have hRz:=put8_at (x0:=.int .i64 4) (x1:=.string ⟨#[]⟩) (x2:=.string ⟨T[k].text.toArray⟩) (x3:=.string ⟨#[]⟩) (x4:=.int .i64 0) (x5:=.slice none 0 0) (x6:=.slice aov nv capv) (x7:=.slice aou nu capu) hRh
      have hmz:=put8_mod wh R (.int .i64 4) (.string ⟨#[]⟩) (.string ⟨T[k].text.toArray⟩) (.string ⟨#[]⟩) (.int .i64 0) (.slice none 0 0) (.slice aov nv capv) (.slice aou nu capu)
      generalize (put8 wh R (.int .i64 4) (.string ⟨#[]⟩) (.string ⟨T[k].text.toArray⟩) (.string ⟨#[]⟩) (.int .i64 0) (.slice none 0 0) (.slice aov nv capv) (.slice aou nu capu))=wz at hRz hmz ⊢
      refine bodyPost_ret (results_cell_row rfl _ _ R _ _ _ _ rfl hRz Tryz.underlying673 rfl node_size) rfl ?_
      rw [hpost.out]
      have hRR:=hR.out
      have hII:=hI'.out
      have hss:=hsi.out
      have hzz:Mod (fun j=>j=Q \/ j=R) wj wz:=(hmh.mono (fun _ h=>.inl h.symm)).then hmz (fun _ _ h=>.inr h.symm)
      have hgi:Mod (fun j=>j=B \/ j=Q) wg wj:=(hmi.out.mono (fun _ h=>.inr h.symm)).then hmj.out (fun _ _ h=>.inl h.symm)
      have hrdz:=hrdj.out.mod hzz (by omega) (fun b off e e'=>rd_old h.out (by omega) b off e (by omega))
      have hn1:=((hnv.out.mod hgi (fun j hj e=>by have:=hj.1;omega)).mod hzz (fun j hj e=>by have:=hj.1;omega)).mono (F':=Since w wz) (fun j hj=>⟨by have:=hj.1;omega,by have:=hj.2;have:=hzz.size;have:=hgi.size;omega⟩)
      have hn2:=(hnv2.out.mod hzz (fun j hj e=>by have:=hj.1;omega)).mono (F':=Since w wz) (fun j hj=>⟨by have:=hj.1;have:=hmi.out.size;omega,by have:=hj.2;have:=hzz.size;omega⟩)
      refine .inl ⟨_,k2,_,?_,by omega,rfl,⟨⟨4,[],T[k].text,[],0,.slice none 0 0,.slice aov nv capv,.slice aou nu capu⟩,rfl,.mk ⟨4,[],T[k].text,[],0,.slice none 0 0,.slice aov nv capv,.slice aou nu capu⟩ [] l l2 (StrsAt.nil _ _) hn1 hn2⟩,hrdz,(hmwg.out.then hgi (fun j hj e=>by omega)).then hzz (fun j hj e=>by omega)⟩
      simp only [condS,need_hit (sz:=sz) hk hkd.out,hsp7.out,hl.out,if_pos hw.out,hl2.out,bind,Except.bind]
     ·go_wp2_with fail
      refine ⟨rfl,?_⟩
      rw [hpost.out]
      refine .inr ⟨a,?_,rfl,(hmwg.out.then hmi (fun j hj e=>by omega)).trans hmj⟩
      simp only [condS,need_hit (sz:=sz) hk hkd.out,hsp7.out,hl.out,if_pos hw.out,ha,bind,Except.bind]
    | false=>
     rw [hw] at hbeq
     rw [decide_eq_false_iff_not] at hw
     replace hw:=hid hw
     go_wp2_with fail
     change bodyPost _ _ _ _ _ (put8 (wg.setCell ⟨Q,6,none⟩ (.slice aov nv capv)) R (.int .i64 4) (.string ⟨#[]⟩) (.string ⟨T[k].text.toArray⟩) (.string ⟨#[]⟩) (.int .i64 0) (.slice none 0 0) (.slice aov nv capv) (.slice none 0 0))
     have hQh:=put_at hQg.out 6 (.slice aov nv capv)
     have hmh:=(Mod.refl (Eq Q) wg).setCell (a:=⟨Q,6,none⟩) (fun _=>rfl) (.slice aov nv capv)
     have hRh:=(put_ne wg (b:=Q) (k:=R) 6 (.slice aov nv capv) (by omega)).trans hRg.out
     generalize (wg.setCell ⟨Q,6,none⟩ (.slice aov nv capv))=wh at hQh hmh hRh ⊢
     have hRz:=put8_at (x0:=.int .i64 4) (x1:=.string ⟨#[]⟩) (x2:=.string ⟨T[k].text.toArray⟩) (x3:=.string ⟨#[]⟩) (x4:=.int .i64 0) (x5:=.slice none 0 0) (x6:=.slice aov nv capv) (x7:=.slice none 0 0) hRh
     have hmz:=put8_mod wh R (.int .i64 4) (.string ⟨#[]⟩) (.string ⟨T[k].text.toArray⟩) (.string ⟨#[]⟩) (.int .i64 0) (.slice none 0 0) (.slice aov nv capv) (.slice none 0 0)
     generalize (put8 wh R (.int .i64 4) (.string ⟨#[]⟩) (.string ⟨T[k].text.toArray⟩) (.string ⟨#[]⟩) (.int .i64 0) (.slice none 0 0) (.slice aov nv capv) (.slice none 0 0))=wz at hRz hmz ⊢
     refine bodyPost_ret (results_cell_row rfl _ _ R _ _ _ _ rfl hRz Tryz.underlying673 rfl node_size) rfl ?_
     rw [hpost.out]
     have hRR:=hR.out
     have hzz:Mod (fun j=>j=Q \/ j=R) wg wz:=(hmh.mono (fun _ h=>.inl h.symm)).then hmz (fun _ _ h=>.inr h.symm)
     have hrdz:=hrdg.out.mod hzz (by omega) (fun b off e e'=>rd_old h.out (by omega) b off e (by omega))
     have hnz:=(hnv.out.mod hzz (fun j hj e=>by have:=hj.1;omega)).mono (F':=Since w wz) (fun j hj=>⟨by have:=hj.1;omega,by have:=hj.2;have:=hzz.size;omega⟩)
     refine .inl ⟨_,k',_,?_,by omega,rfl,⟨⟨4,[],T[k].text,[],0,.slice none 0 0,.slice aov nv capv,.slice none 0 0⟩,rfl,.mk ⟨4,[],T[k].text,[],0,.slice none 0 0,.slice aov nv capv,.slice none 0 0⟩ [] l [] (StrsAt.nil _ _) hnz (NodesAt.nil _ _)⟩,hrdz,hmwg.out.then hzz (fun j hj e=>by omega)⟩
     simp only [condS,need_hit (sz:=sz) hk hkd.out,hsp7.out,hl.out,if_neg hw.out,bind,Except.bind]
   ·go_wp2_with fail
    refine ⟨rfl,?_⟩
    rw [hpost.out]
    refine .inr ⟨a,?_,rfl,((hmwe.out.then hxf (fun _ _ h=>h.elim)).trans hmg)⟩
    simp only [condS,need_hit (sz:=sz) hk hkd.out,hsp7.out,ha,bind,Except.bind]
  ·go_wp2_with fail
   refine ⟨rfl,?_⟩
   rw [hpost.out]
   refine .inr ⟨a,?_,rfl,hmd.out.then hxe (fun _ _ h=>h.elim)⟩
   simp only [condS,need_hit (sz:=sz) hk hkd.out,ha,bind,Except.bind]
 ·go_wp2_with fail
  refine ⟨rfl,?_⟩
  rw [hpost.out]
  refine .inr ⟨a,?_,rfl,((hx1.trans hx2).mono (fun _ h=>h.elim))⟩
  simp only [condS,ha,bind,Except.bind]
end Go.Proofs.YtcopgcdhkgenkaaGreatDoor.Ps
