import Derived.Test.YtcopgcdhkgenkaaGreatDoorPK12
import Derived.Deep.AppendLies
set_option linter.all false
set_option maxRecDepth 100000
set_option maxHeartbeats 16000000
namespace Go.Proofs.YtcopgcdhkgenkaaGreatDoor.Ps
open Go.RowKit Cdk Tpl
theorem el42:El Tryz.prog 673 (.agg #[.int .i64 0,.string .empty,.string .empty,.string .empty,.int .i64 0,.slice none 0 0,.slice none 0 0,.slice none 0 0]) 8 136:=⟨by kernel_rfl,rfl,by decide,by decide⟩
structure Acc (R:Nat) (w:World) (v:Value) (rows:List NC) (acc:List Nd):Prop where
 own:Cdk.Own w R 673 8 ncC v rows
 at_:RowsAt (fun j=>R<=j/\j < w.heap.size/\v.ownBlock ≠ some j) w rows acc
theorem Acc.mod {R:Nat} {S:Nat -> Prop} {w w':World} {v:Value} {rows:List NC} {acc:List Nd} (h:Acc R w v rows acc) (hm:Mod S w w') (hS:∀ j,S j -> j < R):Acc R w' v rows acc:=
 ⟨h.own.mod hm (fun k hk hs=>by have:=(h.own.block k hk).1;have:=hS k hs;omega),(h.at_.mod hm (fun k hk hs=>by have:=hk.1;have:=hS k hs;omega)).mono (fun k hk=>⟨hk.1,by have:=hk.2.1;have:=hm.size;omega,hk.2.2⟩)⟩
theorem Acc.nodes {R:Nat} {w:World} {v:Value} {rows:List NC} {acc:List Nd} (h:Acc R w v rows acc):NodesAt (fun j=>R<=j/\j < w.heap.size) w v acc:=by
 have ho:=h.own;obtain ⟨ao,cap,rfl,hr,hb⟩:=h.own.row;exact .mk ao cap rows acc hr (fun b off e=>h.own.block b (hb b off e)) (h.at_.mono (fun k hk=>⟨hk.1,hk.2.1⟩)) (Own.capOk ho)
theorem NodeAt.form {F:Nat -> Prop} {w:World} {c:NC} {n:Nd} (h:NodeAt F w c n):∃ kd tx nm ar ct a1 m1 c1 a2 m2 c2 a3 m3 c3,c=⟨kd,tx,nm,ar,ct,.slice a1 m1 c1,.slice a2 m2 c2,.slice a3 m3 c3⟩:=by
 cases h with
 | mk c fl ks es h1 h2 h3=>
  obtain ⟨a1,m1,c1,e1⟩:=h1.slice;obtain ⟨a2,m2,c2,e2⟩:=h2.slice;obtain ⟨a3,m3,c3,e3⟩:=h3.slice;obtain ⟨kd,tx,nm,ar,ct,f,k,e⟩:=c;simp only at e1 e2 e3;subst e1;subst e2;subst e3;exact ⟨kd,tx,nm,ar,ct,a1,m1,c1,a2,m2,c2,a3,m3,c3,rfl⟩
theorem wpList_snoc {w:World} {R:Nat} {rows:List NC} {acc:List Nd} {aov:Option Addr} {n capv:Nat} {ops:Array Oper} {rest:List Oper} {o:Oper} {a:Act} {Q:Exit -> Act -> World -> Prop} (hg:o.guard=none) (s x:Operand)
  (ho:o.op=.call { callee:=.builtin .append,args:=#[s,x],argTypes:=#[516,516] }) (c:NC) (nd:Nd) (hs:a.eval s=.slice aov n capv) (hacc:Acc R w (.slice aov n capv) rows acc) (hlen:rows.length<=100000)
  (hn:NodeAt (fun j=>R<=j/\j < w.heap.size/\(Value.slice aov n capv).ownBlock ≠ some j) w c nd) (hR:R<=w.heap.size) (hx:a.eval x=.slice (some ⟨w.heap.size,0,none⟩) 1 1)
  (hK:∀ g cap w',Hid (Acc R w' (.slice (some ⟨g,0,none⟩) (rows++[c]).length cap) (rows++[c]) (acc++[nd])/\Mod (fun j=>R<=j) w w') -> wpList Tryz.prog ops Q rest (a.put o.dst (.slice (some ⟨g,0,none⟩) (rows++[c]).length cap)) w'):
  wpList Tryz.prog ops Q (o::rest) a (w.alloc (.cells (ncC c).toArray 673)):=by
 obtain ⟨i0,hi,hz0,hz1,hz2⟩:=info_parts el42.row;have hx1:=Mod.alloc (Mod.refl (fun _=>False) w) (.cells (ncC c).toArray 673);have hrow:=RowIs.new w (ncC c) 673;have hown:=hacc.own.ext hx1;have hs1:(w.alloc (.cells (ncC c).toArray 673)).heap.size=w.heap.size+1:=World.size_alloc _ _;refine wpList_append_lies (P:=Tryz.prog) (w.alloc (.cells (ncC c).toArray 673)) hg s x _ ho R 673 i0 _ 8 136 Tryz.underlying516 hi hz0 hz1 hz2 el42.cells el42.pos _ rows.length (rows.flatMap ncC) hs hown ⟨w.heap.size,0,none⟩ 1 1 (ncC c) hx rfl (fun j u hu=>?_) hn.one (by decide) (by simp only [maxLen];omega) (by omega) (by omega) _ rfl (fun g cap w' h2 h3 h4 h5=>?_)
 ·obtain ⟨b,off,e,hc⟩:=hrow j u hu
  simp only [Option.some.injEq,Addr.mk.injEq,and_true] at e;obtain ⟨e1,e2⟩:=e;subst e1;subst e2;rw [Addr.add_lit];exact hc
 ·have hl:(rows++[c]).length=rows.length+1:=by simp
  have hO:Cdk.Own w' R 673 8 ncC (.slice (some ⟨g,0,none⟩) (rows.length+1) cap) (rows++[c]):=by
   unfold Cdk.Own;rw [hl,List.flatMap_append];simpa using h2
  have hMm:Mod (fun k=>(Value.slice aov n capv).ownBlock=some k) (w.alloc (.cells (ncC c).toArray 673)) w':=Mod.ofGrown h3 (fun k hk=>hk);rw [hl] at hK;refine hK g cap w' ⟨⟨hO,?_⟩,(hx1.mono (fun _ h=>h.elim)).trans (hMm.mono (fun j hj=>(hacc.own.block j hj).1))⟩;have h6:=((hacc.at_.snoc hn).mod hx1 (fun _ _ h=>h)).mod hMm (fun k hk=>hk.2.2);refine h6.mono (fun k hk=>⟨hk.1,by have:=hk.2.1;have:=hMm.size;omega,fun e=>?_⟩);have e':g=k:=by simpa [Value.ownBlock] using e
  rcases h4 with h4 | h4
  ·exact hk.2.2 (e' ▸ h4)
  ·have:=hk.2.1;omega
theorem row_keep {S:Nat -> Prop} {w w1 w2:World} {ao:Option Addr} {cs:List Value} (h0:RowIs w ao cs) (h:RowIs w1 ao cs) (hm:Mod S w1 w2) (hS:∀ b,S b -> w.heap.size<=b):RowIs w2 ao cs:=by
 intro j u hu;obtain ⟨b,off,e,hc⟩:=h j u hu;obtain ⟨b',off',e',hc'⟩:=h0 j u hu;have h1:=World.block_lt_of_cell? w _ hc';rw [e] at e';injection e' with e';injection e' with e' _ _
 exact ⟨b,off,e,hm.cell hc (fun s=>by have:=hS b s;simp only at h1;omega)⟩
def tagS (sz f depth:Nat) (words:List Bs) (acc:List Nd) (o n:Tk) (r2:List Tk):Except Nat (List Nd × Bs × List Tk):=
 if n.text=wElse \/ n.text=wEnd then
  if n.text ∈ words then do
   let (_,r3) <- Tpl.need sz 7 r2
   .ok (acc,n.text,r3)
  else .error n.off
 else if n.text=wFor \/ n.text=wIf then
  if depth=8 then .error o.off
  else do
   let (nd,r3) <- if n.text=wFor then loopS sz f (depth+1) r2 else condS sz f (depth+1) r2
   listS sz f depth words r3 (acc++[nd])
 else if n.text=wInclude then do
  let (m,r3) <- Tpl.need sz 2 r2
  let (_,r4) <- Tpl.need sz 7 r3
  listS sz f depth words r4 (acc++[.mk 5 [] m.text [] 0 [] [] []])
 else do
  let (fl,r4) <- fieldS sz f r2
  listS sz f depth words r4 (acc++[.mk 2 [] n.text [] 0 fl [] []])
theorem listS_text {sz f depth:Nat} {words:List Bs} {acc:List Nd} {t:Tk} {r:List Tk} (h:t.kind=1):listS sz (f+1) depth words (t::r) acc=listS sz f depth words r (acc++[.mk 1 t.text [] [] 0 [] [] []]):=by
 simp only [listS,if_pos h]
theorem listS_tag {sz f depth:Nat} {words:List Bs} {acc:List Nd} {t:Tk} {r:List Tk} (h:t.kind ≠ 1):listS sz (f+1) depth words (t::r) acc=(do
  let (o,r1) <- Tpl.need sz 6 (t::r)
  let (n,r2) <- Tpl.need sz 2 r1
  tagS sz f depth words acc o n r2):=by
 simp only [listS,if_neg h,tagS,fieldS];cases Tpl.need sz 6 (t::r) with
 | error a=>rfl
 | ok x=>
  obtain ⟨o,r1⟩:=x;simp only [bind,Except.bind];cases Tpl.need sz 2 r1 with
  | error a=>rfl
  | ok y=>
   obtain ⟨n,r2⟩:=y;simp only [];split
   ·rfl
   ·split
    ·rfl
    ·split
     ·rfl
     ·cases filtersS sz f r2 [] with
      | error a=>rfl
      | ok z=>
       obtain ⟨fl,r3⟩:=z;simp only [];cases Tpl.need sz 7 r3 with
       | error a=>rfl
       | ok z=>rfl
theorem list_end {sz f depth:Nat} {words:List Bs} {acc:List Nd} (h:0 < f):listS sz f depth words [] acc=if words.isEmpty then .ok (acc,[],[]) else .error sz:=by
 cases f with
 | zero=>omega
 | succ f=>simp only [listS]
theorem list_step (fuel:Nat) (ih:∀ f,f < fuel -> ListC f):ListC fuel:=by
 intro B ao cap T sz k depth vw words w h hT hd hw hwl hf;obtain ⟨post,hpost⟩:∃ post,post=ListP B ao cap T sz k w (listS sz fuel depth words (T.drop k) []):=⟨_,rfl⟩;rw [<- hpost];replace hpost:=hid hpost;obtain ⟨aow,capw,rfl,hwr,hwb,-⟩:=hw;have hBw:=lt_of_at h.cell;have hsm:=h.small;replace h:=hid h;replace hT:=hid hT;replace ih:=hid ih;replace hwr:=hid hwr;have hwr0:=hwr;replace hwb:=hid hwb;have hfl:=fld_text;go_enter Tryz.func399,Tryz.ntmps399;go_wp2_with fail
 obtain ⟨R,hR⟩:∃ R,R=w.heap.size:=⟨_,rfl⟩;rw [<- hR] at hBw;replace hR:=hid hR
 go_loopg [8] (T.length - k) (fun g e wr=>∃ (k' f:Nat) (acc:List Nd) (rows:List NC),k<=k'/\2*(T.length - k')+1<=f/\f<=fuel/\g=T.length - k'/\rows.length<=k'/\listS sz fuel depth words (T.drop k) []=listS sz f depth words (T.drop k') acc/\(∃ aov capv,e=.slice aov rows.length capv)/\Acc R wr e rows acc ∧
  Rd B ao cap T sz k' wr/\RowIs wr aow (words.flatMap strC)/\Mod (Eq B) w wr)
 case atStart=>exact ⟨k,fuel,[],[],Nat.le_refl _,hf,Nat.le_refl _,rfl,Nat.zero_le _,rfl,⟨none,0,rfl⟩,⟨Cdk.Own.nil _ _ _ _ _,.nil⟩,h.out,hwr.out,Mod.refl _ _⟩
 case round=>
  obtain ⟨k',f,acc,rows,hkk,hf',hff,hg,hal,hls,⟨aov,capv,rfl⟩,hacc,hrd,hwr',hm⟩:=hrel;have hkT:=hrd.le;replace hls:=hid hls;replace hg:=hid hg;replace hm:=hid hm;replace hacc:=hid hacc;clear hwr;replace hwr:=hid hwr';clear hwr';have hRr:R<=wr.heap.size:=by have:=hm.out.size;have:=hR.out;omega
  have c0:wr.cell? ⟨B,0,none⟩=some (.slice ao T.length cap):=cell_of' hrd.cell 0;have c1:wr.cell? ⟨B,1,none⟩=some (.int .i64 k'):=cell_of' hrd.cell 1;have c2:wr.cell? ⟨B,2,none⟩=some (.int .i64 sz):=cell_of' hrd.cell 2
  by_cases hk:k' < T.length
  ·have hd1:decide ((k':Int) < (T.length:Int))=true:=decide_eq_true (by omega)
   have hd2:(k':Int) < (T.length:Int):=by omega
   replace hrd:=hid hrd;go_wp2_with fail
   go_quiet (fail)
   go_wp2_with fail
   clear c0 c1 c2;have hxd:=(Mod.refl (fun _=>False) wr).ofDrewN nq;generalize wr.drewN nq=wa at hxd ⊢;refine (more_any 1 _ (hrd.out.ext hxd)).mono ?_;rintro e wb ⟨rfl,hxb⟩;replace hxb:=hxd.trans hxb;clear hxd;have hrdb:=hrd.out.ext hxb;have haccb:=hid (hacc.out.mod hxb (fun _ h=>h.elim));have hwrb:=hid (hwr.out.ext hxb);have hmb:=hid (hm.out.then hxb (fun _ _ h=>h.elim));have hRb:R<=wb.heap.size:=Nat.le_trans hRr hxb.size;clear hxb hacc hwr hm hrd;cases h1:moreB 1 (T.drop k') with
   | true=>
    obtain ⟨hk1,hkd1⟩:=more_hit h1;replace h1:=hid h1;go_wp2_with fail
    refine (need_ok 1 _ hrdb hk hkd1).mono ?_;rintro e wc ⟨rfl,hrdc,hmc⟩;replace hkd1:=hid hkd1;replace hrdb:=hid hrdb;have haccc:=haccb.out.mod hmc (fun j hj=>by omega);have hwrc:=hid (hwrb.out.mod hmc (fun b off e e'=>hwb.out b off e e'.symm));have hmwc:=hid (hmb.out.trans hmc);have hRc:R<=wc.heap.size:=Nat.le_trans hRb hmc.size;clear hmc haccb hwrb hmb;unfold tokV;have hn:=NodeAt.mk (F:=fun j=>R<=j/\j < wc.heap.size/\(Value.slice aov rows.length capv).ownBlock ≠ some j) (w:=wc) ⟨1,T[k'].text,[],[],0,.slice none 0 0,.slice none 0 0,.slice none 0 0⟩ [] [] [] (StrsAt.nil _ _) (NodesAt.nil _ _) (NodesAt.nil _ _);replace hn:=hid hn;replace haccc:=hid haccc;replace hrdc:=hid hrdc;go_wp2_with (at_builtin;refine wpList_snoc rfl _ _ rfl _ _ rfl haccc.out (by omega) hn.out hRc rfl (fun g6 cap6 w6 H6=>?_);go_frame)
    have hsp:Hid (listS sz f depth words (T.drop k') acc=listS sz (f - 1) depth words (T.drop (k'+1)) (acc++[.mk 1 T[k'].text [] [] 0 [] [] []])):=hid (by
     cases f with
     | zero=>omega
     | succ f=>rw [drop_tok hk,listS_text hkd1.out];rfl)
    go_roundg (T.length - (k'+1))
    case measure=>have:=hg.out;omega
    case rel=>
     obtain ⟨hA6,hM6⟩:=H6.out;have hRR:=hR.out;have hrd6:=hrdc.out.mod hM6 (by omega) (fun b off e e'=>rd_old h.out (by omega) b off e (by omega));have hwr6:=row_keep hwr0.out hwrc.out hM6 (fun b e=>by omega);refine ⟨k'+1,f - 1,_,_,by omega,by omega,by omega,rfl,by simp only [List.length_append,List.length_singleton];omega,?_,⟨_,_,rfl⟩,hA6,hrd6,hwr6,hmwc.out.then hM6 (fun j hj e=>by omega)⟩;rw [hls.out,hsp.out]
   | false=>
    have hk1:T[k'].kind ≠ 1:=by
     rw [drop_tok hk] at h1;simpa [moreB] using h1
    replace h1:=hid h1;replace hk1:=hid hk1;obtain ⟨f1,rfl⟩:∃ f1,f=f1+1:=⟨f - 1,by omega⟩
    have hsp:Hid (listS sz (f1+1) depth words (T.drop k') acc=(do
      let (o,r1) <- Tpl.need sz 6 (T.drop k')
      let (n,r2) <- Tpl.need sz 2 r1
      tagS sz f1 depth words acc o n r2)):=hid (by rw [drop_tok hk,listS_tag hk1.out])
    replace hls:=hid (Eq.trans hls.out hsp.out);clear hsp;go_wp2_with fail
    refine (need_any 6 _ hrdb).mono ?_;rintro e wc (⟨hk6,hkd6,rfl,hrdc,hmc⟩ | ⟨a,ha,rfl,hxc⟩)
    ·replace hkd6:=hid hkd6
     have hls1:Hid (listS sz fuel depth words (T.drop k) []=(do
       let (n,r2) <- Tpl.need sz 2 (T.drop (k'+1))
       tagS sz f1 depth words acc T[k'] n r2)):=hid (by rw [hls.out,need_hit hk6 hkd6.out];rfl)
     clear hls;have haccc:=haccb.out.mod hmc (fun j hj=>by omega);have hwrc:=hid (hwrb.out.mod hmc (fun b off e e'=>hwb.out b off e e'.symm));have hmwc:=hid (hmb.out.trans hmc);have hRc:R<=wc.heap.size:=Nat.le_trans hRb hmc.size;clear hmc haccb hwrb hmb hrdb;unfold tokV;go_wp2_with fail
     have hxo:=Mod.alloc (Mod.refl (fun _=>False) wc) (.cells #[.int .i64 T[k'].kind,.string ⟨T[k'].text.toArray⟩,.int .i64 T[k'].off] 669);have hO:=heap_alloc_new wc (.cells #[.int .i64 T[k'].kind,.string ⟨T[k'].text.toArray⟩,.int .i64 T[k'].off] 669);have hBO:B < wc.heap.size:=by omega
     generalize hOe:wc.heap.size=O at hO hBO ⊢;generalize (wc.alloc (.cells #[.int .i64 T[k'].kind,.string ⟨T[k'].text.toArray⟩,.int .i64 T[k'].off] 669))=wo at hxo hO ⊢;replace hOe:=hid hOe;have hrdo:=hrdc.ext hxo;have hacco:=haccc.mod hxo (fun _ h=>h.elim);have hwro:=hid (hwrc.out.ext hxo);have hmwo:=hid (hmwc.out.then hxo (fun _ _ h=>h.elim));have hRo:=Nat.le_trans hRc hxo.size;clear hxo hrdc haccc hwrc hmwc;refine (need_any 2 _ hrdo).mono ?_;rintro e wd (⟨hk2,hkd2,rfl,hrdd,hmd⟩ | ⟨a,ha,rfl,hxd⟩)
     ·replace hkd2:=hid hkd2
      have hls:Hid (listS sz fuel depth words (T.drop k) []=tagS sz f1 depth words acc T[k'] T[k'+1] (T.drop (k'+1+1))):=hid (by rw [hls1.out,need_hit hk2 hkd2.out];rfl);clear hls1;have haccd:=hacco.mod hmd (fun j hj=>by omega);have hwrd:=hid (hwro.out.mod hmd (fun b off e e'=>hwb.out b off e e'.symm));have hmwd:=hid (hmwo.out.trans hmd);have hRd:R<=wd.heap.size:=Nat.le_trans hRo hmd.size;have hOd:=hmd.at hO (by omega);clear hmd hacco hwro hmwo hO;replace hrdo:=hid hrdo;unfold tokV;have o2:wd.cell? ⟨O,2,none⟩=some (.int .i64 T[k'].off):=cell_of' hOd 2;have hBN:B < wd.heap.size:=by omega
      generalize htx:T[k'+1].text=tx;replace htx:=hid htx.symm;replace hOd:=hid hOd;have q1:(tx==[101,108,115,101])=decide (tx=wElse):=by rw [Bool.eq_iff_iff,decide_eq_true_eq,beq_iff_eq];rfl
      have q2:(tx==[101,110,100])=decide (tx=wEnd):=by rw [Bool.eq_iff_iff,decide_eq_true_eq,beq_iff_eq];rfl
      have q3:(tx==[102,111,114])=decide (tx=wFor):=by rw [Bool.eq_iff_iff,decide_eq_true_eq,beq_iff_eq];rfl
      have q4:(tx==[105,102])=decide (tx=wIf):=by rw [Bool.eq_iff_iff,decide_eq_true_eq,beq_iff_eq];rfl
      have q5:(tx==[105,110,99,108,117,100,101])=decide (tx=wInclude):=by rw [Bool.eq_iff_iff,decide_eq_true_eq,beq_iff_eq];rfl
      cases e1:decide (tx=wElse) with
      | true=>
       rw [e1] at q1;rw [decide_eq_true_eq] at e1;clear q2 q3 q4 q5;have hee:Hid (tx=wElse \/ tx=wEnd):=hid (.inl e1);replace e1:=hid e1;replace hrdd:=hid hrdd;replace haccd:=hid haccd;go_wp2_with fail
       replace hrdd:=hrdd.out;replace haccd:=haccd.out;have hxn:=Mod.alloc (Mod.refl (fun _=>False) wd) (.cells #[.int .i64 T[k'+1].kind,.string ⟨tx.toArray⟩,.int .i64 T[k'+1].off] 669);have hN:=heap_alloc_new wd (.cells #[.int .i64 T[k'+1].kind,.string ⟨tx.toArray⟩,.int .i64 T[k'+1].off] 669);generalize hNe:wd.heap.size=N at hN hBN ⊢;generalize (wd.alloc (.cells #[.int .i64 T[k'+1].kind,.string ⟨tx.toArray⟩,.int .i64 T[k'+1].off] 669))=wn at hxn hN ⊢;replace hNe:=hid hNe;have hrdn:=hrdd.ext hxn;have haccn:=hid (haccd.mod hxn (fun _ h=>h.elim));have hwrn:=hid (hwrd.out.ext hxn);have hmwn:=hid (hmwd.out.then hxn (fun _ _ h=>h.elim));have hRn:=Nat.le_trans hRd hxn.size;clear hxn hrdd haccd hwrd hmwd hOd o2;have n2:wn.cell? ⟨N,2,none⟩=some (.int .i64 T[k'+1].off):=cell_of' hN 2;have hON:¬ B=N:=by omega
       replace hN:=hid hN;replace hrdn:=hid hrdn;have hC:=hid (Contains_any aow capw words (by omega) tx wn hwrn.out);unfold strV at hC;refine hC.out.mono ?_;rintro e we ⟨rfl,rfl⟩;clear hC;cases hc:decide (tx ∈ words) with
       | false=>
        rw [decide_eq_false_iff_not] at hc;replace hc:=hid hc;go_wp2_with fail
        refine ⟨rfl,?_⟩;rw [hpost.out];refine .inr ⟨T[k'+1].off,?_,rfl,hmwn.out⟩;rw [hls.out];simp only [tagS,<- htx.out,if_pos hee.out,if_neg hc.out]
       | true=>
        rw [decide_eq_true_eq] at hc;replace hc:=hid hc;go_wp2_with fail
        refine (need_any 7 _ hrdn.out).mono ?_;rintro e wx (⟨hk7,hkd7,rfl,hrdx,hmx⟩ | ⟨a,ha,rfl,hxx⟩)
        ·replace hkd7:=hid hkd7
         have hNx:=hmx.at hN.out (by omega);have n1x:wx.cell? ⟨N,1,none⟩=some (.string ⟨tx.toArray⟩):=by exact cell_of' hNx 1
         replace hNx:=hid hNx;replace hrdx:=hid hrdx;replace hmx:=hid hmx;clear n2;go_wp2_with fail
         go_quiet (fail)
         go_wp2_with fail
         rw [hpost.out];have hxd:=(Mod.refl (fun _=>False) wx).ofDrewN nq;have hRR:=hR.out;refine .inl ⟨acc,tx,k'+1+1+1,_,?_,by omega,rfl,((haccn.out.mod hmx.out (fun j hj=>by omega)).mod hxd (fun _ h=>h.elim)).nodes.mono (fun j hj=>⟨by omega,hj.2⟩),hrdx.out.ext hxd,(hmwn.out.trans hmx.out).then hxd (fun _ _ h=>h.elim)⟩;rw [hls.out];simp only [tagS,<- htx.out,if_pos hee.out,if_pos hc.out,need_hit hk7 hkd7.out,bind,Except.bind]
        ·go_wp2_with fail
         refine ⟨rfl,?_⟩;rw [hpost.out];refine .inr ⟨a,?_,rfl,hmwn.out.then hxx (fun _ _ h=>h.elim)⟩;rw [hls.out];simp only [tagS,<- htx.out,if_pos hee.out,if_pos hc.out,ha,bind,Except.bind]
      | false=>
       rw [e1] at q1;rw [decide_eq_false_iff_not] at e1;cases e2:decide (tx=wEnd) with
       | true=>
        rw [e2] at q2;rw [decide_eq_true_eq] at e2;clear q3 q4 q5;have hee:Hid (tx=wElse \/ tx=wEnd):=hid (.inr e2);replace e1:=hid e1;replace e2:=hid e2;replace hrdd:=hid hrdd;replace haccd:=hid haccd;go_wp2_with fail
        replace hrdd:=hrdd.out;replace haccd:=haccd.out;have hxn:=Mod.alloc (Mod.refl (fun _=>False) wd) (.cells #[.int .i64 T[k'+1].kind,.string ⟨tx.toArray⟩,.int .i64 T[k'+1].off] 669);have hN:=heap_alloc_new wd (.cells #[.int .i64 T[k'+1].kind,.string ⟨tx.toArray⟩,.int .i64 T[k'+1].off] 669);generalize hNe:wd.heap.size=N at hN hBN ⊢;generalize (wd.alloc (.cells #[.int .i64 T[k'+1].kind,.string ⟨tx.toArray⟩,.int .i64 T[k'+1].off] 669))=wn at hxn hN ⊢;replace hNe:=hid hNe;have hrdn:=hrdd.ext hxn;have haccn:=hid (haccd.mod hxn (fun _ h=>h.elim));have hwrn:=hid (hwrd.out.ext hxn);have hmwn:=hid (hmwd.out.then hxn (fun _ _ h=>h.elim));have hRn:=Nat.le_trans hRd hxn.size;clear hxn hrdd haccd hwrd hmwd hOd o2;have n2:wn.cell? ⟨N,2,none⟩=some (.int .i64 T[k'+1].off):=cell_of' hN 2;have hON:¬ B=N:=by omega
        replace hN:=hid hN;replace hrdn:=hid hrdn;have hC:=hid (Contains_any aow capw words (by omega) tx wn hwrn.out);unfold strV at hC;refine hC.out.mono ?_;rintro e we ⟨rfl,rfl⟩;clear hC;cases hc:decide (tx ∈ words) with
        | false=>
         rw [decide_eq_false_iff_not] at hc;replace hc:=hid hc;go_wp2_with fail
         refine ⟨rfl,?_⟩;rw [hpost.out];refine .inr ⟨T[k'+1].off,?_,rfl,hmwn.out⟩;rw [hls.out];simp only [tagS,<- htx.out,if_pos hee.out,if_neg hc.out]
        | true=>
         rw [decide_eq_true_eq] at hc;replace hc:=hid hc;go_wp2_with fail
         refine (need_any 7 _ hrdn.out).mono ?_;rintro e wx (⟨hk7,hkd7,rfl,hrdx,hmx⟩ | ⟨a,ha,rfl,hxx⟩)
         ·replace hkd7:=hid hkd7
          have hNx:=hmx.at hN.out (by omega);have n1x:wx.cell? ⟨N,1,none⟩=some (.string ⟨tx.toArray⟩):=by exact cell_of' hNx 1
          replace hNx:=hid hNx;replace hrdx:=hid hrdx;replace hmx:=hid hmx;clear n2;go_wp2_with fail
          go_quiet (fail)
          go_wp2_with fail
          rw [hpost.out];have hxd:=(Mod.refl (fun _=>False) wx).ofDrewN nq;have hRR:=hR.out;refine .inl ⟨acc,tx,k'+1+1+1,_,?_,by omega,rfl,((haccn.out.mod hmx.out (fun j hj=>by omega)).mod hxd (fun _ h=>h.elim)).nodes.mono (fun j hj=>⟨by omega,hj.2⟩),hrdx.out.ext hxd,(hmwn.out.trans hmx.out).then hxd (fun _ _ h=>h.elim)⟩;rw [hls.out];simp only [tagS,<- htx.out,if_pos hee.out,if_pos hc.out,need_hit hk7 hkd7.out,bind,Except.bind]
         ·go_wp2_with fail
          refine ⟨rfl,?_⟩;rw [hpost.out];refine .inr ⟨a,?_,rfl,hmwn.out.then hxx (fun _ _ h=>h.elim)⟩;rw [hls.out];simp only [tagS,<- htx.out,if_pos hee.out,if_pos hc.out,ha,bind,Except.bind]
       | false=>
        rw [e2] at q2;rw [decide_eq_false_iff_not] at e2;have hne:Hid (¬ (tx=wElse \/ tx=wEnd)):=hid (fun h=>h.elim e1 e2);replace e1:=hid e1;replace e2:=hid e2;cases e3:decide (tx=wFor) with
        | true=>
         rw [e3] at q3;rw [decide_eq_true_eq] at e3;clear q4 q5;have hfi:Hid (tx=wFor \/ tx=wIf):=hid (.inl e3);replace e3:=hid e3;obtain ⟨f2,rfl⟩:∃ f2,f1=f2+1:=⟨f1 - 1,by omega⟩
         by_cases hd8:depth=8
         ·have qd:((depth:Int)==8)=true:=by rw [beq_iff_eq];omega
          replace hd8:=hid hd8;replace hrdd:=hid hrdd;replace haccd:=hid haccd;have o2':(wd.alloc (.cells #[.int .i64 T[k'+1].kind,.string ⟨tx.toArray⟩,.int .i64 T[k'+1].off] 669)).cell? ⟨O,2,none⟩=some (.int .i64 T[k'].off):=(Mod.alloc (Mod.refl (fun _=>False) wd) _).cell o2 (fun h=>h);clear o2;go_wp2_with fail
          refine ⟨rfl,?_⟩;rw [hpost.out];refine .inr ⟨T[k'].off,?_,rfl,hmwd.out.then (Mod.alloc (Mod.refl (fun _=>False) wd) _) (fun _ _ h=>h.elim)⟩;rw [hls.out];simp only [tagS,<- htx.out,if_neg hne.out,if_pos hfi.out,if_pos hd8.out]
         ·have qd:((depth:Int)==8)=false:=by rw [beq_eq_false_iff_ne];omega
          replace hd8:=hid hd8;replace hrdd:=hid hrdd;replace haccd:=hid haccd;go_wp2_with fail
          replace hrdd:=hrdd.out;replace haccd:=haccd.out;have hxn:=Mod.alloc (Mod.refl (fun _=>False) wd) (.cells #[.int .i64 T[k'+1].kind,.string ⟨tx.toArray⟩,.int .i64 T[k'+1].off] 669);have hN:=heap_alloc_new wd (.cells #[.int .i64 T[k'+1].kind,.string ⟨tx.toArray⟩,.int .i64 T[k'+1].off] 669);generalize hNe:wd.heap.size=N at hN hBN ⊢;generalize (wd.alloc (.cells #[.int .i64 T[k'+1].kind,.string ⟨tx.toArray⟩,.int .i64 T[k'+1].off] 669))=wn at hxn hN ⊢;replace hNe:=hid hNe;have hrdn:=hrdd.ext hxn;have haccn:=hid (haccd.mod hxn (fun _ h=>h.elim));have hwrn:=hid (hwrd.out.ext hxn);have hmwn:=hid (hmwd.out.then hxn (fun _ _ h=>h.elim));have hRn:=Nat.le_trans hRd hxn.size;clear hxn hrdd haccd hwrd hmwd hOd o2;have n2:wn.cell? ⟨N,2,none⟩=some (.int .i64 T[k'+1].off):=cell_of' hN 2;have hON:¬ B=N:=by omega
          replace hN:=hid hN;replace hrdn:=hid hrdn;have hL:=hid (loop_any f2 (ih.out f2 (by omega)) (depth+1) wn hrdn.out hT.out (by have:=hd8.out;omega) (by omega));rw [show ((depth+1:Nat):Int)=(depth:Int)+1 by omega] at hL;refine hL.out.mono ?_;clear hL;rintro e wl (⟨nd,k2,v,hsp,hk2,rfl,⟨c,rfl,hnd⟩,hrdl,hml⟩ | ⟨a,ha,rfl,hml⟩)
          ·obtain ⟨kd2,tx2,nm2,ar2,ct2,a1,m1,c1,a2,m2,c2,a3,m3,c3,rfl⟩:=hnd.form
           have haccl:=hid (haccn.out.mod hml (fun j hj=>by omega));have hwrl:=hid (hwrn.out.mod hml (fun b off e e'=>hwb.out b off e e'.symm));have hmwl:=hid (hmwn.out.trans hml);have hRl:=Nat.le_trans hRn hml.size;have hn:=hid (hnd.mono (F':=fun j=>R<=j/\j < wl.heap.size/\(Value.slice aov rows.length capv).ownBlock ≠ some j) (fun j hj=>⟨by have:=hj.1;omega,hj.2,fun e=>by have:=(haccn.out.own.block j e).2;have:=hj.1;omega⟩));replace hrdl:=hid hrdl;replace hsp:=hid hsp;clear hnd hml;unfold ncV ncC strV;go_wp2_with (at_builtin;refine wpList_snoc rfl _ _ rfl _ _ rfl haccl.out (by omega) hn.out hRl rfl (fun g6 cap6 w6 H6=>?_);go_frame)
           go_roundg (T.length - k2)
           case measure=>have:=hg.out;omega
           case rel=>
            obtain ⟨hA6,hM6⟩:=H6.out;have hRR:=hR.out;have hrd6:=hrdl.out.mod hM6 (by omega) (fun b off e e'=>rd_old h.out (by omega) b off e (by omega));have hwr6:=row_keep hwr0.out hwrl.out hM6 (fun b e=>by omega);refine ⟨k2,f2+1,_,_,by omega,by omega,by omega,rfl,by simp only [List.length_append,List.length_singleton];omega,?_,⟨_,_,rfl⟩,hA6,hrd6,hwr6,hmwl.out.then hM6 (fun j hj e=>by omega)⟩;rw [hls.out];simp only [tagS,<- htx.out,if_neg hne.out,if_pos hfi.out,if_neg hd8.out,if_pos e3.out,hsp.out,bind,Except.bind]
          ·go_wp2_with fail
           refine ⟨rfl,?_⟩;rw [hpost.out];refine .inr ⟨a,?_,rfl,hmwn.out.trans hml⟩;rw [hls.out];simp only [tagS,<- htx.out,if_neg hne.out,if_pos hfi.out,if_neg hd8.out,if_pos e3.out,ha,bind,Except.bind]
        | false=>
         rw [e3] at q3;rw [decide_eq_false_iff_not] at e3;cases e4:decide (tx=wIf) with
         | true=>
          rw [e4] at q4;rw [decide_eq_true_eq] at e4;clear q5;have hfi:Hid (tx=wFor \/ tx=wIf):=hid (.inr e4);replace e3:=hid e3;replace e4:=hid e4;obtain ⟨f2,rfl⟩:∃ f2,f1=f2+1:=⟨f1 - 1,by omega⟩
          by_cases hd8:depth=8
          ·have qd:((depth:Int)==8)=true:=by rw [beq_iff_eq];omega
           replace hd8:=hid hd8;replace hrdd:=hid hrdd;replace haccd:=hid haccd;have o2':(wd.alloc (.cells #[.int .i64 T[k'+1].kind,.string ⟨tx.toArray⟩,.int .i64 T[k'+1].off] 669)).cell? ⟨O,2,none⟩=some (.int .i64 T[k'].off):=(Mod.alloc (Mod.refl (fun _=>False) wd) _).cell o2 (fun h=>h);clear o2;go_wp2_with fail
           refine ⟨rfl,?_⟩;rw [hpost.out];refine .inr ⟨T[k'].off,?_,rfl,hmwd.out.then (Mod.alloc (Mod.refl (fun _=>False) wd) _) (fun _ _ h=>h.elim)⟩;rw [hls.out];simp only [tagS,<- htx.out,if_neg hne.out,if_pos hfi.out,if_pos hd8.out]
          ·have qd:((depth:Int)==8)=false:=by rw [beq_eq_false_iff_ne];omega
           replace hd8:=hid hd8;replace hrdd:=hid hrdd;replace haccd:=hid haccd;go_wp2_with fail
           replace hrdd:=hrdd.out;replace haccd:=haccd.out;have hxn:=Mod.alloc (Mod.refl (fun _=>False) wd) (.cells #[.int .i64 T[k'+1].kind,.string ⟨tx.toArray⟩,.int .i64 T[k'+1].off] 669);have hN:=heap_alloc_new wd (.cells #[.int .i64 T[k'+1].kind,.string ⟨tx.toArray⟩,.int .i64 T[k'+1].off] 669);generalize hNe:wd.heap.size=N at hN hBN ⊢;generalize (wd.alloc (.cells #[.int .i64 T[k'+1].kind,.string ⟨tx.toArray⟩,.int .i64 T[k'+1].off] 669))=wn at hxn hN ⊢;replace hNe:=hid hNe;have hrdn:=hrdd.ext hxn;have haccn:=hid (haccd.mod hxn (fun _ h=>h.elim));have hwrn:=hid (hwrd.out.ext hxn);have hmwn:=hid (hmwd.out.then hxn (fun _ _ h=>h.elim));have hRn:=Nat.le_trans hRd hxn.size;clear hxn hrdd haccd hwrd hmwd hOd o2;have n2:wn.cell? ⟨N,2,none⟩=some (.int .i64 T[k'+1].off):=cell_of' hN 2;have hON:¬ B=N:=by omega
           replace hN:=hid hN;replace hrdn:=hid hrdn;have hL:=hid (condition_any f2 (ih.out f2 (by omega)) (depth+1) wn hrdn.out hT.out (by have:=hd8.out;omega) (by omega));rw [show ((depth+1:Nat):Int)=(depth:Int)+1 by omega] at hL;refine hL.out.mono ?_;clear hL;rintro e wl (⟨nd,k2,v,hsp,hk2,rfl,⟨c,rfl,hnd⟩,hrdl,hml⟩ | ⟨a,ha,rfl,hml⟩)
           ·obtain ⟨kd2,tx2,nm2,ar2,ct2,a1,m1,c1,a2,m2,c2,a3,m3,c3,rfl⟩:=hnd.form
            have haccl:=hid (haccn.out.mod hml (fun j hj=>by omega));have hwrl:=hid (hwrn.out.mod hml (fun b off e e'=>hwb.out b off e e'.symm));have hmwl:=hid (hmwn.out.trans hml);have hRl:=Nat.le_trans hRn hml.size;have hn:=hid (hnd.mono (F':=fun j=>R<=j/\j < wl.heap.size/\(Value.slice aov rows.length capv).ownBlock ≠ some j) (fun j hj=>⟨by have:=hj.1;omega,hj.2,fun e=>by have:=(haccn.out.own.block j e).2;have:=hj.1;omega⟩));replace hrdl:=hid hrdl;replace hsp:=hid hsp;clear hnd hml;unfold ncV ncC strV;go_wp2_with (at_builtin;refine wpList_snoc rfl _ _ rfl _ _ rfl haccl.out (by omega) hn.out hRl rfl (fun g6 cap6 w6 H6=>?_);go_frame)
            go_roundg (T.length - k2)
            case measure=>have:=hg.out;omega
            case rel=>
             obtain ⟨hA6,hM6⟩:=H6.out;have hRR:=hR.out;have hrd6:=hrdl.out.mod hM6 (by omega) (fun b off e e'=>rd_old h.out (by omega) b off e (by omega));have hwr6:=row_keep hwr0.out hwrl.out hM6 (fun b e=>by omega);refine ⟨k2,f2+1,_,_,by omega,by omega,by omega,rfl,by simp only [List.length_append,List.length_singleton];omega,?_,⟨_,_,rfl⟩,hA6,hrd6,hwr6,hmwl.out.then hM6 (fun j hj e=>by omega)⟩;rw [hls.out];simp only [tagS,<- htx.out,if_neg hne.out,if_pos hfi.out,if_neg hd8.out,if_neg e3.out,hsp.out,bind,Except.bind]
           ·go_wp2_with fail
            refine ⟨rfl,?_⟩;rw [hpost.out];refine .inr ⟨a,?_,rfl,hmwn.out.trans hml⟩;rw [hls.out];simp only [tagS,<- htx.out,if_neg hne.out,if_pos hfi.out,if_neg hd8.out,if_neg e3.out,ha,bind,Except.bind]
         | false=>
          rw [e4] at q4;rw [decide_eq_false_iff_not] at e4;have hnf:Hid (¬ (tx=wFor \/ tx=wIf)):=hid (fun h=>h.elim e3 e4);replace e3:=hid e3;replace e4:=hid e4;cases e5:decide (tx=wInclude) with
          | true=>
           rw [e5] at q5;rw [decide_eq_true_eq] at e5;replace e5:=hid e5;replace hrdd:=hid hrdd;replace haccd:=hid haccd;go_wp2_with fail
           replace hrdd:=hrdd.out;replace haccd:=haccd.out;have hxn:=Mod.alloc (Mod.refl (fun _=>False) wd) (.cells #[.int .i64 T[k'+1].kind,.string ⟨tx.toArray⟩,.int .i64 T[k'+1].off] 669);have hN:=heap_alloc_new wd (.cells #[.int .i64 T[k'+1].kind,.string ⟨tx.toArray⟩,.int .i64 T[k'+1].off] 669);generalize hNe:wd.heap.size=N at hN hBN ⊢;generalize (wd.alloc (.cells #[.int .i64 T[k'+1].kind,.string ⟨tx.toArray⟩,.int .i64 T[k'+1].off] 669))=wn at hxn hN ⊢;replace hNe:=hid hNe;have hrdn:=hrdd.ext hxn;have haccn:=hid (haccd.mod hxn (fun _ h=>h.elim));have hwrn:=hid (hwrd.out.ext hxn);have hmwn:=hid (hmwd.out.then hxn (fun _ _ h=>h.elim));have hRn:=Nat.le_trans hRd hxn.size;clear hxn hrdd haccd hwrd hmwd hOd o2;have n2:wn.cell? ⟨N,2,none⟩=some (.int .i64 T[k'+1].off):=cell_of' hN 2;have hON:¬ B=N:=by omega
           replace hN:=hid hN;replace hrdn:=hid hrdn;refine (need_any 2 _ hrdn.out).mono ?_;rintro e wx (⟨hk3,hkd3,rfl,hrdx,hmx⟩ | ⟨a,ha,rfl,hxx⟩)
           ·replace hkd3:=hid hkd3
            have haccx:=hid (haccn.out.mod hmx (fun j hj=>by omega));have hwrx:=hid (hwrn.out.mod hmx (fun b off e e'=>hwb.out b off e e'.symm));have hmwx:=hid (hmwn.out.trans hmx);have hRx:=Nat.le_trans hRn hmx.size;replace hrdx:=hid hrdx;clear hmx;unfold tokV;have hn:=NodeAt.mk (F:=fun j=>R<=j/\j < wx.heap.size/\(Value.slice aov rows.length capv).ownBlock ≠ some j) (w:=wx) ⟨5,[],T[k'+1+1].text,[],0,.slice none 0 0,.slice none 0 0,.slice none 0 0⟩ [] [] [] (StrsAt.nil _ _) (NodesAt.nil _ _) (NodesAt.nil _ _);replace hn:=hid hn;go_wp2_with (at_builtin;refine wpList_snoc rfl _ _ rfl _ _ rfl haccx.out (by omega) hn.out hRx rfl (fun g6 cap6 w6 H6=>?_);go_frame)
            go_wp2_with fail
            obtain ⟨hA6,hM6⟩:=H6.out;have hRR:=hR.out;have hrd6:=hrdx.out.mod hM6 (by omega) (fun b off e e'=>rd_old h.out (by omega) b off e (by omega));have hR6:=Nat.le_trans hRx hM6.size;replace hA6:=hid hA6;replace hM6:=hid hM6;replace hRR:=hid hRR;refine (need_any 7 _ hrd6).mono ?_;rintro e wy (⟨hk7,hkd7,rfl,hrdy,hmy⟩ | ⟨a,ha,rfl,hxy⟩)
            ·replace hkd7:=hid hkd7
             replace hrd6:=hid hrd6;replace hrdy:=hid hrdy;replace hmy:=hid hmy;go_wp2_with fail
             go_roundg (T.length - (k'+1+1+1+1))
             case measure=>have:=hg.out;omega
             case rel=>
              have hRR:=hRR.out;have hwr6:=row_keep hwr0.out hwrx.out hM6.out (fun b e=>by omega);have hA9:=hA6.out.mod hmy.out (fun j hj=>by omega);simp only [List.length_append,List.length_singleton] at hA9;refine ⟨k'+1+1+1+1,f1,acc++[.mk 5 [] T[k'+1+1].text [] 0 [] [] []],rows++[⟨5,[],T[k'+1+1].text,[],0,.slice none 0 0,.slice none 0 0,.slice none 0 0⟩],by omega,by omega,by omega,rfl,by simp only [List.length_append,List.length_singleton];omega,?_,⟨some ⟨g6,0,none⟩,cap6,by simp only [List.length_append,List.length_singleton]⟩,hA9,hrdy.out,hwr6.mod hmy.out (fun b off e e'=>hwb.out b off e e'.symm),(hmwx.out.then hM6.out (fun j hj e=>by omega)).trans hmy.out⟩;rw [hls.out];simp only [tagS,<- htx.out,if_neg hne.out,if_neg hnf.out,if_pos e5.out,need_hit hk3 hkd3.out,need_hit hk7 hkd7.out,bind,Except.bind]
            ·go_wp2_with fail
             refine ⟨rfl,?_⟩;rw [hpost.out];have hRR:=hRR.out;refine .inr ⟨a,?_,rfl,(hmwx.out.then hM6.out (fun j hj e=>by omega)).then hxy (fun _ _ h=>h.elim)⟩;rw [hls.out];simp only [tagS,<- htx.out,if_neg hne.out,if_neg hnf.out,if_pos e5.out,need_hit hk3 hkd3.out,ha,bind,Except.bind]
           ·go_wp2_with fail
            refine ⟨rfl,?_⟩;rw [hpost.out];refine .inr ⟨a,?_,rfl,hmwn.out.then hxx (fun _ _ h=>h.elim)⟩;rw [hls.out];simp only [tagS,<- htx.out,if_neg hne.out,if_neg hnf.out,if_pos e5.out,ha,bind,Except.bind]
          | false=>
           rw [e5] at q5;rw [decide_eq_false_iff_not] at e5;replace e5:=hid e5;replace hrdd:=hid hrdd;replace haccd:=hid haccd;go_wp2_with fail
           replace hrdd:=hrdd.out;replace haccd:=haccd.out;have hxn:=Mod.alloc (Mod.refl (fun _=>False) wd) (.cells #[.int .i64 T[k'+1].kind,.string ⟨tx.toArray⟩,.int .i64 T[k'+1].off] 669);have hN:=heap_alloc_new wd (.cells #[.int .i64 T[k'+1].kind,.string ⟨tx.toArray⟩,.int .i64 T[k'+1].off] 669);generalize hNe:wd.heap.size=N at hN hBN ⊢;generalize (wd.alloc (.cells #[.int .i64 T[k'+1].kind,.string ⟨tx.toArray⟩,.int .i64 T[k'+1].off] 669))=wn at hxn hN ⊢;replace hNe:=hid hNe;have hrdn:=hrdd.ext hxn;have haccn:=hid (haccd.mod hxn (fun _ h=>h.elim));have hwrn:=hid (hwrd.out.ext hxn);have hmwn:=hid (hmwd.out.then hxn (fun _ _ h=>h.elim));have hRn:=Nat.le_trans hRd hxn.size;clear hxn hrdd haccd hwrd hmwd hOd o2;have n2:wn.cell? ⟨N,2,none⟩=some (.int .i64 T[k'+1].off):=cell_of' hN 2;have hON:¬ B=N:=by omega
           replace hN:=hid hN;replace hrdn:=hid hrdn;have hL:=hid (field_any f1 tx wn hrdn.out (by omega));unfold strV at hL;refine hL.out.mono ?_;clear hL;rintro e wl (⟨fl,k2,v,hsp,hk2,rfl,⟨c,rfl,hnd⟩,hrdl,hml⟩ | ⟨a,ha,rfl,hml⟩)
           ·obtain ⟨kd2,tx2,nm2,ar2,ct2,a1,m1,c1,a2,m2,c2,a3,m3,c3,rfl⟩:=hnd.form
            have haccl:=hid (haccn.out.mod hml (fun j hj=>by omega));have hwrl:=hid (hwrn.out.mod hml (fun b off e e'=>hwb.out b off e e'.symm));have hmwl:=hid (hmwn.out.trans hml);have hRl:=Nat.le_trans hRn hml.size;have hn:=hid (hnd.mono (F':=fun j=>R<=j/\j < wl.heap.size/\(Value.slice aov rows.length capv).ownBlock ≠ some j) (fun j hj=>⟨by have:=hj.1;omega,hj.2,fun e=>by have:=(haccn.out.own.block j e).2;have:=hj.1;omega⟩));replace hrdl:=hid hrdl;replace hsp:=hid hsp;clear hnd hml;unfold ncV ncC strV;go_wp2_with (at_builtin;refine wpList_snoc rfl _ _ rfl _ _ rfl haccl.out (by omega) hn.out hRl rfl (fun g6 cap6 w6 H6=>?_);go_frame)
            go_roundg (T.length - k2)
            case measure=>have:=hg.out;omega
            case rel=>
             obtain ⟨hA6,hM6⟩:=H6.out;have hRR:=hR.out;have hrd6:=hrdl.out.mod hM6 (by omega) (fun b off e e'=>rd_old h.out (by omega) b off e (by omega));have hwr6:=row_keep hwr0.out hwrl.out hM6 (fun b e=>by omega);refine ⟨k2,f1,_,_,by omega,by omega,by omega,rfl,by simp only [List.length_append,List.length_singleton];omega,?_,⟨_,_,rfl⟩,hA6,hrd6,hwr6,hmwl.out.then hM6 (fun j hj e=>by omega)⟩;rw [hls.out];simp only [tagS,<- htx.out,if_neg hne.out,if_neg hnf.out,if_neg e5.out,hsp.out,bind,Except.bind]
           ·go_wp2_with fail
            refine ⟨rfl,?_⟩;rw [hpost.out];refine .inr ⟨a,?_,rfl,hmwn.out.trans hml⟩;rw [hls.out];simp only [tagS,<- htx.out,if_neg hne.out,if_neg hnf.out,if_neg e5.out,ha,bind,Except.bind]
     ·go_wp2_with fail
      refine ⟨rfl,?_⟩;rw [hpost.out];refine .inr ⟨a,?_,rfl,hmwo.out.then hxd (fun _ _ h=>h.elim)⟩;rw [hls1.out,ha];rfl
    ·go_wp2_with fail
     refine ⟨rfl,?_⟩;rw [hpost.out];refine .inr ⟨a,?_,rfl,hmb.out.then hxc (fun _ _ h=>h.elim)⟩;rw [hls.out,ha];rfl
  ·have hd1:decide ((k':Int) < (T.length:Int))=false:=decide_eq_false (by omega)
   have hd2:¬ (k':Int) < (T.length:Int):=by omega
   replace hrd:=hid hrd;have hdr:T.drop k'=[]:=List.drop_eq_nil_of_le (by omega);replace hdr:=hid hdr;cases hwe:words with
   | nil=>
    have hw0:decide ((0:Int) < (words.length:Int))=false:=by rw [hwe];rfl
    have hw1:¬ (0:Int) < (words.length:Int):=by rw [hwe];decide
    replace hwe:=hid hwe;go_wp2_with fail
    go_quiet (fail)
    go_wp2_with fail
    rw [hpost.out];have hxd:=(Mod.refl (fun _=>False) wr).ofDrewN nq;have hRR:=hR.out;refine .inl ⟨acc,[],k',_,?_,hkk,rfl,(hacc.out.mod hxd (fun _ h=>h.elim)).nodes.mono (fun j hj=>⟨by omega,hj.2⟩),hrd.out.ext hxd,hm.out.then hxd (fun _ _ h=>h.elim)⟩;rw [hls.out,hdr.out,list_end (by omega),hwe.out];rfl
   | cons x xs=>
    have hw0:decide ((0:Int) < (words.length:Int))=true:=by rw [hwe];simp
    have hw1:(0:Int) < (words.length:Int):=by rw [hwe];simp
    replace hwe:=hid hwe;go_wp2_with fail
    go_quiet (fail)
    go_wp2_with fail
    refine ⟨rfl,?_⟩;rw [hpost.out];have hxd:=(Mod.refl (fun _=>False) wr).ofDrewN nq;refine .inr ⟨sz,?_,rfl,hm.out.then hxd (fun _ _ h=>h.elim)⟩;rw [hls.out,hdr.out,list_end (by omega),hwe.out];rfl
theorem list_any (fuel:Nat):ListC fuel:=by
 induction fuel using Nat.strongRecOn with
 | ind n ih=>exact list_step n ih
end Go.Proofs.YtcopgcdhkgenkaaGreatDoor.Ps
