import Derived.Test.YtcopgcdhkgenkaaGreatDoorV6
set_option linter.all false
set_option maxRecDepth 100000
set_option maxHeartbeats 16000000
namespace Go.Proofs.YtcopgcdhkgenkaaGreatDoor
open Go.Shelf Go.RowKit Cdk Scr
def BusyAt (w:World) (lo b M:Nat):Prop:=∃ J k rb ro rc st b1 b2,BldrAt w b M (.pointer (some ⟨J,0,none⟩)) (.pointer (some ⟨st,0,none⟩))/\JobAt w J st k (.slice (some ⟨rb,ro,none⟩) 2 rc)/\MapAt w Value.string k ([]:List (ByteArray × Value)) ∧
 w.cell? ⟨rb,ro,none⟩=some (strV (adrB 1))/\w.cell? ⟨rb,ro+1,none⟩=some (strV (adrB 6))/\w.heap[st]?=some (.cells #[.slice b1 0 0,.slice b2 0 0] 235 (0,0))/\lo<=st/\st < J/\J < rb/\rb < k/\2<=rc/\rc<=9223372036854775807
theorem target_any (b M:Nat) (a1 a2:Option Addr) (c1 c2:Nat) (w:World) (hG:Gl w) (hB:BldrAt w b M (.pointer none) (.pointer none)) (hm:MapAt w Value.string M ([]:List (ByteArray × Value))) (h12:12<=b):
  Calls Tryz.prog 112 #[.pointer (some ⟨b,0,none⟩),stV a1 a2 c1 c2] w fun e w'=>e=.returned (.int .i64 0)/\BusyAt w' w.heap.size b M/\Cdk.Mod (fun k=>k=b \/ w.heap.size<=k) w w':=by
 have hmm:=@run_makeMap Tryz.prog;have hlb:b < w.heap.size:=lt_of_at hB;have hcs:=hid (fun W=>copyState_any a1 a2 c1 c2 W);unfold stV;obtain ⟨A,hAe⟩:∃ A,A=w.heap.size:=⟨_,rfl⟩;have hx1:=Mod.alloc (Mod.refl (fun _=>False) w) (.cells #[.slice a1 0 c1,.slice a2 0 c2] 235);have hA:=heap_alloc_new w (.cells #[.slice a1 0 c1,.slice a2 0 c2] 235);have hz1:(w.alloc (.cells #[.slice a1 0 c1,.slice a2 0 c2] 235)).heap.size=A+1:=by rw [World.size_alloc,hAe]
 have hx2:=hx1.alloc (.map #[] 0);have hk2:=MapAt.made (w.alloc (.cells #[.slice a1 0 c1,.slice a2 0 c2] 235)) Value.string;rw [hz1] at hk2;have hA2:=(Mod.alloc (Mod.refl (fun _=>False) (w.alloc (.cells #[.slice a1 0 c1,.slice a2 0 c2] 235))) (.map #[] 0)).at hA (fun h=>h);rw [<- hAe] at hA2;have p0:(w.alloc (.cells #[.slice a1 0 c1,.slice a2 0 c2] 235)).cell? ⟨A,0,none⟩=some (.slice a1 0 c1):=by rw [hAe];exact cellN hA 0
 replace hAe:=hid hAe;go_enter Tryz.func112,Tryz.ntmps112;go_wp2_with fail
 refine wp_loop_rounds 1 ?_;rw [rounds_succ];go_upto_region 9 with fail
 try simp only [<- hAe.out]
 try rw [hz1]
 generalize (w.alloc (.cells #[.slice a1 0 c1,.slice a2 0 c2] 235)).alloc (.map #[] 0)=w2 at hx2 hk2 hA2 ⊢;obtain ⟨P,hP⟩:∃ P,P=A+1:=⟨_,rfl⟩;rw [<- hP] at hk2 ⊢;have hPw:w.heap.size<=P:=by have:=hAe.out;omega
 replace hP:=hid hP;have hB2:=hid (hx2.at hB (fun h=>h));have b1:w2.cell? ⟨b,1,none⟩=some (.map (some M)):=cellN hB2.out 1;have hcp:=hid (copyNone_page M (.map (some P)) w2 (hm.mod hx2 (fun h=>h)));clear hx1 hA hz1 p0;replace hx2:=hid hx2;replace hA2:=hid hA2;go_wp2_with fail
 refine hcp.out.mono ?_;rintro e w3 ⟨rfl,hx⟩;have hx3:=hid (hx2.out.trans hx);have hA3:=hid (hx.at hA2.out (fun h=>h));have hk3:=hid (hk2.mod hx (fun h=>h));have hB3:=hid (hx.at hB2.out (fun h=>h));have d0:w3.cell? ⟨b,0,none⟩=some (.pointer none):=cellN hB3.out 0;have d1:w3.cell? ⟨A,0,none⟩=some (.slice a1 0 c1):=cellN hA3.out 0;have d2:w3.cell? ⟨A,1,none⟩=some (.slice a2 0 c2):=cellN hA3.out 1;clear b1 hx hk2 hcp;go_wp2_with fail
 refine (hcs.out w3).mono ?_;rintro e w4 ⟨⟨b1,b2,rfl⟩,hx⟩;have hx4:=hid (hx3.out.trans hx);have hB4:=hx.at hB3.out (fun h=>h);have hk4:=hk3.out.mod hx (fun h=>h);obtain ⟨T,hTe⟩:∃ T,T=w4.heap.size:=⟨_,rfl⟩;have hbT:b < T:=by rw [hTe];exact lt_of_at hB4
 have hxs:=Mod.alloc (Mod.refl (fun _=>False) w4) (.cells #[.slice b1 0 0,.slice b2 0 0] 235);have hT5:=heap_alloc_new w4 (.cells #[.slice b1 0 0,.slice b2 0 0] 235);rw [<- hTe] at hT5;have hB5:=hxs.at hB4 (fun h=>h);have f52:=freeN hB5 2;have c52:=cellN hB5 2;have hB6:=put_at' hB5 2 (.pointer (some ⟨T,0,none⟩));have hT6:=(put_ne' (w4.alloc (.cells #[.slice b1 0 0,.slice b2 0 0] 235)) 2 (.pointer (some ⟨T,0,none⟩)) (b:=T) (b':=b) (by omega)).trans hT5;have hk6:=(hk4.mod hxs (fun h=>h)).mod ((Mod.refl (Eq b) _).setCell (a:=⟨b,2,none⟩) (fun _=>rfl) (.pointer (some ⟨T,0,none⟩))) (fun e=>by omega);have hm6:Cdk.Mod (fun k=>k=b \/ w.heap.size<=k) w ((w4.alloc (.cells #[.slice b1 0 0,.slice b2 0 0] 235)).setCell ⟨b,2,none⟩ (.pointer (some ⟨T,0,none⟩))):=((hx4.out.mono (T:=fun k=>k=b \/ w.heap.size<=k) (fun _ h=>h.elim)).alloc _).setCell (a:=⟨b,2,none⟩) (fun _=>.inl rfl) _;have hTw:w.heap.size<=T:=by rw [hTe];exact hx4.out.size
 replace hTe:=hid hTe;clear hB4 hk4 hxs hT5 hB5 hx d0 d1 d2;go_upto_region 15 with fail
 try simp only [<- hTe.out]
 generalize (w4.alloc (.cells #[.slice b1 0 0,.slice b2 0 0] 235)).setCell ⟨b,2,none⟩ (.pointer (some ⟨T,0,none⟩))=w6 at hB6 hT6 hk6 hm6 ⊢;have hG6:=hG.mod hm6 (by omega);have hbg:=hid (begin_any b M T P b1 b2 0 0 (.pointer none) w6 hG6 hB6 hT6 hk6 (by omega) h12);have hT6':=hid hT6;replace hm6:=hid hm6;clear hB6 hk6 hT6;go_wp2_with fail
 refine hbg.out.mono ?_;rintro e w7 ⟨rfl,⟨J,k,rb,ro,rc,h1,h2,h3,h4,h5,hlJ,hJr,hrk,hcap⟩,hmb⟩;have hT6:=hT6'.out;have hlT:T < w6.heap.size:=lt_of_at hT6;have hs6:w.heap.size<=w6.heap.size:=hm6.out.size;have hfin:=hid (show BusyAt w7 w.heap.size b M from ⟨J,k,rb,ro,rc,T,b1,b2,h1,h2,h3,h4,h5,hmb.at hT6 (by omega),hTw,by omega,hJr,hrk,hcap⟩);have hmf:=hid (hm6.out.then hmb (fun j hj e=>by rcases e with e | e <;> omega));clear h1 h2 h3 h4 h5 hmb hT6 f52 c52;go_wp2_with fail
 go_ret;exact ⟨rfl,hfin.out,hmf.out⟩
theorem copyS_any (b off cap:Nat) (X Y:ByteArray) (w:World) (h0:w.cell? ⟨b,off,none⟩=some (.string X)) (h1:w.cell? ⟨b,off+1,none⟩=some (.string Y)):Calls Tryz.prog 171 #[.slice (some ⟨b,off,none⟩) 2 cap] w fun e w'=>(∃ g,e=.returned (.slice (some ⟨g,0,none⟩) 2 2)/\w'.cell? ⟨g,0,none⟩=some (.string X)/\w'.cell? ⟨g,1,none⟩=some (.string Y)/\w.heap.size<=g)/\Ext w w':=by
 have hmk:∀ W:World,(Instr.makeSlice 40 (.int .i64 2) (.int .i64 2)).run Tryz.prog W=.ok (.slice (some ⟨W.heap.size,0,none⟩) 2 2) (W.alloc (.cells #[.string .empty,.string .empty] 9)):=fun W=>by kernel_rfl
 obtain ⟨g,hg⟩:∃ g,g=w.heap.size:=⟨_,rfl⟩;have hxa:=Mod.alloc (Mod.refl (fun _=>False) w) (.cells #[.string .empty,.string .empty] 9);have hga:=heap_alloc_new w (.cells #[.string .empty,.string .empty] 9);have a0:=hxa.cell h0 (fun h=>h);have a1:=hxa.cell h1 (fun h=>h);rw [<- hg] at hga
 have hcp:=fun ty=>run_copy_row (P:=Tryz.prog) (w.alloc (.cells #[.string .empty,.string .empty] 9)) 40 40 ty 9 g 0 2 2 ⟨b,off,none⟩ 2 cap #[.string .empty,.string .empty] 9 [.string X,.string Y] Tryz.underlying40 rfl hga rfl (fun j v hj=>by
  rw [Addr.add_lit]
  match j,hj with
  | 0,hj=>simp at hj;rw [<- hj];exact a0
  | 1,hj=>simp at hj;rw [<- hj];exact a1
  | j+2,hj=>simp at hj) (by show 0+2<=2;omega) (fun v hv=>by simp at hv;rcases hv with rfl | rfl <;> rfl)
 have hsr:=setRow_heap (w.alloc (.cells #[.string .empty,.string .empty] 9)) g #[.string .empty,.string .empty] #[.string X,.string Y] _ _ hga;have hxf:Ext w ((w.alloc (.cells #[.string .empty,.string .empty] 9)).setRow g #[.string X,.string Y]):=hxa.then (mod_row (S:=Eq g) _ (Mod.refl (Eq g) _) rfl) (fun k hk e=>by omega);have hgw:=Nat.le_of_eq hg.symm;replace hxf:=hid hxf;replace hsr:=hid hsr;simp only [List.take_zero,List.nil_append,List.length_cons,List.length_nil] at hcp;clear hga a0 a1 hxa;go_enter Tryz.func171,Tryz.ntmps171;go_upto_region 2 with fail
 try simp only [<- hg]
 replace hg:=hid hg;generalize w.alloc (.cells #[.string .empty,.string .empty] 9)=w1 at hcp hsr hxf ⊢;go_wp2_with fail
 go_ret;exact ⟨⟨g,rfl,cellN hsr.out 0,cellN hsr.out 1,hgw⟩,hxf.out⟩
end Go.Proofs.YtcopgcdhkgenkaaGreatDoor
namespace Go.Proofs.YtcopgcdhkgenkaaGreatDoor.Dw
open Go.Shelf Go.RowKit Cdk Scr
abbrev bldT:TypeId:=167
abbrev sbT:TypeId:=165
abbrev u8T:TypeId:=5
def Bld (B b:Nat) (tx:Bs) (w:World):Prop:=Lib.IsBuilder bldT u8T B b (Lib.byteCells tx) w
def KeepB (B b:Nat) (w w':World):Prop:=Mod (fun k=>B<=k) w w'/\∀ k o,w.heap[k]?=some o -> (∀ cs fr,o ≠ .cells cs u8T fr) -> k ≠ b -> w'.heap[k]?=some o
theorem KeepB.refl (B b:Nat) (w:World):KeepB B b w w:=⟨Mod.refl _ w,fun _ _ h _ _=>h⟩
theorem KeepB.ofExt {B b:Nat} {w w':World} (h:Ext w w'):KeepB B b w w':=⟨h.mono (fun _ h=>h.elim),fun k o hk _ _=>h.at hk (fun h=>h)⟩
theorem KeepB.trans {B b:Nat} {w w' w'':World} (h:KeepB B b w w') (k:KeepB B b w' w''):KeepB B b w w'':=
 ⟨h.1.trans k.1,fun j o hj ho hb=>k.2 j o (h.2 j o hj ho hb) ho hb⟩
theorem KeepB.ext {B b:Nat} {w w' w'':World} (h:KeepB B b w w') (k:Ext w' w''):KeepB B b w w'':=h.trans (.ofExt k)
theorem KeepB.pre {B b:Nat} {w w' w'':World} (h:Ext w w') (k:KeepB B b w' w''):KeepB B b w w'':=(KeepB.ofExt h).trans k
theorem KeepB.setCell {B b:Nat} {w:World} (hb:B<=b) (j:Nat) (u:Value):KeepB B b w (w.setCell ⟨b,j,none⟩ u):=
 ⟨(Mod.refl _ w).setCell (fun _=>hb) u,fun k o hk _ hne=>by rw [Below.heap_setCell w ⟨b,j,none⟩ u k hne];exact hk⟩
theorem KeepB.grown {B b:Nat} {w w':World} {v:Value} {n:Nat} {xs:List Value} (hown:w.ownsRow B u8T 1 v n xs) (hg:w.grownBy w' v.ownBlock):KeepB B b w w':=by
 refine ⟨Mod.ofGrown hg (fun k hk=>(hown.lt k hk).1),fun k o hk ho _=>?_⟩;rw [hg.block k (lt_of_at hk) (fun e=>?_)]
 ·exact hk
 ·rcases hown.2 with ⟨rfl,_⟩ | ⟨g,cap,cur,rfl,_,h1,_⟩
  ·simp [Value.ownBlock] at e
  ·simp [Value.ownBlock] at e
   subst e;rw [h1] at hk;exact ho _ _ (Option.some.inj hk).symm
theorem Bld.lt {B b:Nat} {tx:Bs} {w:World} (h:Bld B b tx w):B<=b/\b < w.heap.size:=by
 rcases h with h | h
 ·exact ⟨h.1,h.lt⟩
 ·exact ⟨h.1,h.lt⟩
theorem Bld.fresh (w:World):Bld w.heap.size w.heap.size [] (w.alloc (.cells #[.pointer none,.slice none 0 0] bldT)):=Lib.fresh_isBuilder bldT u8T w
theorem Bld.ext {B b:Nat} {tx:Bs} {w w':World} (h:Bld B b tx w) (hx:Ext w w'):Bld B b tx w':=by
 have aux:∀ p,Lib.BuilderAt bldT u8T B b p (Lib.byteCells tx) w -> Lib.BuilderAt bldT u8T B b p (Lib.byteCells tx) w':=by
  rintro p ⟨hB,v,hb,hown,hne⟩;exact ⟨hB,v,hx.at hb (fun h=>h),hown.kept (row:=none) ⟨hx.os,hx.tape,hx.output,hx.size,fun k hk _=>hx.block k hk (fun h=>h)⟩ (Classical.em _),hne⟩
 exact h.imp (aux _) (aux _)
theorem bsize:(Tryz.prog.info? sbT).map (·.size)=some 2:=by kernel_rfl
theorem blies:liesAt Tryz.prog Tryz.prog.depth bldT (2 / Tryz.prog.cellsOf bldT) 0 sbT 1=true:=by kernel_rfl
theorem binfo:(Tryz.prog.info? u8T).map (fun i=>(i.zero,i.size,i.bytes))=some (some (.int .u8 0),1,1):=by kernel_rfl
theorem enters_check:∀ args w,(callFunc 194 args).run Tryz.prog w=.ok (.enter 194 args) w:=enters_of Tryz.func194 (by kernel_rfl) rfl
theorem check_used (b:Nat) (w:World) (h0:w.cell? ⟨b,0,none⟩=some (.pointer (some ⟨b,0,none⟩))):
  Calls Tryz.prog 194 #[.pointer (some ⟨b,0,none⟩)] w fun e w'=>e=.returned (.tuple #[])/\w'=w:=by
 obtain ⟨j,hj,_⟩:=Option.map_eq_some_iff.1 bsize;go_enter Tryz.func194,Tryz.ntmps194;go_wp2;rw [Lib.run_neq_ptr_same w _ Tryz.underlying163 hj];go_wp2
 go_end0
 exact ⟨rfl,rfl⟩
theorem check_fresh (b:Nat) (w:World) (h0:w.cell? ⟨b,0,none⟩=some (.pointer none)) (hsh:w.shape? b=some (bldT,2)) (hfz:w.frozen? ⟨b,0,none⟩=false):
  Calls Tryz.prog 194 #[.pointer (some ⟨b,0,none⟩)] w fun e w'=>e=.returned (.tuple #[])/\w'=w.setCell ⟨b,0,none⟩ (.pointer (some ⟨b,0,none⟩)):=by
 obtain ⟨j,hj,hjs⟩:=Option.map_eq_some_iff.1 bsize;go_enter Tryz.func194,Tryz.ntmps194;go_wp2;rw [Lib.run_to_unsafe w ⟨b,0,none⟩ Tryz.underlying163 Tryz.underlying180 hj (by rw [hjs];decide) hsh (Nat.zero_lt_succ 1)];simp only [Result.andThen];rw [Oper.upon_value];go_wp2;rw [run_callFunc_extern Tryz.func265 (by kernel_rfl) (by kernel_rfl) (by kernel_rfl) (e:=Extern.AbiNoEscape.same) (by kernel_rfl)];rw [Lib.run_noEscape];simp only [Result.andThen];rw [Oper.upon_value];go_wp2;rw [Lib.run_from_unsafe w ⟨b,0,none⟩ Tryz.underlying180 Tryz.underlying163 hj hsh blies];simp only [Result.andThen];rw [Oper.upon_value];go_wp2
 go_end0
 exact ⟨rfl,rfl⟩
theorem check_any (B b:Nat) (tx:Bs) (w:World) (h:Bld B b tx w):
  Calls Tryz.prog 194 #[.pointer (some ⟨b,0,none⟩)] w fun e w'=>e=.returned (.tuple #[])/\Lib.BuilderAt bldT u8T B b (.pointer (some ⟨b,0,none⟩)) (Lib.byteCells tx) w'/\KeepB B b w w':=by
 rcases h with h | h
 ·refine (check_fresh b w h.cell0 h.shape h.frozen0).mono ?_
  rintro e w' ⟨rfl,rfl⟩;exact ⟨rfl,h.used _,KeepB.setCell h.1 0 _⟩
 ·refine (check_used b w h.cell0).mono ?_
  rintro e w' ⟨rfl,rfl⟩;exact ⟨rfl,h,KeepB.refl _ _ _⟩
theorem putStr_any (B b:Nat) (tx:Bs) (s:ByteArray) (w:World) (h:Bld B b tx w) (hlen:tx.length+s.size<=140737488355328):
  Calls Tryz.prog 130 #[.pointer (some ⟨b,0,none⟩),.string s] w fun e w'=>e=.returned (.tuple #[.int .i64 s.size,.nilIface])/\Bld B b (tx++s.data.toList) w'/\KeepB B b w w':=by
 obtain ⟨i0,hi,hz0,hz1,hz2⟩:=info_parts binfo;have hBw:B<=w.heap.size:=by have:=h.lt;omega
 have e240:=enters_check;go_enter Tryz.func130,Tryz.ntmps130;go_wp2_with (go_at_fn 194;refine (check_any B b tx _ h).mono ?_)
 rintro e w1 ⟨rfl,h1,hb1⟩;obtain ⟨hB,v,hbk,hown,hne⟩:=h1;have c0:w1.cell? ⟨b,0,none⟩=some (.pointer (some ⟨b,0,none⟩)):=by rw [Lib.cell_of_heap hbk];rfl
 have c1:w1.cell? ⟨b,1,none⟩=some v:=by rw [Lib.cell_of_heap hbk];rfl
 have hlb:=hid (Lib.byteCells_length tx);go_wp2_with (at_builtin;refine Lib.wpList_append_own_string _ rfl _ _ 38 9 rfl B u8T i0 Tryz.underlying38 Tryz.underlying9 hi hz0 hz1 hz2 _ _ _ rfl hown s rfl ?c3 ?c4 ?c5 ?_)
 case c3=>have:=hlb.out;unfold maxLen;omega
 case c4=>have:=hlb.out;omega
 case c5=>have:=hb1.1.size;omega
 intro v' w2 hown' hgrow _;have hlt:b < w1.heap.size:=lt_of_at hbk;have hb2:w2.heap[b]?=some (.cells #[.pointer (some ⟨b,0,none⟩),v] bldT (0,0)):=by
  rw [hgrow.block b hlt (fun e=>hne e.symm)];exact hbk
 have d0:w2.cell? ⟨b,0,none⟩=some (.pointer (some ⟨b,0,none⟩)):=by rw [Lib.cell_of_heap hb2];rfl
 have d1:w2.cell? ⟨b,1,none⟩=some v:=by rw [Lib.cell_of_heap hb2];rfl
 have f1:w2.frozen? ⟨b,1,none⟩=false:=Lib.frozen_of_heap hb2 1;obtain ⟨ao,n',cap,rfl⟩:∃ ao n' cap,v'=.slice ao n' cap:=by
  rcases hown'.2 with ⟨hv,_⟩ | ⟨g,cap,cur,hv,_⟩
  ·exact ⟨_,_,_,hv⟩
  ·exact ⟨_,_,_,hv⟩
 go_wp2
 go_ret2
 refine ⟨rfl,.inr ?_,(hb1.trans (KeepB.grown hown hgrow)).trans (KeepB.setCell hB 1 _)⟩;have e1:Lib.byteCells (tx++s.data.toList)=Lib.byteCells tx++Lib.strCells s:=by simp [Lib.byteCells,Lib.strCells]
 rw [e1];exact Lib.BuilderAt.put (T:=bldT) (e:=u8T) hB hb2 (bs':=Lib.byteCells tx++Lib.strCells s) (by simpa [Lib.strCells_length] using hown') (by decide)
theorem blen_any (B b:Nat) (tx:Bs) (w:World) (h:Bld B b tx w):Calls Tryz.prog 190 #[.pointer (some ⟨b,0,none⟩)] w fun e w'=>e=.returned (.int .i64 tx.length)/\w'=w:=by
 obtain ⟨p,-,v,hbk,hown,-⟩:∃ p,Lib.BuilderAt bldT u8T B b p (Lib.byteCells tx) w:=by rcases h with h | h <;> exact ⟨_,h⟩
 rw [Lib.byteCells_length] at hown;obtain ⟨ao,cap,rfl⟩:∃ ao cap,v=.slice ao tx.length cap:=by
  rcases hown.2 with ⟨hv,hz⟩ | ⟨g,cap,cur,hv,-⟩
  ·exact ⟨_,_,by rw [hv,hz]⟩
  ·exact ⟨_,_,hv⟩
 have c1:w.cell? ⟨b,1,none⟩=some (.slice ao tx.length cap):=by rw [Lib.cell_of_heap hbk];rfl
 go_enter Tryz.func190,Tryz.ntmps190;go_wp2_with fail
 go_ret;exact ⟨rfl,rfl⟩
theorem bstr_nil (b:Nat) (p:Value) (w:World) (hbk:w.heap[b]?=some (.cells #[p,.slice none 0 0] bldT (0,0))):
  Calls Tryz.prog 83 #[.pointer (some ⟨b,0,none⟩)] w fun e w'=>e=.returned (.string ⟨#[]⟩)/\Ext w w':=by
 have c1:w.drew.cell? ⟨b,1,none⟩=some (.slice none 0 0):=by rw [Lib.cell_of_heap (show w.drew.heap[b]?=_ from hbk)];rfl
 have mixed:Tryz.prog.follows .mixedOrders=true:=by kernel_rfl
 have hSD:(Builtin.unsafeSliceData_ #[38] 285 #[.slice none 0 0]).run Tryz.prog w.drew=.ok (.pointer none) w.drew:=rfl;have hUS:(Builtin.unsafeString_ #[285,3] 9 #[.pointer none,.int .i64 0]).run Tryz.prog w.drew=.ok (.string .empty) w.drew:=Lib.run_unsafeString_none w.drew _ _ _ none;have hx:=Mod.drew0 (fun _=>False) w;go_enter Tryz.func83,Tryz.ntmps83;go_wp2
 go_region_o
 all_goals (go_wp2;go_ret;exact ⟨rfl,hx⟩)
theorem freeze_mod (w:World) (p:Addr) (n:Nat):Mod (Eq p.block) w (w.freeze p n):=by
 unfold World.freeze;split
 ·exact Mod.refl _ _
 ·exact ⟨rfl,rfl,rfl,by simp,fun k hk hne=>by
   simp only [Array.getElem?_modify]
   rw [if_neg hne]⟩
theorem bstr_some (B b g cap:Nat) (p:Value) (cur:Array Value) (l:Bs) (h0:l ≠ []) (w:World) (hbk:w.heap[b]?=some (.cells #[p,.slice (some ⟨g,0,none⟩) l.length cap] bldT (0,0))) (hg:w.heap[g]?=some (.cells cur u8T (0,0))) (hc:l.length<=cap/\cap<=maxLen/\cur.size=cap) (hB:B<=g)
  (hcell:∀ j (x:UInt8),l[j]?=some x -> w.cell? (Addr.add ⟨g,0,none⟩ j)=some (.int .u8 x.toNat)):
  Calls Tryz.prog 83 #[.pointer (some ⟨b,0,none⟩)] w fun e w'=>e=.returned (.string ⟨l.toArray⟩)/\Mod (Eq g) w w':=by
 have hl0:l.length ≠ 0:=by simpa using h0
 have c1:w.drew.cell? ⟨b,1,none⟩=some (.slice (some ⟨g,0,none⟩) l.length cap):=by rw [Lib.cell_of_heap (show w.drew.heap[b]?=_ from hbk)];rfl
 have mixed:Tryz.prog.follows .mixedOrders=true:=by kernel_rfl
 have hSD:(Builtin.unsafeSliceData_ #[38] 285 #[.slice (some ⟨g,0,none⟩) l.length cap]).run Tryz.prog w.drew=.ok (.pointer (some ⟨g,0,none⟩)) w.drew:=Lib.run_unsafeSliceData_row _ _ _ _ _ _ (by omega);have hUS:(Builtin.unsafeString_ #[285,3] 9 #[.pointer (some ⟨g,0,none⟩),.int .i64 l.length]).run Tryz.prog w.drew=.ok (.string ⟨l.toArray⟩) (w.drew.freeze ⟨g,0,none⟩ l.length):=
  Lib.run_unsafeString_row w.drew 285 3 9 u8T Tryz.underlying285 (by kernel_rfl) g cur.size (by simp [World.shape?,show w.drew.heap[g]?=_ from hg]) l h0 (by omega) (by have:=hc.2.1;unfold maxLen at this;omega) hcell
 have hfin:=hid ((Mod.drew0 (Eq g) w).trans (freeze_mod w.drew ⟨g,0,none⟩ l.length));clear hcell hg hbk;go_enter Tryz.func83,Tryz.ntmps83;go_wp2
 go_region_o
 all_goals (go_wp2;go_ret;exact ⟨rfl,hfin.out⟩)
theorem bstr_any (B b:Nat) (tx:Bs) (w:World) (h:Bld B b tx w) (h0:tx ≠ []):Calls Tryz.prog 83 #[.pointer (some ⟨b,0,none⟩)] w fun e w'=>e=.returned (.string ⟨tx.toArray⟩)/\Mod (fun k=>B<=k) w w'/\∀ (k:Nat) (o:Obj),w.heap[k]?=some o -> (∀ cs fr,o ≠ .cells cs u8T fr) -> w'.heap[k]?=some o:=by
 have hBw:B<=w.heap.size:=by have:=h.lt;omega
 obtain ⟨p,-,v,hbk,hown,-⟩:∃ p,Lib.BuilderAt bldT u8T B b p (Lib.byteCells tx) w:=by rcases h with h | h <;> exact ⟨_,h⟩
 rw [Lib.byteCells_length] at hown;rcases hown.2 with ⟨_,hz⟩ | ⟨g,cap,cur,rfl,hbg,hg,hnc,hcm,hcs,htake⟩
 ·exact absurd (List.length_eq_zero_iff.1 hz) h0
 ·refine (bstr_some B b g cap p cur tx h0 w hbk hg ⟨hnc,hcm,by omega⟩ hbg (fun j x hx=>hown.cells (g:=g) rfl j (.int .u8 x.toNat) (by simp [Lib.byteCells,hx]))).mono ?_
  rintro e w' ⟨rfl,hb⟩;exact ⟨rfl,hb.mono (fun k e=>by omega),fun k o hk ho=>hb.at hk (fun e=>by subst e;rw [hg] at hk;injection hk with hk;exact ho _ _ hk.symm)⟩
theorem num_any (B b:Nat) (tx:Bs) (n:Int) (h1:-4611686018427387903<=n) (h2:n<=4611686018427387903) (w:World) (h:Bld B b tx w) (hl:tx.length<=1000000):
  Calls Tryz.prog 80 #[.pointer (some ⟨b,0,none⟩),.int .i64 n] w fun e w'=>e=.returned (.tuple #[])/\Bld B b (tx++putI n) w'/\KeepB B b w w':=by
 have hp:=hid (putInt_any n h1 h2 w);have hpl:=hid (putI_len n);go_enter Tryz.func80,Tryz.ntmps80;go_wp2_with fail
 refine hp.out.mono ?_;rintro e w1 ⟨rfl,hx⟩;have hw:=hid (putStr_any B b tx ⟨(putI n).toArray⟩ w1 (h.ext hx) (by have:=hpl.out;rw [size_bs];omega));replace hx:=hid hx;clear h;go_wp2_with fail
 refine hw.out.mono ?_;rintro e w2 ⟨rfl,h3,h4⟩;replace h3:=hid h3;go_wp2_with fail
 go_end0
 exact ⟨rfl,h3.out,KeepB.pre hx.out h4⟩
theorem op_any (B b:Nat) (tx x:Bs) (w:World) (h:Bld B b tx w) (hl:tx.length<=100000) (hx:x.length<=8192):
  Calls Tryz.prog 82 #[.pointer (some ⟨b,0,none⟩),.agg #[.int .i64 0,.int .i64 0,.string ⟨x.toArray⟩]] w fun e w'=>e=.returned (.tuple #[])/\Bld B b (tx++(putI 0++putS x)) w'/\KeepB B b w w':=by
 obtain ⟨T,hT⟩:∃ T,T=w.heap.size:=⟨_,rfl⟩;have hT0:=heap_alloc_new w (.cells #[.int .i64 0,.int .i64 0,.string ⟨x.toArray⟩] 172);have hx0:=Mod.alloc (Mod.refl (fun _=>False) w) (.cells #[.int .i64 0,.int .i64 0,.string ⟨x.toArray⟩] 172);have hbT:b < w.heap.size:=h.lt.2;have h0:=hid (h.ext hx0);go_enter Tryz.func82,Tryz.ntmps82;go_upto_region 1 with fail
 rw [<- hT] at hT0 hbT ⊢;generalize w.alloc (.cells #[.int .i64 0,.int .i64 0,.string ⟨x.toArray⟩] 172)=w1 at hT0 hx0 h0 ⊢;replace hT:=hid hT;have hn:=hid (num_any B b tx 0 (by decide) (by decide) w1 h0.out (by omega));have c0:w1.cell? ⟨T,0,none⟩=some (.int .i64 0):=cellN hT0 0;have hT1:=hid hT0;replace hx0:=hid hx0;clear h hT0;go_wp2_with fail
 refine hn.out.mono ?_;rintro e w2 ⟨rfl,h2,k2⟩;have hT2:=hid (k2.2 T _ hT1.out (fun cs fr e=>by injection e with e1 e2;exact absurd e2 (by decide)) (by omega));have d0:w2.cell? ⟨T,0,none⟩=some (.int .i64 0):=cellN hT2.out 0;have d2:w2.cell? ⟨T,2,none⟩=some (.string ⟨x.toArray⟩):=cellN hT2.out 2;have hp:=hid (putString_any x (by omega) w2);have hpl:=hid (putS_len x);have hp0:=hid (putI_len 0);replace k2:=hid k2;replace h2:=hid h2;clear c0 hn hT1;go_wp2_with fail
 refine hp.out.mono ?_;rintro e w3 ⟨rfl,hx3⟩;have hw:=hid (putStr_any B b (tx++putI 0) ⟨(putS x).toArray⟩ w3 (h2.out.ext hx3) (by have:=hpl.out;have:=hp0.out;rw [size_bs,List.length_append];omega));replace hx3:=hid hx3;clear d0 d2;go_wp2_with fail
 refine hw.out.mono ?_;rintro e w4 ⟨rfl,h4,k4⟩;replace h4:=hid h4;go_wp2_with fail
 go_end0
 refine ⟨rfl,?_,KeepB.pre hx0.out ((k2.out.ext hx3.out).trans k4)⟩;have:=h4.out;rw [List.append_assoc] at this;exact this
end Go.Proofs.YtcopgcdhkgenkaaGreatDoor.Dw
namespace Scr
theorem top16:∀ a b:Fin 16,(shiftsT.getD a.val 0) >>> 28=(shiftsT.getD b.val 0) >>> 28 -> a=b:=by decide+kernel
theorem nib_top (r:UInt32):(nib r) >>> 28=(shiftsT.getD (r.toNat % 16) 0) >>> 28:=by
 unfold nib;rw [UInt32.shiftRight_xor];have h:r >>> 4 >>> 28=0:=by
  apply UInt32.toNat_inj.1;rw [UInt32.toNat_shiftRight,UInt32.toNat_shiftRight,<- Nat.shiftRight_add,Nat.shiftRight_eq_div_pow];exact Nat.div_eq_of_lt r.toNat_lt
 rw [h,UInt32.zero_xor]
theorem nib_inj {r s:UInt32} (h:nib r=nib s):r=s:=by
 have ht:=congrArg (· >>> (28:UInt32)) h;simp only [nib_top] at ht;have hk:=top16 ⟨r.toNat % 16,by omega⟩ ⟨s.toNat % 16,by omega⟩ ht;have hk':r.toNat % 16=s.toNat % 16:=by injection hk
 unfold nib at h;rw [hk',UInt32.xor_left_inj] at h;have h4:=congrArg UInt32.toNat h;rw [UInt32.toNat_shiftRight,UInt32.toNat_shiftRight] at h4;have e4:(4:UInt32).toNat % 32=4:=by decide
 rw [e4,Nat.shiftRight_eq_div_pow,Nat.shiftRight_eq_div_pow] at h4;apply UInt32.toNat_inj.1;omega
theorem crcF_inj:∀ (s:Bs) {a b:UInt32},crcF a s=crcF b s -> a=b
 | [],_,_,h=>h
 | c::s,a,b,h=>by
  have h1:=nib_inj (nib_inj (crcF_inj s h));exact (UInt32.xor_left_inj _).1 h1
theorem crcF_app:∀ (p s:Bs) (a:UInt32),crcF a (p++s)=crcF (crcF a p) s
 | [],_,_=>rfl
 | c::p,s,a=>crcF_app p s _
theorem crcF_at {p q:Bs} {x y:UInt8} {a:UInt32} (h:crcF a (p++x::q)=crcF a (p++y::q)):x=y:=by
 rw [crcF_app,crcF_app] at h;have h1:=nib_inj (nib_inj (crcF_inj q h));exact UInt8.toUInt32_inj.1 ((UInt32.xor_right_inj _).1 h1)
theorem crc_at {p q:Bs} {x y:UInt8} (h:crc (p++x::q)=crc (p++y::q)):x=y:=by
 unfold crc at h;have h1:=UInt32.toNat_inj.1 (Int.ofNat.inj h);exact crcF_at ((UInt32.xor_left_inj _).1 h1)
def flipB (l:Bs):Bs:=l.set (l.length / 2) (l.getD (l.length / 2) 0 ^^^ 1)
theorem grpF_len:∀ (f z:Nat),0 < f -> 1<=(grpF f z).length
 | 0,_,h=>absurd h (by decide)
 | f+1,z,_=>by
  unfold grpF;split <;> simp
theorem grpF_small:∀ (f z:Nat),z < 128 ^ f -> (grpF f z).length<=f/\∀ g,(grpF (f+g) z)=grpF f z \/ f=0
 | 0,z,_=>⟨by simp [grpF],fun _=>.inr rfl⟩
 | f+1,z,h=>by
  have hl:∀ g,(grpF (f+1+g) z)=grpF (f+1) z:=fun g=>by
   rw [show f+1+g=(f+g)+1 by omega];unfold grpF;split
   ·rfl
   ·rename_i h1
    have hz:z / 128 < 128 ^ f:=by rw [Nat.div_lt_iff_lt_mul (by decide)];rw [Nat.pow_succ] at h;exact h
    rcases (grpF_small f (z / 128) hz).2 g with e | e
    ·rw [e]
    ·subst e;simp at h;omega
  refine ⟨?_,fun g=>.inl (hl g)⟩;unfold grpF;split
  ·simp
  ·have hz:z / 128 < 128 ^ f:=by rw [Nat.div_lt_iff_lt_mul (by decide)];rw [Nat.pow_succ] at h;exact h
   have:=(grpF_small f (z / 128) hz).1;simp only [List.length_cons];omega
theorem putI_len5 {n:Int} (h0:0<=n) (h1:n<=4294967295):(putI n).length<=5:=by
 unfold putI;rw [if_neg (by omega)];have hz:zz n < 128 ^ 5:=by unfold zz;rw [if_neg (by omega)];omega
 have:=grpF_small 5 (zz n) hz;rcases this.2 5 with e | e
 ·show (grpF (5+5) (zz n)).length<=5
  rw [e];exact this.1
 ·cases e
theorem putI_len1 {n:Int} (h0:-4611686018427387903<=n) (h1:n<=4611686018427387903):1<=(putI n).length:=by
 unfold putI;rw [if_neg (by omega)];exact grpF_len _ _ (by decide)
theorem body_len {m:Ms} (h:vMs m=true):7<=(bodyM m).length:=by
 obtain ⟨h1,h2,h3,h4,h5,h6,h7⟩:=vMs_good h;have a1:=putI_len1 (n:=m.kd) (by omega) (by omega);have a2:=putI_len1 (n:=m.pa) (by omega) (by omega);have a3:=putI_len1 (n:=m.sq) (by omega) (by omega);have a4:=putI_len1 (n:=m.st) (by omega) (by omega);have a5:=putI_len1 (n:=m.ba) (by omega) (by omega);have a6:=putI_len1 (n:=m.ve) (by omega) (by omega);have a7:=putI_len1 (n:=m.da.length) (by omega) (by omega);unfold bodyM putIs putS;rw [if_neg (by omega)];simp only [List.flatMap_cons,List.flatMap_nil,List.append_nil,List.length_append];omega
theorem grpF_le:∀ (f z:Nat),(grpF f z).length<=f
 | 0,z=>by simp [grpF]
 | f+1,z=>by
  unfold grpF;split
  ·simp
  ·have:=grpF_le f (z / 128)
   simp only [List.length_cons];omega
theorem putI_le (n:Int):(putI n).length<=10:=by
 unfold putI;split
 ·simp
 ·exact grpF_le _ _
theorem encM_len {m:Ms} (h:vMs m=true):1<=(encM m).length/\(encM m).length<=1000000:=by
 have h7:=body_len h;obtain ⟨-,-,-,-,-,-,hd⟩:=vMs_good h;unfold encM;rw [if_pos h,List.length_append];refine ⟨by omega,?_⟩;have a0:=putI_le (crc (bodyM m));have a1:=putI_le m.kd;have a2:=putI_le m.pa;have a3:=putI_le m.sq;have a4:=putI_le m.st;have a5:=putI_le m.ba;have a6:=putI_le m.ve;have a7:=putI_le m.da.length;have hb:(bodyM m).length<=70+m.da.length:=by
  unfold bodyM putIs putS;rw [if_neg (by omega)];simp only [List.flatMap_cons,List.flatMap_nil,List.append_nil,List.length_append];omega
 omega
theorem xor_one_ne (x:UInt8):x ^^^ 1 ≠ x:=by
 intro h;have h1:x ^^^ 1=x ^^^ 0:=by rw [h,UInt8.xor_zero]
 have:=(UInt8.xor_right_inj x).1 h1;exact absurd this (by decide)
theorem dec_flip {m:Ms} (h:vMs m=true):decM (flipB (encM m))=.error 200:=by
 have hc:=crc_rng (bodyM m);have h5:=putI_len5 hc.1 hc.2;have h7:=body_len h;have he:encM m=putI (crc (bodyM m))++bodyM m:=by unfold encM;rw [if_pos h]
 rw [he];obtain ⟨P,hP⟩:∃ P,P=putI (crc (bodyM m)):=⟨_,rfl⟩;obtain ⟨B,hB⟩:∃ B,B=bodyM m:=⟨_,rfl⟩;rw [<- hP,<- hB];rw [<- hP] at h5;rw [<- hB] at h7;obtain ⟨k,hk⟩:∃ k,(P++B).length / 2=P.length+k:=⟨(P++B).length / 2 - P.length,by rw [List.length_append];omega⟩;have hkB:k < B.length:=by rw [List.length_append] at hk;omega
 have hf:flipB (P++B)=P++B.set k (B[k] ^^^ 1):=by
  unfold flipB;rw [hk,List.set_append_right _ _ (by omega),Nat.add_sub_cancel_left];congr 2;rw [List.getD_eq_getElem?_getD,List.getElem?_append_right (by omega),Nat.add_sub_cancel_left,List.getElem?_eq_getElem hkB]
  rfl
 have hs:B.set k (B[k] ^^^ 1)=B.take k++(B[k] ^^^ 1)::B.drop (k+1):=by rw [List.set_eq_take_append_cons_drop,if_pos hkB]
 have hB2:B=B.take k++B[k]::B.drop (k+1):=by rw [List.getElem_cons_drop,List.take_append_drop]
 have hne:crc (bodyM m) ≠ crc (B.set k (B[k] ^^^ 1)):=by
  rw [<- hB,hs];intro e;have e2:crc (B.take k++B[k]::B.drop (k+1))=crc (B.take k++(B[k] ^^^ 1)::B.drop (k+1)):=by rw [<- hB2];exact e
  exact xor_one_ne _ (crc_at e2).symm
 rw [hf,hP];unfold decM;rw [rbI_putI (by omega) (by omega)];simp only [bind,Except.bind];rw [if_pos hne]
end Scr
namespace Nt
open Scr
def letL (t:Int) (m:Ms):Lt:=⟨encM m,if m.kd=3 \/ m.kd=4 then 0 else m.pa,t+1,false,0⟩
def fated (f:Int) (x:Lt):List Lt:=
 if f=0 then [x] else if f=1 then [] else if f=2 then [x,x] else if f=3 then [{ x with he:=true }] else if f=4 then [{ x with tx:=flipB x.tx }] else [{ x with du:=x.du+(f - 4) }]
def diff0 (x:Bs):Bs:=putI 0++putI (crc x)++(if x=[] then [] else putI 0++putS x)
def dlvM (pa sq st:Nat) (x:Bs):Ms:=⟨1,pa,sq,st,0,crc x,diff0 x⟩
inductive Pl
 | dlv (pa sq st:Nat) (x:Bs)
 | ans (m:Ms)
 | bad (m:Ms)
def Pl.ms:Pl -> Ms
 | .dlv pa sq st x=>dlvM pa sq st x
 | .ans m=>m
 | .bad m=>m
def Pl.tx:Pl -> Bs
 | .dlv pa sq st x=>encM (dlvM pa sq st x)
 | .ans m=>encM m
 | .bad m=>flipB (encM m)
def Pl.rc:Pl -> Int
 | .dlv pa _ _ _=>pa
 | _=>0
def Pl.isD:Pl -> Bool
 | .dlv _ _ _ _=>true
 | _=>false
structure PLt where
 c:Pl
 rc:Int
 du:Int
 he:Bool
 se:Int
def PLt.lt (x:PLt):Lt:=⟨x.c.tx,x.rc,x.du,x.he,x.se⟩
def Pl.ok:Pl -> Prop
 | .dlv pa sq st x=>1<=pa/\pa<=8/\1<=sq/\sq<=1000000/\1<=st/\st<=64/\x.length<=8192
 | .ans m=>vMs m=true/\(m.kd=3 \/ m.kd=4)
 | .bad m=>vMs m=true
def PLt.ok (x:PLt):Prop:=x.c.ok/\(x.c.isD=true -> x.rc=x.c.rc)/\(∀ m,x.c=.ans m -> x.rc=0)
structure Ns where
 t:Int
 c:Int
 fs:List Int
 q:List PLt
 s:Nat
 σ:Nat -> Int -> Int
 κ:Nat -> Int -> Option Bs
def addP (s:Nat) (q:List PLt):List PLt -> List PLt × Nat
 | []=>(q,s)
 | x::r=>if 1024<=q.length then (q,s) else addP (s+1) (q++[{ x with se:=s+1 }]) r
def letP (t:Int) (p:Pl):PLt:=⟨p,p.rc,t+1,false,0⟩
def fatedP (f:Int) (x:PLt):List PLt:=
 if f=0 then [x] else if f=1 then [] else if f=2 then [x,x] else if f=3 then [{ x with he:=true }] else if f=4 then [{ x with c:=.bad x.c.ms }] else [{ x with du:=x.du+(f - 4) }]
def sendP (n:Ns) (p:Pl):Ns:={ n with fs:=(nextF n.fs).2,q:=(addP n.s n.q (fatedP (nextF n.fs).1 (letP n.t p))).1,s:=(addP n.s n.q (fatedP (nextF n.fs).1 (letP n.t p))).2 }
def unheld (t se:Int) (q:List PLt):List PLt:=q.map fun h=>if h.he && decide (h.se < se) then { h with he:=false,du:=t+1 } else h
def setf {α:Type} (g:Nat -> Int -> α) (i:Nat) (j:Int) (v:α):Nat -> Int -> α:=fun a b=>if a=i/\b=j then v else g a b
def recvN (n:Ns) (pa sq st:Nat) (x:Bs):Ns:=if n.σ pa st < sq then { n with σ:=setf n.σ pa st sq,κ:=setf n.κ pa st (some x) } else n
def recvA (n:Ns) (pa sq st:Nat) (x:Bs):Ms:=
 if sq < n.σ pa st then ⟨4,pa,n.σ pa st,st,crc ((n.κ pa st).getD []),0,[]⟩
 else if sq=n.σ pa st then ⟨3,pa,sq,st,0,crc ((n.κ pa st).getD []),[]⟩
 else ⟨3,pa,sq,st,0,crc x,[]⟩
def delivP (n:Ns) (l:PLt):Ns:=
 match l.c with
 | .dlv pa sq st x=>sendP (recvN { n with q:=unheld n.t l.se n.q } pa sq st x) (.ans (recvA { n with q:=unheld n.t l.se n.q } pa sq st x))
 | _=>{ n with q:=unheld n.t l.se n.q }
def due (t:Int) (l:PLt):Bool:=!l.he && decide (l.du<=t)
def tickP (n:Ns):Ns:=(n.q.filter (due (n.t+1))).foldl delivP { n with t:=n.t+1,c:=min (n.c+1) 1000000000,q:=n.q.filter fun l=>!due (n.t+1) l }
def Ns.new:Ns:=⟨0,0,[],[],0,fun _ _=>0,fun _ _=>none⟩
theorem addP_lt:∀ (xs:List PLt) (s:Nat) (q:List PLt),addL s (q.map PLt.lt) (xs.map PLt.lt)=((addP s q xs).1.map PLt.lt,(addP s q xs).2)
 | [],s,q=>rfl
 | x::r,s,q=>by
  rw [List.map_cons,addL,addP,List.length_map]
  by_cases h:1024<=q.length
  ·rw [if_pos h,if_pos h]
  ·rw [if_neg h,if_neg h]
   have:=addP_lt r (s+1) (q++[{ x with se:=s+1 }]);rw [List.map_append] at this;exact this
theorem fatedP_lt (f:Int) (x:PLt) (h:x.c.tx=encM x.c.ms):fated f x.lt=(fatedP f x).map PLt.lt:=by
 unfold fated fatedP;split
 ·rfl
 ·split
  ·rfl
  ·split
   ·rfl
   ·split
    ·rfl
    ·split
     ·exact congrArg (fun z=>[(⟨flipB z,x.rc,x.du,x.he,x.se⟩:Lt)]) h
     ·rfl
theorem letP_lt (t:Int) (p:Pl) (h:(∃ pa sq st x,p=.dlv pa sq st x) \/ (∃ m,p=.ans m/\(m.kd=3 \/ m.kd=4))):letL t p.ms=(letP t p).lt:=by
 rcases h with ⟨pa,sq,st,x,rfl⟩ | ⟨m,rfl,hm⟩
 ·show (⟨encM (dlvM pa sq st x),(if (1:Int)=3 \/ (1:Int)=4 then (0:Int) else pa),t+1,false,0⟩:Lt)=⟨encM (dlvM pa sq st x),pa,t+1,false,0⟩
  rw [if_neg (by decide)]
 ·show (⟨encM m,(if m.kd=3 \/ m.kd=4 then (0:Int) else m.pa),t+1,false,0⟩:Lt)=⟨encM m,0,t+1,false,0⟩
  rw [if_pos hm]
theorem diff0_len (x:Bs) (h:x.length<=8192):(diff0 x).length<=8232:=by
 have a1:=putI_le 0;have a2:=putI_le (crc x);have a3:=putI_le x.length;unfold diff0 putS;split
 ·simp only [List.length_append,List.length_nil];omega
 ·rw [if_neg (by omega)]
  simp only [List.length_append];omega
theorem dlv_v {pa sq st:Nat} {x:Bs} (h:(Pl.dlv pa sq st x).ok):vMs (dlvM pa sq st x)=true:=by
 obtain ⟨h1,h2,h3,h4,h5,h6,h7⟩:=h;have hd:=diff0_len x h7;have hc:=crc_rng x;unfold vMs dlvM isSum;simp only [Bool.and_eq_true,rng_iff,if_pos,decide_eq_true_eq];omega
theorem ok_v {p:Pl} (h:p.ok):vMs p.ms=true:=by
 cases p with
 | dlv pa sq st x=>exact dlv_v h
 | ans m=>exact h.1
 | bad m=>exact h
theorem recvA_v {n:Ns} {pa sq st:Nat} {x:Bs} (h:(Pl.dlv pa sq st x).ok) (hs:n.σ pa st<=1000000):vMs (recvA n pa sq st x)=true/\((recvA n pa sq st x).kd=3 \/ (recvA n pa sq st x).kd=4):=by
 obtain ⟨h1,h2,h3,h4,h5,h6,h7⟩:=h;have hc:=crc_rng x;have hk:=crc_rng ((n.κ pa st).getD []);unfold recvA;split
 ·refine ⟨?_,.inr rfl⟩
  unfold vMs isSum;simp only [Bool.and_eq_true,rng_iff,if_pos,if_neg (show ¬ (4:Int)=1 by decide),if_neg (show ¬ (4:Int)=2 by decide),if_neg (show ¬ (4:Int)=3 by decide),decide_eq_true_eq,List.isEmpty_nil,and_true];omega
 ·split
  ·refine ⟨?_,.inl rfl⟩
   unfold vMs isSum;simp only [Bool.and_eq_true,rng_iff,if_pos,if_neg (show ¬ (3:Int)=1 by decide),if_neg (show ¬ (3:Int)=2 by decide),decide_eq_true_eq,List.isEmpty_nil,and_true];omega
  ·refine ⟨?_,.inl rfl⟩
   unfold vMs isSum;simp only [Bool.and_eq_true,rng_iff,if_pos,if_neg (show ¬ (3:Int)=1 by decide),if_neg (show ¬ (3:Int)=2 by decide),decide_eq_true_eq,List.isEmpty_nil,and_true];omega
def Pl.dec:Pl -> Except Int Ms
 | .dlv pa sq st x=>.ok (dlvM pa sq st x)
 | .ans m=>.ok m
 | .bad _=>.error 200
theorem dec_ok {p:Pl} (h:p.ok):decM p.tx=p.dec:=by
 cases p with
 | dlv pa sq st x=>exact decM_encM (dlv_v h)
 | ans m=>exact decM_encM h.1
 | bad m=>exact dec_flip h
structure Ns.good (n:Ns):Prop where
 t:0<=n.t
 c:0<=n.c/\n.c<=1000000000
 fs:∀ f ∈ n.fs,0<=f/\f<=24
 q:∀ l ∈ n.q,l.ok
 ql:n.q.length<=1024
 σ:∀ pa st,0<=n.σ pa st/\n.σ pa st<=1000000
 κ:∀ pa st y,n.κ pa st=some y -> y.length<=8192
theorem addP_len:∀ (xs:List PLt) (s:Nat) (q:List PLt),q.length<=1024 -> (addP s q xs).1.length<=1024/\(addP s q xs).2<=s+xs.length
 | [],s,q,h=>⟨h,by simp [addP]⟩
 | x::r,s,q,h=>by
  rw [addP]
  by_cases hf:1024<=q.length
  ·rw [if_pos hf];exact ⟨h,by simp only [List.length_cons];omega⟩
  ·rw [if_neg hf]
   have:=addP_len r (s+1) (q++[{ x with se:=s+1 }]) (by simp;omega);simp only [List.length_cons];omega
theorem addP_mem:∀ (xs:List PLt) (s:Nat) (q:List PLt) (l:PLt),l ∈ (addP s q xs).1 -> l ∈ q \/ ∃ x ∈ xs,∃ k:Nat,l={ x with se:=k }
 | [],s,q,l,h=>.inl h
 | x::r,s,q,l,h=>by
  rw [addP] at h
  by_cases hf:1024<=q.length
  ·rw [if_pos hf] at h;exact .inl h
  ·rw [if_neg hf] at h
   rcases addP_mem r (s+1) _ l h with h | ⟨y,hy,k,rfl⟩
   ·rcases List.mem_append.1 h with h | h
    ·exact .inl h
    ·exact .inr ⟨x,List.mem_cons_self ..,s+1,by simpa using h⟩
   ·exact .inr ⟨y,List.mem_cons_of_mem _ hy,k,rfl⟩
theorem fatedP_len (f:Int) (x:PLt):(fatedP f x).length<=2:=by
 unfold fatedP;repeat' split
 all_goals simp
theorem fatedP_ok {f:Int} {p:Pl} {t:Int} (h:p.ok):∀ l ∈ fatedP f (letP t p),∀ k:Int,({ l with se:=k }:PLt).ok:=by
 have h0:(letP t p).ok:=⟨h,fun _=>rfl,fun m e=>by unfold letP at e ⊢;simp only at e ⊢;rw [e];rfl⟩;have hb:Pl.ok (.bad p.ms):=ok_v h;intro l hl k;unfold fatedP at hl;split at hl
 ·simp only [List.mem_singleton] at hl;subst hl;exact h0
 ·split at hl
  ·cases hl
  ·split at hl
   ·simp only [List.mem_cons,List.not_mem_nil,or_false,or_self] at hl;subst hl;exact h0
   ·split at hl
    ·simp only [List.mem_singleton] at hl;subst hl;exact h0
    ·split at hl
     ·simp only [List.mem_singleton] at hl;subst hl
      exact ⟨hb,(fun e=>nomatch e),(fun m e=>nomatch e)⟩
     ·simp only [List.mem_singleton] at hl;subst hl;exact h0
theorem nextF_tail {fs:List Int} (h:∀ f ∈ fs,0<=f/\f<=24):∀ f ∈ (nextF fs).2,0<=f/\f<=24:=by
 cases fs with
 | nil=>exact h
 | cons a r=>exact fun f hf=>h f (List.mem_cons_of_mem _ hf)
theorem sendP_good {n:Ns} (h:n.good) {p:Pl} (hp:p.ok):(sendP n p).good:=by
 refine ⟨h.t,h.c,nextF_tail h.fs,fun l hl=>?_,(addP_len _ _ _ h.ql).1,h.σ,h.κ⟩;rcases addP_mem _ _ _ _ hl with h1 | ⟨x,hx,k,rfl⟩
 ·exact h.q l h1
 ·exact fatedP_ok hp x hx k
theorem unheld_ok {t se:Int} {q:List PLt} (h:∀ l ∈ q,l.ok):∀ l ∈ unheld t se q,l.ok:=by
 intro l hl;obtain ⟨x,hx,rfl⟩:=List.mem_map.1 hl;split
 ·exact h x hx
 ·exact h x hx
theorem unheld_good {n:Ns} (h:n.good) (t se:Int):({ n with q:=unheld t se n.q }:Ns).good:=
 ⟨h.t,h.c,h.fs,unheld_ok h.q,by simpa [unheld] using h.ql,h.σ,h.κ⟩
theorem recvN_good {n:Ns} (h:n.good) {pa sq st:Nat} {x:Bs} (hp:(Pl.dlv pa sq st x).ok):(recvN n pa sq st x).good:=by
 unfold recvN;split
 ·refine ⟨h.t,h.c,h.fs,h.q,h.ql,fun a b=>?_,fun a b y hy=>?_⟩
  ·simp only [setf]
   split
   ·have:=hp.2.2.2.1;omega
   ·exact h.σ a b
  ·simp only [setf] at hy
   split at hy
   ·injection hy with hy;subst hy;exact hp.2.2.2.2.2.2
   ·exact h.κ a b y hy
 ·exact h
theorem delivP_good {n:Ns} (h:n.good) {l:PLt} (hl:l.ok):(delivP n l).good:=by
 unfold delivP;split
 ·rename_i pa sq st x e
  have hp:(Pl.dlv pa sq st x).ok:=e ▸ hl.1;have hu:=unheld_good h n.t l.se;exact sendP_good (recvN_good hu hp) (recvA_v hp (hu.σ pa st).2)
 ·exact unheld_good h _ _
theorem foldl_good:∀ (ls:List PLt) (n:Ns),n.good -> (∀ l ∈ ls,l.ok) -> (ls.foldl delivP n).good
 | [],n,h,_=>h
 | l::r,n,h,hl=>foldl_good r _ (delivP_good h (hl l (List.mem_cons_self ..))) (fun x hx=>hl x (List.mem_cons_of_mem _ hx))
theorem tick0_good {n:Ns} (h:n.good):({ n with t:=n.t+1,c:=min (n.c+1) 1000000000,q:=n.q.filter fun l=>!due (n.t+1) l }:Ns).good:=by
 have ht:=h.t;have hc:=h.c;exact ⟨by show 0<=n.t+1;omega,by show 0<=min (n.c+1) 1000000000/\min (n.c+1) 1000000000<=1000000000;omega,h.fs,fun l hl=>h.q l (List.mem_filter.1 hl).1,Nat.le_trans (List.length_filter_le _ _) h.ql,h.σ,h.κ⟩
theorem tickP_good {n:Ns} (h:n.good):(tickP n).good:=foldl_good _ _ (tick0_good h) (fun l hl=>h.q l (List.mem_filter.1 hl).1)
theorem new_good:Ns.new.good:=⟨by decide,by decide,(fun f hf=>nomatch hf),(fun l hl=>nomatch hl),by decide,fun _ _=>⟨Int.le_refl 0,(by decide:(0:Int)<=1000000)⟩,fun _ _ _ h=>nomatch h⟩
theorem delivP_t (n:Ns) (l:PLt):(delivP n l).t=n.t/\(delivP n l).c=n.c:=by
 unfold delivP sendP recvN;split
 ·split <;> exact ⟨rfl,rfl⟩
 ·exact ⟨rfl,rfl⟩
theorem foldl_t:∀ (ls:List PLt) (n:Ns),(ls.foldl delivP n).t=n.t/\(ls.foldl delivP n).c=n.c
 | [],n=>⟨rfl,rfl⟩
 | l::r,n=>by
  rw [List.foldl_cons];have h1:=foldl_t r (delivP n l);have h2:=delivP_t n l;exact ⟨h1.1.trans h2.1,h1.2.trans h2.2⟩
theorem tickP_t (n:Ns):(tickP n).t=n.t+1/\(tickP n).c=min (n.c+1) 1000000000:=foldl_t _ _
end Nt
namespace Go.Proofs.YtcopgcdhkgenkaaGreatDoor.Dw
open Go.Shelf Go.RowKit Cdk Scr
attribute [local go_sem] Oper.semAt_some
theorem longest_nil (a b:ByteArray) (w:World):Calls Tryz.prog 132 #[.string a,.string b,.slice none 0 0] w fun e w'=>e=.returned (.tuple #[.int .i64 0,.int .i64 0])/\w=w':=by
 go_enter Tryz.func132,Tryz.ntmps132;go_wp2_with fail
 refine wp_loop_rounds 1 ?_;rw [rounds_succ];go_wp2_with fail
 go_ret2
 exact ⟨rfl,rfl⟩
def opsL (x:Bs):List Bs:=if x=[] then [] else [x]
theorem zero_ints (w:World):(zeroValue 31).run Tryz.prog w=.ok (.slice none 0 0) w:=by kernel_rfl
theorem ops_in (n l Bo Bn:Nat) (hn:1<=n) (x:Bs) (hx:x.length<=8192) (J Jx:List Bs -> World -> Prop) (hJ:∀ p A B,J p A -> A.grownBy B none -> J p B)
  (hY:∀ pre (y:Bs) W1,J pre W1 -> pre.length < 1 -> y=x -> YieldAt Fence.wide (n - 1) Tryz.prog l #[.agg #[.int .i64 0,.int .i64 0,.string ⟨y.toArray⟩]] W1 fun e W'=>
   (e=.returned (.bool true)/\J (pre++[y]) W'/\(W1.heap.size<=W'.heap.size/\∀ k,(k=Bo \/ k=Bn) -> W'.heap[k]?=W1.heap[k]?)) \/ (e=.returned (.bool false)/\Jx (pre++[y]) W'))
  (W:World) (hzo:W.heap[Bo]?=some (.cells #[.string ⟨#[]⟩] 9 (0,0))) (hzn:W.heap[Bn]?=some (.cells #[.string ⟨x.toArray⟩] 9 (0,0))) (h0:J [] W):
  CallsIn Fence.wide n Tryz.prog 131 #[.func (.yield l) #[] #[],.pointer (some ⟨Bo,0,none⟩),.pointer (some ⟨Bn,0,none⟩)] W fun e W'=>(∃ v,e=.returned v)/\((∃ ys,ys=opsL x/\J ys W') \/ (∃ pre,pre <+:[x]/\Jx pre W')):=by
 refine callsIn_wide.2 ?_;have hmm:=@run_makeMap Tryz.prog;obtain ⟨X,hX⟩:∃ X:ByteArray,X=⟨x.toArray⟩:=⟨_,rfl⟩;have hXs:X.size=x.length:=by rw [hX];rfl
 rw [<- hX] at hzn;replace hY:=hid hY;obtain ⟨M,hM⟩:∃ M,M=W.heap.size:=⟨_,rfl⟩;have hg0:W.grownBy (W.alloc (.map #[] 0)) none:=grown_ext ((Mod.refl _ W).alloc _);have hM0:(W.alloc (.map #[] 0)).heap[M]?=some (.map #[] 0):=by rw [hM];exact World.alloc_heap_new W _
 have hx0:=(Mod.refl (fun _=>False) W).alloc (.map #[] 0);have hJ0:=hid (hJ _ _ _ h0 hg0);have hzo0:=hid (hx0.at hzo (fun h=>h));have hzn0:=hid (hx0.at hzn (fun h=>h));replace hJ:=hid hJ;replace hX:=hid hX;clear h0 hzo hzn hg0 hx0;go_enter Tryz.func131,Tryz.ntmps131;go_upto_region 1 with fail
 rw [<- hM];generalize W.alloc (.map #[] 0)=W1 at hM0 hJ0 hzo0 hzn0 ⊢;have hMp:MapAt W1 Value.string M ([]:List (ByteArray × Value)):=⟨_,_,hM0,by simp,by simp,by simp,by simp⟩;replace hMp:=hid hMp;replace hM:=hid hM;clear hM0;have co:W1.cell? ⟨Bo,0,none⟩=some (.string ⟨#[]⟩):=cellN hzo0.out 0;have cn:W1.cell? ⟨Bn,0,none⟩=some (.string X):=cellN hzn0.out 0;go_wp2_with fail
 refine wp_loop_rounds 1 ?_;rw [rounds_succ];go_wp2_with fail
 obtain ⟨N,hN⟩:∃ N,N=X.size:=⟨_,rfl⟩;have hNx:N<=8192:=by omega
 replace hXs:=hid hXs;replace hN:=hid hN;clear co cn;go_loopg [6,7,8,9] N (fun g p6 p7 p8 p9 wr=>∃ p:Nat,p+g=N/\p6=.int .i64 0/\p7=.int .i64 p/\J [] wr/\MapAt wr Value.string M ([]:List (ByteArray × Value))/\wr.heap[Bo]?=some (.cells #[.string ⟨#[]⟩] 9 (0,0))/\wr.heap[Bn]?=some (.cells #[.string X] 9 (0,0)))
 case atStart=>exact ⟨0,by omega,rfl,rfl,hJ0.out,hMp.out,hzo0.out,hzn0.out⟩
 case round=>
  clear hJ0 hMp hzo0 hzn0;obtain ⟨p,hp,rfl,rfl,hJr,hMr,hzor,hznr⟩:=hrel;replace hp:=hid hp;replace hJr:=hid hJr;replace hMr:=hid hMr;have co:=hid (cellN hzor 0);have cn:=hid (cellN hznr 0);have dn:wr.cell? ⟨Bn,0,none⟩=some (.string X):=cn.out;replace hzor:=hid hzor;replace hznr:=hid hznr;have hw8:IntKind.i64.wrap ((p:Int)+8)=(p:Int)+8:=IntWalk.i64_in _ (by have:=hp.out;omega);have hw8':wrap64 ((p:Int)+8)=(p:Int)+8:=IntWalk.wrap64_in _ (by have:=hp.out;omega);have hw1:IntKind.i64.wrap ((p:Int)+1)=(p:Int)+1:=IntWalk.i64_in _ (by have:=hp.out;omega)
  by_cases hlt:p+8<=X.size
  ·have hdi:(p:Int)+8<=(X.size:Int):=by omega
   have hp1:p<=X.size:=by omega
   have hi1:(0:Int)<=(p:Int)+8:=by omega
   have hi2:(p:Int)<=(p:Int)+8:=by omega
   have hi3:((p:Int)+8).toNat=p+8:=by omega
   go_upto_region 7 with fail
   try simp only [List.append_eq,List.cons_append,List.nil_append]
   refine wp_region_tree (.s (.q 0 (.q 1 (.q 2 (.q 3 (.q 4 (.q 5 (.q 6 (.q 7 (.q 8 (.q 9 (.q 10 (.c1 11 (.q 12 (.q 13 (.q 14 (.q 15 (.q 16 .done)))))))))))))))))) (by as_aux_lemma=>kernel_rfl) (by as_aux_lemma=>kernel_rfl) (by as_aux_lemma=>kernel_rfl) (by decide) ?_;have hv0:=hid (Mod.drew0 (fun _=>False) wr);refine wpTr_s (fun Wx=>Ext wr Wx) (fun _ _=>trivial) hv0.out ?_;generalize hWd:World.drew wr=V0 at hv0 ⊢
   iterate 11 (refine wpTr_q _ (by simp only [List.getD_cons_succ,List.getD_cons_zero];rfl) (by rfl) ?_ (fun w' hC=>?_) ?_;rotate_left;(have q_o:w'.cell? ⟨Bo,0,none⟩=some (.string ⟨#[]⟩):=hC.cell co.out (fun h=>h);have q_n:w'.cell? ⟨Bn,0,none⟩=some (.string X):=hC.cell cn.out (fun h=>h);have hlk:=run_lookupM (P:=Tryz.prog) (t:=282) (keyOk_string Tryz.underlying9) Tryz.underlying282 (hMr.out.mod hC (fun h=>h)) (X.extract p (p+8)) (zero_ints w') false;simp only [assoc,List.find?_nil,Option.map_none,Option.getD_none,Option.isSome_none,Bool.false_eq_true,if_false] at hlk;go_simp;first | done | with_reducible rfl | exact rfl);try simp only [Act.put,sA,sZ,sS])
   refine wpTr_c1 _ (by simp only [List.getD_cons_succ,List.getD_cons_zero];rfl) ?_;refine wpN_c (by rfl) (fun K hK=>?_);go_simp;refine (longest_nil _ _ V0).mono ?_;rintro e w9 ⟨rfl,rfl⟩;have hv1:=hv0;refine hK.out _ _ hv1.out ?_;clear hK K;try simp only [Act.put,sA,sZ,sS]
   iterate 5 (refine wpTr_q _ (by simp only [List.getD_cons_succ,List.getD_cons_zero];rfl) (by rfl) ?_ (fun w' hC=>?_) ?_;rotate_left;(have q_o:w'.cell? ⟨Bo,0,none⟩=some (.string ⟨#[]⟩):=hC.cell co.out (fun h=>h);have q_n:w'.cell? ⟨Bn,0,none⟩=some (.string X):=hC.cell cn.out (fun h=>h);have hlk:=run_lookupM (P:=Tryz.prog) (t:=282) (keyOk_string Tryz.underlying9) Tryz.underlying282 (hMr.out.mod hC (fun h=>h)) (X.extract p (p+8)) (zero_ints w') false;simp only [assoc,List.find?_nil,Option.map_none,Option.getD_none,Option.isSome_none,Bool.false_eq_true,if_false] at hlk;go_simp;first | done | with_reducible rfl | exact rfl);try simp only [Act.put,sA,sZ,sS])
   refine wpTr_done ?_;go_wp2_with fail
   go_roundg (gk - 1)
   case measure=>have:=hp.out;have:=hN.out;clear hi3;omega
   case rel=>exact ⟨p+1,by have:=hp.out;have:=hN.out;clear hi3;omega,rfl,by go_num,hJ.out _ _ _ hJr.out (grown_ext hv1.out),hMr.out.mod hv1.out (fun h=>h),hv1.out.at hzor.out (fun h=>h),hv1.out.at hznr.out (fun h=>h)⟩
  ·have hdi:¬ (p:Int)+8<=(X.size:Int):=by omega
   by_cases hx0:x=[]
   ·have hz:¬ (0:Int) < (X.size:Int):=by rw [hXs.out,hx0];decide
    have hz2:¬ 0 < X.size:=by rw [hXs.out,hx0];decide
    have hfin:Hid (opsL x=[]):=hid (if_pos hx0);replace hx0:=hid hx0;go_wp2_with fail
    try simp only [Exit.noGoto_normal,Exit.noGoto_ret]
    go_end0
    exact ⟨⟨_,rfl⟩,.inl (by rw [hfin.out];exact hJr.out)⟩
   ·have hl0:0 < x.length:=List.length_pos_iff.2 hx0
    have hz:(0:Int) < (X.size:Int):=by rw [hXs.out];omega
    have hz2:0 < X.size:=by rw [hXs.out];omega
    have hfin:Hid (opsL x=[x]):=hid (if_neg hx0);replace hx0:=hid hx0;have hex:X.extract 0 X.size=X:=by rw [hX.out];exact ByteArray.extract_zero_size
    obtain ⟨yfn,ytmps,yassign,ybody,hyr,hyR⟩:=hY.out [] x wr hJr.out (by decide) rfl;rw [<- hX.out] at hyr;replace hyR:=hid hyR;clear hY;go_upto_region 15 with fail
    refine (wpIn_wide (n:=n)).1 ?_
    gi_wp2
    refine hyR.out.mono ?_;rintro e' W1 (⟨rfl,hJ1,-⟩ | ⟨rfl,hJx1⟩)
    ·replace hJ1:=hid hJ1
     gi_wp2
     try simp only [Exit.noGoto_normal,Exit.noGoto_ret]
     go_end0
     exact ⟨⟨_,rfl⟩,.inl ⟨_,hfin.out.symm,hJ1.out⟩⟩
    ·replace hJx1:=hid hJx1
     gi_wp2
     try simp only [Exit.noGoto_normal,Exit.noGoto_ret]
     go_end0
     exact ⟨⟨_,rfl⟩,.inr ⟨_,List.prefix_refl _,hJx1.out⟩⟩
theorem ops_seq (n Bo Bn:Nat) (hn:1<=n) (x:Bs) (hx:x.length<=8192) (w:World) (hzo:w.heap[Bo]?=some (.cells #[.string ⟨#[]⟩] 9 (0,0))) (hzn:w.heap[Bn]?=some (.cells #[.string ⟨x.toArray⟩] 9 (0,0))):
  SeqW Fence.wide n Tryz.prog 131 #[.pointer (some ⟨Bo,0,none⟩),.pointer (some ⟨Bn,0,none⟩)] (fun y:Bs=>#[.agg #[.int .i64 0,.int .i64 0,.string ⟨y.toArray⟩]]) (fun k=>k=Bo \/ k=Bn) Bn (fun y=>y=x) (fun ys=>ys=opsL x) (fun pre=>pre <+:[x]) 1 w:=fun l J Jx W hW hJ _ hY h0=>
 ops_in n l Bo Bn hn x hx J Jx hJ hY W ((hW.block Bo (lt_of_at hzo)).trans hzo) ((hW.block Bn (lt_of_at hzn)).trans hzn) h0
theorem operations_any (a b:ByteArray) (w:World):Calls Tryz.prog 81 #[.string a,.string b] w fun e w'=>e=.returned (.func (.func 131) #[] #[.pointer (some ⟨w.heap.size,0,none⟩),.pointer (some ⟨w.heap.size+1,0,none⟩)])/\w'=(w.alloc (.cells #[.string a] 9)).alloc (.cells #[.string b] 9):=by
 go_enter Tryz.func81,Tryz.ntmps81;go_wp2_with fail
 go_ret;exact ⟨rfl,rfl⟩
end Go.Proofs.YtcopgcdhkgenkaaGreatDoor.Dw
