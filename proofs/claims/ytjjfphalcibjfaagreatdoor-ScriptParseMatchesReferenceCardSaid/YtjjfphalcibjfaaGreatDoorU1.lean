import Derived.Test.YtjjfphalcibjfaaGreatDoorA12
import Derived.Test.YtjjfphalcibjfaaGreatDoorLoadQ
set_option maxRecDepth 100000
set_option maxHeartbeats 16000000
namespace Go.Proofs.YtjjfphalcibjfaaGreatDoor
open Go.RowKit Cdk Scr
theorem zbS {P:Program} {fn:Func} {p u:Tmp} {ty:TypeId} (h:fn.results=#[.cell p ty,.tmp u]) (tmps:Array Value) (w:World) (g:Nat) (t:TypeId) (cs:Array Value) (fr:Nat × Nat) (d:TypeDesc)
  (hp:tmps.getD p undef=.pointer (some ⟨g,0,none⟩)) (hg:w.heap[g]?=some (.cells cs t fr))
  (hu:P.underlying ty=some d) (hd:(match d with | .struct _ | .array _ _=>true | _=>false)=true) (hi:(P.info? ty).map (·.size)=some cs.size):
  (results fn tmps).run P w=.ok (.tuple #[.agg cs,tmps.getD u undef]) w:=by
 rw [results_cell_tmp h,hp];simp [asAddr,run_loadVar_row w g t ty cs fr d hg hu hd hi,Result.andThen]
def zn0 (w:World) (f:Fc) (e:Ending) (w':World):Prop:=∃ b1 m1 d1 b2 m2 d2 b3 m3 d3,e=.returned (.tuple #[.agg (fcA b1 m1 d1 b2 m2 d2 b3 m3 d3 (zaO f).1),.bool (zaO f).2])/\FcAt (fun k=>k < w.heap.size) w' ⟨.slice b1 m1 d1,.slice b2 m2 d2,.slice b3 m3 d3⟩ (zaO f).1/\Ext w w'
theorem zax (F:Nat -> Prop) (w:World) (f:Fc) (h1:f.tp=[]) (h2:f.bl=[]) (h3:f.lb.aft=[]):FcAt F w ⟨.slice none 0 0,.slice none 0 0,.slice none 0 0⟩ f:=
 ⟨by rw [h1];exact zac.nil _ _ _,by rw [h2];exact zaE.nil _ _,by rw [h3];exact zac.nil _ _ _⟩
def zoi (V:Array Value) (i:Nat) (cs:Array Value):Array Value:=(V.toList.take i++(cs.toList++V.toList.drop (i+cs.size))).toArray
theorem zil {P:Program} {o:Oper} {a:Act} {w:World} {K:Act -> World -> Prop} {Q:Exit -> Act -> World -> Prop} (ty:TypeId) (x y:Operand) (ho:o.op=.store ty x y) (b i:Nat) (V:Array Value) (v:Value) (t:TypeId) (hx:a.eval x=.pointer (some ⟨b,i,none⟩)) (hy:a.eval y=v)
  (hold:w.heap[b]?=some (.cells V t (0,0))) (hn:i+v.cells.size<=V.size) (hi:(P.info? ty).map (·.size)=some v.cells.size) (h1:v.cells.toList.all (·.oneCell')=true)
  (h:∀ w',w'.heap[b]?=some (.cells (zoi V i v.cells) t (0,0)) -> Mod (Eq b) w w' -> K (a.put o.dst undef) w'):o.wp P a w K Q:=by
 have hs:(V.toList.take i).length=i:=by rw [List.length_take,Array.length_toList];omega
 have hk:((V.toList.drop i).take v.cells.size).length=v.cells.size:=by rw [List.length_take,List.length_drop,Array.length_toList];omega
 have e:V=(V.toList.take i++((V.toList.drop i).take v.cells.size++V.toList.drop (i+v.cells.size))).toArray:=by
  rw [<- List.drop_drop,List.take_append_drop,List.take_append_drop]
 rw [e] at hold;have ht:=zjs hold;have hp:=setCells_at v.cells.toList _ _ _ w hold (by rw [hk];simp);rw [hs,hk] at ht;rw [hs] at hp;unfold Oper.wp execOp;simp only [ho,hx,hy,Instr.storeAt,Instr.sureAddr,Sem.run_bind,Sem.run_pure,Result.andThen_ok,show ∀ ad,storeVar ty ad v=storeVar ty ad (.agg v.cells) from fun _=>rfl,run_storeVar_mid w b i ty v.cells ht hi (all_oneCell_toArray (fun x hx=>List.all_eq_true.1 h1 x hx))];exact h _ hp (zc1 b _ w _)
structure UsS (w:World) (R:Nat) (VA VT:Array Value) (W:World):Prop where
 a:W.heap[R]?=some (.cells VA 28 (0,0))
 v:W.heap[R+1]?=some (.cells (fcA none 0 0 none 0 0 none 0 0 Fc.zero) 28 (0,0))
 u:W.heap[R+1+1]?=some (.cells VT 28 (0,0))
 sz:VT.size=23
 one:∀ x ∈ VT.toList,x.oneCell'=true
 m:Mod (fun k=>w.heap.size<=k) w W
 r:w.heap.size=R
def UC (R:Nat) (VA VT:Array Value) (w:World):Prop:=w.heap[R]?=some (.cells VA 28 (0,0))/\w.heap[R+1+1]?=some (.cells VT 28 (0,0))
section
variable {w W W':World} {R:Nat} {VA VT:Array Value}
theorem UsS.ext (s:UsS w R VA VT W) (h:Ext W W'):UsS w R VA VT W':=⟨h.at s.a id,h.at s.v id,h.at s.u id,s.sz,s.one,s.m.then h (fun _ _ h=>h.elim),s.r⟩
theorem UsS.drew (s:UsS w R VA VT W):UsS w R VA VT W.drew:=s.ext (Mod.drew0 _ _)
theorem UsS.c (s:UsS w R VA VT W):UC R VA VT W:=⟨s.a,s.u⟩
theorem UsS.all (s:UsS w R VA VT W):VT.toList.all (·.oneCell')=true:=List.all_eq_true.2 s.one
theorem UsS.fin (s:UsS w R VA VT W) (f:Fc) {a1:Option Addr} {n1 c1:Nat} {a2:Option Addr} {n2 c2:Nat} {a3:Option Addr} {n3 c3:Nat} (hF:FcAt (fun k=>k < w.heap.size) w ⟨.slice a1 n1 c1,.slice a2 n2 c2,.slice a3 n3 c3⟩ (zaO f).1) (hT:VT=fcA a1 n1 c1 a2 n2 c2 a3 n3 c3 (zaO f).1):∃ V,Hid (UsS w R VA V W)/\Hid (∀ W (b:Bool),(zaO f).2=b -> Mod (fun k=>w.heap.size<=k) w W -> zn0 w f (.returned (.tuple #[.agg V,.bool b])) W):=
 ⟨VT,s,fun W b hb hm=>⟨_,_,_,_,_,_,_,_,_,by rw [hT,hb],hF.mod hm (fun k h1 h2=>by omega),hm.mono' (fun k hk e=>by omega)⟩⟩
theorem UsS.put (s:UsS w R VA VT W) {i:Nat} {cs:Array Value} (hn:i+cs.size<=23) (h1:cs.toList.all (·.oneCell')=true) (hu:W'.heap[R+1+1]?=some (.cells (zoi VT i cs) 28 (0,0))) (hm:Mod (Eq (R+1+1)) W W'):UsS w R VA (zoi VT i cs) W':=by
 have:=s.r;have:=s.sz;refine ⟨hm.at s.a (by omega),hm.at s.v (by omega),hu,by simp [zoi];omega,fun x hx=>?_,s.m.then hm (fun k _ e=>by omega),s.r⟩;simp only [zoi,List.mem_append] at hx;rcases hx with hx | hx | hx
 ·exact s.one x (List.mem_of_mem_take hx)
 ·exact List.all_eq_true.1 h1 x hx
 ·exact s.one x (List.mem_of_mem_drop hx)
variable {P:Program} {ops:Array Oper} {o:Oper} {a:Act} {Q:Exit -> Act -> World -> Prop} {C:World -> Prop}
theorem zbq {r:List (Oper × Bool)} (hw:Region.wanted o (yielded ops a.tmps)=true) (ty:TypeId) (x y:Operand) (ho:o.op=.store ty x y) (i:Nat) (v:Value) (hx:a.eval x=.pointer (some ⟨R+1+1,i,none⟩)) (hy:a.eval y=v) (s:UsS w R VA VT W)
  (hi:(P.info? ty).map (·.size)=some v.cells.size) (h1:v.cells.toList.all (·.oneCell')=true) (hn:Nat.ble (i+v.cells.size) 23=true) (hC:∀ w',w'.heap[R]?=some (.cells VA 28 (0,0)) -> C w') (h:∀ W',Hid (UsS w R VA (zoi VT i v.cells) W') -> wpS P ops C Q r (a.put o.dst undef) W'):wpS P ops C Q ((o,false)::r) a W:=
 zak hw fun _ hK=>zil ty x y ho _ i VT v _ hx hy s.u (by rw [s.sz];exact Nat.le_of_ble_eq_true hn) hi h1 fun W' hu hm=>have s':=s.put (Nat.le_of_ble_eq_true hn) h1 hu hm;hK.o _ _ (hC _ s'.a) (h W' s')
theorem zef {r:List Oper} (hg:o.guard=none) (ty:TypeId) (x y:Operand) (ho:o.op=.store ty x y) (i:Nat) (v:Value) (hx:a.eval x=.pointer (some ⟨R+1+1,i,none⟩)) (hy:a.eval y=v) (s:UsS w R VA VT W)
  (hi:(P.info? ty).map (·.size)=some v.cells.size) (h1:v.cells.toList.all (·.oneCell')=true) (hn:Nat.ble (i+v.cells.size) 23=true) (h:∀ W',Hid (UsS w R VA (zoi VT i v.cells) W') -> wpList P ops Q r (a.put o.dst undef) W'):wpList P ops Q (o::r) a W:=
 wpList_plain hg fun _ hK=>zil ty x y ho _ i VT v _ hx hy s.u (by rw [s.sz];exact Nat.le_of_ble_eq_true hn) hi h1 fun W' hu hm=>hK _ _ (h W' (s.put (Nat.le_of_ble_eq_true hn) h1 hu hm))
theorem zcK {r:List Oper} (s:UsS w R VA VT W) (hg:o.guard=none) (x y:Operand) (ho:o.op=.store 28 x y) (hx:a.eval x=.pointer (some ⟨R+1,0,none⟩)) (hy:a.eval y=.agg VT) (hi:(P.info? 28).map (·.size)=some 23)
  (h:∀ W',Hid (W'.heap[R+1]?=some (.cells VT 28 (0,0))/\Mod (fun k=>w.heap.size<=k) w W') -> wpList P ops Q r (a.put o.dst undef) W'):wpList P ops Q (o::r) a W:=by
 have:=s.r;exact zab hg 28 x y ho _ _ VT 28 hx hy s.v (s.sz.trans rfl) (by rw [s.sz];exact hi) s.all fun W' H=>h W' ⟨H.o.1,s.m.then H.o.2 (fun k _ e=>by omega)⟩
theorem zms {r:List (Oper × Bool)} (s:UsS w R VA VT W) (hw:Region.wanted o (yielded ops a.tmps)=true) (x y:Operand) (ho:o.op=.store 28 x y) (hx:a.eval x=.pointer (some ⟨R+1,0,none⟩)) (hy:a.eval y=.agg VT) (hi:(P.info? 28).map (·.size)=some 23)
  (h:∀ W',Hid (W'.heap[R+1]?=some (.cells VT 28 (0,0))/\Mod (fun k=>w.heap.size<=k) w W') -> wpS P ops (UC R VA VT) Q r (a.put o.dst undef) W'):wpS P ops (UC R VA VT) Q ((o,false)::r) a W:=by
 have:=s.r;exact zak hw fun _ hK=>zbf 28 x y ho _ _ VT 28 hx hy s.v (s.sz.trans rfl) (by rw [s.sz];exact hi) s.all fun W' H=>hK.o _ _ ⟨H.o.2.at s.a (by omega),H.o.2.at s.u (by omega)⟩ (h W' ⟨H.o.1,s.m.then H.o.2 (fun k _ e=>by omega)⟩)
end
def CB (fn:Nat) (args:Array Value) (w:World) (b:Bool):Prop:=∀ W,Mod (fun k=>w.heap.size<=k) w W -> Calls Tryz.prog fn args W fun e w'=>e=.returned (.bool b)/\Ext W w'
theorem CB.of {fn:Nat} {args:Array Value} {w:World} {b:Bool} (h:∀ W,Calls Tryz.prog fn args W fun e w'=>e=.returned (.bool b)/\W=w'):CB fn args w b:=fun W _=>by
 refine (h W).mono ?_
 rintro e w' ⟨rfl,rfl⟩
 exact ⟨rfl,Mod.refl _ _⟩
theorem zlS (a1:Option Addr) (n1 c1:Nat) (a2:Option Addr) (n2 c2:Nat) (a3:Option Addr) (n3 c3:Nat) (f:Fc) (w:World) (h:FcAt (fun k=>k < w.heap.size) w ⟨.slice a1 n1 c1,.slice a2 n2 c2,.slice a3 n3 c3⟩ f):
  Calls Tryz.prog 54 #[.agg (fcA a1 n1 c1 a2 n2 c2 a3 n3 c3 f)] w (zn0 w f):=by
 obtain ⟨n,tm,kd,st,lg,rv,bs,ti,au,tp,bl,lb,ed,bk,se,tx,nm,pa,cl,un⟩:=f;have k1:=Y (fun W=>zaT st 1 64 W);have k2:=Y (fun W=>zaT pa 1 8 W);have k3:=Y (fun W=>zaT un 0 1000000000 W);obtain ⟨b1,hb1⟩:∃ b,b=rng st 1 64:=⟨_,rfl⟩;obtain ⟨b2,hb2⟩:∃ b,b=rng pa 1 8:=⟨_,rfl⟩;obtain ⟨b3,hb3⟩:∃ b,b=rng un 0 1000000000:=⟨_,rfl⟩;rw [<- hb1] at k1;rw [<- hb2] at k2;rw [<- hb3] at k3;obtain ⟨VA,hVA⟩:∃ V,V=fcA a1 n1 c1 a2 n2 c2 a3 n3 c3 ⟨n,tm,kd,st,lg,rv,bs,ti,au,tp,bl,lb,ed,bk,se,tx,nm,pa,cl,un⟩:=⟨_,rfl⟩;obtain ⟨VT,hVT⟩:∃ V,V=fcA none 0 0 none 0 0 none 0 0 { Fc.zero with n:=n,tm:=tm,kd:=kd,st:=st }:=⟨_,rfl⟩;have iA:=Y (show VA.size=23 by rw [hVA];rfl);have hz:=Y (zi4 w (fcA a1 n1 c1 a2 n2 c2 a3 n3 c3 ⟨n,tm,kd,st,lg,rv,bs,ti,au,tp,bl,lb,ed,bk,se,tx,nm,pa,cl,un⟩) zF9 zF9 28 28 28);rw [<- hVA] at hz ⊢;have v_n:=Y (show VA[0]?=some (.int .i64 n) by rw [hVA];rfl);have v_tm:=Y (show VA[1]?=some (.int .i64 tm) by rw [hVA];rfl);have v_kd:=Y (show VA[2]?=some (.int .i64 kd) by rw [hVA];rfl);have v_st:=Y (show VA[3]?=some (.int .i64 st) by rw [hVA];rfl);have v_lg:=Y (show VA[4]?=some (.string ⟨lg.toArray⟩) by rw [hVA];rfl);have v_rv:=Y (show VA[5]?=some (.int .i64 rv) by rw [hVA];rfl);have v_bs:=Y (show VA[6]?=some (.int .i64 bs) by rw [hVA];rfl);have v_ti:=Y (show VA[7]?=some (.string ⟨ti.toArray⟩) by rw [hVA];rfl);have v_au:=Y (show VA[8]?=some (.string ⟨au.toArray⟩) by rw [hVA];rfl);have v_tp:=Y (show VA[9]?=some (.slice a1 n1 c1) by rw [hVA];rfl);have v_bl:=Y (show VA[10]?=some (.slice a2 n2 c2) by rw [hVA];rfl);have v_ed:=Y (show VA[15]?=some (.int .i64 ed) by rw [hVA];rfl);have v_bk:=Y (show VA[16]?=some (.int .i64 bk) by rw [hVA];rfl);have v_se:=Y (show VA[17]?=some (.int .i64 se) by rw [hVA];rfl);have v_tx:=Y (show VA[18]?=some (.string ⟨tx.toArray⟩) by rw [hVA];rfl);have v_nm:=Y (show VA[19]?=some (.string ⟨nm.toArray⟩) by rw [hVA];rfl);have v_pa:=Y (show VA[20]?=some (.int .i64 pa) by rw [hVA];rfl);have v_cl:=Y (show VA[21]?=some (.int .i64 cl) by rw [hVA];rfl);have v_un:=Y (show VA[22]?=some (.int .i64 un) by rw [hVA];rfl);have pc:=(zaV w VA zF9 28 28).2.1;have q_n:=(zaa pc 0).trans v_n.o;have q_tm:=(zaa pc 1).trans v_tm.o;have q_kd:=(zaa pc 2).trans v_kd.o;have q_st:=(zaa pc 3).trans v_st.o;clear pc;replace hb1:=Y hb1;replace hb2:=Y hb2;replace hb3:=Y hb3;replace hVA:=Y hVA;replace hVT:=Y hVT;have hap:∀ k,k < w.heap.size -> ¬ w.heap.size<=k:=fun k h1 h2=>by omega
 go_enter Tryz.func54,Tryz.ntmps54;go_upto_region 2 with (refine zab rfl 28 _ _ rfl (w.heap.size+1+1) _ _ 28 rfl rfl hz.o.2.2.2 rfl (by kernel_rfl) rfl (fun W H1=>?_))
 clear q_n q_tm q_kd q_st;have S:Hid (UsS w w.heap.size VA VT W):=Y ⟨H1.o.2.at hz.o.2.1 (by omega),H1.o.2.at hz.o.2.2.1 (by omega),by rw [hVT.o];exact H1.o.1,by rw [hVT.o];rfl,List.all_eq_true.1 (by rw [hVT.o];rfl),(hz.o.1.mono (T:=fun k=>w.heap.size<=k) (fun _ h=>h.elim)).then H1.o.2 (fun k _ e=>by omega),rfl⟩;clear H1 hz;have p_st:=(zaa S.o.a 3).trans v_st.o;have p_pa:=(zaa S.o.a 20).trans v_pa.o;have p_un:=(zaa S.o.a 22).trans v_un.o;have p_kd:=(zaa S.o.a 2).trans v_kd.o;go_wp2_with fail
 refine (k1.o _).mono ?_;rintro e w' ⟨rfl,rfl⟩;go_upto_region 3 with fail
 try simp only [Act.put,sA,sZ,sS]
 go_cut [6] from 7 to 171 (fun x6 wx=>wx=W/\x6=.bool (b2 && b3))
 case first=>
  go_wp2_with fail
  refine (k2.o _).mono ?_;rintro e w' ⟨rfl,rfl⟩;cases b2
  case' true=>
   go_wp2_with fail
   refine (k3.o _).mono ?_;rintro e w' ⟨rfl,rfl⟩
  all_goals
   go_wp2_with fail
   go_meet
   exact ⟨rfl,rfl⟩
 case rest=>
 obtain ⟨rfl,rfl⟩:=hcut;obtain ⟨bp,hbp⟩:∃ b,b=(b2 && b3):=⟨_,rfl⟩;rw [<- hbp];rw [hb2.o,hb3.o] at hbp;replace hbp:=Y hbp;clear k1 k2 k3;go_upto_region 5 with fail
 obtain ⟨R,hR⟩:∃ R,R=w.heap.size:=⟨_,rfl⟩;rw [<- hR] at S ⊢;replace hR:=Y hR;clear p_st p_pa p_un p_kd;rcases (show kd=6 \/ kd=10 \/ kd=9 \/ kd=1 \/ kd=2 \/ kd=3 \/ kd=4 \/ kd=5 \/ kd=7 \/ kd=8 \/ (¬ kd=1/\¬ kd=2/\¬ kd=3/\¬ kd=4/\¬ kd=5/\¬ kd=6/\¬ kd=7/\¬ kd=8/\¬ kd=9/\¬ kd=10) by omega) with rfl | rfl | rfl | rfl | rfl | rfl | rfl | rfl | rfl | rfl | e1
 case' inl=>
  have hok:Hid ((zaO ⟨n,tm,6,st,lg,rv,bs,ti,au,tp,bl,lb,ed,bk,se,tx,nm,pa,cl,un⟩).2=b1):=Y (by rw [hb1.o];rfl);obtain ⟨VF,S',hfi⟩:=S.o.fin ⟨n,tm,6,st,lg,rv,bs,ti,au,tp,bl,lb,ed,bk,se,tx,nm,pa,cl,un⟩ (show FcAt _ _ _ (zaO ⟨n,tm,6,st,lg,rv,bs,ti,au,tp,bl,lb,ed,bk,se,tx,nm,pa,cl,un⟩).1 from zax _ _ _ rfl rfl rfl) (by rw [hVT.o];kernel_rfl);replace S:=S';clear S';go_wp2_with (first | (refine zae (by rfl) 28 _ rfl (R+1+1) _ _ _ _ rfl S.o.u Tryz.underlying28 rfl (by rw [S.o.sz];kernel_rfl) ?_) | (refine zcK S.o rfl _ _ rfl rfl rfl (by kernel_rfl) (fun WF HF=>?_)))
  refine bodyPost_ret (zbS rfl _ _ (R+1) _ _ _ _ rfl HF.o.1 Tryz.underlying28 rfl (by rw [S.o.sz];kernel_rfl)) rfl ?_;exact hfi.o _ _ (hok.o.trans rfl) HF.o.2
 case' inr.inl=>
  have hok:Hid ((zaO ⟨n,tm,10,st,lg,rv,bs,ti,au,tp,bl,lb,ed,bk,se,tx,nm,pa,cl,un⟩).2=b1):=Y (by rw [hb1.o];rfl);obtain ⟨VF,S',hfi⟩:=S.o.fin ⟨n,tm,10,st,lg,rv,bs,ti,au,tp,bl,lb,ed,bk,se,tx,nm,pa,cl,un⟩ (show FcAt _ _ _ (zaO ⟨n,tm,10,st,lg,rv,bs,ti,au,tp,bl,lb,ed,bk,se,tx,nm,pa,cl,un⟩).1 from zax _ _ _ rfl rfl rfl) (by rw [hVT.o];kernel_rfl);replace S:=S';clear S';go_wp2_with (first | (refine zae (by rfl) 28 _ rfl (R+1+1) _ _ _ _ rfl S.o.u Tryz.underlying28 rfl (by rw [S.o.sz];kernel_rfl) ?_) | (refine zcK S.o rfl _ _ rfl rfl rfl (by kernel_rfl) (fun WF HF=>?_)))
  refine bodyPost_ret (zbS rfl _ _ (R+1) _ _ _ _ rfl HF.o.1 Tryz.underlying28 rfl (by rw [S.o.sz];kernel_rfl)) rfl ?_;exact hfi.o _ _ (hok.o.trans rfl) HF.o.2
 case' inr.inr.inl=>
  have hok:Hid ((zaO ⟨n,tm,9,st,lg,rv,bs,ti,au,tp,bl,lb,ed,bk,se,tx,nm,pa,cl,un⟩).2=bp):=Y (by rw [hbp.o];rfl);go_wp2_with fail
  refine rS (fun w'=>w'.heap[R]?=some (.cells VA 28 (0,0))) [(0,true),(1,true),(2,true),(3,true),(4,true),(5,false),(6,true),(7,false),(8,true),(9,false)] S.o.drew.a ?_;replace S:=Y S.o.drew;generalize World.drew _=W at S ⊢;simp only [zah,List.map_cons,List.map_nil,List.getD_cons_zero,List.getD_cons_succ]
 case' inr.inr.inr.inl=>
  obtain ⟨b4,hc4,hok⟩:∃ b,CB 88 #[.agg VA] w b/\(zaO ⟨n,tm,1,st,lg,rv,bs,ti,au,tp,bl,lb,ed,bk,se,tx,nm,pa,cl,un⟩).2=(b1 && b):=⟨_,fun W hX=>by rw [hVA.o];exact zgW _ _ _ _ _ _ _ _ _ _ W (h.mod hX hap).tp (h.mod hX hap).bl (h.mod hX hap).af,by rw [hb1.o];rfl⟩;replace hc4:=Y hc4;replace hok:=Y hok;go_wp2_with fail
  refine rS (fun w'=>w'.heap[R]?=some (.cells VA 28 (0,0))) [(0,true),(1,true),(2,true),(3,true),(4,true),(5,true),(6,true),(7,true),(8,true),(9,true),(10,true),(11,false),(12,true),(13,false),(14,true),(15,false),(16,true),(17,false),(18,true),(19,false)] S.o.drew.a ?_;replace S:=Y S.o.drew;generalize World.drew _=W at S ⊢;simp only [zah,List.map_cons,List.map_nil,List.getD_cons_zero,List.getD_cons_succ];repeat (first | (refine zav (by rfl) ?_ (fun w' hC=>?_) ?_;rotate_left;(have q0:=(zaa hC 4).trans v_lg.o;have q1:=(zaa hC 5).trans v_rv.o;have q2:=(zaa hC 6).trans v_bs.o;have q3:=(zaa hC 7).trans v_ti.o;have q4:=(zaa hC 8).trans v_au.o;go_simp;try with_reducible rfl);try simp only [Act.put,sA,sZ,sS]) | (refine nT ?_) | (refine zbq (by rfl) _ _ _ rfl 4 (.string ⟨lg.toArray⟩) rfl rfl S.o (by kernel_rfl) rfl rfl (fun _ h=>h) (fun W' S'=>?_);replace S:=S';clear S';try simp only [Act.put]) | (refine zbq (by rfl) _ _ _ rfl 5 (.int .i64 rv) rfl rfl S.o (by kernel_rfl) rfl rfl (fun _ h=>h) (fun W' S'=>?_);replace S:=S';clear S';try simp only [Act.put]) | (refine zbq (by rfl) _ _ _ rfl 6 (.int .i64 bs) rfl rfl S.o (by kernel_rfl) rfl rfl (fun _ h=>h) (fun W' S'=>?_);replace S:=S';clear S';try simp only [Act.put]) | (refine zbq (by rfl) _ _ _ rfl 7 (.string ⟨ti.toArray⟩) rfl rfl S.o (by kernel_rfl) rfl rfl (fun _ h=>h) (fun W' S'=>?_);replace S:=S';clear S';try simp only [Act.put]) | (refine zbq (by rfl) _ _ _ rfl 8 (.string ⟨au.toArray⟩) rfl rfl S.o (by kernel_rfl) rfl rfl (fun _ h=>h) (fun W' S'=>?_);replace S:=S';clear S';try simp only [Act.put]))
  try refine zar ?_
  go_wp2_with fail
  refine rS (fun w'=>w'.heap[R]?=some (.cells VA 28 (0,0))) [(0,true),(1,true),(2,true),(3,true),(4,true),(5,true),(6,true),(7,false),(8,true),(9,false),(10,true),(11,false)] S.o.drew.a ?_;replace S:=Y S.o.drew;generalize World.drew _=W at S ⊢;simp only [zah,List.map_cons,List.map_nil,List.getD_cons_zero,List.getD_cons_succ]
 case' inr.inr.inr.inr.inl=>
  obtain ⟨b4,hc4,hok⟩:∃ b,CB 53 #[.int .i64 ed,.int .i64 1,.int .i64 5] w b/\(zaO ⟨n,tm,2,st,lg,rv,bs,ti,au,tp,bl,lb,ed,bk,se,tx,nm,pa,cl,un⟩).2=(b1 && b):=⟨_,CB.of (fun W=>zaT ed 1 5 W),by rw [hb1.o];rfl⟩;replace hc4:=Y hc4;replace hok:=Y hok;have p_ed:=(zaa S.o.a 15).trans v_ed.o;go_wp2_with ((refine zef rfl _ _ _ rfl 15 (.int .i64 ed) rfl rfl S.o (by kernel_rfl) rfl rfl (fun W' S'=>?_)))
  clear p_ed;replace S:=S';clear S'
 case' inr.inr.inr.inr.inr.inl=>
  obtain ⟨b4,hc4,hok⟩:∃ b,CB 89 #[.agg (lbC (.slice a3 n3 c3) lb).toArray] w b/\(zaO ⟨n,tm,3,st,lg,rv,bs,ti,au,tp,bl,lb,ed,bk,se,tx,nm,pa,cl,un⟩).2=(b1 && b):=⟨_,fun W hX=>zcn (.slice a3 n3 c3) lb W (h.mod hX hap).af,by rw [hb1.o];rfl⟩;replace hc4:=Y hc4;replace hok:=Y hok;go_wp2_with (first | (refine zaM (by rfl) 26 _ rfl R 11 (lbC (.slice a3 n3 c3) lb).toArray _ rfl (zaD (n:=11) (k:=4) S.o.a (by rw [hVA.o];rfl)) Tryz.underlying26 rfl (by kernel_rfl) ?_) | (refine zef rfl _ _ _ rfl 11 (.agg (lbC (.slice a3 n3 c3) lb).toArray) rfl rfl S.o (by kernel_rfl) rfl rfl (fun W' S'=>?_)))
  replace S:=S';clear S'
 case' inr.inr.inr.inr.inr.inr.inl=>
  obtain ⟨b4,hc4,hok⟩:∃ b,CB 90 #[.agg VA] w b/\(zaO ⟨n,tm,4,st,lg,rv,bs,ti,au,tp,bl,lb,ed,bk,se,tx,nm,pa,cl,un⟩).2=(b1 && b):=⟨_,fun W _=>by rw [hVA.o];exact zfK _ _ _ _ _ _ _ _ _ _ W,by rw [hb1.o];rfl⟩;replace hc4:=Y hc4;replace hok:=Y hok;go_wp2_with fail
  refine rS (fun w'=>w'.heap[R]?=some (.cells VA 28 (0,0))) [(0,true),(1,true),(2,true),(3,true),(4,true),(5,true),(6,true),(7,true),(8,true),(9,false),(10,true),(11,false),(12,true),(13,false),(14,true),(15,false)] S.o.drew.a ?_;replace S:=Y S.o.drew;generalize World.drew _=W at S ⊢;simp only [zah,List.map_cons,List.map_nil,List.getD_cons_zero,List.getD_cons_succ]
 case' inr.inr.inr.inr.inr.inr.inr.inl=>
  obtain ⟨b4,hc4,hok⟩:∃ b,CB 91 #[.string ⟨tx.toArray⟩] w b/\(zaO ⟨n,tm,5,st,lg,rv,bs,ti,au,tp,bl,lb,ed,bk,se,tx,nm,pa,cl,un⟩).2=(b1 && b):=⟨_,CB.of (fun W=>zfC ⟨tx.toArray⟩ W),by rw [hb1.o];rfl⟩;replace hc4:=Y hc4;replace hok:=Y hok;have p_tx:=(zaa S.o.a 18).trans v_tx.o;go_wp2_with ((refine zef rfl _ _ _ rfl 18 (.string ⟨tx.toArray⟩) rfl rfl S.o (by kernel_rfl) rfl rfl (fun W' S'=>?_)))
  clear p_tx;replace S:=S';clear S'
 case' inr.inr.inr.inr.inr.inr.inr.inr.inl=>
  obtain ⟨b4,hc4,h4⟩:∃ b,CB 92 #[.string ⟨nm.toArray⟩] w b/\b=zbT nm:=⟨_,CB.of (fun W=>zde ⟨nm.toArray⟩ W),rfl⟩;obtain ⟨b5,hc5,hok⟩:∃ b,CB 93 #[.string ⟨tx.toArray⟩] w b/\(zaO ⟨n,tm,7,st,lg,rv,bs,ti,au,tp,bl,lb,ed,bk,se,tx,nm,pa,cl,un⟩).2=(b4 && b):=⟨_,CB.of (fun W=>ziG ⟨tx.toArray⟩ W),by rw [h4];rfl⟩;replace hc5:=Y hc5;replace hok:=Y hok;replace hc4:=Y hc4;clear h4;go_wp2_with fail
  refine rS (fun w'=>w'.heap[R]?=some (.cells VA 28 (0,0))) [(0,true),(1,true),(2,true),(3,true),(4,true),(5,false),(6,true),(7,false),(8,true),(9,false)] S.o.drew.a ?_;replace S:=Y S.o.drew;generalize World.drew _=W at S ⊢;simp only [zah,List.map_cons,List.map_nil,List.getD_cons_zero,List.getD_cons_succ]
 case' inr.inr.inr.inr.inr.inr.inr.inr.inr.inl=>
  obtain ⟨b4,hc4,hok⟩:∃ b,CB 53 #[.int .i64 cl,.int .i64 0,.int .i64 3] w b/\(zaO ⟨n,tm,8,st,lg,rv,bs,ti,au,tp,bl,lb,ed,bk,se,tx,nm,pa,cl,un⟩).2=(bp && b):=⟨_,CB.of (fun W=>zaT cl 0 3 W),by rw [hbp.o];rfl⟩;replace hc4:=Y hc4;replace hok:=Y hok;go_wp2_with fail
  refine rS (fun w'=>w'.heap[R]?=some (.cells VA 28 (0,0))) [(0,true),(1,true),(2,true),(3,true),(4,true),(5,true),(6,true),(7,false),(8,true),(9,false),(10,true),(11,false),(12,true),(13,false)] S.o.drew.a ?_;replace S:=Y S.o.drew;generalize World.drew _=W at S ⊢;simp only [zah,List.map_cons,List.map_nil,List.getD_cons_zero,List.getD_cons_succ]
 case' inr.inr.inr.inr.inr.inr.inr.inr.inr.inr=>
  obtain ⟨e1,e2,e3,e4,e5,e6,e7,e8,e9,e10⟩:=e1;have g1:=beq_eq_false_iff_ne.2 e1;have g2:=beq_eq_false_iff_ne.2 e2;have g3:=beq_eq_false_iff_ne.2 e3;have g4:=beq_eq_false_iff_ne.2 e4;have g5:=beq_eq_false_iff_ne.2 e5;have g6:=beq_eq_false_iff_ne.2 e6;have g7:=beq_eq_false_iff_ne.2 e7;have g8:=beq_eq_false_iff_ne.2 e8;have g9:=beq_eq_false_iff_ne.2 e9;have g10:=beq_eq_false_iff_ne.2 e10;have hu:zaO ⟨n,tm,kd,st,lg,rv,bs,ti,au,tp,bl,lb,ed,bk,se,tx,nm,pa,cl,un⟩=({ Fc.zero with n:=n,tm:=tm,kd:=kd,st:=st },false):=by unfold zaO;simp only [e1,e2,e3,e4,e5,e6,e7,e8,e9,e10,if_false,or_self]
  have hok:=Y (congrArg Prod.snd hu);replace hu:=Y hu;obtain ⟨VF,S',hfi⟩:=S.o.fin ⟨n,tm,kd,st,lg,rv,bs,ti,au,tp,bl,lb,ed,bk,se,tx,nm,pa,cl,un⟩ (by rw [hu.o];exact zax _ _ _ rfl rfl rfl) (by rw [hVT.o,hu.o]);replace S:=S';clear S';go_wp2_with (first | (refine zae (by rfl) 28 _ rfl (R+1+1) _ _ _ _ rfl S.o.u Tryz.underlying28 rfl (by rw [S.o.sz];kernel_rfl) ?_) | (refine zcK S.o rfl _ _ rfl rfl rfl (by kernel_rfl) (fun WF HF=>?_)))
  refine bodyPost_ret (zbS rfl _ _ (R+1) _ _ _ _ rfl HF.o.1 Tryz.underlying28 rfl (by rw [S.o.sz];kernel_rfl)) rfl ?_;exact hfi.o _ _ (hok.o.trans rfl) HF.o.2
 all_goals
  repeat (first | (refine zfl (by rfl) 26 _ rfl R 11 (lbC (.slice a3 n3 c3) lb).toArray _ rfl (fun _ h=>zaD (n:=11) (k:=4) h (by rw [hVA.o];rfl)) Tryz.underlying26 rfl (by kernel_rfl) ?_;try simp only [Act.put,sA,sZ,sS]) | (refine zav (by rfl) ?_ (fun w' hC=>?_) ?_;rotate_left;(have q0:=(zaa hC 4).trans v_lg.o;have q1:=(zaa hC 16).trans v_bk.o;have q2:=(zaa hC 17).trans v_se.o;have q3:=(zaa hC 18).trans v_tx.o;have q4:=(zaa hC 19).trans v_nm.o;have q5:=(zaa hC 20).trans v_pa.o;have q6:=(zaa hC 21).trans v_cl.o;have q7:=(zaa hC 22).trans v_un.o;have q8:=(zaa hC 9).trans v_tp.o;have q9:=(zaa hC 10).trans v_bl.o;go_simp;try with_reducible rfl);try simp only [Act.put,sA,sZ,sS]) | (refine nT ?_) | (refine zbq (by rfl) _ _ _ rfl 4 (.string ⟨lg.toArray⟩) rfl rfl S.o (by kernel_rfl) rfl rfl (fun _ h=>h) (fun W' S'=>?_);replace S:=S';clear S';try simp only [Act.put]) | (refine zbq (by rfl) _ _ _ rfl 16 (.int .i64 bk) rfl rfl S.o (by kernel_rfl) rfl rfl (fun _ h=>h) (fun W' S'=>?_);replace S:=S';clear S';try simp only [Act.put]) | (refine zbq (by rfl) _ _ _ rfl 17 (.int .i64 se) rfl rfl S.o (by kernel_rfl) rfl rfl (fun _ h=>h) (fun W' S'=>?_);replace S:=S';clear S';try simp only [Act.put]) | (refine zbq (by rfl) _ _ _ rfl 9 (.slice a1 n1 c1) rfl rfl S.o (by kernel_rfl) rfl rfl (fun _ h=>h) (fun W' S'=>?_);replace S:=S';clear S';try simp only [Act.put]) | (refine zbq (by rfl) _ _ _ rfl 10 (.slice a2 n2 c2) rfl rfl S.o (by kernel_rfl) rfl rfl (fun _ h=>h) (fun W' S'=>?_);replace S:=S';clear S';try simp only [Act.put]) | (refine zbq (by rfl) _ _ _ rfl 11 (.agg (lbC (.slice a3 n3 c3) lb).toArray) rfl rfl S.o (by kernel_rfl) rfl rfl (fun _ h=>h) (fun W' S'=>?_);replace S:=S';clear S';try simp only [Act.put]) | (refine zbq (by rfl) _ _ _ rfl 3 (.int .i64 0) rfl rfl S.o (by kernel_rfl) rfl rfl (fun _ h=>h) (fun W' S'=>?_);replace S:=S';clear S';try simp only [Act.put]) | (refine zbq (by rfl) _ _ _ rfl 20 (.int .i64 pa) rfl rfl S.o (by kernel_rfl) rfl rfl (fun _ h=>h) (fun W' S'=>?_);replace S:=S';clear S';try simp only [Act.put]) | (refine zbq (by rfl) _ _ _ rfl 21 (.int .i64 cl) rfl rfl S.o (by kernel_rfl) rfl rfl (fun _ h=>h) (fun W' S'=>?_);replace S:=S';clear S';try simp only [Act.put]) | (refine zbq (by rfl) _ _ _ rfl 22 (.int .i64 un) rfl rfl S.o (by kernel_rfl) rfl rfl (fun _ h=>h) (fun W' S'=>?_);replace S:=S';clear S';try simp only [Act.put]) | (refine zbq (by rfl) _ _ _ rfl 19 (.string ⟨nm.toArray⟩) rfl rfl S.o (by kernel_rfl) rfl rfl (fun _ h=>h) (fun W' S'=>?_);replace S:=S';clear S';try simp only [Act.put]) | (refine zbq (by rfl) _ _ _ rfl 18 (.string ⟨tx.toArray⟩) rfl rfl S.o (by kernel_rfl) rfl rfl (fun _ h=>h) (fun W' S'=>?_);replace S:=S';clear S';try simp only [Act.put]))
  try refine zar ?_
 case' inr.inr.inr.inr.inl=>
  obtain ⟨VF,S',hfi⟩:=S.o.fin ⟨n,tm,2,st,lg,rv,bs,ti,au,tp,bl,lb,ed,bk,se,tx,nm,pa,cl,un⟩ (show FcAt _ _ _ (zaO ⟨n,tm,2,st,lg,rv,bs,ti,au,tp,bl,lb,ed,bk,se,tx,nm,pa,cl,un⟩).1 from zax _ _ _ rfl rfl rfl) (by rw [hVT.o];kernel_rfl);replace S:=S';clear S';go_wp2_with fail
  refine rS (UC R VA _) [(0,true),(1,true),(2,true),(3,true),(4,true),(5,false),(6,true),(7,false),(8,true)] S.o.drew.c ?_;replace S:=Y S.o.drew;generalize World.drew _=W at S ⊢;simp only [zah,List.map_cons,List.map_nil,List.getD_cons_zero,List.getD_cons_succ];cases b1
 case' inr.inr.inr.inr.inr.inl=>
  obtain ⟨VF,S',hfi⟩:=S.o.fin ⟨n,tm,3,st,lg,rv,bs,ti,au,tp,bl,lb,ed,bk,se,tx,nm,pa,cl,un⟩ (show FcAt _ _ _ (zaO ⟨n,tm,3,st,lg,rv,bs,ti,au,tp,bl,lb,ed,bk,se,tx,nm,pa,cl,un⟩).1 from ⟨zac.nil _ _ _,zaE.nil _ _,h.af⟩) (by rw [hVT.o];kernel_rfl);replace S:=S';clear S';go_wp2_with fail
  refine rS (UC R VA _) [(0,true),(1,true),(2,true),(3,true),(4,true),(5,false),(6,true),(7,false),(8,true)] S.o.drew.c ?_;replace S:=Y S.o.drew;generalize World.drew _=W at S ⊢;simp only [zah,List.map_cons,List.map_nil,List.getD_cons_zero,List.getD_cons_succ];cases b1
 case' inr.inr.inr.inr.inr.inr.inr.inl=>
  obtain ⟨VF,S',hfi⟩:=S.o.fin ⟨n,tm,5,st,lg,rv,bs,ti,au,tp,bl,lb,ed,bk,se,tx,nm,pa,cl,un⟩ (show FcAt _ _ _ (zaO ⟨n,tm,5,st,lg,rv,bs,ti,au,tp,bl,lb,ed,bk,se,tx,nm,pa,cl,un⟩).1 from zax _ _ _ rfl rfl rfl) (by rw [hVT.o];kernel_rfl);replace S:=S';clear S';go_wp2_with fail
  refine rS (UC R VA _) [(0,true),(1,true),(2,true),(3,true),(4,true),(5,false),(6,true),(7,false),(8,true)] S.o.drew.c ?_;replace S:=Y S.o.drew;generalize World.drew _=W at S ⊢;simp only [zah,List.map_cons,List.map_nil,List.getD_cons_zero,List.getD_cons_succ];cases b1
 case' inr.inr.inl=>
  obtain ⟨VF,S',hfi⟩:=S.o.fin ⟨n,tm,9,st,lg,rv,bs,ti,au,tp,bl,lb,ed,bk,se,tx,nm,pa,cl,un⟩ (show FcAt _ _ _ (zaO ⟨n,tm,9,st,lg,rv,bs,ti,au,tp,bl,lb,ed,bk,se,tx,nm,pa,cl,un⟩).1 from zax _ _ _ rfl rfl rfl) (by rw [hVT.o];kernel_rfl);replace S:=S';clear S';go_wp2_with (first | (refine zae (by rfl) 28 _ rfl (R+1+1) _ _ _ _ rfl S.o.u Tryz.underlying28 rfl (by rw [S.o.sz];kernel_rfl) ?_) | (refine zcK S.o rfl _ _ rfl rfl rfl (by kernel_rfl) (fun WF HF=>?_)))
  refine bodyPost_ret (zbS rfl _ _ (R+1) _ _ _ _ rfl HF.o.1 Tryz.underlying28 rfl (by rw [S.o.sz];kernel_rfl)) rfl ?_;exact hfi.o _ _ (hok.o.trans rfl) HF.o.2
 case' inr.inr.inr.inl=>
  obtain ⟨VF,S',hfi⟩:=S.o.fin ⟨n,tm,1,st,lg,rv,bs,ti,au,tp,bl,lb,ed,bk,se,tx,nm,pa,cl,un⟩ (show FcAt _ _ _ (zaO ⟨n,tm,1,st,lg,rv,bs,ti,au,tp,bl,lb,ed,bk,se,tx,nm,pa,cl,un⟩).1 from ⟨h.tp,h.bl,h.af⟩) (by rw [hVT.o];kernel_rfl);replace S:=S';clear S';go_wp2_with fail
  refine rS (UC R VA _) [(0,true),(1,true),(2,true),(3,true),(4,false),(5,true),(6,false),(7,true)] S.o.drew.c ?_;replace S:=Y S.o.drew;generalize World.drew _=W at S ⊢;simp only [zah,List.map_cons,List.map_nil,List.getD_cons_zero,List.getD_cons_succ];cases b1
 case' inr.inr.inr.inr.inr.inr.inl=>
  obtain ⟨VF,S',hfi⟩:=S.o.fin ⟨n,tm,4,st,lg,rv,bs,ti,au,tp,bl,lb,ed,bk,se,tx,nm,pa,cl,un⟩ (show FcAt _ _ _ (zaO ⟨n,tm,4,st,lg,rv,bs,ti,au,tp,bl,lb,ed,bk,se,tx,nm,pa,cl,un⟩).1 from zax _ _ _ rfl rfl rfl) (by rw [hVT.o];kernel_rfl);replace S:=S';clear S';go_wp2_with fail
  refine rS (UC R VA _) [(0,true),(1,true),(2,true),(3,true),(4,false),(5,true),(6,false),(7,true)] S.o.drew.c ?_;replace S:=Y S.o.drew;generalize World.drew _=W at S ⊢;simp only [zah,List.map_cons,List.map_nil,List.getD_cons_zero,List.getD_cons_succ];cases b1
 case' inr.inr.inr.inr.inr.inr.inr.inr.inl=>
  obtain ⟨VF,S',hfi⟩:=S.o.fin ⟨n,tm,7,st,lg,rv,bs,ti,au,tp,bl,lb,ed,bk,se,tx,nm,pa,cl,un⟩ (show FcAt _ _ _ (zaO ⟨n,tm,7,st,lg,rv,bs,ti,au,tp,bl,lb,ed,bk,se,tx,nm,pa,cl,un⟩).1 from zax _ _ _ rfl rfl rfl) (by rw [hVT.o];kernel_rfl);replace S:=S';clear S';go_wp2_with fail
  refine rS (UC R VA _) [(0,true),(1,true),(2,true),(3,false),(4,true),(5,true),(6,true),(7,false),(8,true),(9,false),(10,true)] S.o.drew.c ?_;replace S:=Y S.o.drew;generalize World.drew _=W at S ⊢;simp only [zah,List.map_cons,List.map_nil,List.getD_cons_zero,List.getD_cons_succ];cases b4
 case' inr.inr.inr.inr.inr.inr.inr.inr.inr.inl=>
  obtain ⟨VF,S',hfi⟩:=S.o.fin ⟨n,tm,8,st,lg,rv,bs,ti,au,tp,bl,lb,ed,bk,se,tx,nm,pa,cl,un⟩ (show FcAt _ _ _ (zaO ⟨n,tm,8,st,lg,rv,bs,ti,au,tp,bl,lb,ed,bk,se,tx,nm,pa,cl,un⟩).1 from zax _ _ _ rfl rfl rfl) (by rw [hVT.o];kernel_rfl);replace S:=S';clear S';go_wp2_with fail
  refine rS (UC R VA _) [(0,true),(1,true),(2,true),(3,true),(4,true),(5,false),(6,true),(7,false),(8,true)] S.o.drew.c ?_;replace S:=Y S.o.drew;generalize World.drew _=W at S ⊢;simp only [zah,List.map_cons,List.map_nil,List.getD_cons_zero,List.getD_cons_succ];cases bp
 all_goals
  repeat (first | (refine zfc (by rfl) 28 _ rfl (R+1+1) _ _ _ _ rfl (fun _ h=>h.2) Tryz.underlying28 rfl (by rw [S.o.sz];kernel_rfl) ?_;try simp only [Act.put,sA,sZ,sS]) | (refine zfc (by rfl) 28 _ rfl R VA _ _ _ rfl (fun _ h=>h.1) Tryz.underlying28 rfl (by rw [iA.o];kernel_rfl) ?_;try simp only [Act.put,sA,sZ,sS]) | (refine zfl (by rfl) 26 _ rfl R 11 (lbC (.slice a3 n3 c3) lb).toArray _ rfl (fun _ h=>zaD (n:=11) (k:=4) h.1 (by rw [hVA.o];rfl)) Tryz.underlying26 rfl (by kernel_rfl) ?_;try simp only [Act.put,sA,sZ,sS]) | (refine zav (by rfl) ?_ (fun w' hC=>?_) ?_;rotate_left;(have q0:=(zaa hC.1 15).trans v_ed.o;have q1:=(zaa hC.1 21).trans v_cl.o;have q2:=(zaa hC.1 19).trans v_nm.o;have q3:=(zaa hC.1 18).trans v_tx.o;go_simp;try with_reducible rfl);try simp only [Act.put,sA,sZ,sS]) | (refine nT ?_) | (refine zms S.o (by rfl) _ _ rfl rfl rfl (by kernel_rfl) (fun WF HF=>?_);try simp only [Act.put]) | (refine zak (by rfl) (fun K hK=>?_);go_simp;refine (hc4.o _ S.o.m).mono ?_;rintro e WC ⟨rfl,hx⟩;replace S:=Y (S.o.ext hx);clear hx;refine hK.o _ _ S.o.c ?_;clear hK K;try simp only [Act.put,sA,sZ,sS]) | (refine zak (by rfl) (fun K hK=>?_);go_simp;refine (hc5.o _ S.o.m).mono ?_;rintro e WC ⟨rfl,hx⟩;replace S:=Y (S.o.ext hx);clear hx;refine hK.o _ _ S.o.c ?_;clear hK K;try simp only [Act.put,sA,sZ,sS]))
  refine zar ?_;go_wp2_with fail
  refine bodyPost_ret (zbS rfl _ _ (R+1) _ _ _ _ rfl HF.o.1 Tryz.underlying28 rfl (by rw [S.o.sz];kernel_rfl)) rfl ?_;exact hfi.o _ _ (hok.o.trans rfl) HF.o.2
end Go.Proofs.YtjjfphalcibjfaaGreatDoor
