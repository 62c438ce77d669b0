import Derived.Test.YtjjfphalcibjfaaGreatDoorC0
import Derived.Stop.Asserts
import Derived.RowKitTokens
import Derived.Test.YtjjfphalcibjfaaGreatDoorD5
import Derived.Test.YtjjfphalcibjfaaGreatDoorTh2
set_option maxRecDepth 100000
set_option maxHeartbeats 16000000
namespace Go.Proofs.YtjjfphalcibjfaaGreatDoor
open Go.Shelf Go.RowKit Cdk Scr Go.Extern.Stop Go.Stop Go.Extern
def flV (c:Int):Value:=.iface 159 (.agg #[.int .i64 c])
theorem zkn (t:Addr) (w:World):(ReflectliteValue.unpack (.iface 162 (.pointer (some t)))).run Tryz.prog w
  =.ok (.agg #[.pointer (some ⟨10,162,none⟩),.pointer (some ⟨w.heap.size,0,none⟩),.int .u64 150]) (w.alloc (.cells #[.pointer (some t)] 162)):=by kernel_rfl
theorem znG (a : Addr) (w : World) : (ReflectliteValue.methodAny (ReflectliteValue.valueError "reflectlite.Value.Type" 0) (fun t _ _ _ => ReflectliteType.toType t) #[.agg #[.pointer (some ⟨10, 162, none⟩), .pointer (some a), .int .u64 150]]).run Tryz.prog w
  =.ok (.iface 221 (.agg #[.pointer (some ⟨10,162,none⟩)])) w:=by kernel_rfl
theorem zmL (h : Value) (w : World) : (Go.method 404 221 (.agg #[h]) "Kind").run Tryz.prog w = .ok (307, h) w := by kernel_rfl
theorem zm6 (w:World):((ReflectliteType.abiMethod fun t=>(fun a:Nat=>Value.int IntKind.u8 (a:Int)) <$> Rtype.kind t) #[.pointer (some ⟨10,162,none⟩)]).run Tryz.prog w=.ok (.int .u8 22) w:=by kernel_rfl
theorem zmr (w:World):((ReflectliteType.abiMethod fun t=>(fun a:Nat=>Value.int IntKind.u8 (a:Int)) <$> Rtype.kind t) #[.pointer (some ⟨10,159,none⟩)]).run Tryz.prog w=.ok (.int .u8 25) w:=by kernel_rfl
theorem zng (z:Sem Value) (f:TypeId -> Addr -> Nat -> Nat -> Sem Value) (v:Value):
  ReflectliteValue.method z f #[v]=(do match <- ReflectliteValue.parts v with | none=>z | some (t,a,fl)=>f t a fl (fl % 32)):=rfl
theorem zjB (a:Addr) (w:World):(ReflectliteValue.parts (.agg #[.pointer (some ⟨10,162,none⟩),.pointer (some a),.int .u64 150])).run Tryz.prog w=.ok (some (162,a,150)) w:=by kernel_rfl
theorem zmy (a p:Addr) (W:World) (ha:W.cell? a=some (.pointer (some p))):
  (ReflectliteValue.method (ReflectliteValue.valueError "reflectlite.Value.IsNil" 0) ReflectliteValue.isNil #[.agg #[.pointer (some ⟨10, 162, none⟩), .pointer (some a), .int .u64 150]]).run Tryz.prog W = .ok (.bool false) W := by
 rw [zng];simp only [Sem.run_bind,zjB,Result.andThen];simp [ReflectliteValue.isNil,loadVar,isAgg,underlying,Tryz.underlying162,ha,Result.andThen]
theorem zmn (h : Value) (w : World) : (Go.method 404 221 (.agg #[h]) "Elem").run Tryz.prog w = .ok (318, .agg #[h]) w := by kernel_rfl
theorem zkN (h : Value) (w : World) : (Go.method 404 221 (.agg #[h]) "AssignableTo").run Tryz.prog w = .ok (316, .agg #[h]) w := by kernel_rfl
theorem zmD (h : Value) (w : World) : (Go.method 404 221 (.agg #[h]) "Implements").run Tryz.prog w = .ok (319, .agg #[h]) w := by kernel_rfl
theorem znU (w:World):(ReflectliteType.method ReflectliteType.elem #[.agg #[.pointer (some ⟨10,162,none⟩)]]).run Tryz.prog w=.ok (.iface 221 (.agg #[.pointer (some ⟨10,159,none⟩)])) w:=by kernel_rfl
theorem znW (w : World) : (ReflectliteType.relation "Implements" ReflectliteType.implements_ #[.agg #[.pointer (some ⟨10, 159, none⟩)], .iface 221 (.agg #[.pointer (some ⟨10, 67, none⟩)])]).run Tryz.prog w = .ok (.bool true) w := by kernel_rfl
theorem zlE (v:Value) (w:World):(ReflectliteType.typeOf #[.iface 159 v]).run Tryz.prog w=.ok (.iface 221 (.agg #[.pointer (some ⟨10,159,none⟩)])) w:=by kernel_rfl
theorem zme (w : World) : (ReflectliteType.relation "AssignableTo" ReflectliteType.assignableTo #[.agg #[.pointer (some ⟨10, 159, none⟩)], .iface 221 (.agg #[.pointer (some ⟨10, 159, none⟩)])]).run Tryz.prog w = .ok (.bool true) w := by kernel_rfl
theorem zk2 (c:Int) (w:World):(ReflectliteValue.unpack (.iface 159 (.agg #[.int .i64 c]))).run Tryz.prog w
  =.ok (.agg #[.pointer (some ⟨10,159,none⟩),.pointer (some ⟨w.heap.size,0,none⟩),.int .u64 153]) (w.alloc (.cells #[.int .i64 c] 159)):=by kernel_rfl
theorem zlZ (w:World):(Rtype.elem? 162).run Tryz.prog w=.ok (some 159) w:=by kernel_rfl
theorem zpw (p:Addr) (w:World):(ReflectliteValue.mk 159 p ReflectliteValue.flagAddr).run Tryz.prog w=.ok (.agg #[.pointer (some ⟨10,159,none⟩),.pointer (some p),.int .u64 409]) w:=by kernel_rfl
theorem zmH (a p:Addr) (W:World) (ha:W.cell? a=some (.pointer (some p))):
  (ReflectliteValue.method (ReflectliteValue.valueError "reflectlite.Value.Elem" 0) ReflectliteValue.elem #[.agg #[.pointer (some ⟨10, 162, none⟩), .pointer (some a), .int .u64 150]]).run Tryz.prog W
   =.ok (.agg #[.pointer (some ⟨10,159,none⟩),.pointer (some p),.int .u64 409]) W:=by
 rw [zng];simp only [Sem.run_bind,zjB,Result.andThen];simp [ReflectliteValue.elem,loadVar,isAgg,underlying,Tryz.underlying162,ha,Result.andThen,zlZ,zpw]
theorem zpb (v x:Value):ReflectliteValue.set #[v,x]=(do
  let (some (dst,a,fl),some (src,b,_)):=(<- ReflectliteValue.parts v,<- ReflectliteValue.parts x)
   | unsupported (.noEntry "extern/(internal/reflectlite.Value).Set.zeroValue")
  if fl / ReflectliteValue.flagAddr % 2 == 0 then unsupported (.noEntry "extern/(internal/reflectlite.Value).Set.unaddressable")
  let val <- loadVar src b
  if <- Rtype.directlyAssignable dst src then storeVar dst a val
  else if <- Rtype.implements dst src then
   if (<- Rtype.kind src)==20 then
    match val with
    | .nilIface => unsupported (.noEntry "extern/reflectlite: a nil value of one interface type handed on as a value of another")
    | _=>storeVar dst a val
   else storeVar dst a (.iface src val)
  else panicString ("reflectlite.Set: value of type " ++ (<- Rtype.spelt src) ++ " is not assignable to type " ++ (<- Rtype.spelt dst))
  pure (.tuple #[])):=rfl
theorem zle (a:Addr) (w:World):(ReflectliteValue.parts (.agg #[.pointer (some ⟨10,159,none⟩),.pointer (some a),.int .u64 409])).run Tryz.prog w=.ok (some (159,a,409)) w:=by kernel_rfl
theorem zma (a:Addr) (w:World):(ReflectliteValue.parts (.agg #[.pointer (some ⟨10,159,none⟩),.pointer (some a),.int .u64 153])).run Tryz.prog w=.ok (some (159,a,153)) w:=by kernel_rfl
theorem zlo (w:World):(Rtype.directlyAssignable 159 159).run Tryz.prog w=.ok true w:=by kernel_rfl
theorem zoW (ta:Addr) (g:Nat) (c:Int) (old:Value) (fr:Nat × Nat) (W:World) (hb:W.heap[g]?=some (.cells #[.int .i64 c] 159 fr)) (ht:W.cell? ta=some old) (hf:W.frozen? ta=false):
  (ReflectliteValue.set #[.agg #[.pointer (some ⟨10,159,none⟩),.pointer (some ta),.int .u64 409],.agg #[.pointer (some ⟨10,159,none⟩),.pointer (some ⟨g,0,none⟩),.int .u64 153]]).run Tryz.prog W
   =.ok (.tuple #[]) (W.setCell ta (.int .i64 c)):=by
 have hl:=run_loadVar_row (P:=Tryz.prog) W g 159 159 #[.int .i64 c] fr _ hb Tryz.underlying159 rfl (by kernel_rfl);rw [zpb];simp only [Sem.run_bind,zle,zma,Result.andThen];simp [ReflectliteValue.flagAddr,hl,Result.andThen,zlo,storeVar,Value.cells,storeCells,Addr.add];rw [run_store Tryz.prog W ta _ _ (by rfl)];simp [ht,hf]
theorem as_hit (c:Int) (t:Addr) (old:Value) (w:World) (hg:w.cell? ⟨1,0,none⟩=some (.iface 221 (.agg #[.pointer (some ⟨10,67,none⟩)]))) (ht0:w.cell? t=some old) (hf0:w.frozen? t=false) (hlt:1 < w.heap.size):
  Calls Tryz.prog 191 #[.iface 159 (.agg #[.int .i64 c]),.iface 162 (.pointer (some t))] w fun ev w'=>ev=.returned (.bool true)/\∃ W,Ext w W/\w'=W.setCell t (.int .i64 c):=by
 have h6:=@run_callFunc_extern Tryz.prog 213 _ (fun args=>ReflectliteValue.unpack (args.getD 0 (.tuple #[]))) Tryz.func213 (by kernel_rfl) (by kernel_rfl) (by kernel_rfl) (by kernel_rfl)
 have h7 := @run_callFunc_extern Tryz.prog 214 _ (ReflectliteValue.methodAny (ReflectliteValue.valueError "reflectlite.Value.Type" 0) (fun t _ _ _ => ReflectliteType.toType t)) Tryz.func214 (by kernel_rfl) (by kernel_rfl) (by kernel_rfl) (by kernel_rfl)
 have h8 := @run_callFunc_extern Tryz.prog 215 _ (ReflectliteValue.method (ReflectliteValue.valueError "reflectlite.Value.IsNil" 0) ReflectliteValue.isNil) Tryz.func215 (by kernel_rfl) (by kernel_rfl) (by kernel_rfl) (by kernel_rfl)
 have h27:=@run_callFunc_extern Tryz.prog 307 _ (ReflectliteType.abiMethod fun t=>do pure (.int .u8 (<- Rtype.kind t))) Tryz.func307 (by kernel_rfl) (by kernel_rfl) (by kernel_rfl) (by kernel_rfl);have h37:=@run_callFunc_extern Tryz.prog 318 _ (ReflectliteType.method ReflectliteType.elem) Tryz.func318 (by kernel_rfl) (by kernel_rfl) (by kernel_rfl) (by kernel_rfl)
 have h38 := @run_callFunc_extern Tryz.prog 319 _ (ReflectliteType.relation "Implements" ReflectliteType.implements_) Tryz.func319 (by kernel_rfl) (by kernel_rfl) (by kernel_rfl) (by kernel_rfl)
 have h10:=@run_callFunc_extern Tryz.prog 248 _ ReflectliteType.typeOf Tryz.func248 (by kernel_rfl) (by kernel_rfl) (by kernel_rfl) (by kernel_rfl)
 have h35 := @run_callFunc_extern Tryz.prog 316 _ (ReflectliteType.relation "AssignableTo" ReflectliteType.assignableTo) Tryz.func316 (by kernel_rfl) (by kernel_rfl) (by kernel_rfl) (by kernel_rfl)
 have h11 := @run_callFunc_extern Tryz.prog 249 _ (ReflectliteValue.method (ReflectliteValue.valueError "reflectlite.Value.Elem" 0) ReflectliteValue.elem) Tryz.func249 (by kernel_rfl) (by kernel_rfl) (by kernel_rfl) (by kernel_rfl)
 have h12:=@run_callFunc_extern Tryz.prog 250 _ ReflectliteValue.set Tryz.func250 (by kernel_rfl) (by kernel_rfl) (by kernel_rfl) (by kernel_rfl);have tO:=zlE;have mA:=zkN;have a25:=zme;have v25:=zk2;have f6:=zkn;have f7:=znG;have mK:=zmL;have mE:=zmn;have mI:=zmD;have k27:=zm6;have k25:=zmr;have e27:=znU;have i25:=znW;have n8:=zmy ⟨w.heap.size,0,none⟩ t ((w.alloc (.cells #[.pointer (some t)] 162)).alloc (.cells #[.pointer (some ⟨10,162,none⟩),.pointer (some ⟨w.heap.size,0,none⟩),.int .u64 150] 195)) (by simp);have hg2:((w.alloc (.cells #[.pointer (some t)] 162)).alloc (.cells #[.pointer (some ⟨10,162,none⟩),.pointer (some ⟨w.heap.size,0,none⟩),.int .u64 150] 195)).cell? ⟨1,0,none⟩=some (.iface 221 (.agg #[.pointer (some ⟨10,67,none⟩)])):=by
  rw [World.cell?_alloc_lt _ _ ⟨1,0,none⟩ (by simp;omega),World.cell?_alloc_lt _ _ ⟨1,0,none⟩ hlt];exact hg
 have htl:t.block < w.heap.size:=by
  rcases Nat.lt_or_ge t.block w.heap.size with h | h
  ·exact h
  ·simp [World.cell?,Array.getElem?_eq_none h] at ht0
 have el:=zmH ⟨w.heap.size,0,none⟩ t (((w.alloc (.cells #[.pointer (some t)] 162)).alloc (.cells #[.pointer (some ⟨10,162,none⟩),.pointer (some ⟨w.heap.size,0,none⟩),.int .u64 150] 195)).alloc (.cells #[.pointer (some ⟨10,162,none⟩),.pointer (some ⟨w.heap.size,0,none⟩),.int .u64 150] 195)) (by rw [World.cell?_alloc_lt _ _ ⟨w.heap.size,0,none⟩ (by simp;omega)];simp);have st:=zoW t (w.heap.size+1+1+1) c old (0,0) ((((w.alloc (.cells #[.pointer (some t)] 162)).alloc (.cells #[.pointer (some ⟨10,162,none⟩),.pointer (some ⟨w.heap.size,0,none⟩),.int .u64 150] 195)).alloc (.cells #[.pointer (some ⟨10,162,none⟩),.pointer (some ⟨w.heap.size,0,none⟩),.int .u64 150] 195)).alloc (.cells #[.int .i64 c] 159))
  (by have:=heap_alloc_new (((w.alloc (.cells #[.pointer (some t)] 162)).alloc (.cells #[.pointer (some ⟨10,162,none⟩),.pointer (some ⟨w.heap.size,0,none⟩),.int .u64 150] 195)).alloc (.cells #[.pointer (some ⟨10,162,none⟩),.pointer (some ⟨w.heap.size,0,none⟩),.int .u64 150] 195)) (.cells #[.int .i64 c] 159);simpa using this)
  (by rw [World.cell?_alloc_lt _ _ t (by simp;omega),World.cell?_alloc_lt _ _ t (by simp;omega),World.cell?_alloc_lt _ _ t (by simp;omega),World.cell?_alloc_lt _ _ t htl];exact ht0)
  (by rw [World.frozen?_alloc_old _ _ t (by simp;omega),World.frozen?_alloc_old _ _ t (by simp;omega),World.frozen?_alloc_old _ _ t (by simp;omega),World.frozen?_alloc_old _ _ t (Nat.ne_of_lt htl)];exact hf0)
 have hx4:=((((Mod.refl (fun _=>False) w).alloc (.cells #[.pointer (some t)] 162)).alloc (.cells #[.pointer (some ⟨10,162,none⟩),.pointer (some ⟨w.heap.size,0,none⟩),.int .u64 150] 195)).alloc (.cells #[.pointer (some ⟨10,162,none⟩),.pointer (some ⟨w.heap.size,0,none⟩),.int .u64 150] 195)).alloc (.cells #[.int .i64 c] 159);replace hx4:=Y hx4;go_enter Tryz.func191,Tryz.ntmps191;go_wp2;refine wp_loop_rounds 1 ?_;rw [rounds_succ];go_wp2;go_ret;exact ⟨rfl,_,hx4.o,rfl⟩
def flE (c:Int):PanicEntry:={ v:=flV c,recovered:=false }
theorem zgP (w:World):Calls Tryz.prog 193 #[.int .i64 0] w fun e w'=>e=.returned (.tuple #[])/\w=w':=by
 go_enter Tryz.func193,Tryz.ntmps193;go_wp2_with fail
 go_end0
 exact ⟨rfl,rfl⟩
theorem ze7 (c:Int) (hc:c ≠ 0) (w:World):Calls Tryz.prog 193 #[.int .i64 c] w fun e w'=>e=.panicked [flE 10]/\w=w':=by
 have h1:(c !=0)=true:=by rw [bne_iff_ne];exact hc
 have h2:(c==0)=false:=by rw [beq_eq_false_iff_ne];exact hc
 unfold flE flV;go_enter Tryz.func193,Tryz.ntmps193;go_wp2_with fail
 exact ⟨rfl,rfl,rfl⟩
theorem zjj (p q:Nat) (w:World):
  CallsD Tryz.prog 190 #[.pointer (some ⟨p,0,none⟩),.pointer (some ⟨q,0,none⟩)] .returning w fun e u' w'=>e=.returned (.tuple #[])/\u'=.returning/\w'=w:=by
 refine callsD_of_wpS Tryz.func190 rfl fun c₀ cs hu=>?_
 apply wpS_seq;apply wpS_region;simp [wpOpsS,go_sem,recoverD,hu,Tryz.ntmps190,Exit.thenS];refine wpS_of_wp ?_;simp only [Array.replicate_succ,Array.replicate_zero,List.push_toArray,List.setIfInBounds_toArray,List.set_cons_zero,List.set_cons_succ,List.append_toArray,List.nil_append,List.cons_append];go_wp2_with fail
 cases c₀
 simp_all [bodyPostS,results,Tryz.results190]
theorem za2 (p q:Nat) (V:Array Value) (y:Value) (c:Int) (older:List PanicEntry) (w:World) (hp:w.heap[p]?=some (.cells V 30 (0,0))) (hV:V.size=7) (hq:w.heap[q]?=some (.cells #[y] 39 (0,0))) (hpq:p ≠ q)
  (hg:∀ W,Mod (fun k=>k=p \/ k=q) w W -> W.cell? ⟨1,0,none⟩=some (.iface 221 (.agg #[.pointer (some ⟨10,67,none⟩)]))) (_hsz:10<=w.heap.size):
  CallsD Tryz.prog 190 #[.pointer (some ⟨p,0,none⟩),.pointer (some ⟨q,0,none⟩)] (.panicking (flE c::older)) w fun e u' w'=>
   e=.returned (.tuple #[])/\u'=.panicking ({ v:=flV c,recovered:=true }::older)/\w'.heap[p]?=some (.cells #[.int .i64 0,.int .i64 0,.int .i64 0,.int .i64 0,.int .i64 0,.int .i64 0,.string ⟨#[]⟩] 30 (0,0))/\w'.heap[q]?=some (.cells #[.int .i64 c] 39 (0,0))/\Mod (fun k=>k=p \/ k=q) w w':=by
 have hta:∀ (w:World),(Instr.typeAssert (.iface 159 (.agg #[.int .i64 c])) 20 67 true).run Tryz.prog w=.ok (.tuple #[.iface 159 (.agg #[.int .i64 c]),.bool true]) w:=fun _=>by kernel_rfl
 have hplt:=zas hp;have hqlt:=zas hq;replace hg:=Y hg;replace hp:=Y hp;replace hq:=Y hq;replace hV:=Y hV;unfold flE flV;refine callsD_of_wpS Tryz.func190 rfl fun c₀ cs hu=>?_
 apply wpS_seq;apply wpS_region;simp [wpOpsS,go_sem,recoverD,hu,Tryz.ntmps190,Exit.thenS];refine wpS_of_wp ?_;simp only [Array.replicate_succ,Array.replicate_zero,List.push_toArray,List.setIfInBounds_toArray,List.set_cons_zero,List.set_cons_succ,List.append_toArray,List.nil_append,List.cons_append];obtain ⟨VZ,hVZ⟩:∃ VZ:Array Value,VZ=#[.int .i64 0,.int .i64 0,.int .i64 0,.int .i64 0,.int .i64 0,.int .i64 0,.string ⟨#[]⟩]:=⟨_,rfl⟩;have hZs:Hid (VZ.size=V.size):=Y (by rw [hV.o,hVZ];rfl);have hZi:Hid ((Tryz.prog.info? 30).map (·.size)=some VZ.size):=Y (by rw [hVZ];kernel_rfl);have hZ1:Hid (VZ.toList.all (·.oneCell')=true):=Y (by rw [hVZ];rfl);rw [<- hVZ];replace hVZ:=Y hVZ;go_upto_region 2 with fail
 go_wp2_with (refine zab rfl 30 _ _ rfl p V VZ 30 rfl (by rw [hVZ.o];rfl) hp.o hZs.o hZi.o hZ1.o (fun WS HS=>Hid.o ?_))
 obtain ⟨hp1,hm1⟩:=HS.o;have hq1:=hm1.at hq.o (by omega);have cq:=zaa hq1 0;have zq:=zad hq1;simp at cq;have hq2:=zdX (v:=.int .i64 200) hq1;have hp2:=(zan WS (b:=q) (k:=p) 0 (.int .i64 200) hpq).trans hp1;have hm2:Mod (fun k=>k=p \/ k=q) w (WS.setCell ⟨q,0,none⟩ (.int .i64 200)):=(hm1.mono (fun k hk=>.inl hk.symm)).setCell (a:=⟨q,0,none⟩) (fun _=>.inr rfl) (.int .i64 200);replace hp1:=Y hp1;replace hm1:=Y hm1;replace hq1:=Y hq1;replace hq2:=Y hq2;replace hp2:=Y hp2;replace hm2:=Y hm2;clear HS;refine Y ?_;go_upto_region 3 with fail
 clear cq zq;generalize WS.setCell ⟨q,0,none⟩ (.int .i64 200)=W2 at hq2 hp2 hm2 ⊢;have hsz2:w.heap.size<=W2.heap.size:=hm2.o.size;have hx3:=Mod.alloc (Mod.refl (fun _=>False) W2) (.cells #[.int .i64 0] 159);have hf3:=heap_alloc_new W2 (.cells #[.int .i64 0] 159);have hg3:=(hx3.cell (hg.o W2 hm2.o) id);have hf3z:=zaa hf3 0;have hf3f:=zad hf3 0;have hs3:(W2.alloc (.cells #[.int .i64 0] 159)).heap.size=W2.heap.size+1:=World.size_alloc _ _;have hah:=Y (as_hit c ⟨W2.heap.size,0,none⟩ (.int .i64 0) (W2.alloc (.cells #[.int .i64 0] 159)) hg3 hf3z hf3f (by omega));replace hx3:=Y hx3;replace hf3:=Y hf3;replace hg3:=Y hg3;replace hs3:=Y hs3;clear hf3z hf3f;go_wp2_with fail
 refine hah.o.mono ?_;rintro e w4 ⟨rfl,W,hxW,rfl⟩;have hf4:=zdX (v:=.int .i64 c) (hxW.at hf3.o id);have hq4:=(zan W (b:=W2.heap.size) (k:=q) 0 (.int .i64 c) (by omega)).trans (hxW.at (hx3.o.at hq2.o id) id);have hp4:=(zan W (b:=W2.heap.size) (k:=p) 0 (.int .i64 c) (by omega)).trans (hxW.at (hx3.o.at hp2.o id) id);have hm4:Mod (fun k=>k=p \/ k=q) w (W.setCell ⟨W2.heap.size,0,none⟩ (.int .i64 c)):=((hm2.o.trans (hx3.o.mono (fun _ h=>h.elim))).trans (hxW.mono (fun _ h=>h.elim))).setCell (a:=⟨W2.heap.size,0,none⟩) (fun h=>absurd h (by show ¬ W2.heap.size < w.heap.size;omega)) (.int .i64 c);generalize (W.setCell ⟨W2.heap.size,0,none⟩ (.int .i64 c))=w5 at hf4 hq4 hp4 hm4 ⊢;have cf:=zaa hf4 0;have cq:=zaa hq4 0;have zq:=zad hq4;simp at cf cq;have hq5:=zdX (v:=.int .i64 c) hq4;have hp5:=(zan w5 (b:=q) (k:=p) 0 (.int .i64 c) hpq).trans hp4;have hm5:Mod (fun k=>k=p \/ k=q) w (w5.setCell ⟨q,0,none⟩ (.int .i64 c)):=hm4.setCell (a:=⟨q,0,none⟩) (fun _=>.inr rfl) (.int .i64 c);replace hf4:=Y hf4;replace hq4:=Y hq4;replace hp4:=Y hp4;replace hm4:=Y hm4;replace hq5:=Y hq5;replace hp5:=Y hp5;replace hm5:=Y hm5;clear hah hxW;go_wp2_with fail
 simp [bodyPostS,results,Tryz.results190];exact ⟨hp5.o,hq5.o,hm5.o⟩
end Go.Proofs.YtjjfphalcibjfaaGreatDoor
namespace Scr
def mkM (fs:List Int) (da:Bs):Ms:=match fs with
 | [a,b,c,d,e,f]=>⟨a,b,c,d,e,f,da⟩
 | _=>Ms.zero
def zeX:Nat -> List Int -> Bs -> Except Int Ms
 | 0,fs,r=>match zhj r with
  | none=>.error 10
  | some x=>if !x.2.isEmpty then .error 10 else if vMs (mkM fs x.1) then .ok (mkM fs x.1) else .error 200
 | k+1,fs,r=>match zdt r with
  | none=>.error 10
  | some x=>zeX k (fs++[x.1]) x.2
theorem zoS {α:Type} (r:Bs) (g:Int × Bs -> Except Int α):(rbI r >>=g)=match zdt r with | none=>.error 10 | some x=>g x:=by
 unfold rbI;cases zdt r <;> rfl
theorem zpy {α:Type} (r:Bs) (g:Bs × Bs -> Except Int α):(rbS r >>=g)=match zhj r with | none=>.error 10 | some x=>g x:=by
 unfold rbS;cases zhj r <;> rfl
theorem zlT (s:Bs):zkl s=match zdt s with
  | none=>.error 10
  | some x=>if x.1 ≠ crc x.2 then .error 200 else zeX 6 [] x.2:=by
 unfold zkl;rw [zoS];cases zdt s with
 | none=>rfl
 | some x=>
  obtain ⟨sum,r⟩:=x;simp only
  by_cases h:sum ≠ crc r
  ·rw [if_pos h,if_pos h];rfl
  ·rw [if_neg h,if_neg h]
   simp only [zoS,zpy];unfold zeX;cases zdt r with
   | none=>rfl
   | some x1=>
    simp only;unfold zeX;cases zdt x1.2 with
    | none=>rfl
    | some x2=>
     simp only;unfold zeX;cases zdt x2.2 with
     | none=>rfl
     | some x3=>
      simp only;unfold zeX;cases zdt x3.2 with
      | none=>rfl
      | some x4=>
       simp only;unfold zeX;cases zdt x4.2 with
       | none=>rfl
       | some x5=>
        simp only;unfold zeX;cases zdt x5.2 with
        | none=>rfl
        | some x6=>
         simp only;unfold zeX;cases zhj x6.2 with
         | none=>rfl
         | some x7=>
          simp only;cases hE:x7.2.isEmpty with
          | true=>rfl
          | false=>rfl
end Scr
namespace Go.Proofs.YtjjfphalcibjfaaGreatDoor
open Go.Shelf Go.RowKit Cdk Scr
def MsE (e:Ending) (D:Except Int Ms):Prop:=match D with
 | .ok m=>e=.returned (.tuple #[.agg #[.int .i64 m.kd,.int .i64 m.pa,.int .i64 m.sq,.int .i64 m.st,.int .i64 m.ba,.int .i64 m.ve,.string ⟨m.da.toArray⟩],.int .i64 0])
 | .error _=>∃ c:Int,c ≠ 0/\e=.returned (.tuple #[.agg #[.int .i64 0,.int .i64 0,.int .i64 0,.int .i64 0,.int .i64 0,.int .i64 0,.string ⟨#[]⟩],.int .i64 c])
def MsP (w:World) (s:Bs) (e:Ending) (w':World):Prop:=Ext w w'/\MsE e (zkl s)
theorem zaU {P:Program} {fn:Func} {p q:Tmp} {ty tq:TypeId} {dq:TypeDesc} (h:fn.results=#[.cell p ty,.cell q tq]) (tmps:Array Value) (w:World) (g:Nat) (b:Addr) (t:TypeId) (cs:Array Value) (fr:Nat × Nat) (d:TypeDesc) {vb:Value}
  (hp:tmps.getD p undef=.pointer (some ⟨g,0,none⟩)) (hq:tmps.getD q undef=.pointer (some b)) (hg:w.heap[g]?=some (.cells cs t fr))
  (hu:P.underlying ty=some d) (hd:(match d with | .struct _ | .array _ _=>true | _=>false)=true) (hi:(P.info? ty).map (·.size)=some cs.size)
  (uq:P.underlying tq=some dq) (kq:(match dq with | .struct _ | .array _ _=>true | _=>false)=false) (hb:w.cell? b=some vb):
  (results fn tmps).run P w=.ok (.tuple #[.agg cs,vb]) w:=by
 have hp':tmps[p]?.getD undef=.pointer (some ⟨g,0,none⟩):=by simpa using hp
 have hq':tmps[q]?.getD undef=.pointer (some b):=by simpa using hq
 have hl:(loadVar tq b).run P w=.ok vb w:=by
  have:(isAgg tq).run P w=.ok false w:=by
   simp only [isAgg,Sem.run_bind,run_underlying uq,Result.andThen_ok];cases dq <;> simp_all
  simp only [loadVar,Sem.run_bind,this,Result.andThen_ok];simp [load,Sem.run,hb]
 simp [results,h,hp',hq',asAddr,run_loadVar_row w g t ty cs fr d hg hu hd hi,hl,Result.andThen]
theorem set_mid:∀ (l r:List Value) (z v:Value),(l++z::r).set l.length v=l++v::r
 | [],r,z,v=>rfl
 | x::l,r,z,v=>by simp [set_mid l r z v]
def fA (fs:List Int) (g:Nat):Array Value:=(fs.map (fun n=>Value.int .i64 n)++List.replicate g (Value.int .i64 0)).toArray
theorem zoE (fs:List Int) (g:Nat):(fA fs (g+1))[fs.length]?=some (.int .i64 0):=by
 unfold fA;simp [List.replicate_succ]
theorem zoK (fs:List Int) (g:Nat) (x:Int):(fA fs (g+1)).setIfInBounds fs.length (.int .i64 x)=fA (fs++[x]) g:=by
 unfold fA;rw [List.setIfInBounds_toArray,List.replicate_succ];have:=set_mid (fs.map (fun n=>Value.int .i64 n)) (List.replicate g (Value.int .i64 0)) (.int .i64 0) (.int .i64 x);rw [List.length_map] at this;rw [this];simp
theorem zg6 (s:Bs) (hs:s.length<=1000000) (w:World) (hG:Gl w):Calls Tryz.prog 151 #[.string ⟨s.toArray⟩] w (MsP w s):=by
 have hmf:∀ (fn:Fn) (first cap:Array Value) (w:World),(Instr.makeFunc fn first cap).run Tryz.prog w=.ok (.func fn first cap) w:=fun _ _ _ _=>rfl
 obtain ⟨U,hU⟩:∃ U,U=w.heap.size:=⟨_,rfl⟩;have hwU:w.heap.size<=U:=Nat.le_of_eq hU.symm;have hU10:10<=U:=by have:=hG.size;omega
 have hx0:=((Mod.refl (fun k=>U<=k) w).alloc (.cells #[.int .i64 0,.int .i64 0,.int .i64 0,.int .i64 0,.int .i64 0,.int .i64 0,.string ⟨#[]⟩] 30)).alloc (.cells #[.int .i64 0] 39);have hUc:((w.alloc (.cells #[.int .i64 0,.int .i64 0,.int .i64 0,.int .i64 0,.int .i64 0,.int .i64 0,.string ⟨#[]⟩] 30)).alloc (.cells #[.int .i64 0] 39)).heap[U]?=some (.cells #[.int .i64 0,.int .i64 0,.int .i64 0,.int .i64 0,.int .i64 0,.int .i64 0,.string ⟨#[]⟩] 30 (0,0)):=by rw [zaG,World.size_alloc,hU,if_neg (by omega)];exact heap_alloc_new w _
 have hCc:((w.alloc (.cells #[.int .i64 0,.int .i64 0,.int .i64 0,.int .i64 0,.int .i64 0,.int .i64 0,.string ⟨#[]⟩] 30)).alloc (.cells #[.int .i64 0] 39)).heap[U+1]?=some (.cells #[.int .i64 0] 39 (0,0)):=by rw [hU];have:=heap_alloc_new (w.alloc (.cells #[.int .i64 0,.int .i64 0,.int .i64 0,.int .i64 0,.int .i64 0,.int .i64 0,.string ⟨#[]⟩] 30)) (.cells #[.int .i64 0] 39);rwa [World.size_alloc] at this
 have hG0:=hG.mod hx0 (fun k hk=>by omega);obtain ⟨D,hD⟩:∃ D,D=zkl s:=⟨_,rfl⟩;have hMs:Hid (∀ e w',MsP w s e w'=(Ext w w'/\MsE e D)):=Y (fun e w'=>by rw [hD];rfl);rw [zlT] at hD;have hi0:=Y (zgE s 0 (Nat.zero_le _) hs ((w.alloc (.cells #[.int .i64 0,.int .i64 0,.int .i64 0,.int .i64 0,.int .i64 0,.int .i64 0,.string ⟨#[]⟩] 30)).alloc (.cells #[.int .i64 0] 39)));replace hUc:=Y hUc;replace hCc:=Y hCc;replace hx0:=Y hx0;replace hG0:=Y hG0;replace hD:=Y hD;have hss:Hid ((⟨s.toArray⟩:ByteArray).size=s.length):=Y rfl;clear hG
 go_enter_defers Tryz.func151,Tryz.ntmps151
 go_wp2_with fail
 try simp only [World.size_alloc]
 rw [<- hU];generalize ((w.alloc (.cells #[.int .i64 0,.int .i64 0,.int .i64 0,.int .i64 0,.int .i64 0,.int .i64 0,.string ⟨#[]⟩] 30)).alloc (.cells #[.int .i64 0] 39))=w0 at hUc hCc hx0 hG0 hi0 ⊢;replace hU:=Y hU;refine hi0.o.mono ?_;rintro e w1 ⟨rfl,hi⟩;unfold zjo zlP at hi;rw [List.drop_zero] at hi;clear hi0;cases hg:zdt s with
 | none=>
  rw [hg] at hi;simp only at hi;subst hi;have hDz:=Y (show D=.error 10 by rw [hD.o,hg]);have cz:=zaa hCc.o 0;have zz:=zad hCc.o;simp at cz;have C_:=Y (zdX (v:=.int .i64 10) hCc.o);have U_:=Y ((zan w0 (b:=U+1) (k:=U) 0 (.int .i64 10) (by omega)).trans hUc.o);have M_:=Y (hx0.o.setCell (a:=⟨U+1,0,none⟩) (fun _=>by show U<=U+1;omega) (.int .i64 10));have G_:=Y (hG0.o.mod ((Mod.refl (fun k=>k=U+1) w0).setCell (a:=⟨U+1,0,none⟩) (fun _=>rfl) (.int .i64 10)) (fun k hk=>by omega));replace hg:=Y hg;go_wp2_with fail
  clear cz zz;generalize w0.setCell ⟨U+1,0,none⟩ (.int .i64 10)=w1 at C_ U_ M_ G_ ⊢;refine (ze7 10 (by decide) w1).mono ?_;rintro e w2 ⟨rfl,rfl⟩;go_wp2_with fail
  refine leaves_cons (f:=190) (args:=#[.pointer (some ⟨U,0,none⟩),.pointer (some ⟨U+1,0,none⟩)]) (by simp) (by simp [go_sem]) ?_;refine (za2 U (U+1) _ _ 10 [] w1 U_.o rfl C_.o (by omega) (fun W' hm'=>(G_.o.mod hm' (fun k hk=>by omega)).et) (by have:=G_.o.size;omega)).mono ?_;rintro e u' w'' ⟨rfl,rfl,hp9,hq9,hm9⟩;refine ⟨_,zaU rfl _ _ U ⟨U+1,0,none⟩ _ _ _ _ rfl rfl hp9 Tryz.underlying30 rfl (by kernel_rfl) Tryz.underlying39 rfl (zaa hq9 0),?_⟩;rw [hMs.o,hDz.o];exact ⟨zao (B:=U) hwU (M_.o.trans (hm9.mono (fun k hk=>by omega))),10,by decide,rfl⟩
 | some x=>
  obtain ⟨sum,r⟩:=x;rw [hg] at hi;simp only at hi;obtain ⟨b,hb0,hbl,hrb,rfl⟩:=hi;have hD2:=Y (show D=if sum ≠ crc r then .error 200 else zeX 6 [] r by rw [hD.o,hg]);have hex:(⟨s.toArray⟩:ByteArray).extract b s.length=⟨r.toArray⟩:=by rw [zdD,List.take_length,hrb]
  have hbi:(b:Int)<=(s.length:Int):=by omega
  have hrl:r.length<=1000000:=by rw [hrb,List.length_drop];omega
  have cz:=zaa hCc.o 0;have zz:=zad hCc.o;simp at cz;have C_:=Y (zdX (v:=.int .i64 0) hCc.o);have U_:=Y ((zan w0 (b:=U+1) (k:=U) 0 (.int .i64 0) (by omega)).trans hUc.o);have M_:=Y (hx0.o.setCell (a:=⟨U+1,0,none⟩) (fun _=>by show U<=U+1;omega) (.int .i64 0));have G_:=Y (hG0.o.mod ((Mod.refl (fun k=>k=U+1) w0).setCell (a:=⟨U+1,0,none⟩) (fun _=>rfl) (.int .i64 0)) (fun k hk=>by omega));replace hg:=Y hg;replace hrb:=Y hrb;go_wp2_with fail
  clear cz zz;generalize w0.setCell ⟨U+1,0,none⟩ (.int .i64 0)=w1 at C_ U_ M_ G_ ⊢;have c1:=zaa C_.o 0;simp at c1;go_wp2_with fail
  refine (zgP w1).mono ?_;rintro e w2 ⟨rfl,rfl⟩;go_wp2_with fail
  refine (sum_any r w1 G_.o hrl).mono ?_;rintro e w2 ⟨rfl,rfl⟩
  by_cases hsum:sum=crc r
  ·have hDz:=Y (show D=zeX 6 [] r by rw [hD2.o,if_neg (fun h=>h hsum)])
   have s1:(sum !=crc r)=false:=by rw [hsum];simp
   have s2:(sum==crc r)=true:=by rw [hsum];simp
   replace hsum:=Y hsum;go_wp2_with fail
   obtain ⟨F,hF⟩:∃ F,F=w1.heap.size:=⟨_,rfl⟩;have hxF:=Mod.alloc (Mod.refl (fun _=>False) w1) (.cells #[.int .i64 0,.int .i64 0,.int .i64 0,.int .i64 0,.int .i64 0,.int .i64 0] 156);have hFc:=heap_alloc_new w1 (.cells #[.int .i64 0,.int .i64 0,.int .i64 0,.int .i64 0,.int .i64 0,.int .i64 0] 156);rw [<- hF] at hFc ⊢;have hUF:U+1 < F:=by have:=zas C_.o;omega
   have U2:=Y (hxF.at U_.o id);have C2:=Y (hxF.at C_.o id);have G2:=Y (G_.o.ext hxF);have M2:=Y (M_.o.trans (hxF.mono (fun _ h=>h.elim)));generalize (w1.alloc _)=w2 at U2 C2 G2 M2 hFc ⊢;replace hF:=Y hF;have hF2:Hid (w2.heap[F]?=some (.cells (fA [] 6) 156 (0,0))):=Y hFc;clear hFc hxF U_ C_ G_ M_ c1;go_loopg [5,26] 6 (fun g av iv wr=>∃ (j a:Nat) (fs:List Int),j+g=6/\fs.length=j/\a<=s.length/\av=.int .i64 a/\iv=.int .i64 j/\D=zeX g fs (s.drop a)/\wr.heap[F]?=some (.cells (fA fs g) 156 (0,0))/\wr.heap[U]?=some (.cells #[.int .i64 0,.int .i64 0,.int .i64 0,.int .i64 0,.int .i64 0,.int .i64 0,.string ⟨#[]⟩] 30 (0,0))/\wr.heap[U+1]?=some (.cells #[.int .i64 0] 39 (0,0))/\Gl wr/\Mod (fun k=>U<=k) w wr)
   case atStart=>exact ⟨0,b,[],rfl,rfl,hbl,rfl,rfl,by rw [hDz.o,hrb.o],hF2.o,U2.o,C2.o,G2.o,M2.o⟩
   case round=>
    clear hDz hF2 U2 C2 G2 M2;obtain ⟨j,a,fs,hj,hfl,ha,rfl,rfl,hDj,hFr,hUr,hCr,hGr,hMr⟩:=hrel
    by_cases hlt:j < 6
    ·obtain ⟨g,rfl⟩:∃ g,gk=g+1:=⟨gk - 1,by omega⟩
     have hdi:(j:Int) < 6:=by omega
     have hd:decide ((j:Int) < 6)=true:=decide_eq_true hdi;have hcj:wr.cell? ⟨F,j,none⟩=some (.int .i64 0):=by rw [zaa hFr j,<- hfl];exact zoE fs g
     have hzF:=zad hFr;have hia:=Y (zgE s a ha hs wr);replace hj:=Y hj;replace hFr:=Y hFr;replace hUr:=Y hUr;replace hCr:=Y hCr;replace hGr:=Y hGr;replace hMr:=Y hMr;unfold zeX at hDj;replace hDj:=Y hDj;go_wp2_with fail
     refine hia.o.mono ?_;rintro e w3 ⟨rfl,hi⟩;unfold zjo zlP at hi;clear hia;cases hga:zdt (s.drop a) with
     | none=>
      rw [hga] at hi;simp only at hi;subst hi;have hDz:=Y (show D=.error 10 by rw [hDj.o,hga]);have F3:=zai hFr.o j (.int .i64 0);have m3:Mod (fun k=>k=F) wr (wr.setCell ⟨F,j,none⟩ (.int .i64 0)):=(Mod.refl (fun k=>k=F) wr).setCell (a:=⟨F,j,none⟩) (fun _=>rfl) (.int .i64 0);have U3:=m3.at hUr.o (by omega);have C3:=m3.at hCr.o (by omega);have G3:=hGr.o.mod m3 (fun k hk=>by omega);have M3:=hMr.o.trans (m3.mono (T:=fun k=>U<=k) (fun k hk=>by omega));replace hga:=Y hga;replace F3:=Y F3;clear m3;have cz:=zaa C3 0;have zz:=zad C3;simp at cz;have C_:=Y (zdX (v:=.int .i64 10) C3);have U_:=Y ((zan (wr.setCell ⟨F,j,none⟩ (.int .i64 0)) (b:=U+1) (k:=U) 0 (.int .i64 10) (by omega)).trans U3);have M_:=Y (M3.setCell (a:=⟨U+1,0,none⟩) (fun _=>by show U<=U+1;omega) (.int .i64 10));have G_:=Y (G3.mod ((Mod.refl (fun k=>k=U+1) (wr.setCell ⟨F,j,none⟩ (.int .i64 0))).setCell (a:=⟨U+1,0,none⟩) (fun _=>rfl) (.int .i64 10)) (fun k hk=>by omega));replace U3:=Y U3;replace C3:=Y C3;replace G3:=Y G3;replace M3:=Y M3;go_wp2_with fail
      clear cz zz;generalize (wr.setCell ⟨F,j,none⟩ (.int .i64 0)).setCell ⟨U+1,0,none⟩ (.int .i64 10)=w4 at C_ U_ M_ G_ ⊢;have c4:=zaa C_.o 0;simp at c4;go_wp2_with fail
      refine (ze7 10 (by decide) w4).mono ?_;rintro e w5 ⟨rfl,rfl⟩;go_wp2_with fail
      refine leaves_cons (f:=190) (args:=#[.pointer (some ⟨U,0,none⟩),.pointer (some ⟨U+1,0,none⟩)]) (by simp) (by simp [go_sem]) ?_;refine (za2 U (U+1) _ _ 10 [] w4 U_.o rfl C_.o (by omega) (fun W' hm'=>(G_.o.mod hm' (fun k hk=>by omega)).et) (by have:=G_.o.size;omega)).mono ?_;rintro e u' w'' ⟨rfl,rfl,hp9,hq9,hm9⟩;refine ⟨_,zaU rfl _ _ U ⟨U+1,0,none⟩ _ _ _ _ rfl rfl hp9 Tryz.underlying30 rfl (by kernel_rfl) Tryz.underlying39 rfl (zaa hq9 0),?_⟩;rw [hMs.o,hDz.o];exact ⟨zao (B:=U) hwU (M_.o.trans (hm9.mono (fun k hk=>by omega))),10,by decide,rfl⟩
     | some y=>
      obtain ⟨x1,r1⟩:=y;rw [hga] at hi;simp only at hi;obtain ⟨b1,hb1,hb1l,hr1,rfl⟩:=hi;have hDn:=Y (show D=zeX g (fs++[x1]) (s.drop b1) by rw [hDj.o,hga,<- hr1]);have F3:=zai hFr.o j (.int .i64 x1);rw [<- hfl,zoK,hfl] at F3;have m3:Mod (fun k=>k=F) wr (wr.setCell ⟨F,j,none⟩ (.int .i64 x1)):=(Mod.refl (fun k=>k=F) wr).setCell (a:=⟨F,j,none⟩) (fun _=>rfl) (.int .i64 x1);have U3:=m3.at hUr.o (by omega);have C3:=m3.at hCr.o (by omega);have G3:=hGr.o.mod m3 (fun k hk=>by omega);have M3:=hMr.o.trans (m3.mono (T:=fun k=>U<=k) (fun k hk=>by omega));have F4:=Y ((zan (wr.setCell ⟨F,j,none⟩ (.int .i64 x1)) (b:=U+1) (k:=F) 0 (.int .i64 0) (by omega)).trans F3);replace hga:=Y hga;replace F3:=Y F3;replace hfl:=Y hfl;clear m3;have cz:=zaa C3 0;have zz:=zad C3;simp at cz;have C_:=Y (zdX (v:=.int .i64 0) C3);have U_:=Y ((zan (wr.setCell ⟨F,j,none⟩ (.int .i64 x1)) (b:=U+1) (k:=U) 0 (.int .i64 0) (by omega)).trans U3);have M_:=Y (M3.setCell (a:=⟨U+1,0,none⟩) (fun _=>by show U<=U+1;omega) (.int .i64 0));have G_:=Y (G3.mod ((Mod.refl (fun k=>k=U+1) (wr.setCell ⟨F,j,none⟩ (.int .i64 x1))).setCell (a:=⟨U+1,0,none⟩) (fun _=>rfl) (.int .i64 0)) (fun k hk=>by omega));replace U3:=Y U3;replace C3:=Y C3;replace G3:=Y G3;replace M3:=Y M3;go_wp2_with fail
      clear cz zz hcj hzF;generalize (wr.setCell ⟨F,j,none⟩ (.int .i64 x1)).setCell ⟨U+1,0,none⟩ (.int .i64 0)=w4 at C_ U_ M_ G_ F4 ⊢;have c4:=zaa C_.o 0;simp at c4;go_wp2_with fail
      refine (zgP w4).mono ?_;rintro e w5 ⟨rfl,rfl⟩;clear c4;go_wp2_with fail
      go_roundg g
      case measure=>omega
      case rel=>exact ⟨j+1,b1,fs++[x1],by have:=hj.o;omega,by simp [hfl.o],hb1l,rfl,by go_num,hDn.o,F4.o,U_.o,C_.o,G_.o,M_.o⟩
    ·obtain rfl:gk=0:=by omega
     obtain rfl:j=6:=by omega
     obtain ⟨f0,f1,f2,f3,f4,f5,rfl⟩:∃ f0 f1 f2 f3 f4 f5,fs=[f0,f1,f2,f3,f4,f5]:=by
      match fs,hfl with
      | [f0,f1,f2,f3,f4,f5],_=>exact ⟨f0,f1,f2,f3,f4,f5,rfl⟩
     have hFe:Hid (wr.heap[F]?=some (.cells #[.int .i64 f0,.int .i64 f1,.int .i64 f2,.int .i64 f3,.int .i64 f4,.int .i64 f5] 156 (0,0))):=Y hFr;have hsa:=Y (zgb s a ha hs wr);unfold zeX at hDj;replace hDj:=Y hDj;replace hFr:=Y hFr;replace hUr:=Y hUr;replace hCr:=Y hCr;replace hGr:=Y hGr;replace hMr:=Y hMr;go_wp2_with fail
     refine hsa.o.mono ?_;rintro e w3 ⟨rfl,hi⟩;unfold znq znX at hi;clear hsa;cases hga:zhj (s.drop a) with
     | none=>
      rw [hga] at hi;simp only at hi;subst hi;have hDz:=Y (show D=.error 10 by rw [hDj.o,hga]);replace hga:=Y hga;have cz:=zaa hCr.o 0;have zz:=zad hCr.o;simp at cz;have C_:=Y (zdX (v:=.int .i64 10) hCr.o);have U_:=Y ((zan wr (b:=U+1) (k:=U) 0 (.int .i64 10) (by omega)).trans hUr.o);have M_:=Y (hMr.o.setCell (a:=⟨U+1,0,none⟩) (fun _=>by show U<=U+1;omega) (.int .i64 10));have G_:=Y (hGr.o.mod ((Mod.refl (fun k=>k=U+1) wr).setCell (a:=⟨U+1,0,none⟩) (fun _=>rfl) (.int .i64 10)) (fun k hk=>by omega));go_wp2_with fail
      clear cz zz;generalize wr.setCell ⟨U+1,0,none⟩ (.int .i64 10)=w4 at C_ U_ M_ G_ ⊢;have c4:=zaa C_.o 0;simp at c4;go_wp2_with fail
      refine (ze7 10 (by decide) w4).mono ?_;rintro e w5 ⟨rfl,rfl⟩;go_wp2_with fail
      refine leaves_cons (f:=190) (args:=#[.pointer (some ⟨U,0,none⟩),.pointer (some ⟨U+1,0,none⟩)]) (by simp) (by simp [go_sem]) ?_;refine (za2 U (U+1) _ _ 10 [] w4 U_.o rfl C_.o (by omega) (fun W' hm'=>(G_.o.mod hm' (fun k hk=>by omega)).et) (by have:=G_.o.size;omega)).mono ?_;rintro e u' w'' ⟨rfl,rfl,hp9,hq9,hm9⟩;refine ⟨_,zaU rfl _ _ U ⟨U+1,0,none⟩ _ _ _ _ rfl rfl hp9 Tryz.underlying30 rfl (by kernel_rfl) Tryz.underlying39 rfl (zaa hq9 0),?_⟩;rw [hMs.o,hDz.o];exact ⟨zao (B:=U) hwU (M_.o.trans (hm9.mono (fun k hk=>by omega))),10,by decide,rfl⟩
     | some y=>
      obtain ⟨da,r1⟩:=y;rw [hga] at hi;simp only at hi;obtain ⟨b1,hb1,hb1l,hr1,rfl⟩:=hi;have hDn:=Y (show D=if !r1.isEmpty then .error 10 else if vMs ⟨f0,f1,f2,f3,f4,f5,da⟩ then .ok ⟨f0,f1,f2,f3,f4,f5,da⟩ else .error 200 by rw [hDj.o,hga];rfl);replace hga:=Y hga;have cz:=zaa hCr.o 0;have zz:=zad hCr.o;simp at cz;have C_:=Y (zdX (v:=.int .i64 0) hCr.o);have U_:=Y ((zan wr (b:=U+1) (k:=U) 0 (.int .i64 0) (by omega)).trans hUr.o);have M_:=Y (hMr.o.setCell (a:=⟨U+1,0,none⟩) (fun _=>by show U<=U+1;omega) (.int .i64 0));have G_:=Y (hGr.o.mod ((Mod.refl (fun k=>k=U+1) wr).setCell (a:=⟨U+1,0,none⟩) (fun _=>rfl) (.int .i64 0)) (fun k hk=>by omega));have F4:=Y ((zan wr (b:=U+1) (k:=F) 0 (.int .i64 0) (by omega)).trans hFe.o);go_wp2_with fail
      clear cz zz;generalize wr.setCell ⟨U+1,0,none⟩ (.int .i64 0)=w4 at C_ U_ M_ G_ F4 ⊢;have c4:=zaa C_.o 0;simp at c4;go_wp2_with fail
      refine (zgP w4).mono ?_;rintro e w5 ⟨rfl,rfl⟩;clear c4
      by_cases hend:b1 < s.length
      ·have hDz:=Y (show D=.error 10 by
        rw [hDn.o,if_pos];have:r1 ≠ []:=fun h=>by
         rw [h] at hr1;have:=congrArg List.length hr1;rw [List.length_drop] at this;simp at this;omega
        cases r1 with
        | nil=>exact absurd rfl this
        | cons _ _=>rfl)
       have hei:(b1:Int) < (s.length:Int):=by omega
       have hed:decide ((b1:Int) < (s.length:Int))=true:=decide_eq_true hei;replace hr1:=Y hr1;go_wp2_with fail
       refine leaves_cons (f:=190) (args:=#[.pointer (some ⟨U,0,none⟩),.pointer (some ⟨U+1,0,none⟩)]) (by simp) (by simp [go_sem]) ?_;refine (za2 U (U+1) _ _ 10 [] w4 U_.o rfl C_.o (by omega) (fun W' hm'=>(G_.o.mod hm' (fun k hk=>by omega)).et) (by have:=G_.o.size;omega)).mono ?_;rintro e u' w'' ⟨rfl,rfl,hp9,hq9,hm9⟩;refine ⟨_,zaU rfl _ _ U ⟨U+1,0,none⟩ _ _ _ _ rfl rfl hp9 Tryz.underlying30 rfl (by kernel_rfl) Tryz.underlying39 rfl (zaa hq9 0),?_⟩;rw [hMs.o,hDz.o];exact ⟨zao (B:=U) hwU (M_.o.trans (hm9.mono (fun k hk=>by omega))),10,by decide,rfl⟩
      ·have hr1e:r1=[]:=by rw [hr1,List.drop_eq_nil_of_le (by omega)]
       have hDo:=Y (show D=if vMs ⟨f0,f1,f2,f3,f4,f5,da⟩ then .ok ⟨f0,f1,f2,f3,f4,f5,da⟩ else .error 200 by rw [hDn.o,hr1e];rfl);have hei:¬ (b1:Int) < (s.length:Int):=by omega
       have hed:decide ((b1:Int) < (s.length:Int))=false:=decide_eq_false hei;have e0:=zaa F4.o 0;have e1:=zaa F4.o 1;have e2:=zaa F4.o 2;have e3:=zaa F4.o 3;have e4:=zaa F4.o 4;have e5:=zaa F4.o 5;simp at e0 e1 e2 e3 e4 e5;replace hr1:=Y hr1;replace hr1e:=Y hr1e;obtain ⟨VZ,hVZ⟩:∃ VZ:Array Value,VZ=#[.int .i64 f0,.int .i64 f1,.int .i64 f2,.int .i64 f3,.int .i64 f4,.int .i64 f5,.string ⟨da.toArray⟩]:=⟨_,rfl⟩;have hZs:Hid (VZ.size=7):=Y (by rw [hVZ];rfl);have hZ1:Hid (VZ.toList.all (·.oneCell')=true):=Y (by rw [hVZ];rfl);have hval:=fun W=>zc2 ⟨f0,f1,f2,f3,f4,f5,da⟩ W
       rw [show (msC ⟨f0,f1,f2,f3,f4,f5,da⟩).toArray=VZ from by rw [hVZ];rfl] at hval;replace hval:=Y hval;replace hVZ:=Y hVZ;go_wp2_with (refine zab rfl 30 _ _ rfl U _ VZ 30 rfl (by rw [hVZ.o];rfl) U_.o (by rw [hZs.o];rfl) (by rw [hZs.o];kernel_rfl) hZ1.o (fun WS HS=>Hid.o ?_))
       obtain ⟨U5,hm5⟩:=HS.o;have C5:=hm5.at C_.o (by omega);have G5:=G_.o.mod hm5 (fun k hk=>by omega);have M5:=M_.o.trans (hm5.mono (T:=fun k=>U<=k) (fun k hk=>by omega));replace U5:=Y U5;replace C5:=Y C5;replace G5:=Y G5;replace M5:=Y M5;clear HS hm5 U_ C_ G_ M_ F4 e0 e1 e2 e3 e4 e5;refine Y ?_;cases hv:vMs ⟨f0,f1,f2,f3,f4,f5,da⟩ with
       | false=>
        rw [hv] at hval;have hDz:=Y (show D=.error 200 by rw [hDo.o,hv];rfl);replace hv:=Y hv;go_wp2_with (refine zae (by rfl) 30 _ rfl U VZ _ _ _ rfl U5.o Tryz.underlying30 rfl (by rw [hZs.o];kernel_rfl) ?_)
        refine (hval.o WS).mono ?_;rintro e W6 ⟨rfl,hx6⟩;have U6:=Y (hx6.at U5.o id);have C6:=Y (hx6.at C5.o id);have G6:=Y (G5.o.ext hx6);have M6:=Y (M5.o.trans (hx6.mono (fun _ h=>h.elim)));clear hx6;go_wp2_with fail
        refine leaves_cons (f:=190) (args:=#[.pointer (some ⟨U,0,none⟩),.pointer (some ⟨U+1,0,none⟩)]) (by simp) (by simp [go_sem]) ?_;refine (za2 U (U+1) _ _ 200 [] W6 U6.o hZs.o C6.o (by omega) (fun W' hm'=>(G6.o.mod hm' (fun k hk=>by omega)).et) (by have:=G6.o.size;omega)).mono ?_;rintro e u' w'' ⟨rfl,rfl,hp9,hq9,hm9⟩;refine ⟨_,zaU rfl _ _ U ⟨U+1,0,none⟩ _ _ _ _ rfl rfl hp9 Tryz.underlying30 rfl (by kernel_rfl) Tryz.underlying39 rfl (zaa hq9 0),?_⟩;rw [hMs.o,hDz.o];exact ⟨zao (B:=U) hwU (M6.o.trans (hm9.mono (fun k hk=>by omega))),200,by decide,rfl⟩
       | true=>
        rw [hv] at hval;have hDz:=Y (show D=.ok ⟨f0,f1,f2,f3,f4,f5,da⟩ by rw [hDo.o,hv];rfl);replace hv:=Y hv;go_wp2_with (refine zae (by rfl) 30 _ rfl U VZ _ _ _ rfl U5.o Tryz.underlying30 rfl (by rw [hZs.o];kernel_rfl) ?_)
        refine (hval.o WS).mono ?_;rintro e W6 ⟨rfl,hx6⟩;have U6:=Y (hx6.at U5.o id);have C6:=Y (hx6.at C5.o id);have M6:=Y (M5.o.trans (hx6.mono (fun _ h=>h.elim)));clear hx6;go_wp2_with (first | (refine zae (by rfl) 30 _ rfl U VZ _ _ _ rfl U6.o Tryz.underlying30 rfl (by rw [hZs.o];kernel_rfl) ?_) | (refine zab rfl 30 _ _ rfl U _ VZ 30 rfl rfl U6.o rfl (by rw [hZs.o];kernel_rfl) hZ1.o (fun WT HT=>Hid.o ?_)))
        obtain ⟨U7,hm7⟩:=HT.o;have C7:=hm7.at C6.o (by omega);have M7:=M6.o.trans (hm7.mono (T:=fun k=>U<=k) (fun k hk=>by omega));have cz:=zaa C7 0;have zz:=zad C7;simp at cz;have C8:=Y (zdX (v:=.int .i64 0) C7);have U8:=Y ((zan WT (b:=U+1) (k:=U) 0 (.int .i64 0) (by omega)).trans U7);have M8:=Y (M7.setCell (a:=⟨U+1,0,none⟩) (fun _=>by show U<=U+1;omega) (.int .i64 0));replace U7:=Y U7;replace C7:=Y C7;replace M7:=Y M7;clear HT hm7;refine Y ?_;go_wp2_with fail
        refine leaves_cons (f:=190) (args:=#[.pointer (some ⟨U,0,none⟩),.pointer (some ⟨U+1,0,none⟩)]) (by simp) (by simp [go_sem]) ?_;refine (zjj U (U+1) _).mono ?_;rintro e u' w'' ⟨rfl,rfl,rfl⟩;refine ⟨_,zaU rfl _ _ U ⟨U+1,0,none⟩ _ _ _ _ rfl rfl U8.o Tryz.underlying30 rfl (by rw [hZs.o];kernel_rfl) Tryz.underlying39 rfl (zaa C8.o 0),?_⟩;rw [hMs.o,hDz.o];exact ⟨zao (B:=U) hwU M8.o,by rw [hVZ.o];rfl⟩
  ·have hDz:=Y (show D=.error 200 by rw [hD2.o,if_pos hsum])
   have s1:(sum !=crc r)=true:=by rw [bne_iff_ne];exact hsum
   have s2:(sum==crc r)=false:=by rw [beq_eq_false_iff_ne];exact hsum
   replace hsum:=Y hsum;go_wp2_with fail
   refine leaves_cons (f:=190) (args:=#[.pointer (some ⟨U,0,none⟩),.pointer (some ⟨U+1,0,none⟩)]) (by simp) (by simp [go_sem]) ?_;refine (za2 U (U+1) _ _ 200 [] w1 U_.o rfl C_.o (by omega) (fun W' hm'=>(G_.o.mod hm' (fun k hk=>by omega)).et) (by have:=G_.o.size;omega)).mono ?_;rintro e u' w'' ⟨rfl,rfl,hp9,hq9,hm9⟩;refine ⟨_,zaU rfl _ _ U ⟨U+1,0,none⟩ _ _ _ _ rfl rfl hp9 Tryz.underlying30 rfl (by kernel_rfl) Tryz.underlying39 rfl (zaa hq9 0),?_⟩;rw [hMs.o,hDz.o];exact ⟨zao (B:=U) hwU (M_.o.trans (hm9.mono (fun k hk=>by omega))),200,by decide,rfl⟩
end Go.Proofs.YtjjfphalcibjfaaGreatDoor
