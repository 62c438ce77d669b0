import Derived.Test.YtjjfphalcibjfaaGreatDoorC0
import Derived.Stop.Asserts
import Derived.RowKitTokens
import Derived.Test.YtjjfphalcibjfaaGreatDoorD5
import Derived.Test.YtjjfphalcibjfaaGreatDoorMaps
set_option maxRecDepth 100000
set_option maxHeartbeats 16000000
namespace Go.Proofs.YtjjfphalcibjfaaGreatDoor
open Go.Shelf Go.RowKit Cdk Scr Go.Extern.Stop Go.Stop Go.Extern
def flV (c:Int):Value:=.iface 159 (.agg #[.int .i64 c])
theorem ziR (t:Addr) (w:World):(ReflectliteValue.unpack (.iface 162 (.pointer (some t)))).run Tryz.prog w
  =.ok (.agg #[.pointer (some ⟨10,162,none⟩),.pointer (some ⟨w.heap.size,0,none⟩),.int .u64 150]) (w.alloc (.cells #[.pointer (some t)] 162)):=by kernel_rfl
theorem zmL (a : Addr) (w : World) : (ReflectliteValue.methodAny (ReflectliteValue.valueError "reflectlite.Value.Type" 0) (fun t _ _ _ => ReflectliteType.toType t) #[.agg #[.pointer (some ⟨10, 162, none⟩), .pointer (some a), .int .u64 150]]).run Tryz.prog w
  =.ok (.iface 221 (.agg #[.pointer (some ⟨10,162,none⟩)])) w:=by kernel_rfl
theorem zlf (h : Value) (w : World) : (Go.method 404 221 (.agg #[h]) "Kind").run Tryz.prog w = .ok (307, h) w := by kernel_rfl
theorem zkJ (w:World):((ReflectliteType.abiMethod fun t=>(fun a:Nat=>Value.int IntKind.u8 (a:Int)) <$> Rtype.kind t) #[.pointer (some ⟨10,162,none⟩)]).run Tryz.prog w=.ok (.int .u8 22) w:=by kernel_rfl
theorem zlN (w:World):((ReflectliteType.abiMethod fun t=>(fun a:Nat=>Value.int IntKind.u8 (a:Int)) <$> Rtype.kind t) #[.pointer (some ⟨10,159,none⟩)]).run Tryz.prog w=.ok (.int .u8 25) w:=by kernel_rfl
theorem zlW (z:Sem Value) (f:TypeId -> Addr -> Nat -> Nat -> Sem Value) (v:Value):
  ReflectliteValue.method z f #[v]=(do match <- ReflectliteValue.parts v with | none=>z | some (t,a,fl)=>f t a fl (fl % 32)):=rfl
theorem zhG (a:Addr) (w:World):(ReflectliteValue.parts (.agg #[.pointer (some ⟨10,162,none⟩),.pointer (some a),.int .u64 150])).run Tryz.prog w=.ok (some (162,a,150)) w:=by kernel_rfl
theorem zlu (a p:Addr) (W:World) (ha:W.cell? a=some (.pointer (some p))):
  (ReflectliteValue.method (ReflectliteValue.valueError "reflectlite.Value.IsNil" 0) ReflectliteValue.isNil #[.agg #[.pointer (some ⟨10, 162, none⟩), .pointer (some a), .int .u64 150]]).run Tryz.prog W = .ok (.bool false) W := by
 rw [zlW];simp only [Sem.run_bind,zhG,Result.andThen];simp [ReflectliteValue.isNil,loadVar,isAgg,underlying,Tryz.underlying162,ha,Result.andThen]
theorem zlv (h : Value) (w : World) : (Go.method 404 221 (.agg #[h]) "Elem").run Tryz.prog w = .ok (318, .agg #[h]) w := by kernel_rfl
theorem ziK (h : Value) (w : World) : (Go.method 404 221 (.agg #[h]) "AssignableTo").run Tryz.prog w = .ok (316, .agg #[h]) w := by kernel_rfl
theorem zk3 (h : Value) (w : World) : (Go.method 404 221 (.agg #[h]) "Implements").run Tryz.prog w = .ok (319, .agg #[h]) w := by kernel_rfl
theorem zmi (w:World):(ReflectliteType.method ReflectliteType.elem #[.agg #[.pointer (some ⟨10,162,none⟩)]]).run Tryz.prog w=.ok (.iface 221 (.agg #[.pointer (some ⟨10,159,none⟩)])) w:=by kernel_rfl
theorem zmf (w : World) : (ReflectliteType.relation "Implements" ReflectliteType.implements_ #[.agg #[.pointer (some ⟨10, 159, none⟩)], .iface 221 (.agg #[.pointer (some ⟨10, 67, none⟩)])]).run Tryz.prog w = .ok (.bool true) w := by kernel_rfl
theorem zjO (v:Value) (w:World):(ReflectliteType.typeOf #[.iface 159 v]).run Tryz.prog w=.ok (.iface 221 (.agg #[.pointer (some ⟨10,159,none⟩)])) w:=by kernel_rfl
theorem zjQ (w : World) : (ReflectliteType.relation "AssignableTo" ReflectliteType.assignableTo #[.agg #[.pointer (some ⟨10, 159, none⟩)], .iface 221 (.agg #[.pointer (some ⟨10, 159, none⟩)])]).run Tryz.prog w = .ok (.bool true) w := by kernel_rfl
theorem zjX (c:Int) (w:World):(ReflectliteValue.unpack (.iface 159 (.agg #[.int .i64 c]))).run Tryz.prog w
  =.ok (.agg #[.pointer (some ⟨10,159,none⟩),.pointer (some ⟨w.heap.size,0,none⟩),.int .u64 153]) (w.alloc (.cells #[.int .i64 c] 159)):=by kernel_rfl
theorem zj2 (w:World):(Rtype.elem? 162).run Tryz.prog w=.ok (some 159) w:=by kernel_rfl
theorem zn8 (p:Addr) (w:World):(ReflectliteValue.mk 159 p ReflectliteValue.flagAddr).run Tryz.prog w=.ok (.agg #[.pointer (some ⟨10,159,none⟩),.pointer (some p),.int .u64 409]) w:=by kernel_rfl
theorem zlE (a p:Addr) (W:World) (ha:W.cell? a=some (.pointer (some p))):
  (ReflectliteValue.method (ReflectliteValue.valueError "reflectlite.Value.Elem" 0) ReflectliteValue.elem #[.agg #[.pointer (some ⟨10, 162, none⟩), .pointer (some a), .int .u64 150]]).run Tryz.prog W
   =.ok (.agg #[.pointer (some ⟨10,159,none⟩),.pointer (some p),.int .u64 409]) W:=by
 rw [zlW];simp only [Sem.run_bind,zhG,Result.andThen];simp [ReflectliteValue.elem,loadVar,isAgg,underlying,Tryz.underlying162,ha,Result.andThen,zj2,zn8]
theorem znc (v x:Value):ReflectliteValue.set #[v,x]=(do
  let (some (dst,a,fl),some (src,b,_)):=(<- ReflectliteValue.parts v,<- ReflectliteValue.parts x)
   | unsupported (.noEntry "extern/(internal/reflectlite.Value).Set.zeroValue")
  if fl / ReflectliteValue.flagAddr % 2 == 0 then unsupported (.noEntry "extern/(internal/reflectlite.Value).Set.unaddressable")
  let val <- loadVar src b
  if <- Rtype.directlyAssignable dst src then storeVar dst a val
  else if <- Rtype.implements dst src then
   if (<- Rtype.kind src)==20 then
    match val with
    | .nilIface => unsupported (.noEntry "extern/reflectlite: a nil value of one interface type handed on as a value of another")
    | _=>storeVar dst a val
   else storeVar dst a (.iface src val)
  else panicString ("reflectlite.Set: value of type " ++ (<- Rtype.spelt src) ++ " is not assignable to type " ++ (<- Rtype.spelt dst))
  pure (.tuple #[])):=rfl
theorem zki (a:Addr) (w:World):(ReflectliteValue.parts (.agg #[.pointer (some ⟨10,159,none⟩),.pointer (some a),.int .u64 409])).run Tryz.prog w=.ok (some (159,a,409)) w:=by kernel_rfl
theorem zjD (a:Addr) (w:World):(ReflectliteValue.parts (.agg #[.pointer (some ⟨10,159,none⟩),.pointer (some a),.int .u64 153])).run Tryz.prog w=.ok (some (159,a,153)) w:=by kernel_rfl
theorem zju (w:World):(Rtype.directlyAssignable 159 159).run Tryz.prog w=.ok true w:=by kernel_rfl
theorem zm8 (ta:Addr) (g:Nat) (c:Int) (old:Value) (fr:Nat × Nat) (W:World) (hb:W.heap[g]?=some (.cells #[.int .i64 c] 159 fr)) (ht:W.cell? ta=some old) (hf:W.frozen? ta=false):
  (ReflectliteValue.set #[.agg #[.pointer (some ⟨10,159,none⟩),.pointer (some ta),.int .u64 409],.agg #[.pointer (some ⟨10,159,none⟩),.pointer (some ⟨g,0,none⟩),.int .u64 153]]).run Tryz.prog W
   =.ok (.tuple #[]) (W.setCell ta (.int .i64 c)):=by
 have hl:=run_loadVar_row (P:=Tryz.prog) W g 159 159 #[.int .i64 c] fr _ hb Tryz.underlying159 rfl (by kernel_rfl);rw [znc];simp only [Sem.run_bind,zki,zjD,Result.andThen];simp [ReflectliteValue.flagAddr,hl,Result.andThen,zju,storeVar,Value.cells,storeCells,Addr.add];rw [run_store Tryz.prog W ta _ _ (by rfl)];simp [ht,hf]
theorem as_hit (c:Int) (t:Addr) (old:Value) (w:World) (hg:w.cell? ⟨1,0,none⟩=some (.iface 221 (.agg #[.pointer (some ⟨10,67,none⟩)]))) (ht0:w.cell? t=some old) (hf0:w.frozen? t=false) (hlt:1 < w.heap.size):
  Calls Tryz.prog 191 #[.iface 159 (.agg #[.int .i64 c]),.iface 162 (.pointer (some t))] w fun ev w'=>ev=.returned (.bool true)/\∃ W,Ext w W/\w'=W.setCell t (.int .i64 c):=by
 have h6:=@run_callFunc_extern Tryz.prog 213 _ (fun args=>ReflectliteValue.unpack (args.getD 0 (.tuple #[]))) Tryz.func213 (by kernel_rfl) (by kernel_rfl) (by kernel_rfl) (by kernel_rfl)
 have h7 := @run_callFunc_extern Tryz.prog 214 _ (ReflectliteValue.methodAny (ReflectliteValue.valueError "reflectlite.Value.Type" 0) (fun t _ _ _ => ReflectliteType.toType t)) Tryz.func214 (by kernel_rfl) (by kernel_rfl) (by kernel_rfl) (by kernel_rfl)
 have h8 := @run_callFunc_extern Tryz.prog 215 _ (ReflectliteValue.method (ReflectliteValue.valueError "reflectlite.Value.IsNil" 0) ReflectliteValue.isNil) Tryz.func215 (by kernel_rfl) (by kernel_rfl) (by kernel_rfl) (by kernel_rfl)
 have h27:=@run_callFunc_extern Tryz.prog 307 _ (ReflectliteType.abiMethod fun t=>do pure (.int .u8 (<- Rtype.kind t))) Tryz.func307 (by kernel_rfl) (by kernel_rfl) (by kernel_rfl) (by kernel_rfl);have h37:=@run_callFunc_extern Tryz.prog 318 _ (ReflectliteType.method ReflectliteType.elem) Tryz.func318 (by kernel_rfl) (by kernel_rfl) (by kernel_rfl) (by kernel_rfl)
 have h38 := @run_callFunc_extern Tryz.prog 319 _ (ReflectliteType.relation "Implements" ReflectliteType.implements_) Tryz.func319 (by kernel_rfl) (by kernel_rfl) (by kernel_rfl) (by kernel_rfl)
 have h10:=@run_callFunc_extern Tryz.prog 248 _ ReflectliteType.typeOf Tryz.func248 (by kernel_rfl) (by kernel_rfl) (by kernel_rfl) (by kernel_rfl)
 have h35 := @run_callFunc_extern Tryz.prog 316 _ (ReflectliteType.relation "AssignableTo" ReflectliteType.assignableTo) Tryz.func316 (by kernel_rfl) (by kernel_rfl) (by kernel_rfl) (by kernel_rfl)
 have h11 := @run_callFunc_extern Tryz.prog 249 _ (ReflectliteValue.method (ReflectliteValue.valueError "reflectlite.Value.Elem" 0) ReflectliteValue.elem) Tryz.func249 (by kernel_rfl) (by kernel_rfl) (by kernel_rfl) (by kernel_rfl)
 have h12:=@run_callFunc_extern Tryz.prog 250 _ ReflectliteValue.set Tryz.func250 (by kernel_rfl) (by kernel_rfl) (by kernel_rfl) (by kernel_rfl);have tO:=zjO;have mA:=ziK;have a25:=zjQ;have v25:=zjX;have f6:=ziR;have f7:=zmL;have mK:=zlf;have mE:=zlv;have mI:=zk3;have k27:=zkJ;have k25:=zlN;have e27:=zmi;have i25:=zmf;have n8:=zlu ⟨w.heap.size,0,none⟩ t ((w.alloc (.cells #[.pointer (some t)] 162)).alloc (.cells #[.pointer (some ⟨10,162,none⟩),.pointer (some ⟨w.heap.size,0,none⟩),.int .u64 150] 195)) (by simp);have hg2:((w.alloc (.cells #[.pointer (some t)] 162)).alloc (.cells #[.pointer (some ⟨10,162,none⟩),.pointer (some ⟨w.heap.size,0,none⟩),.int .u64 150] 195)).cell? ⟨1,0,none⟩=some (.iface 221 (.agg #[.pointer (some ⟨10,67,none⟩)])):=by
  rw [World.cell?_alloc_lt _ _ ⟨1,0,none⟩ (by simp;omega),World.cell?_alloc_lt _ _ ⟨1,0,none⟩ hlt];exact hg
 have htl:t.block < w.heap.size:=by
  rcases Nat.lt_or_ge t.block w.heap.size with h | h
  ·exact h
  ·simp [World.cell?,Array.getElem?_eq_none h] at ht0
 have el:=zlE ⟨w.heap.size,0,none⟩ t (((w.alloc (.cells #[.pointer (some t)] 162)).alloc (.cells #[.pointer (some ⟨10,162,none⟩),.pointer (some ⟨w.heap.size,0,none⟩),.int .u64 150] 195)).alloc (.cells #[.pointer (some ⟨10,162,none⟩),.pointer (some ⟨w.heap.size,0,none⟩),.int .u64 150] 195)) (by rw [World.cell?_alloc_lt _ _ ⟨w.heap.size,0,none⟩ (by simp;omega)];simp);have st:=zm8 t (w.heap.size+1+1+1) c old (0,0) ((((w.alloc (.cells #[.pointer (some t)] 162)).alloc (.cells #[.pointer (some ⟨10,162,none⟩),.pointer (some ⟨w.heap.size,0,none⟩),.int .u64 150] 195)).alloc (.cells #[.pointer (some ⟨10,162,none⟩),.pointer (some ⟨w.heap.size,0,none⟩),.int .u64 150] 195)).alloc (.cells #[.int .i64 c] 159))
  (by have:=heap_alloc_new (((w.alloc (.cells #[.pointer (some t)] 162)).alloc (.cells #[.pointer (some ⟨10,162,none⟩),.pointer (some ⟨w.heap.size,0,none⟩),.int .u64 150] 195)).alloc (.cells #[.pointer (some ⟨10,162,none⟩),.pointer (some ⟨w.heap.size,0,none⟩),.int .u64 150] 195)) (.cells #[.int .i64 c] 159);simpa using this)
  (by rw [World.cell?_alloc_lt _ _ t (by simp;omega),World.cell?_alloc_lt _ _ t (by simp;omega),World.cell?_alloc_lt _ _ t (by simp;omega),World.cell?_alloc_lt _ _ t htl];exact ht0)
  (by rw [World.frozen?_alloc_old _ _ t (by simp;omega),World.frozen?_alloc_old _ _ t (by simp;omega),World.frozen?_alloc_old _ _ t (by simp;omega),World.frozen?_alloc_old _ _ t (Nat.ne_of_lt htl)];exact hf0)
 have hx4:=((((Mod.refl (fun _=>False) w).alloc (.cells #[.pointer (some t)] 162)).alloc (.cells #[.pointer (some ⟨10,162,none⟩),.pointer (some ⟨w.heap.size,0,none⟩),.int .u64 150] 195)).alloc (.cells #[.pointer (some ⟨10,162,none⟩),.pointer (some ⟨w.heap.size,0,none⟩),.int .u64 150] 195)).alloc (.cells #[.int .i64 c] 159);replace hx4:=hid hx4;go_enter Tryz.func191,Tryz.ntmps191;go_wp2;refine wp_loop_rounds 1 ?_;rw [rounds_succ];go_wp2;go_ret;exact ⟨rfl,_,hx4.out,rfl⟩
def flE (c:Int):PanicEntry:={ v:=flV c,recovered:=false }
theorem zfK (w:World):Calls Tryz.prog 193 #[.int .i64 0] w fun e w'=>e=.returned (.tuple #[])/\w=w':=by
 go_enter Tryz.func193,Tryz.ntmps193;go_wp2_with fail
 go_end0
 exact ⟨rfl,rfl⟩
theorem zeC (c:Int) (hc:c ≠ 0) (w:World):Calls Tryz.prog 193 #[.int .i64 c] w fun e w'=>e=.panicked [flE 10]/\w=w':=by
 have h1:(c !=0)=true:=by rw [bne_iff_ne];exact hc
 have h2:(c==0)=false:=by rw [beq_eq_false_iff_ne];exact hc
 unfold flE flV;go_enter Tryz.func193,Tryz.ntmps193;go_wp2_with fail
 exact ⟨rfl,rfl,rfl⟩
theorem zhh (p q:Nat) (w:World):
  CallsD Tryz.prog 190 #[.pointer (some ⟨p,0,none⟩),.pointer (some ⟨q,0,none⟩)] .returning w fun e u' w'=>e=.returned (.tuple #[])/\u'=.returning/\w'=w:=by
 refine callsD_of_wpS Tryz.func190 rfl fun c₀ cs hu=>?_
 apply wpS_seq;apply wpS_region;simp [wpOpsS,go_sem,recoverD,hu,Tryz.ntmps190,Exit.thenS];refine wpS_of_wp ?_;simp only [Array.replicate_succ,Array.replicate_zero,List.push_toArray,List.setIfInBounds_toArray,List.set_cons_zero,List.set_cons_succ,List.append_toArray,List.nil_append,List.cons_append];go_wp2_with fail
 cases c₀
 simp_all [bodyPostS,results,Tryz.results190]
theorem za3 (p q:Nat) (V:Array Value) (y:Value) (c:Int) (older:List PanicEntry) (w:World) (hp:w.heap[p]?=some (.cells V 30 (0,0))) (hV:V.size=7) (hq:w.heap[q]?=some (.cells #[y] 39 (0,0))) (hpq:p ≠ q)
  (hg:∀ W,Mod (fun k=>k=p \/ k=q) w W -> W.cell? ⟨1,0,none⟩=some (.iface 221 (.agg #[.pointer (some ⟨10,67,none⟩)]))) (_hsz:10<=w.heap.size):
  CallsD Tryz.prog 190 #[.pointer (some ⟨p,0,none⟩),.pointer (some ⟨q,0,none⟩)] (.panicking (flE c::older)) w fun e u' w'=>
   e=.returned (.tuple #[])/\u'=.panicking ({ v:=flV c,recovered:=true }::older)/\w'.heap[p]?=some (.cells #[.int .i64 0,.int .i64 0,.int .i64 0,.int .i64 0,.int .i64 0,.int .i64 0,.string ⟨#[]⟩] 30 (0,0))/\w'.heap[q]?=some (.cells #[.int .i64 c] 39 (0,0))/\Mod (fun k=>k=p \/ k=q) w w':=by
 have hta:∀ (w:World),(Instr.typeAssert (.iface 159 (.agg #[.int .i64 c])) 20 67 true).run Tryz.prog w=.ok (.tuple #[.iface 159 (.agg #[.int .i64 c]),.bool true]) w:=fun _=>by kernel_rfl
 have hplt:=zat hp;have hqlt:=zat hq;replace hg:=hid hg;replace hp:=hid hp;replace hq:=hid hq;replace hV:=hid hV;unfold flE flV;refine callsD_of_wpS Tryz.func190 rfl fun c₀ cs hu=>?_
 apply wpS_seq;apply wpS_region;simp [wpOpsS,go_sem,recoverD,hu,Tryz.ntmps190,Exit.thenS];refine wpS_of_wp ?_;simp only [Array.replicate_succ,Array.replicate_zero,List.push_toArray,List.setIfInBounds_toArray,List.set_cons_zero,List.set_cons_succ,List.append_toArray,List.nil_append,List.cons_append];obtain ⟨VZ,hVZ⟩:∃ VZ:Array Value,VZ=#[.int .i64 0,.int .i64 0,.int .i64 0,.int .i64 0,.int .i64 0,.int .i64 0,.string ⟨#[]⟩]:=⟨_,rfl⟩;have hZs:Hid (VZ.size=V.size):=hid (by rw [hV.out,hVZ];rfl);have hZi:Hid ((Tryz.prog.info? 30).map (·.size)=some VZ.size):=hid (by rw [hVZ];kernel_rfl);have hZ1:Hid (VZ.toList.all (·.oneCell')=true):=hid (by rw [hVZ];rfl);rw [<- hVZ];replace hVZ:=hid hVZ;go_upto_region 2 with fail
 go_wp2_with (refine zab rfl 30 _ _ rfl p V VZ 30 rfl (by rw [hVZ.out];rfl) hp.out hZs.out hZi.out hZ1.out (fun WS HS=>Hid.out ?_))
 obtain ⟨hp1,hm1⟩:=HS.out;have hq1:=hm1.at hq.out (by omega);have cq:=zaa hq1 0;have zq:=zac hq1;simp at cq;have hq2:=zc1 (v:=.int .i64 200) hq1;have hp2:=(zar WS (b:=q) (k:=p) 0 (.int .i64 200) hpq).trans hp1;have hm2:Mod (fun k=>k=p \/ k=q) w (WS.setCell ⟨q,0,none⟩ (.int .i64 200)):=(hm1.mono (fun k hk=>.inl hk.symm)).setCell (a:=⟨q,0,none⟩) (fun _=>.inr rfl) (.int .i64 200);replace hp1:=hid hp1;replace hm1:=hid hm1;replace hq1:=hid hq1;replace hq2:=hid hq2;replace hp2:=hid hp2;replace hm2:=hid hm2;clear HS;refine hid ?_;go_upto_region 3 with fail
 clear cq zq;generalize WS.setCell ⟨q,0,none⟩ (.int .i64 200)=W2 at hq2 hp2 hm2 ⊢;have hsz2:w.heap.size<=W2.heap.size:=hm2.out.size;have hx3:=Mod.alloc (Mod.refl (fun _=>False) W2) (.cells #[.int .i64 0] 159);have hf3:=heap_alloc_new W2 (.cells #[.int .i64 0] 159);have hg3:=(hx3.cell (hg.out W2 hm2.out) (fun h=>h));have hf3z:=zaa hf3 0;have hf3f:=zac hf3 0;have hs3:(W2.alloc (.cells #[.int .i64 0] 159)).heap.size=W2.heap.size+1:=World.size_alloc _ _;have hah:=hid (as_hit c ⟨W2.heap.size,0,none⟩ (.int .i64 0) (W2.alloc (.cells #[.int .i64 0] 159)) hg3 hf3z hf3f (by omega));replace hx3:=hid hx3;replace hf3:=hid hf3;replace hg3:=hid hg3;replace hs3:=hid hs3;clear hf3z hf3f;go_wp2_with fail
 refine hah.out.mono ?_;rintro e w4 ⟨rfl,W,hxW,rfl⟩;have hf4:=zc1 (v:=.int .i64 c) (hxW.at hf3.out (fun h=>h));have hq4:=(zar W (b:=W2.heap.size) (k:=q) 0 (.int .i64 c) (by omega)).trans (hxW.at (hx3.out.at hq2.out (fun h=>h)) (fun h=>h));have hp4:=(zar W (b:=W2.heap.size) (k:=p) 0 (.int .i64 c) (by omega)).trans (hxW.at (hx3.out.at hp2.out (fun h=>h)) (fun h=>h));have hm4:Mod (fun k=>k=p \/ k=q) w (W.setCell ⟨W2.heap.size,0,none⟩ (.int .i64 c)):=((hm2.out.trans (hx3.out.mono (fun _ h=>h.elim))).trans (hxW.mono (fun _ h=>h.elim))).setCell (a:=⟨W2.heap.size,0,none⟩) (fun h=>absurd h (by show ¬ W2.heap.size < w.heap.size;omega)) (.int .i64 c);generalize (W.setCell ⟨W2.heap.size,0,none⟩ (.int .i64 c))=w5 at hf4 hq4 hp4 hm4 ⊢;have cf:=zaa hf4 0;have cq:=zaa hq4 0;have zq:=zac hq4;simp at cf cq;have hq5:=zc1 (v:=.int .i64 c) hq4;have hp5:=(zar w5 (b:=q) (k:=p) 0 (.int .i64 c) hpq).trans hp4;have hm5:Mod (fun k=>k=p \/ k=q) w (w5.setCell ⟨q,0,none⟩ (.int .i64 c)):=hm4.setCell (a:=⟨q,0,none⟩) (fun _=>.inr rfl) (.int .i64 c);replace hf4:=hid hf4;replace hq4:=hid hq4;replace hp4:=hid hp4;replace hm4:=hid hm4;replace hq5:=hid hq5;replace hp5:=hid hp5;replace hm5:=hid hm5;clear hah hxW;go_wp2_with fail
 simp [bodyPostS,results,Tryz.results190];exact ⟨hp5.out,hq5.out,hm5.out⟩
end Go.Proofs.YtjjfphalcibjfaaGreatDoor
namespace Scr
def mkM (fs:List Int) (da:Bs):Ms:=match fs with
 | [a,b,c,d,e,f]=>⟨a,b,c,d,e,f,da⟩
 | _=>Ms.zero
def zht:Nat -> List Int -> Bs -> Except Int Ms
 | 0,fs,r=>match zkE r with
  | none=>.error 10
  | some x=>if !x.2.isEmpty then .error 10 else if vMs (mkM fs x.1) then .ok (mkM fs x.1) else .error 200
 | k+1,fs,r=>match zex r with
  | none=>.error 10
  | some x=>zht k (fs++[x.1]) x.2
theorem zm9 {α:Type} (r:Bs) (g:Int × Bs -> Except Int α):(rbI r >>=g)=match zex r with | none=>.error 10 | some x=>g x:=by
 unfold rbI;cases zex r <;> rfl
theorem znU {α:Type} (r:Bs) (g:Bs × Bs -> Except Int α):(rbS r >>=g)=match zkE r with | none=>.error 10 | some x=>g x:=by
 unfold rbS;cases zkE r <;> rfl
theorem znp (s:Bs):zmU s=match zex s with
  | none=>.error 10
  | some x=>if x.1 ≠ crc x.2 then .error 200 else zht 6 [] x.2:=by
 unfold zmU;rw [zm9];cases zex s with
 | none=>rfl
 | some x=>
  obtain ⟨sum,r⟩:=x;simp only
  by_cases h:sum ≠ crc r
  ·rw [if_pos h,if_pos h];rfl
  ·rw [if_neg h,if_neg h]
   simp only [zm9,znU];unfold zht;cases zex r with
   | none=>rfl
   | some x1=>
    simp only;unfold zht;cases zex x1.2 with
    | none=>rfl
    | some x2=>
     simp only;unfold zht;cases zex x2.2 with
     | none=>rfl
     | some x3=>
      simp only;unfold zht;cases zex x3.2 with
      | none=>rfl
      | some x4=>
       simp only;unfold zht;cases zex x4.2 with
       | none=>rfl
       | some x5=>
        simp only;unfold zht;cases zex x5.2 with
        | none=>rfl
        | some x6=>
         simp only;unfold zht;cases zkE x6.2 with
         | none=>rfl
         | some x7=>
          simp only;cases hE:x7.2.isEmpty with
          | true=>rfl
          | false=>rfl
end Scr
namespace Go.Proofs.YtjjfphalcibjfaaGreatDoor
open Go.Shelf Go.RowKit Cdk Scr
def MsE (e:Ending) (D:Except Int Ms):Prop:=match D with
 | .ok m=>e=.returned (.tuple #[.agg #[.int .i64 m.kd,.int .i64 m.pa,.int .i64 m.sq,.int .i64 m.st,.int .i64 m.ba,.int .i64 m.ve,.string ⟨m.da.toArray⟩],.int .i64 0])
 | .error _=>∃ c:Int,c ≠ 0/\e=.returned (.tuple #[.agg #[.int .i64 0,.int .i64 0,.int .i64 0,.int .i64 0,.int .i64 0,.int .i64 0,.string ⟨#[]⟩],.int .i64 c])
def MsP (w:World) (s:Bs) (e:Ending) (w':World):Prop:=Ext w w'/\MsE e (zmU s)
theorem zaT {P:Program} {fn:Func} {p q:Tmp} {ty tq:TypeId} {dq:TypeDesc} (h:fn.results=#[.cell p ty,.cell q tq]) (tmps:Array Value) (w:World) (g:Nat) (b:Addr) (t:TypeId) (cs:Array Value) (fr:Nat × Nat) (d:TypeDesc) {vb:Value}
  (hp:tmps.getD p undef=.pointer (some ⟨g,0,none⟩)) (hq:tmps.getD q undef=.pointer (some b)) (hg:w.heap[g]?=some (.cells cs t fr))
  (hu:P.underlying ty=some d) (hd:(match d with | .struct _ | .array _ _=>true | _=>false)=true) (hi:(P.info? ty).map (·.size)=some cs.size)
  (uq:P.underlying tq=some dq) (kq:(match dq with | .struct _ | .array _ _=>true | _=>false)=false) (hb:w.cell? b=some vb):
  (results fn tmps).run P w=.ok (.tuple #[.agg cs,vb]) w:=by
 have hp':tmps[p]?.getD undef=.pointer (some ⟨g,0,none⟩):=by simpa using hp
 have hq':tmps[q]?.getD undef=.pointer (some b):=by simpa using hq
 have hl:(loadVar tq b).run P w=.ok vb w:=by
  have:(isAgg tq).run P w=.ok false w:=by
   simp only [isAgg,Sem.run_bind,run_underlying uq,Result.andThen_ok];cases dq <;> simp_all
  simp only [loadVar,Sem.run_bind,this,Result.andThen_ok];simp [load,Sem.run,hb]
 simp [results,h,hp',hq',asAddr,run_loadVar_row w g t ty cs fr d hg hu hd hi,hl,Result.andThen]
theorem set_mid:∀ (l r:List Value) (z v:Value),(l++z::r).set l.length v=l++v::r
 | [],r,z,v=>rfl
 | x::l,r,z,v=>by simp [set_mid l r z v]
def fA (fs:List Int) (g:Nat):Array Value:=(fs.map (fun n=>Value.int .i64 n)++List.replicate g (Value.int .i64 0)).toArray
theorem zns (fs:List Int) (g:Nat):(fA fs (g+1))[fs.length]?=some (.int .i64 0):=by
 unfold fA;simp [List.replicate_succ]
theorem znE (fs:List Int) (g:Nat) (x:Int):(fA fs (g+1)).setIfInBounds fs.length (.int .i64 x)=fA (fs++[x]) g:=by
 unfold fA;rw [List.setIfInBounds_toArray,List.replicate_succ];have:=set_mid (fs.map (fun n=>Value.int .i64 n)) (List.replicate g (Value.int .i64 0)) (.int .i64 0) (.int .i64 x);rw [List.length_map] at this;rw [this];simp
theorem zfz (s:Bs) (hs:s.length<=1000000) (w:World) (hG:Gl w):Calls Tryz.prog 151 #[.string ⟨s.toArray⟩] w (MsP w s):=by
 have hmf:∀ (fn:Fn) (first cap:Array Value) (w:World),(Instr.makeFunc fn first cap).run Tryz.prog w=.ok (.func fn first cap) w:=fun _ _ _ _=>rfl
 obtain ⟨U,hU⟩:∃ U,U=w.heap.size:=⟨_,rfl⟩;have hwU:w.heap.size<=U:=Nat.le_of_eq hU.symm;have hU10:10<=U:=by have:=hG.size;omega
 have hx0:=((Mod.refl (fun k=>U<=k) w).alloc (.cells #[.int .i64 0,.int .i64 0,.int .i64 0,.int .i64 0,.int .i64 0,.int .i64 0,.string ⟨#[]⟩] 30)).alloc (.cells #[.int .i64 0] 39);have hUc:((w.alloc (.cells #[.int .i64 0,.int .i64 0,.int .i64 0,.int .i64 0,.int .i64 0,.int .i64 0,.string ⟨#[]⟩] 30)).alloc (.cells #[.int .i64 0] 39)).heap[U]?=some (.cells #[.int .i64 0,.int .i64 0,.int .i64 0,.int .i64 0,.int .i64 0,.int .i64 0,.string ⟨#[]⟩] 30 (0,0)):=by rw [zaA,World.size_alloc,hU,if_neg (by omega)];exact heap_alloc_new w _
 have hCc:((w.alloc (.cells #[.int .i64 0,.int .i64 0,.int .i64 0,.int .i64 0,.int .i64 0,.int .i64 0,.string ⟨#[]⟩] 30)).alloc (.cells #[.int .i64 0] 39)).heap[U+1]?=some (.cells #[.int .i64 0] 39 (0,0)):=by rw [hU];have:=heap_alloc_new (w.alloc (.cells #[.int .i64 0,.int .i64 0,.int .i64 0,.int .i64 0,.int .i64 0,.int .i64 0,.string ⟨#[]⟩] 30)) (.cells #[.int .i64 0] 39);rwa [World.size_alloc] at this
 have hG0:=hG.mod hx0 (fun k hk=>by omega);obtain ⟨D,hD⟩:∃ D,D=zmU s:=⟨_,rfl⟩;have hMs:Hid (∀ e w',MsP w s e w'=(Ext w w'/\MsE e D)):=hid (fun e w'=>by rw [hD];rfl);rw [znp] at hD;have hi0:=hid (zfP s 0 (Nat.zero_le _) hs ((w.alloc (.cells #[.int .i64 0,.int .i64 0,.int .i64 0,.int .i64 0,.int .i64 0,.int .i64 0,.string ⟨#[]⟩] 30)).alloc (.cells #[.int .i64 0] 39)));replace hUc:=hid hUc;replace hCc:=hid hCc;replace hx0:=hid hx0;replace hG0:=hid hG0;replace hD:=hid hD;have hss:Hid ((⟨s.toArray⟩:ByteArray).size=s.length):=hid rfl;clear hG
 go_enter_defers Tryz.func151,Tryz.ntmps151
 go_wp2_with fail
 try simp only [World.size_alloc]
 rw [<- hU];generalize ((w.alloc (.cells #[.int .i64 0,.int .i64 0,.int .i64 0,.int .i64 0,.int .i64 0,.int .i64 0,.string ⟨#[]⟩] 30)).alloc (.cells #[.int .i64 0] 39))=w0 at hUc hCc hx0 hG0 hi0 ⊢;replace hU:=hid hU;refine hi0.out.mono ?_;rintro e w1 ⟨rfl,hi⟩;unfold zmT zmS at hi;rw [List.drop_zero] at hi;clear hi0;cases hg:zex s with
 | none=>
  rw [hg] at hi;simp only at hi;subst hi;have hDz:=hid (show D=.error 10 by rw [hD.out,hg]);have cz:=zaa hCc.out 0;have zz:=zac hCc.out;simp at cz;have C_:=hid (zc1 (v:=.int .i64 10) hCc.out);have U_:=hid ((zar w0 (b:=U+1) (k:=U) 0 (.int .i64 10) (by omega)).trans hUc.out);have M_:=hid (hx0.out.setCell (a:=⟨U+1,0,none⟩) (fun _=>by show U<=U+1;omega) (.int .i64 10));have G_:=hid (hG0.out.mod ((Mod.refl (fun k=>k=U+1) w0).setCell (a:=⟨U+1,0,none⟩) (fun _=>rfl) (.int .i64 10)) (fun k hk=>by omega));replace hg:=hid hg;go_wp2_with fail
  clear cz zz;generalize w0.setCell ⟨U+1,0,none⟩ (.int .i64 10)=w1 at C_ U_ M_ G_ ⊢;refine (zeC 10 (by decide) w1).mono ?_;rintro e w2 ⟨rfl,rfl⟩;go_wp2_with fail
  refine leaves_cons (f:=190) (args:=#[.pointer (some ⟨U,0,none⟩),.pointer (some ⟨U+1,0,none⟩)]) (by simp) (by simp [go_sem]) ?_;refine (za3 U (U+1) _ _ 10 [] w1 U_.out rfl C_.out (by omega) (fun W' hm'=>(G_.out.mod hm' (fun k hk=>by omega)).et) (by have:=G_.out.size;omega)).mono ?_;rintro e u' w'' ⟨rfl,rfl,hp9,hq9,hm9⟩;refine ⟨_,zaT rfl _ _ U ⟨U+1,0,none⟩ _ _ _ _ rfl rfl hp9 Tryz.underlying30 rfl (by kernel_rfl) Tryz.underlying39 rfl (zaa hq9 0),?_⟩;rw [hMs.out,hDz.out];exact ⟨zaG (B:=U) hwU (M_.out.trans (hm9.mono (fun k hk=>by omega))),10,by decide,rfl⟩
 | some x=>
  obtain ⟨sum,r⟩:=x;rw [hg] at hi;simp only at hi;obtain ⟨b,hb0,hbl,hrb,rfl⟩:=hi;have hD2:=hid (show D=if sum ≠ crc r then .error 200 else zht 6 [] r by rw [hD.out,hg]);have hex:(⟨s.toArray⟩:ByteArray).extract b s.length=⟨r.toArray⟩:=by rw [zhw,List.take_length,hrb]
  have hbi:(b:Int)<=(s.length:Int):=by omega
  have hrl:r.length<=1000000:=by rw [hrb,List.length_drop];omega
  have cz:=zaa hCc.out 0;have zz:=zac hCc.out;simp at cz;have C_:=hid (zc1 (v:=.int .i64 0) hCc.out);have U_:=hid ((zar w0 (b:=U+1) (k:=U) 0 (.int .i64 0) (by omega)).trans hUc.out);have M_:=hid (hx0.out.setCell (a:=⟨U+1,0,none⟩) (fun _=>by show U<=U+1;omega) (.int .i64 0));have G_:=hid (hG0.out.mod ((Mod.refl (fun k=>k=U+1) w0).setCell (a:=⟨U+1,0,none⟩) (fun _=>rfl) (.int .i64 0)) (fun k hk=>by omega));replace hg:=hid hg;replace hrb:=hid hrb;go_wp2_with fail
  clear cz zz;generalize w0.setCell ⟨U+1,0,none⟩ (.int .i64 0)=w1 at C_ U_ M_ G_ ⊢;have c1:=zaa C_.out 0;simp at c1;go_wp2_with fail
  refine (zfK w1).mono ?_;rintro e w2 ⟨rfl,rfl⟩;go_wp2_with fail
  refine (sum_any r w1 G_.out hrl).mono ?_;rintro e w2 ⟨rfl,rfl⟩
  by_cases hsum:sum=crc r
  ·have hDz:=hid (show D=zht 6 [] r by rw [hD2.out,if_neg (fun h=>h hsum)])
   have s1:(sum !=crc r)=false:=by rw [hsum];simp
   have s2:(sum==crc r)=true:=by rw [hsum];simp
   replace hsum:=hid hsum;go_wp2_with fail
   obtain ⟨F,hF⟩:∃ F,F=w1.heap.size:=⟨_,rfl⟩;have hxF:=Mod.alloc (Mod.refl (fun _=>False) w1) (.cells #[.int .i64 0,.int .i64 0,.int .i64 0,.int .i64 0,.int .i64 0,.int .i64 0] 156);have hFc:=heap_alloc_new w1 (.cells #[.int .i64 0,.int .i64 0,.int .i64 0,.int .i64 0,.int .i64 0,.int .i64 0] 156);rw [<- hF] at hFc ⊢;have hUF:U+1 < F:=by have:=zat C_.out;omega
   have U2:=hid (hxF.at U_.out (fun h=>h));have C2:=hid (hxF.at C_.out (fun h=>h));have G2:=hid (G_.out.ext hxF);have M2:=hid (M_.out.trans (hxF.mono (fun _ h=>h.elim)));generalize (w1.alloc _)=w2 at U2 C2 G2 M2 hFc ⊢;replace hF:=hid hF;have hF2:Hid (w2.heap[F]?=some (.cells (fA [] 6) 156 (0,0))):=hid hFc;clear hFc hxF U_ C_ G_ M_ c1;go_loopg [5,26] 6 (fun g av iv wr=>∃ (j a:Nat) (fs:List Int),j+g=6/\fs.length=j/\a<=s.length/\av=.int .i64 a/\iv=.int .i64 j/\D=zht g fs (s.drop a)/\wr.heap[F]?=some (.cells (fA fs g) 156 (0,0))/\wr.heap[U]?=some (.cells #[.int .i64 0,.int .i64 0,.int .i64 0,.int .i64 0,.int .i64 0,.int .i64 0,.string ⟨#[]⟩] 30 (0,0))/\wr.heap[U+1]?=some (.cells #[.int .i64 0] 39 (0,0))/\Gl wr/\Mod (fun k=>U<=k) w wr)
   case atStart=>exact ⟨0,b,[],rfl,rfl,hbl,rfl,rfl,by rw [hDz.out,hrb.out],hF2.out,U2.out,C2.out,G2.out,M2.out⟩
   case round=>
    clear hDz hF2 U2 C2 G2 M2;obtain ⟨j,a,fs,hj,hfl,ha,rfl,rfl,hDj,hFr,hUr,hCr,hGr,hMr⟩:=hrel
    by_cases hlt:j < 6
    ·obtain ⟨g,rfl⟩:∃ g,gk=g+1:=⟨gk - 1,by omega⟩
     have hdi:(j:Int) < 6:=by omega
     have hd:decide ((j:Int) < 6)=true:=decide_eq_true hdi;have hcj:wr.cell? ⟨F,j,none⟩=some (.int .i64 0):=by rw [zaa hFr j,<- hfl];exact zns fs g
     have hzF:=zac hFr;have hia:=hid (zfP s a ha hs wr);replace hj:=hid hj;replace hFr:=hid hFr;replace hUr:=hid hUr;replace hCr:=hid hCr;replace hGr:=hid hGr;replace hMr:=hid hMr;unfold zht at hDj;replace hDj:=hid hDj;go_wp2_with fail
     refine hia.out.mono ?_;rintro e w3 ⟨rfl,hi⟩;unfold zmT zmS at hi;clear hia;cases hga:zex (s.drop a) with
     | none=>
      rw [hga] at hi;simp only at hi;subst hi;have hDz:=hid (show D=.error 10 by rw [hDj.out,hga]);have F3:=zae hFr.out j (.int .i64 0);have m3:Mod (fun k=>k=F) wr (wr.setCell ⟨F,j,none⟩ (.int .i64 0)):=(Mod.refl (fun k=>k=F) wr).setCell (a:=⟨F,j,none⟩) (fun _=>rfl) (.int .i64 0);have U3:=m3.at hUr.out (by omega);have C3:=m3.at hCr.out (by omega);have G3:=hGr.out.mod m3 (fun k hk=>by omega);have M3:=hMr.out.trans (m3.mono (T:=fun k=>U<=k) (fun k hk=>by omega));replace hga:=hid hga;replace F3:=hid F3;clear m3;have cz:=zaa C3 0;have zz:=zac C3;simp at cz;have C_:=hid (zc1 (v:=.int .i64 10) C3);have U_:=hid ((zar (wr.setCell ⟨F,j,none⟩ (.int .i64 0)) (b:=U+1) (k:=U) 0 (.int .i64 10) (by omega)).trans U3);have M_:=hid (M3.setCell (a:=⟨U+1,0,none⟩) (fun _=>by show U<=U+1;omega) (.int .i64 10));have G_:=hid (G3.mod ((Mod.refl (fun k=>k=U+1) (wr.setCell ⟨F,j,none⟩ (.int .i64 0))).setCell (a:=⟨U+1,0,none⟩) (fun _=>rfl) (.int .i64 10)) (fun k hk=>by omega));replace U3:=hid U3;replace C3:=hid C3;replace G3:=hid G3;replace M3:=hid M3;go_wp2_with fail
      clear cz zz;generalize (wr.setCell ⟨F,j,none⟩ (.int .i64 0)).setCell ⟨U+1,0,none⟩ (.int .i64 10)=w4 at C_ U_ M_ G_ ⊢;have c4:=zaa C_.out 0;simp at c4;go_wp2_with fail
      refine (zeC 10 (by decide) w4).mono ?_;rintro e w5 ⟨rfl,rfl⟩;go_wp2_with fail
      refine leaves_cons (f:=190) (args:=#[.pointer (some ⟨U,0,none⟩),.pointer (some ⟨U+1,0,none⟩)]) (by simp) (by simp [go_sem]) ?_;refine (za3 U (U+1) _ _ 10 [] w4 U_.out rfl C_.out (by omega) (fun W' hm'=>(G_.out.mod hm' (fun k hk=>by omega)).et) (by have:=G_.out.size;omega)).mono ?_;rintro e u' w'' ⟨rfl,rfl,hp9,hq9,hm9⟩;refine ⟨_,zaT rfl _ _ U ⟨U+1,0,none⟩ _ _ _ _ rfl rfl hp9 Tryz.underlying30 rfl (by kernel_rfl) Tryz.underlying39 rfl (zaa hq9 0),?_⟩;rw [hMs.out,hDz.out];exact ⟨zaG (B:=U) hwU (M_.out.trans (hm9.mono (fun k hk=>by omega))),10,by decide,rfl⟩
     | some y=>
      obtain ⟨x1,r1⟩:=y;rw [hga] at hi;simp only at hi;obtain ⟨b1,hb1,hb1l,hr1,rfl⟩:=hi;have hDn:=hid (show D=zht g (fs++[x1]) (s.drop b1) by rw [hDj.out,hga,<- hr1]);have F3:=zae hFr.out j (.int .i64 x1);rw [<- hfl,znE,hfl] at F3;have m3:Mod (fun k=>k=F) wr (wr.setCell ⟨F,j,none⟩ (.int .i64 x1)):=(Mod.refl (fun k=>k=F) wr).setCell (a:=⟨F,j,none⟩) (fun _=>rfl) (.int .i64 x1);have U3:=m3.at hUr.out (by omega);have C3:=m3.at hCr.out (by omega);have G3:=hGr.out.mod m3 (fun k hk=>by omega);have M3:=hMr.out.trans (m3.mono (T:=fun k=>U<=k) (fun k hk=>by omega));have F4:=hid ((zar (wr.setCell ⟨F,j,none⟩ (.int .i64 x1)) (b:=U+1) (k:=F) 0 (.int .i64 0) (by omega)).trans F3);replace hga:=hid hga;replace F3:=hid F3;replace hfl:=hid hfl;clear m3;have cz:=zaa C3 0;have zz:=zac C3;simp at cz;have C_:=hid (zc1 (v:=.int .i64 0) C3);have U_:=hid ((zar (wr.setCell ⟨F,j,none⟩ (.int .i64 x1)) (b:=U+1) (k:=U) 0 (.int .i64 0) (by omega)).trans U3);have M_:=hid (M3.setCell (a:=⟨U+1,0,none⟩) (fun _=>by show U<=U+1;omega) (.int .i64 0));have G_:=hid (G3.mod ((Mod.refl (fun k=>k=U+1) (wr.setCell ⟨F,j,none⟩ (.int .i64 x1))).setCell (a:=⟨U+1,0,none⟩) (fun _=>rfl) (.int .i64 0)) (fun k hk=>by omega));replace U3:=hid U3;replace C3:=hid C3;replace G3:=hid G3;replace M3:=hid M3;go_wp2_with fail
      clear cz zz hcj hzF;generalize (wr.setCell ⟨F,j,none⟩ (.int .i64 x1)).setCell ⟨U+1,0,none⟩ (.int .i64 0)=w4 at C_ U_ M_ G_ F4 ⊢;have c4:=zaa C_.out 0;simp at c4;go_wp2_with fail
      refine (zfK w4).mono ?_;rintro e w5 ⟨rfl,rfl⟩;clear c4;go_wp2_with fail
      go_roundg g
      case measure=>omega
      case rel=>exact ⟨j+1,b1,fs++[x1],by have:=hj.out;omega,by simp [hfl.out],hb1l,rfl,by go_num,hDn.out,F4.out,U_.out,C_.out,G_.out,M_.out⟩
    ·obtain rfl:gk=0:=by omega
     obtain rfl:j=6:=by omega
     obtain ⟨f0,f1,f2,f3,f4,f5,rfl⟩:∃ f0 f1 f2 f3 f4 f5,fs=[f0,f1,f2,f3,f4,f5]:=by
      match fs,hfl with
      | [f0,f1,f2,f3,f4,f5],_=>exact ⟨f0,f1,f2,f3,f4,f5,rfl⟩
     have hFe:Hid (wr.heap[F]?=some (.cells #[.int .i64 f0,.int .i64 f1,.int .i64 f2,.int .i64 f3,.int .i64 f4,.int .i64 f5] 156 (0,0))):=hid hFr;have hsa:=hid (zfc s a ha hs wr);unfold zht at hDj;replace hDj:=hid hDj;replace hFr:=hid hFr;replace hUr:=hid hUr;replace hCr:=hid hCr;replace hGr:=hid hGr;replace hMr:=hid hMr;go_wp2_with fail
     refine hsa.out.mono ?_;rintro e w3 ⟨rfl,hi⟩;unfold znJ znI at hi;clear hsa;cases hga:zkE (s.drop a) with
     | none=>
      rw [hga] at hi;simp only at hi;subst hi;have hDz:=hid (show D=.error 10 by rw [hDj.out,hga]);replace hga:=hid hga;have cz:=zaa hCr.out 0;have zz:=zac hCr.out;simp at cz;have C_:=hid (zc1 (v:=.int .i64 10) hCr.out);have U_:=hid ((zar wr (b:=U+1) (k:=U) 0 (.int .i64 10) (by omega)).trans hUr.out);have M_:=hid (hMr.out.setCell (a:=⟨U+1,0,none⟩) (fun _=>by show U<=U+1;omega) (.int .i64 10));have G_:=hid (hGr.out.mod ((Mod.refl (fun k=>k=U+1) wr).setCell (a:=⟨U+1,0,none⟩) (fun _=>rfl) (.int .i64 10)) (fun k hk=>by omega));go_wp2_with fail
      clear cz zz;generalize wr.setCell ⟨U+1,0,none⟩ (.int .i64 10)=w4 at C_ U_ M_ G_ ⊢;have c4:=zaa C_.out 0;simp at c4;go_wp2_with fail
      refine (zeC 10 (by decide) w4).mono ?_;rintro e w5 ⟨rfl,rfl⟩;go_wp2_with fail
      refine leaves_cons (f:=190) (args:=#[.pointer (some ⟨U,0,none⟩),.pointer (some ⟨U+1,0,none⟩)]) (by simp) (by simp [go_sem]) ?_;refine (za3 U (U+1) _ _ 10 [] w4 U_.out rfl C_.out (by omega) (fun W' hm'=>(G_.out.mod hm' (fun k hk=>by omega)).et) (by have:=G_.out.size;omega)).mono ?_;rintro e u' w'' ⟨rfl,rfl,hp9,hq9,hm9⟩;refine ⟨_,zaT rfl _ _ U ⟨U+1,0,none⟩ _ _ _ _ rfl rfl hp9 Tryz.underlying30 rfl (by kernel_rfl) Tryz.underlying39 rfl (zaa hq9 0),?_⟩;rw [hMs.out,hDz.out];exact ⟨zaG (B:=U) hwU (M_.out.trans (hm9.mono (fun k hk=>by omega))),10,by decide,rfl⟩
     | some y=>
      obtain ⟨da,r1⟩:=y;rw [hga] at hi;simp only at hi;obtain ⟨b1,hb1,hb1l,hr1,rfl⟩:=hi;have hDn:=hid (show D=if !r1.isEmpty then .error 10 else if vMs ⟨f0,f1,f2,f3,f4,f5,da⟩ then .ok ⟨f0,f1,f2,f3,f4,f5,da⟩ else .error 200 by rw [hDj.out,hga];rfl);replace hga:=hid hga;have cz:=zaa hCr.out 0;have zz:=zac hCr.out;simp at cz;have C_:=hid (zc1 (v:=.int .i64 0) hCr.out);have U_:=hid ((zar wr (b:=U+1) (k:=U) 0 (.int .i64 0) (by omega)).trans hUr.out);have M_:=hid (hMr.out.setCell (a:=⟨U+1,0,none⟩) (fun _=>by show U<=U+1;omega) (.int .i64 0));have G_:=hid (hGr.out.mod ((Mod.refl (fun k=>k=U+1) wr).setCell (a:=⟨U+1,0,none⟩) (fun _=>rfl) (.int .i64 0)) (fun k hk=>by omega));have F4:=hid ((zar wr (b:=U+1) (k:=F) 0 (.int .i64 0) (by omega)).trans hFe.out);go_wp2_with fail
      clear cz zz;generalize wr.setCell ⟨U+1,0,none⟩ (.int .i64 0)=w4 at C_ U_ M_ G_ F4 ⊢;have c4:=zaa C_.out 0;simp at c4;go_wp2_with fail
      refine (zfK w4).mono ?_;rintro e w5 ⟨rfl,rfl⟩;clear c4
      by_cases hend:b1 < s.length
      ·have hDz:=hid (show D=.error 10 by
        rw [hDn.out,if_pos];have:r1 ≠ []:=fun h=>by
         rw [h] at hr1;have:=congrArg List.length hr1;rw [List.length_drop] at this;simp at this;omega
        cases r1 with
        | nil=>exact absurd rfl this
        | cons _ _=>rfl)
       have hei:(b1:Int) < (s.length:Int):=by omega
       have hed:decide ((b1:Int) < (s.length:Int))=true:=decide_eq_true hei;replace hr1:=hid hr1;go_wp2_with fail
       refine leaves_cons (f:=190) (args:=#[.pointer (some ⟨U,0,none⟩),.pointer (some ⟨U+1,0,none⟩)]) (by simp) (by simp [go_sem]) ?_;refine (za3 U (U+1) _ _ 10 [] w4 U_.out rfl C_.out (by omega) (fun W' hm'=>(G_.out.mod hm' (fun k hk=>by omega)).et) (by have:=G_.out.size;omega)).mono ?_;rintro e u' w'' ⟨rfl,rfl,hp9,hq9,hm9⟩;refine ⟨_,zaT rfl _ _ U ⟨U+1,0,none⟩ _ _ _ _ rfl rfl hp9 Tryz.underlying30 rfl (by kernel_rfl) Tryz.underlying39 rfl (zaa hq9 0),?_⟩;rw [hMs.out,hDz.out];exact ⟨zaG (B:=U) hwU (M_.out.trans (hm9.mono (fun k hk=>by omega))),10,by decide,rfl⟩
      ·have hr1e:r1=[]:=by rw [hr1,List.drop_eq_nil_of_le (by omega)]
       have hDo:=hid (show D=if vMs ⟨f0,f1,f2,f3,f4,f5,da⟩ then .ok ⟨f0,f1,f2,f3,f4,f5,da⟩ else .error 200 by rw [hDn.out,hr1e];rfl);have hei:¬ (b1:Int) < (s.length:Int):=by omega
       have hed:decide ((b1:Int) < (s.length:Int))=false:=decide_eq_false hei;have e0:=zaa F4.out 0;have e1:=zaa F4.out 1;have e2:=zaa F4.out 2;have e3:=zaa F4.out 3;have e4:=zaa F4.out 4;have e5:=zaa F4.out 5;simp at e0 e1 e2 e3 e4 e5;replace hr1:=hid hr1;replace hr1e:=hid hr1e;obtain ⟨VZ,hVZ⟩:∃ VZ:Array Value,VZ=#[.int .i64 f0,.int .i64 f1,.int .i64 f2,.int .i64 f3,.int .i64 f4,.int .i64 f5,.string ⟨da.toArray⟩]:=⟨_,rfl⟩;have hZs:Hid (VZ.size=7):=hid (by rw [hVZ];rfl);have hZ1:Hid (VZ.toList.all (·.oneCell')=true):=hid (by rw [hVZ];rfl);have hval:=fun W=>zcH ⟨f0,f1,f2,f3,f4,f5,da⟩ W
       rw [show (msC ⟨f0,f1,f2,f3,f4,f5,da⟩).toArray=VZ from by rw [hVZ];rfl] at hval;replace hval:=hid hval;replace hVZ:=hid hVZ;go_wp2_with (refine zab rfl 30 _ _ rfl U _ VZ 30 rfl (by rw [hVZ.out];rfl) U_.out (by rw [hZs.out];rfl) (by rw [hZs.out];kernel_rfl) hZ1.out (fun WS HS=>Hid.out ?_))
       obtain ⟨U5,hm5⟩:=HS.out;have C5:=hm5.at C_.out (by omega);have G5:=G_.out.mod hm5 (fun k hk=>by omega);have M5:=M_.out.trans (hm5.mono (T:=fun k=>U<=k) (fun k hk=>by omega));replace U5:=hid U5;replace C5:=hid C5;replace G5:=hid G5;replace M5:=hid M5;clear HS hm5 U_ C_ G_ M_ F4 e0 e1 e2 e3 e4 e5;refine hid ?_;cases hv:vMs ⟨f0,f1,f2,f3,f4,f5,da⟩ with
       | false=>
        rw [hv] at hval;have hDz:=hid (show D=.error 200 by rw [hDo.out,hv];rfl);replace hv:=hid hv;go_wp2_with (refine zal (by rfl) 30 _ rfl U VZ _ _ _ rfl U5.out Tryz.underlying30 rfl (by rw [hZs.out];kernel_rfl) ?_)
        refine (hval.out WS).mono ?_;rintro e W6 ⟨rfl,hx6⟩;have U6:=hid (hx6.at U5.out (fun h=>h));have C6:=hid (hx6.at C5.out (fun h=>h));have G6:=hid (G5.out.ext hx6);have M6:=hid (M5.out.trans (hx6.mono (fun _ h=>h.elim)));clear hx6;go_wp2_with fail
        refine leaves_cons (f:=190) (args:=#[.pointer (some ⟨U,0,none⟩),.pointer (some ⟨U+1,0,none⟩)]) (by simp) (by simp [go_sem]) ?_;refine (za3 U (U+1) _ _ 200 [] W6 U6.out hZs.out C6.out (by omega) (fun W' hm'=>(G6.out.mod hm' (fun k hk=>by omega)).et) (by have:=G6.out.size;omega)).mono ?_;rintro e u' w'' ⟨rfl,rfl,hp9,hq9,hm9⟩;refine ⟨_,zaT rfl _ _ U ⟨U+1,0,none⟩ _ _ _ _ rfl rfl hp9 Tryz.underlying30 rfl (by kernel_rfl) Tryz.underlying39 rfl (zaa hq9 0),?_⟩;rw [hMs.out,hDz.out];exact ⟨zaG (B:=U) hwU (M6.out.trans (hm9.mono (fun k hk=>by omega))),200,by decide,rfl⟩
       | true=>
        rw [hv] at hval;have hDz:=hid (show D=.ok ⟨f0,f1,f2,f3,f4,f5,da⟩ by rw [hDo.out,hv];rfl);replace hv:=hid hv;go_wp2_with (refine zal (by rfl) 30 _ rfl U VZ _ _ _ rfl U5.out Tryz.underlying30 rfl (by rw [hZs.out];kernel_rfl) ?_)
        refine (hval.out WS).mono ?_;rintro e W6 ⟨rfl,hx6⟩;have U6:=hid (hx6.at U5.out (fun h=>h));have C6:=hid (hx6.at C5.out (fun h=>h));have M6:=hid (M5.out.trans (hx6.mono (fun _ h=>h.elim)));clear hx6;go_wp2_with (first | (refine zal (by rfl) 30 _ rfl U VZ _ _ _ rfl U6.out Tryz.underlying30 rfl (by rw [hZs.out];kernel_rfl) ?_) | (refine zab rfl 30 _ _ rfl U _ VZ 30 rfl rfl U6.out rfl (by rw [hZs.out];kernel_rfl) hZ1.out (fun WT HT=>Hid.out ?_)))
        obtain ⟨U7,hm7⟩:=HT.out;have C7:=hm7.at C6.out (by omega);have M7:=M6.out.trans (hm7.mono (T:=fun k=>U<=k) (fun k hk=>by omega));have cz:=zaa C7 0;have zz:=zac C7;simp at cz;have C8:=hid (zc1 (v:=.int .i64 0) C7);have U8:=hid ((zar WT (b:=U+1) (k:=U) 0 (.int .i64 0) (by omega)).trans U7);have M8:=hid (M7.setCell (a:=⟨U+1,0,none⟩) (fun _=>by show U<=U+1;omega) (.int .i64 0));replace U7:=hid U7;replace C7:=hid C7;replace M7:=hid M7;clear HT hm7;refine hid ?_;go_wp2_with fail
        refine leaves_cons (f:=190) (args:=#[.pointer (some ⟨U,0,none⟩),.pointer (some ⟨U+1,0,none⟩)]) (by simp) (by simp [go_sem]) ?_;refine (zhh U (U+1) _).mono ?_;rintro e u' w'' ⟨rfl,rfl,rfl⟩;refine ⟨_,zaT rfl _ _ U ⟨U+1,0,none⟩ _ _ _ _ rfl rfl U8.out Tryz.underlying30 rfl (by rw [hZs.out];kernel_rfl) Tryz.underlying39 rfl (zaa C8.out 0),?_⟩;rw [hMs.out,hDz.out];exact ⟨zaG (B:=U) hwU M8.out,by rw [hVZ.out];rfl⟩
  ·have hDz:=hid (show D=.error 200 by rw [hD2.out,if_pos hsum])
   have s1:(sum !=crc r)=true:=by rw [bne_iff_ne];exact hsum
   have s2:(sum==crc r)=false:=by rw [beq_eq_false_iff_ne];exact hsum
   replace hsum:=hid hsum;go_wp2_with fail
   refine leaves_cons (f:=190) (args:=#[.pointer (some ⟨U,0,none⟩),.pointer (some ⟨U+1,0,none⟩)]) (by simp) (by simp [go_sem]) ?_;refine (za3 U (U+1) _ _ 200 [] w1 U_.out rfl C_.out (by omega) (fun W' hm'=>(G_.out.mod hm' (fun k hk=>by omega)).et) (by have:=G_.out.size;omega)).mono ?_;rintro e u' w'' ⟨rfl,rfl,hp9,hq9,hm9⟩;refine ⟨_,zaT rfl _ _ U ⟨U+1,0,none⟩ _ _ _ _ rfl rfl hp9 Tryz.underlying30 rfl (by kernel_rfl) Tryz.underlying39 rfl (zaa hq9 0),?_⟩;rw [hMs.out,hDz.out];exact ⟨zaG (B:=U) hwU (M_.out.trans (hm9.mono (fun k hk=>by omega))),200,by decide,rfl⟩
end Go.Proofs.YtjjfphalcibjfaaGreatDoor
