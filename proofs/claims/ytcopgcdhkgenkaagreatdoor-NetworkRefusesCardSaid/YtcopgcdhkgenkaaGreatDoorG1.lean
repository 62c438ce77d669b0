import Derived.Test.YtcopgcdhkgenkaaGreatDoorW4
import Derived.Test.YtcopgcdhkgenkaaGreatDoorW5
import Derived.Test.YtcopgcdhkgenkaaGreatDoorW6
import Derived.Test.YtcopgcdhkgenkaaGreatDoorW7
import Derived.Test.YtcopgcdhkgenkaaGreatDoorW10
import Derived.OpenShut
import Derived.Stop.LaidErr
set_option linter.all false
set_option maxRecDepth 100000
set_option maxHeartbeats 16000000
namespace Go.Proofs.YtcopgcdhkgenkaaGreatDoor
open Go.ChangeShapes Go.WideShapes Go.ChangeAt Go.RowKit Cdk Scr
theorem own:ownKnob Tryz.prog.godebug=none:=by kernel_rfl
theorem int_of_shape {P:Program} {w:World} {g:Nat} {t:TypeId} {k:IntKind} {zero:Array Value} (h:w.ShapedOpen P) (hg:g < P.globals.size)
  (h0:((begin P (fun _ _=>0) default).world.heap[g]?).bind Obj.row?=some (zero,t)) (hz:zero.size=1)
  (hb:P.buildable t=true) (hc:P.cellTypes P.depth t=some [t]) (hu:P.underlying t=some (.int k)):∃ m,w.cell? ⟨g,0,none⟩=some (.int k m):=by
 obtain ⟨cs,hh,hs,hr⟩:=h.1 g zero t hg h0;obtain ⟨ts,hts,_,hall⟩:=hr hb;rw [hc] at hts;cases hts
 have h1:0 < cs.size:=by omega
 obtain ⟨u,hu',hok⟩:=hall 0 cs[0] (by simp [h1]);have:u=t:=by simpa using hu'.symm
 subst this;have hcell:w.cell? ⟨g,0,none⟩=some cs[0]:=by simp [World.cell?,hh,h1]
 rw [hcell];unfold Cell.ok at hok;rw [hu] at hok;cases hv:cs[0] <;> rw [hv] at hok <;> simp at hok
 obtain ⟨h1,-⟩:=hok;subst h1;exact ⟨_,rfl⟩
theorem size_of_shape {P:Program} {w:World} {g:Nat} {t:TypeId} {zero:Array Value} (h:w.ShapedOpen P) (hg:g < P.globals.size)
  (h0:((begin P (fun _ _=>0) default).world.heap[g]?).bind Obj.row?=some (zero,t)):g < w.heap.size:=by
 obtain ⟨cs,hh,-⟩:=h.1 g zero t hg h0;exact lt_of_at hh
theorem pow10_eq:(Rows.laid_internal_strconv_uint64pow10:DataW Unit)=Lib.tabData .u64 Lib.pow10Tab:=by kernel_rfl
theorem shifts_eq:(Rows.laid_copydesk_wire_shifts:DataW Unit)=Lib.tabData .u32 shiftsL:=by kernel_rfl
theorem hname : (Tryz.prog.cutTypes.find? (·.1 == "internal/reflectlite.rtype")).map (·.2) = some 288 := by kernel_rfl
theorem types_size:Tryz.prog.types.size=846:=by kernel_rfl
theorem oneRow:((List.range 846).filter fun t=>Tryz.prog.rowNamed t [101,114,114,111,114])=[101]:=by kernel_rfl
theorem et_named : Tryz.prog.globalNamed "errors.errorType" = some 1 := by kernel_rfl
theorem star_err : ("*" ++ "errors.errorString" : String) = "*errors.errorString" := by decide
theorem errRow_one (u : TypeId) (h : Tryz.prog.typeName? 3 u = some "*errors.errorString") : u = 768 :=
 typeName_ptr_named (nm := "errors.errorString") (List.all_eq_true.2 fun u hu => by rw [types_size] at hu; have h := rown_all u (List.mem_range.1 hu); rwa [<- star_err] at h)
  (List.all_eq_true.2 fun u hu=>by rw [types_size] at hu;exact namd_all u (List.mem_range.1 hu)) (by decide) u (by rw [star_err];exact h)
theorem laid_g:(Tryz.prog.globals.all fun g=>decide (g.type < Tryz.prog.types.size))=true:=by kernel_rfl
theorem laid_f:(Tryz.prog.funcs.all fun f=>f.params.all fun t=>decide (t < Tryz.prog.types.size))=true:=by kernel_rfl
theorem laidOut:laidOutB Tryz.prog=true:=by
 unfold laidOutB;rw [Bool.and_eq_true,Bool.and_eq_true];exact ⟨⟨List.all_eq_true.2 fun t ht=>by rw [types_size] at ht;exact fine_all t (List.mem_range.1 ht),laid_g⟩,laid_f⟩
theorem handle_of {W : World} (h : handlesMet Tryz.prog [("errors.errorType", Rows.laid_errors_errorType)] W) : W.cell? ⟨1, 0, none⟩ = some (.iface 288 (.agg #[.pointer (some ⟨12, 101, none⟩)])) := by
 obtain ⟨name,u,ty,e1,e2,e3,e4,e5⟩:=h _ (List.mem_singleton.2 rfl);have en:name=[101,114,114,111,114]:=(Option.some.inj e1).symm;subst en;obtain rfl:=Option.some.inj (hname.symm.trans e2);have hm:ty ∈ (List.range 846).filter fun t=>Tryz.prog.rowNamed t [101,114,114,111,114]:=List.mem_filter.2 ⟨List.mem_range.2 (by rw [<- types_size];exact e3),e4⟩
 rw [oneRow] at hm;obtain rfl:=List.mem_singleton.1 hm;have hh:typeHandle Tryz.prog 101=.pointer (some ⟨12,101,none⟩):=by kernel_rfl
 rw [hh] at e5;simpa using World.var?_cell et_named e5 0
theorem laid_parts {W : World} (h : laidMetH Tryz.prog laidL W) : laidMet Tryz.prog laidD W /\ handlesMet Tryz.prog [("errors.errorType", Rows.laid_errors_errorType)] W := h
theorem gl_of {W:World} (h:laidMetH Tryz.prog laidL W) (hs:W.ShapedOpen Tryz.prog):Gl W:=by
 obtain ⟨hd,hh⟩:=laid_parts h;have h3:=hd.tail.tail.tail.tail.tail
 have h4 : laidMet Tryz.prog (("copydesk/wire.shifts", Rows.laid_copydesk_wire_shifts) :: laidD.tail) W := hd
 have h5:=hd.tail.tail.tail.tail.tail.tail.tail.tail.tail;have h6:=hd.tail.tail.tail.tail.tail.tail.tail.tail;rw [pow10_eq] at h3;rw [shifts_eq] at h4;refine ⟨?_,?_,?_,?_,?_,handle_of hh,?_⟩
 ·exact Lib.tabIs_of_head (g:=7) (t:=((Tryz.prog.globals[7]?).map (·.type)).getD 0) (e:=((Tryz.prog.underlying (((Tryz.prog.globals[7]?).map (·.type)).getD 0)).bind fun | .array _ e=>some e | _=>none).getD 0) (n:=20) (by kernel_rfl) (by kernel_rfl) (by kernel_rfl) (by kernel_rfl) (by kernel_rfl) (by kernel_rfl) h3
 ·exact Lib.tabIs_of_head (g:=0) (t:=((Tryz.prog.globals[0]?).map (·.type)).getD 0) (e:=((Tryz.prog.underlying (((Tryz.prog.globals[0]?).map (·.type)).getD 0)).bind fun | .array _ e=>some e | _=>none).getD 0) (n:=16) (by kernel_rfl) (by kernel_rfl) (by kernel_rfl) (by kernel_rfl) (by kernel_rfl) (by kernel_rfl) h4
 ·exact int_of_shape (zero:=#[.int .i64 0]) (t:=3) hs (by decide+kernel) (by kernel_rfl) rfl (by kernel_rfl) (by kernel_rfl) (by kernel_rfl)
 ·obtain ⟨a,s,hv,-⟩:=laid_sentinel (g:=5) (ti:=101) (tp:=768) (te:=770) (ts:=9) (ms:=((match Tryz.prog.underlying 101 with | some (.interface ms)=>some ms | _=>none).getD #[])) (f:=((match Tryz.prog.underlying 770 with | some (.struct fs)=>fs[0]? | _=>none).getD default)) h6 (by kernel_rfl) (by kernel_rfl) (by kernel_rfl) errRow_one (by kernel_rfl) (by kernel_rfl) (by kernel_rfl) (by kernel_rfl) (by kernel_rfl) (by kernel_rfl) (by kernel_rfl)
  exact ⟨_,_,hv⟩
 ·obtain ⟨a,s,hv,-⟩:=laid_sentinel (g:=6) (ti:=101) (tp:=768) (te:=770) (ts:=9) (ms:=((match Tryz.prog.underlying 101 with | some (.interface ms)=>some ms | _=>none).getD #[])) (f:=((match Tryz.prog.underlying 770 with | some (.struct fs)=>fs[0]? | _=>none).getD default)) h5 (by kernel_rfl) (by kernel_rfl) (by kernel_rfl) errRow_one (by kernel_rfl) (by kernel_rfl) (by kernel_rfl) (by kernel_rfl) (by kernel_rfl) (by kernel_rfl) (by kernel_rfl)
  exact ⟨_,_,hv⟩
 ·exact size_of_shape (g:=11) (t:=((((begin Tryz.prog (fun _ _=>0) default).world.heap[11]?).bind Obj.row?).map (·.2)).getD 0) (zero:=((((begin Tryz.prog (fun _ _=>0) default).world.heap[11]?).bind Obj.row?).map (·.1)).getD #[]) hs (by decide+kernel) (by kernel_rfl)
theorem handed_sized {H:Type} {enc:TypeId × Value -> H} {a:Assume} {C:Checked} {os:Os} {f:FuncId} {fn:Func} {s:ChangeSpec} {conds:List PathCond} {apart fresh handsOn again:Bool} {X:World -> Array Value -> Prop}
  (hX:∀ (w w':World) (args:Array Value),w.heap=w'.heap -> X w args -> X w' args)
  (own:ownKnob C.prog.godebug=none) (started:os.Started) (noInit:C.prog.inits.idxOf? f=none) (hfn:C.prog.funcs[f]?=some fn)
  (witness:∃ (w:World) (tape:Tape) (i:Input),w.os=os/\(w.forCall tape i).Shaped C.prog/\i.vars=[]/\Input.okWide C.prog (w.forCall tape i) .any w.heap.size f i ∧
   ((s.pre enc C.prog fn conds apart (w.forCall tape i).memory i.args/\X (w.forCall tape i).memory i.args)/\sizedMet enc C.prog fn (OpenSpec.ofChange s) apart (w.forCall tape i).memory i.args)/\a.holds C.prog (lone (Frame.enter C.prog f i.args .normal) [] (w.forCall tape i)))
  (contract:∀ (W:World) (base:Nat) (args:Array Value) (ds gs:List (DataW H)) (before:List MemPlace),
   (∀ (j:Nat) t v,fn.params[j]?=some t -> args[j]?=some v -> Value.okWide C.prog W .any base t v) →
   DataW.Whole enc C.prog fn.params.toList s.vars apart W args.toList ds gs before →
   (DataW.weightsEach C.prog (fn.params.toList++s.plain.varTypes C.prog) (ds++gs)).all (·<=reachBytes)=true -> X W args -> W.ShapedOpen C.prog →
   Calls C.prog f args W fun e W'=>∃ v,e=.returned v/\s.post enc C.prog fn apart fresh handsOn again W args v W'):
  ReturnsInHanded a C os f .any (fun w args=>(s.pre enc C.prog fn conds apart w args/\X w args)/\sizedMet enc C.prog fn (OpenSpec.ofChange s) apart w args) (s.post enc C.prog fn apart fresh handsOn again):=by
 refine returnsInHanded_of_calls own started noInit witness ?_;intro w tape i _ hsh _ hok hpre hholds;obtain ⟨_,_,_,fn',hfn',_,_,_,_,hval⟩:=hok;have e:fn'=fn:=Option.some.inj (hfn'.symm.trans hfn);subst e;obtain ⟨⟨⟨ds,gs,before,hw,hc⟩,hx⟩,hz⟩:=hpre;have hw':=DataW.Whole.of_heap (w':=w.forCall tape i) (by rfl) hw;refine (contract (w.forCall tape i) w.heap.size i.args ds gs before hval hw' (hz.weights hw) (hX _ _ _ (by rfl) hx) hsh).mono fun e W' ⟨v,he,hp⟩=>?_
 subst he;exact ChangeSpec.post_blind hp
theorem intsA_open {H:Type} {enc:TypeId × Value -> H} {W:World} {b0:Nat} {v:Value} {d:DataW H} {p:List MemPlace} (hval:Value.okWide Tryz.prog W .any b0 31 v) (h:DataW.Trod enc Tryz.prog W 0 (fun _=>true) true 31 v d p) (hl:Wl 31 d):
  ∃ l:List Int,IntsAt (fun k=>k < W.heap.size) W v l/\∀ x ∈ l,I64 x:=by
 obtain ⟨ao,len,cap,rfl⟩:=okWide_slice Tryz.underlying31 hval;obtain ⟨n,h⟩:=h;obtain ⟨v',l,hc,hr,hq⟩:=hints_row h hl;have hcv:(Value.slice ao len cap).cells.toList=[.slice ao len cap]:=rfl;rw [hcv] at hc;injection hc with hc1 _
 subst hc1;exact ⟨l,hr,hq⟩
end Go.Proofs.YtcopgcdhkgenkaaGreatDoor
