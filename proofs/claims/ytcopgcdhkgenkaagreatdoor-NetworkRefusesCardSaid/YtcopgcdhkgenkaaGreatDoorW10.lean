import Derived.Test.YtcopgcdhkgenkaaGreatDoorLift
import Derived.Test.YtcopgcdhkgenkaaGreatDoorCards
import Derived.LaidMore
import Derived.Lay
set_option linter.all false
set_option maxRecDepth 100000
set_option maxHeartbeats 16000000
namespace Go.Proofs.YtcopgcdhkgenkaaGreatDoor
open Go Cdk
abbrev laidL : List (String × DataW Unit) := [("copydesk/wire.shifts", Rows.laid_copydesk_wire_shifts), ("unicode/utf8.first", Rows.laid_unicode_utf8_first), ("unicode/utf8.acceptRanges", Rows.laid_unicode_utf8_acceptRanges), ("errors.errorType", Rows.laid_errors_errorType), ("copydesk/delta.errWire", Rows.laid_copydesk_delta_errWire), ("copydesk/delta.errDelta", Rows.laid_copydesk_delta_errDelta), ("internal/strconv.uint64pow10", Rows.laid_internal_strconv_uint64pow10), ("math/bits.deBruijn32tab", Rows.laid_math_bits_deBruijn32tab), ("math/bits.deBruijn64tab", Rows.laid_math_bits_deBruijn64tab), ("strconv.ErrSyntax", Rows.laid_strconv_ErrSyntax), ("strconv.ErrRange", Rows.laid_strconv_ErrRange)]
abbrev laidD : List (String × DataW Unit) := [("copydesk/wire.shifts", Rows.laid_copydesk_wire_shifts), ("unicode/utf8.first", Rows.laid_unicode_utf8_first), ("unicode/utf8.acceptRanges", Rows.laid_unicode_utf8_acceptRanges), ("copydesk/delta.errWire", Rows.laid_copydesk_delta_errWire), ("copydesk/delta.errDelta", Rows.laid_copydesk_delta_errDelta), ("internal/strconv.uint64pow10", Rows.laid_internal_strconv_uint64pow10), ("math/bits.deBruijn32tab", Rows.laid_math_bits_deBruijn32tab), ("math/bits.deBruijn64tab", Rows.laid_math_bits_deBruijn64tab), ("strconv.ErrSyntax", Rows.laid_strconv_ErrSyntax), ("strconv.ErrRange", Rows.laid_strconv_ErrRange)]
abbrev laidE : List (String × DataW Unit) := [("copydesk/delta.errWire", Rows.laid_copydesk_delta_errWire), ("copydesk/delta.errDelta", Rows.laid_copydesk_delta_errDelta), ("strconv.ErrSyntax", Rows.laid_strconv_ErrSyntax), ("strconv.ErrRange", Rows.laid_strconv_ErrRange)]
abbrev laidT : List (String × DataW Unit) := [("copydesk/wire.shifts", Rows.laid_copydesk_wire_shifts), ("unicode/utf8.first", Rows.laid_unicode_utf8_first), ("unicode/utf8.acceptRanges", Rows.laid_unicode_utf8_acceptRanges), ("internal/strconv.uint64pow10", Rows.laid_internal_strconv_uint64pow10), ("math/bits.deBruijn32tab", Rows.laid_math_bits_deBruijn32tab), ("math/bits.deBruijn64tab", Rows.laid_math_bits_deBruijn64tab)]
def errTxt:DataW Unit -> List UInt8
 | .iface _ (.ptr (.agg [.lit (.string s)]))=>s
 | _=>[]
def setErr (i:Nat):Obj -> Obj
 | .cells _ t frozen=>.cells #[.iface 768 (.pointer (some ⟨17+i,0,none⟩))] t frozen
 | o=>o
def errObj (x:String × DataW Unit):Obj:=.cells #[.string ⟨(errTxt x.2).toArray⟩] 770
noncomputable def wit0 (os:Os):World:=
 let w0:=World.holding Tryz.prog os ⟨#[],#[],[]⟩
 { w0 with heap:=((((w0.heap.modify 1 fun
   | .cells _ t frozen=>.cells #[.iface 288 (.agg #[.pointer (some ⟨12,101,none⟩)])] t frozen
   | o=>o).modify 2 (setErr 0)).modify 3 (setErr 1)).modify 5 (setErr 2)).modify 6 (setErr 3)++(laidE.map errObj).toArray }
noncomputable def wit (os:Os):World:=(wit0 os).layVars Tryz.prog laidT
abbrev errB:List Nat:=[2,3,5,6,17,18,19,20]
theorem wit_os (os:Os):(wit os).os=os:=World.layVars_os _ _ _
theorem wit_fits (os:Os):(wit0 os).layFits Tryz.prog laidT errB=true:=by kernel_rfl
theorem wit_ifaces (os:Os):(wit0 os).layIfaces Tryz.prog laidT (wit os)=true:=by kernel_rfl
theorem wit_e1 (os:Os):(DataW.laidRun Tryz.prog (wit os) 8 (laidE.map (·.1))).map (·.1)=some laidE:=by kernel_rfl
theorem wit_e2 (os:Os):(DataW.laidRun Tryz.prog (wit os) 8 (laidE.map (·.1))).map (fun x=>nodupB (x.2.map MemPlace.codeOf))=some true:=by kernel_rfl
theorem wit_e3 (os:Os):(DataW.laidRun Tryz.prog (wit os) 8 (laidE.map (·.1))).map (fun x=>laidRowsB Tryz.prog (wit os) x.2)=some true:=by kernel_rfl
theorem wit_e4 (os:Os):(DataW.laidRun Tryz.prog (wit os) 8 (laidE.map (·.1))).map (fun x=>x.2.all fun p=>errB.contains p.block)=some true:=by kernel_rfl
theorem wit_h (os:Os) (args:Array Value):(laidL.filter fun x=>x.2.handleName?.isSome).all (handleAtB Tryz.prog ((wit os).forCall (fun _ _=>0) ⟨#[],args,[]⟩).memory)=true:=by kernel_rfl
theorem wit_zip (os:Os) (args:Array Value):((wit os).forCall (fun _ _=>0) ⟨#[],args,[]⟩).variablesZipB Tryz.prog=true:=by kernel_rfl
theorem wit_rest (os:Os) (args:Array Value):(((wit os).forCall (fun _ _=>0) ⟨#[],args,[]⟩).heap.toList.drop Tryz.prog.globals.size).take ((begin Tryz.prog (fun _ _=>0) default).world.heap.size - Tryz.prog.globals.size)=(begin Tryz.prog (fun _ _=>0) default).world.heap.toList.drop Tryz.prog.globals.size:=by kernel_rfl
theorem wit_shaped (os:Os) (args:Array Value):((wit os).forCall (fun _ _=>0) ⟨#[],args,[]⟩).Shaped Tryz.prog:=World.shaped_of_ZipB (wit_zip os args) (wit_rest os args)
theorem wit_split:(laidL.filter fun x=>x.2.handleName?.isNone)=laidD/\(laidD.filter fun x=>(laidT.map (·.1)).contains x.1)=laidT/\(laidD.filter fun x=>!(laidT.map (·.1)).contains x.1)=laidE:=⟨by kernel_rfl,by kernel_rfl,by kernel_rfl⟩
theorem wit_met (os:Os) (args:Array Value):laidMetH Tryz.prog laidL ((wit os).forCall (fun _ _=>0) ⟨#[],args,[]⟩).memory:=by
 refine laidMetH_of_parts ?_ (wit_h os args);obtain ⟨e0,e1,e2⟩:=wit_split;rw [e0];have h:laidMet Tryz.prog laidD (wit os):=laidMet_layVars (w0:=wit0 os) (laidT.map (·.1)) errB (by rw [e1];rfl) (by rw [e1];exact wit_fits os) (by rw [e1];exact wit_ifaces os) (by rw [e2];exact LaidIn.of_run errB 8 (wit_e1 os) (wit_e2 os) (wit_e3 os) (wit_e4 os));exact h.of_heap (by simp [World.memory,World.forCall,Input.heap])
end Go.Proofs.YtcopgcdhkgenkaaGreatDoor
