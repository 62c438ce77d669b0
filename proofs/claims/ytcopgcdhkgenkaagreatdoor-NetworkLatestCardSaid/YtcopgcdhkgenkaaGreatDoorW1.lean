import Derived.Test.YtcopgcdhkgenkaaGreatDoorRows
import Derived.LaidByTextLater
import Derived.SevenTiedAt
set_option linter.all false
set_option maxRecDepth 100000
set_option maxHeartbeats 16000000
namespace Go.Proofs.YtcopgcdhkgenkaaGreatDoor
open Go
def tieLaid : List (String × DataW Unit) := [("copydesk/wire.shifts", Rows.laid_copydesk_wire_shifts), ("unicode/utf8.acceptRanges", Rows.laid_unicode_utf8_acceptRanges), ("errors.errorType", Rows.laid_errors_errorType), ("copydesk/delta.errWire", Rows.laid_copydesk_delta_errWire), ("copydesk/delta.errDelta", Rows.laid_copydesk_delta_errDelta), ("internal/strconv.uint64pow10", Rows.laid_internal_strconv_uint64pow10), ("math/bits.deBruijn32tab", Rows.laid_math_bits_deBruijn32tab), ("math/bits.deBruijn64tab", Rows.laid_math_bits_deBruijn64tab), ("strconv.ErrSyntax", Rows.laid_strconv_ErrSyntax), ("strconv.ErrRange", Rows.laid_strconv_ErrRange)]
def tieKinds:List LaidKind:=[.data,.data,.handle,.sentinel,.sentinel,.data,.data,.data,.sentinel,.sentinel]
theorem tie_1:Tryz.prog.worded (varsWordLater true)=true:=by kernel_rfl
theorem tie_2:Tryz.prog.worded (varsWordLater !true)=false:=by kernel_rfl
theorem tie_3:Tryz.prog.worded rootWordLater=true:=by kernel_rfl
theorem tie_4:tieLaid.map (fun x=>Tryz.prog.kindOfLater x.1)=tieKinds.map some:=by kernel_rfl
theorem tie_5 : (Tryz.prog.funcNamed "gosem.cut.vars").isSome = true := by kernel_rfl
theorem tie_6:varsNamedLaterB Tryz.prog (varsId Tryz.prog) tieLaid=true:=by kernel_rfl
end Go.Proofs.YtcopgcdhkgenkaaGreatDoor
