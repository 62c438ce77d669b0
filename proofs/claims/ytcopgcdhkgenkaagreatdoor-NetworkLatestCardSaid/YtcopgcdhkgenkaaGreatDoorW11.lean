import Derived.Test.YtcopgcdhkgenkaaGreatDoorW1
import GoSem.ClaimSeven
set_option linter.all false
set_option maxRecDepth 100000
set_option maxHeartbeats 16000000
namespace Go.Proofs.YtcopgcdhkgenkaaGreatDoor
open Go
theorem goes_0:((List.range 92).all fun j=>!((Tryz.prog.funcs[(0+j)]?).any Func.goes))=true:=by kernel_rfl
theorem goes_1:((List.range 92).all fun j=>!((Tryz.prog.funcs[(92+j)]?).any Func.goes))=true:=by kernel_rfl
theorem goes_2:((List.range 92).all fun j=>!((Tryz.prog.funcs[(184+j)]?).any Func.goes))=true:=by kernel_rfl
theorem goes_3:((List.range 92).all fun j=>!((Tryz.prog.funcs[(276+j)]?).any Func.goes))=true:=by kernel_rfl
theorem goes_4:((List.range 92).all fun j=>!((Tryz.prog.funcs[(368+j)]?).any Func.goes))=true:=by kernel_rfl
theorem goes_5:((List.range 92).all fun j=>!((Tryz.prog.funcs[(460+j)]?).any Func.goes))=true:=by kernel_rfl
theorem goes_6:((List.range 92).all fun j=>!((Tryz.prog.funcs[(552+j)]?).any Func.goes))=true:=by kernel_rfl
theorem goes_7:((List.range 92).all fun j=>!((Tryz.prog.funcs[(644+j)]?).any Func.goes))=true:=by kernel_rfl
theorem goes_all:∀ t:Nat,t < 736 -> (!((Tryz.prog.funcs[t]?).any Func.goes))=true:=fun t ht=>by
 have key:∀ (i:Nat),((List.range 92).all fun j=>!((Tryz.prog.funcs[(i+j)]?).any Func.goes))=true -> i<=t -> t < i+92 -> (!((Tryz.prog.funcs[t]?).any Func.goes))=true:=fun i h h1 h2=>by
  have h3:=List.all_eq_true.1 h (t - i) (List.mem_range.2 (by omega))
  rwa [show i+(t - i)=t by omega] at h3
 by_cases h0:t < 92
 ·exact key 0 goes_0 (by omega) (by omega)
 by_cases h1:t < 184
 ·exact key 92 goes_1 (by omega) (by omega)
 by_cases h2:t < 276
 ·exact key 184 goes_2 (by omega) (by omega)
 by_cases h3:t < 368
 ·exact key 276 goes_3 (by omega) (by omega)
 by_cases h4:t < 460
 ·exact key 368 goes_4 (by omega) (by omega)
 by_cases h5:t < 552
 ·exact key 460 goes_5 (by omega) (by omega)
 by_cases h6:t < 644
 ·exact key 552 goes_6 (by omega) (by omega)
 by_cases h7:t < 736
 ·exact key 644 goes_7 (by omega) (by omega)
 ·omega
theorem funcs_size:Tryz.prog.funcs.size=736:=by kernel_rfl
theorem goes_at (g:Nat):(Tryz.prog.funcs[g]?).any Func.goes=false:=by
 by_cases h:g < 736
 ·simpa using goes_all g h
 ·rw [Array.getElem?_eq_none (by rw [funcs_size];omega)];rfl
theorem goes_no:Tryz.prog.funcs.any Func.goes=false:=by
 rw [Array.any_eq_false]
 intro i hi h
 have:=goes_at i
 rw [Array.getElem?_eq_getElem hi,Option.any_some,h] at this
 cases this
theorem goes_f (f:FuncId):Tryz.prog.goes f=false:=by
 unfold Program.goes
 rw [goes_no,Bool.and_false,Bool.or_false]
 exact List.any_eq_false.2 fun g _=>by rw [goes_at g];exact Bool.false_ne_true
theorem goes_row (c:OpenClaim):false=c.goesBy Tryz.prog:=by
 have h2:Tryz.prog.inits.toList.any Tryz.prog.goes=false:=List.any_eq_false.2 fun g _=>by rw [goes_f g];exact Bool.false_ne_true
 have h1:Tryz.prog.goesFrom c.func=false:=by
  unfold Program.goesFrom
  cases Tryz.prog.funcNamed c.func with
  | none=>rfl
  | some f=>simp only [Option.any_some,goes_f]
 unfold OpenClaim.goesBy Program.goesAt
 rw [h1,h2]
 cases c.start <;> rfl
end Go.Proofs.YtcopgcdhkgenkaaGreatDoor
