import Derived.Test.YtpaefpnkemkikaaGreatDoorA9
namespace Cdk
open Go Go.RowKit
section
variable {P : Program} {ops : Array Oper} {rest : List Oper} {o : Oper} {a : Act} {w : World} {Q : Exit -> Act -> World -> Prop}
theorem wpList_if {b : Bool} (hw : Region.wanted o (yielded ops a.tmps) = b) (v : Value) (h1 : b = true -> (execOp a.eval o).run P w = .ok (.value v) w)
  (h : wpList P ops Q rest (a.put o.dst (bif b then v else undef)) w) : wpList P ops Q (o :: rest) a w := by
 unfold wpList
 cases b with
 | false => rw [if_neg (by rw [hw]; decide)]; exact h
 | true =>
  rw [if_pos hw]
  refine .inl ?_
  unfold Oper.wp
  rw [h1 rfl]
  exact h
theorem wanted_if {g d : Nat} {p : Bool} (hg : o.guard = some (g, true)) (ho : (ops[g]?).bind (·.dst) = some d) (hv : a.tmps[d]? = some (.bool p)) : Region.wanted o (yielded ops a.tmps) = p := by
 unfold Region.wanted yielded
 rw [hg]
 simp [ho, hv]
 try cases p <;> rfl
theorem wpList_one (hg : o.guard = none) (v : Value) (h1 : (execOp a.eval o).run P w = .ok (.value v) w)
  (h : wpList P ops Q rest (a.put o.dst v) w) : wpList P ops Q (o :: rest) a w := by
 have hw : Region.wanted o (yielded ops a.tmps) = true := by unfold Region.wanted; rw [hg]
 exact wpList_if hw v (fun _ => h1) h
theorem wpList_pickIf (hg : o.guard = none) {p q : Bool} {c x y : Operand} (ho : o.op = .pick c x y) (hc : a.eval c = .bool p) (hx : a.eval x = (bif p then .bool q else undef)) (hy : a.eval y = .bool false)
  (h : wpList P ops Q rest (a.put o.dst (.bool (p && q))) w) : wpList P ops Q (o :: rest) a w := by
 have hw : Region.wanted o (yielded ops a.tmps) = true := by unfold Region.wanted; rw [hg]
 refine wpList_if hw (.bool (p && q)) (fun _ => ?_) h
 rw [execOp, ho]
 simp only [hc, hx, hy]
 cases p <;> rfl
end
end Cdk
