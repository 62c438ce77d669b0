import Derived.Test.YtpaefpnkemkikaaGreatDoorWhole
namespace Cdk
open Go Go.RowKit
theorem wpList_loadR {P : Program} {w : World} {ops : Array Oper} {rest : List Oper} {o : Oper} {a : Act} {Q : Exit -> Act -> World -> Prop} (hw : Region.wanted o (yielded ops a.tmps) = true) (ty : TypeId) (x : Operand) (ho : o.op = .load ty x) (b n : Nat) (cs : Array Value) (d : TypeDesc) (hx : a.eval x = .pointer (some ⟨b, n, none⟩))
  (hr : w.rangeAt b n cs.toList) (hu : P.underlying ty = some d) (hd : d.isRow = true) (hi : (P.info? ty).map (·.size) = some cs.size)
  (h : wpList P ops Q rest (a.put o.dst (.agg cs)) w) : wpList P ops Q (o :: rest) a w := by
 obtain ⟨cs⟩ := cs
 simp only [wpList]
 rw [if_pos hw]
 exact .inl (wp_load_mid ty x ho b n hx cs d hr hu hd (by simpa using hi) h)
end Cdk
