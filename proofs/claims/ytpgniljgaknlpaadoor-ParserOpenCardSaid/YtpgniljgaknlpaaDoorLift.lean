import Derived.Test.YtpgniljgaknlpaaDoorBase
import Derived.ProofKit
import Derived.Carry
namespace Cdk
open Go Go.ChangeShapes Go.WideShapes Go.ChangeAt Go.RowKit

theorem carried {P : Program} (hl : laidOutB P = true) {H : Type} {enc : TypeId × Value → H} {W W' : World} (hx : Ext W W') : ∀ (ts : List TypeId) (vs : List Value) (ds : List (DataW H)) (ps : List MemPlace),
    ts.all (fun t => P.readableRec t && decide (t < P.types.size)) = true → DataW.TrodAll enc P W 0 (fun _ => true) true ts vs ds ps →
    DataW.TrodAll enc P W' 0 (fun b => decide (b < W.heap.size)) true ts vs ds ps
  | [], _, _, _, _, h => by
    obtain ⟨rfl, rfl, rfl⟩ := trodAll_nil h
    rfl
  | t :: ts, _, _, _, hr, h => by
    have hlt := DataW.TrodAll.lt h
    obtain ⟨v, vs, d, ds, p, q, rfl, rfl, rfl, h1, h2⟩ := trodAll_cons h
    rw [List.all_cons, Bool.and_eq_true, Bool.and_eq_true, decide_eq_true_eq] at hr
    exact ⟨p, q, Below.trod hl hr.1.1 hr.1.2 h1 (hx.below (Nat.le_refl _) (fun _ hk => nomatch hk)) (fun x hp => hlt x (List.mem_append_left _ hp)), carried hl hx ts vs ds q hr.2 h2, rfl⟩

theorem post_true {P : Program} (hl : laidOutB P = true) {tb : TypeId} (htb : P.underlying tb = some .bool) {H : Type} {enc : TypeId × Value → H} {f : Func} {s : ChangeSpec} {apart fresh handsOn : Bool} {W W' : World} {args : Array Value} {ds gs : List (DataW H)} {before : List MemPlace}
    (hW : DataW.Whole enc P f.params.toList s.vars apart W args.toList ds gs before) (hr : f.params.toList.all (fun t => P.readableRec t && decide (t < P.types.size)) = true)
    (hv : s.vars = []) (hf : f.resultTypes = #[tb]) (h1 : (s.fn H (ds ++ gs)).results = [.lit (.bool true)]) (h2 : (s.fn H (ds ++ gs)).args = ds) (h3 : (s.fn H (ds ++ gs)).vars = []) (hx : Ext W W') :
    s.post enc P f apart fresh handsOn false W args (.bool true) W' := by
  have hW' := hW
  obtain ⟨p, q, hA, hV, rfl, -, -⟩ := hW
  refine ⟨ds, gs, _, [], p, [], hW', ?_, ?_, ?_, Below.frame (hx.below (Nat.le_refl _) (fun _ hk => nomatch hk)) _, fun h => nomatch h⟩
  · rw [h1, hf]
    exact trodAll_mk1 (shut_bool htb true)
  · rw [h2]
    exact carried hl hx _ _ _ _ hr hA
  · rw [hv, h3]
    rfl
end Cdk
