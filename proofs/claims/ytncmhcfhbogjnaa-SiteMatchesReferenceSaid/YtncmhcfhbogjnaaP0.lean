import Derived.Test.YtncmhcfhbogjnaaL5
import Derived.ProofKit
import Derived.Test.YtncmhcfhbogjnaaLift
import Derived.Deep.Slices
namespace Go.Proofs.Ytncmhcfhbogjnaa
open Go.ChangeShapes Go.WideShapes Go.ChangeAt Go.RowKit Cdk

theorem Try.own : ownKnob Try.prog.godebug = none := by kernel_rfl
theorem Try.laidOut : laidOutB Try.prog = true := by kernel_rfl
theorem Try.cells33' : Try.prog.cellsOf 33 = 3 := by kernel_rfl

instance : Inhabited OpI := ⟨⟨0, 0, 0⟩⟩

theorem in64_of_wf {n : Int} (h : (Lit.int .i64 n).wf = true) : In64 n := by
  simp only [Lit.wf, Bool.and_eq_true, decide_eq_true_eq] at h
  exact h

theorem op_open {H : Type} {enc : TypeId × Value → H} {W : World} {n : Nat} {x : DataW H × List MemPlace} {cs : List Value}
    (h : DataW.trod enc Try.prog W 0 (fun _ => true) true n 33 cs = some x) : ∃ o : OpI, cs = opC o ∧ o.ok := by
  obtain ⟨xs, k, hk, hxy, hlen, hxl, hf⟩ := DataW.trod_struct Try.underlying33 h
  rw [Try.cells33'] at hlen
  match xs, hxl, cs, hlen with
  | [y0, y1, y2], _, [v0, v1, v2], _ =>
    have g0 := hf 0 _ rfl
    have g1 := hf 1 _ rfl
    have g2 := hf 2 _ rfl
    have c3 : Try.prog.cellsOf 3 = 1 := by kernel_rfl
    simp [c3] at g0 g1 g2
    obtain ⟨a, ha, _, wa⟩ := DataW.trod_int Try.underlying3 g0
    obtain ⟨b, hb, _, wb⟩ := DataW.trod_int Try.underlying3 g1
    obtain ⟨c, hc, _, wc⟩ := DataW.trod_int Try.underlying3 g2
    cases ha; cases hb; cases hc
    exact ⟨⟨a, b, c⟩, rfl, in64_of_wf wa, in64_of_wf wb, in64_of_wf wc⟩

theorem ops_open {H : Type} {enc : TypeId × Value → H} {W : World} {b0 : Nat} {v : Value} {d : DataW H} {p : List MemPlace} (hval : Value.okWide Try.prog W .any b0 22 v) (h : DataW.Trod enc Try.prog W 0 (fun _ => true) true 22 v d p) :
    ∃ ao cap l, v = .slice ao (l : List OpI).length cap ∧ RowIs W ao (l.flatMap opC) ∧ (∀ o ∈ l, o.ok) ∧ l.length ≤ cap ∧ cap ≤ 9223372036854775807 := by
  obtain ⟨ao, len, cap, rfl⟩ := okWide_slice Try.underlying22 hval
  obtain ⟨n, h⟩ := h
  rcases Go.Deep.open_slice Try.underlying22 h with ⟨h0, _⟩ | ⟨a, len', cap', m, n, D, Pl, hc, -, hl, hm, hmm, -, hx⟩
  · cases h0
    exact ⟨none, 0, [], rfl, RowIs.nil _ _, (fun o ho => nomatch ho), Nat.le_refl _, by decide⟩
  · cases hc
    rw [if_pos rfl] at hmm
    rw [Try.cells33'] at hx
    obtain ⟨V, hV⟩ := Go.Deep.choose_lt (α := OpI) (p := fun i o => W.cells? 0 (a.add (i * 3)) 3 = some (opC o) ∧ o.ok) (n := m) (fun i hi => by
      obtain ⟨cs', h1, h2⟩ := hx i hi
      obtain ⟨o, rfl, ho⟩ := op_open h2
      exact ⟨o, h1, ho⟩)
    refine ⟨some a, cap, (List.range len).map V, by rw [List.length_map, List.length_range], fun j u hj => ?_, fun o ho => ?_, by rw [List.length_map, List.length_range]; exact hl, hm⟩
    · have hj' : j < len * 3 := by
        have := (List.getElem?_eq_some_iff.1 hj).1
        rw [flat_length _ 3 opC_len, List.length_map, List.length_range] at this
        omega
      have hk : j / 3 < len := by omega
      have hg := flat_get opC 3 opC_len ((List.range len).map V) (j / 3) (j % 3) (V (j / 3)) (by rw [List.getElem?_map, List.getElem?_range hk]; rfl) (Nat.mod_lt _ (by decide))
      rw [show j / 3 * 3 + j % 3 = j by omega, hj] at hg
      have hcc := (World.cells?_some (hV (j / 3) (by omega)).1).2.2 (j % 3) (Nat.mod_lt _ (by decide))
      rw [← hg, Go.Deep.add_add, show j / 3 * 3 + j % 3 = j by omega] at hcc
      have h00 := (World.cells?_some (hV 0 (by omega)).1).2.2 0 (by decide)
      obtain ⟨b, off, spot⟩ := a
      have hs : spot = none := by
        cases hsp : spot with
        | none => rfl
        | some s =>
          rw [hsp] at h00
          simp [Addr.add, World.cell?, opC] at h00
          split at h00 <;> simp at h00
      subst hs
      refine ⟨b, off, rfl, ?_⟩
      rw [← hcc]
      congr 1
      unfold Addr.add
      split
      · rename_i h0; rw [h0]; rfl
      · rfl
    · obtain ⟨i, hi, rfl⟩ := List.mem_map.1 ho
      exact (hV i (by have := List.mem_range.1 hi; omega)).2

end Go.Proofs.Ytncmhcfhbogjnaa
