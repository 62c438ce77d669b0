import Derived.Test.YtpgniljgaknlpaaGreatDoorK26
import Derived.Test.YtpgniljgaknlpaaGreatDoorLibAll
import Derived.Test.YtpgniljgaknlpaaGreatDoorCards
import Derived.Test.YtpgniljgaknlpaaGreatDoorTie
import Derived.ProofKit
import Derived.OpenShut
import Derived.LaidMore
import Derived.Lay
import Derived.SevenTiedAt
import Derived.Stop.Joined
import Derived.Stop.LaidErr
import Derived.Deep.Slices
import Derived.Lib.LaidTab
/-
  From what a card's row lists to the walk's facts; arguments that come in.
-/
namespace Go.Proofs.YtpgniljgaknlpaaGreatDoor
open Go.ChangeShapes Go.WideShapes Go.ChangeAt Go.RowKit Cdk

theorem own : ownKnob Tryz.prog.godebug = none := by kernel_rfl
theorem laidOut : laidOutB Tryz.prog = true := by kernel_rfl

/-- What the rows list. -/
abbrev laidL : List (String × DataW Unit) := [("math/bits.deBruijn32tab", Rows.laid_math_bits_deBruijn32tab), ("math/bits.deBruijn64tab", Rows.laid_math_bits_deBruijn64tab), ("internal/strconv.uint64pow10", Rows.laid_internal_strconv_uint64pow10), ("unicode/utf8.acceptRanges", Rows.laid_unicode_utf8_acceptRanges), ("strconv.ErrRange", Rows.laid_strconv_ErrRange), ("strconv.ErrSyntax", Rows.laid_strconv_ErrSyntax), ("unicode/utf8.first", Rows.laid_unicode_utf8_first)]

/-- A variable of an integer type holds some integer. -/
theorem int_of_shape {P : Program} {w : World} {g : Nat} {t : TypeId} {k : IntKind} {zero : Array Value} (h : w.ShapedOpen P) (hg : g < P.globals.size)
    (h0 : ((begin P (fun _ _ => 0) default).world.heap[g]?).bind Obj.row? = some (zero, t)) (hz : zero.size = 1)
    (hb : P.buildable t = true) (hc : P.cellTypes P.depth t = some [t]) (hu : P.underlying t = some (.int k)) : ∃ m, w.cell? ⟨g, 0, none⟩ = some (.int k m) := by
  obtain ⟨cs, hh, hs, hr⟩ := h.1 g zero t hg h0
  obtain ⟨ts, hts, _, hall⟩ := hr hb
  rw [hc] at hts
  cases hts
  have h1 : 0 < cs.size := by omega
  obtain ⟨u, hu', hok⟩ := hall 0 cs[0] (by simp [h1])
  have : u = t := by simpa using hu'.symm
  subst this
  have hcell : w.cell? ⟨g, 0, none⟩ = some cs[0] := by simp [World.cell?, hh, h1]
  rw [hcell]
  unfold Cell.ok at hok
  rw [hu] at hok
  cases hv : cs[0] <;> rw [hv] at hok <;> simp at hok
  obtain ⟨h1, -⟩ := hok
  subst h1
  exact ⟨_, rfl⟩

theorem size_of_shape {P : Program} {w : World} {g : Nat} {t : TypeId} {zero : Array Value} (h : w.ShapedOpen P) (hg : g < P.globals.size)
    (h0 : ((begin P (fun _ _ => 0) default).world.heap[g]?).bind Obj.row? = some (zero, t)) : g < w.heap.size := by
  obtain ⟨cs, hh, -⟩ := h.1 g zero t hg h0
  exact lt_of_at hh

theorem pow10_eq : (Rows.laid_internal_strconv_uint64pow10 : DataW Unit) = Lib.tabData .u64 Lib.pow10Tab := by kernel_rfl

theorem gl_of {W : World} (h : laidMetH Tryz.prog laidL W) (hs : W.ShapedOpen Tryz.prog) : Gl W := by
  rw [MakeChecks.laidMetH_plain _ _ _ (by kernel_rfl)] at h
  have h3 := h.tail.tail
  rw [pow10_eq] at h3
  refine ⟨Lib.tabIs_of_head (g := 5) (t := ((Tryz.prog.globals[5]?).map (·.type)).getD 0) (e := ((Tryz.prog.underlying (((Tryz.prog.globals[5]?).map (·.type)).getD 0)).bind fun | .array _ e => some e | _ => none).getD 0) (n := 20) (by kernel_rfl) (by kernel_rfl) (by kernel_rfl) (by kernel_rfl) (by kernel_rfl) (by kernel_rfl) h3, ?_, ?_⟩
  · exact int_of_shape (zero := #[.int .i64 0]) (t := 3) hs (by decide +kernel) (by kernel_rfl) rfl (by kernel_rfl) (by kernel_rfl) (by kernel_rfl)
  · exact size_of_shape (t := ((((begin Tryz.prog (fun _ _ => 0) default).world.heap[2 + 5]?).bind Obj.row?).map (·.2)).getD 0) (zero := ((((begin Tryz.prog (fun _ _ => 0) default).world.heap[2 + 5]?).bind Obj.row?).map (·.1)).getD #[]) hs (by decide +kernel) (by kernel_rfl)

/-- An integer that came in. -/
theorem in64_of_wf {n : Int} (h : (Lit.int .i64 n).wf = true) : -9223372036854775808 ≤ n ∧ n ≤ 9223372036854775807 := by
  simp only [Lit.wf, Bool.and_eq_true, decide_eq_true_eq] at h
  exact h

set_option maxRecDepth 100000 in
/-- A slice of integers that came in. -/
theorem ints_open {H : Type} {enc : TypeId × Value → H} {W : World} {b0 : Nat} {v : Value} {d : DataW H} {p : List MemPlace} (hval : Value.okWide Tryz.prog W .any b0 22 v) (h : DataW.Trod enc Tryz.prog W 0 (fun _ => true) true 22 v d p) :
    ∃ ao cap l, v = .slice ao (l : List Int).length cap ∧ RowIs W ao (l.flatMap intC) ∧ (∀ z ∈ l, -9223372036854775808 ≤ z ∧ z ≤ 9223372036854775807) ∧ l.length ≤ 9223372036854775807 := by
  obtain ⟨ao, len, cap, rfl⟩ := okWide_slice Tryz.underlying22 hval
  obtain ⟨n, h⟩ := h
  rcases Go.Deep.open_slice Tryz.underlying22 h with ⟨h0, _⟩ | ⟨a, len', cap', m, n, D, Pl, hc, -, hl, hm, hmm, -, hx⟩
  · cases h0
    exact ⟨none, 0, [], rfl, RowIs.nil _ _, (fun o ho => nomatch ho), by simp⟩
  · cases hc
    rw [if_pos rfl] at hmm
    have hmx : maxLen ≤ 9223372036854775807 := by decide
    rw [show Tryz.prog.cellsOf 3 = 1 by kernel_rfl] at hx
    obtain ⟨V, hV⟩ := Go.Deep.choose_lt (α := Int) (p := fun i o => W.cells? 0 (a.add (i * 1)) 1 = some (intC o) ∧ (-9223372036854775808 ≤ o ∧ o ≤ 9223372036854775807)) (n := m) (fun i hi => by
      obtain ⟨cs', h1, h2⟩ := hx i hi
      obtain ⟨z, hz, _, wz⟩ := DataW.trod_int Tryz.underlying3 h2
      exact ⟨z, by rw [h1, hz]; rfl, in64_of_wf wz⟩)
    refine ⟨some a, cap, (List.range len).map V, by rw [List.length_map, List.length_range], fun j u hj => ?_, fun o ho => ?_, by rw [List.length_map, List.length_range]; omega⟩
    · have hj' : j < len := by
        have := (List.getElem?_eq_some_iff.1 hj).1
        rw [flat_length _ 1 intC_len, List.length_map, List.length_range] at this
        omega
      have hg := flat_get intC 1 intC_len ((List.range len).map V) j 0 (V j) (by rw [List.getElem?_map, List.getElem?_range hj']; rfl) (by decide)
      rw [show j * 1 + 0 = j by omega, hj] at hg
      have hcc := (World.cells?_some (hV j (by omega)).1).2.2 0 (by decide)
      rw [← hg, Go.Deep.add_add, show j * 1 + 0 = j by omega] at hcc
      have h00 := (World.cells?_some (hV 0 (by omega)).1).2.2 0 (by decide)
      obtain ⟨b, off, spot⟩ := a
      have hs : spot = none := by
        cases hsp : spot with
        | none => rfl
        | some s =>
          rw [hsp] at h00
          simp [Addr.add, World.cell?, intC] at h00
          split at h00 <;> simp at h00
      subst hs
      refine ⟨b, off, rfl, ?_⟩
      rw [← hcc]
      congr 1
      unfold Addr.add
      split
      · rename_i h0; rw [h0]; rfl
      · rfl
    · obtain ⟨i, hi, rfl⟩ := List.mem_map.1 ho
      exact (hV i (by have := List.mem_range.1 hi; omega)).2

/-- As 'returnsInHanded_of_change_and', with the world's shape for the contract. -/
theorem handed_shaped {H : Type} {enc : TypeId × Value → H} {a : Assume} {C : Checked} {os : Os} {f : FuncId} {fn : Func} {s : ChangeSpec} {conds : List PathCond} {apart fresh handsOn again : Bool} {X : World → Array Value → Prop}
    (hX : ∀ (w w' : World) (args : Array Value), w.heap = w'.heap → X w args → X w' args)
    (own : ownKnob C.prog.godebug = none) (started : os.Started) (noInit : C.prog.inits.idxOf? f = none) (hfn : C.prog.funcs[f]? = some fn)
    (witness : ∃ (w : World) (tape : Tape) (i : Input), w.os = os ∧ (w.forCall tape i).Shaped C.prog ∧ i.vars = [] ∧ Input.okWide C.prog (w.forCall tape i) .any w.heap.size f i ∧
      ((s.pre enc C.prog fn conds apart (w.forCall tape i).memory i.args ∧ X (w.forCall tape i).memory i.args) ∧ sizedMet enc C.prog fn (OpenSpec.ofChange s) apart (w.forCall tape i).memory i.args) ∧ a.holds C.prog (lone (Frame.enter C.prog f i.args .normal) [] (w.forCall tape i)))
    (contract : ∀ (W : World) (base : Nat) (args : Array Value) (ds gs : List (DataW H)) (before : List MemPlace),
      (∀ (j : Nat) t v, fn.params[j]? = some t → args[j]? = some v → Value.okWide C.prog W .any base t v) →
      DataW.Whole enc C.prog fn.params.toList s.vars apart W args.toList ds gs before → X W args → W.ShapedOpen C.prog →
      Calls C.prog f args W fun e W' => ∃ v, e = .returned v ∧ s.post enc C.prog fn apart fresh handsOn again W args v W') :
    ReturnsInHanded a C os f .any (fun w args => (s.pre enc C.prog fn conds apart w args ∧ X w args) ∧ sizedMet enc C.prog fn (OpenSpec.ofChange s) apart w args) (s.post enc C.prog fn apart fresh handsOn again) := by
  refine returnsInHanded_of_calls own started noInit witness ?_
  intro w tape i _ hsh _ hok hpre hholds
  obtain ⟨_, _, _, fn', hfn', _, _, _, _, hval⟩ := hok
  have e : fn' = fn := Option.some.inj (hfn'.symm.trans hfn)
  subst e
  obtain ⟨⟨⟨ds, gs, before, hw, hc⟩, hx⟩, hz⟩ := hpre
  have hw' := DataW.Whole.of_heap (w' := w.forCall tape i) (by rfl) hw
  refine (contract (w.forCall tape i) w.heap.size i.args ds gs before hval hw' (hX _ _ _ (by rfl) hx) hsh).mono fun e W' ⟨v, he, hp⟩ => ?_
  subst he
  exact ChangeSpec.post_blind hp
end Go.Proofs.YtpgniljgaknlpaaGreatDoor
