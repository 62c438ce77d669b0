import Derived.Test.YtpgniljgaknlpaaGreatDoorP5
import Derived.Test.YtpgniljgaknlpaaGreatDoorK23
/-
  The reference printer: it answers as the specification says.
-/
namespace Go.Proofs.YtpgniljgaknlpaaGreatDoor
open Go.RowKit Cdk Tpl

/-- What 'Print' answers. -/
def pq (l : List Nd) : Bs × Int := match Tpl.print l with | none => ([], 100) | some s => (s, 0)
theorem Print_pq {F : Nat → Prop} (v : Value) (l : List Nd) (w : World) (hg : Gl w) (hn : NodesAt F w v l) (hF : ∀ k, F k → k < w.heap.size) (hs : szL l ≤ 1000000000) : Calls Tryz.prog 17 #[v] w fun e w' => e = .returned (.tuple #[.string ⟨(pq l).1.toArray⟩, .int .i64 (pq l).2]) ∧ Ext w w' :=
  (Print_sz v l w hg hn hF hs).mono fun e w' ⟨hx, h1⟩ => by
    refine ⟨?_, hx⟩
    rw [h1]
    unfold pq
    cases Tpl.print l <;> rfl

set_option maxRecDepth 100000 in
set_option maxHeartbeats 4000000 in
theorem rPrint_any {F : Nat → Prop} (v : Value) (l : List Nd) (w : World) (hn : NodesAt F w v l) (hb : bL l ≤ 1000000000000) : Calls Tryz.prog 18 #[v] w fun e w' => e = .returned (.tuple #[.string ⟨(pq l).1.toArray⟩, .int .i64 (pq l).2]) ∧ Ext w w' := by
  obtain ⟨post, hpost⟩ : ∃ post : Ending → World → Prop, post = fun e w' => e = .returned (.tuple #[.string ⟨(pq l).1.toArray⟩, .int .i64 (pq l).2]) ∧ Ext w w' := ⟨_, rfl⟩
  rw [← hpost]
  obtain ⟨aa, nn, ca, rfl⟩ := hn.slice
  have hS := hid (rshape_any 8 F _ l 0 w rfl hn hb)
  replace hpost := hid hpost
  replace hn := hid hn
  go_enter Tryz.func18, Tryz.ntmps18
  go_wp2_with fail
  refine hS.out.mono ?_
  rintro e w1 ⟨rfl, hx1⟩
  clear hS
  cases hv : valL l 0 false with
  | false =>
    have hp : pq l = ([], 100) := by unfold pq Tpl.print; rw [hv]; rfl
    replace hv := hid hv
    replace hp := hid hp
    replace hx1 := hid hx1
    go_wp2_with fail
    rw [hpost.out]
    refine ⟨?_, hx1.out⟩
    rw [hp.out]
    first | done | rfl
  | true =>
    have hf := hid (rform_any 8 F _ l 0 false w1 rfl (hn.out.mod hx1 (fun _ _ h => h)) hv hb)
    have hfl := bL_form l 0 false hv
    obtain ⟨s, hs⟩ : ∃ s, s = formL l := ⟨_, rfl⟩
    rw [← hs] at hf hfl
    have hsl : s.length ≤ 1000000000000 := by omega
    clear hfl
    by_cases hbig : 1000 < s.length
    · have d1 : decide ((1000 : Int) < (s.length : Int)) = true := decide_eq_true (by omega)
      have d2 : (1000 : Int) < (s.length : Int) := by omega
      have hp : pq l = ([], 100) := by
        unfold pq Tpl.print
        rw [hv, ← hs, decide_eq_false (by omega)]; rfl
      replace hv := hid hv
      replace hp := hid hp
      replace hx1 := hid hx1
      replace hs := hid hs
      replace hbig := hid hbig
      go_wp2_with fail
      refine hf.out.mono ?_
      rintro e w2 ⟨rfl, hx2⟩
      have hx2 := hid (hx1.out.trans hx2)
      go_wp2_with fail
      rw [hpost.out]
      refine ⟨?_, hx2.out⟩
      rw [hp.out]
      first | done | rfl
    · have d1 : decide ((1000 : Int) < (s.length : Int)) = false := decide_eq_false (by omega)
      have d2 : ¬ (1000 : Int) < (s.length : Int) := by omega
      have hp : pq l = (s, 0) := by
        unfold pq Tpl.print
        rw [hv, ← hs, decide_eq_true (by omega)]; rfl
      replace hv := hid hv
      replace hp := hid hp
      replace hx1 := hid hx1
      replace hs := hid hs
      replace hbig := hid hbig
      go_wp2_with fail
      refine hf.out.mono ?_
      rintro e w2 ⟨rfl, hx2⟩
      have hx2 := hid (hx1.out.trans hx2)
      go_wp2_with fail
      rw [hpost.out]
      refine ⟨?_, hx2.out⟩
      rw [hp.out]
      first | done | rfl
end Go.Proofs.YtpgniljgaknlpaaGreatDoor
