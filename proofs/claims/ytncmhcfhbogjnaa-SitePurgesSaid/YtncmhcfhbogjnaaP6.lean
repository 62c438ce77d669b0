/- Proved here: SitePurges answers true whatever the list of operations, the class and the set of pages are, and the arguments read afterwards as they read before. No condition beyond the given row's. -/
import Derived.Test.YtncmhcfhbogjnaaD1
import Derived.Test.YtncmhcfhbogjnaaP0
import Derived.Test.YtncmhcfhbogjnaaRows
namespace Go.Proofs.Ytncmhcfhbogjnaa
open Go.ChangeShapes Go.WideShapes Go.ChangeAt Go.RowKit Cdk

theorem purges_lifted (os : Os) (started : os.Started) (H : Type) (enc : TypeId × Value → H) :
    ReturnsInHanded {} Try.checked os 6 .any (Rows.sitePurgesSpec.pre6 enc Try.prog Try.f6 Rows.sitePurgesRow.domain false) (Rows.sitePurgesSpec.post enc Try.prog Try.f6 false true false false) := by
  refine returnsInHanded_of_change (C := Try.checked) Try.own started (by kernel_rfl) Try.func6
    (ChangeSpec.witness6 (enc := enc) (C := Try.checked) false ⟨#[], #[.slice none 0 0, .int .i64 0, .int .i64 0], []⟩ 8 (by kernel_rfl) (by kernel_rfl) (by kernel_rfl) (by kernel_rfl)) ?_
  intro W base args ds gs before hval0 hW _ _
  have hval : ∀ (j : Nat) t v, Try.f6.params[j]? = some t → args[j]? = some v → Value.okWide Try.prog W .any base t v := hval0
  have hW' := hW
  obtain ⟨p, q, hA0, hV, rfl, hfz, hnd⟩ := hW
  have hA : DataW.TrodAll enc Try.prog W 0 (fun _ => true) true Try.f6.params.toList args.toList ds p := hA0
  rw [Try.params6] at hA hval
  obtain ⟨v0, v1, v2, d0, d1, d2, p0, p1, p2, rfl, rfl, rfl, h0, h1, h2⟩ := trodAll_three hA
  obtain ⟨rfl, rfl⟩ := trodVars_none hV
  obtain ⟨ao, cap, l, rfl, hr, hok, hl, hc⟩ := ops_open (hval 0 22 v0 rfl rfl) h0
  obtain ⟨c, rfl, -, -, wc⟩ := open_int Try.underlying3 (hval 1 3 v1 rfl rfl) h1
  obtain ⟨n, rfl, -, -, wn⟩ := open_int Try.underlying3 (hval 2 3 v2 rfl rfl) h2
  refine (purges_any W ao cap l c n hl hc hr hok (in64_of_wf wc) (in64_of_wf wn)).mono fun e W' ⟨he, hw⟩ => ?_
  exact ⟨_, he, post_true (P := Try.prog) Try.laidOut Try.underlying4 hW' (by kernel_rfl) rfl (by kernel_rfl) rfl rfl rfl hw⟩

theorem purges_holds : Rows.SitePurgesSaid :=
  OpenClaim.holds_of_wide 6 Try.f6 rfl rfl rfl rfl rfl rfl rfl ⟨rfl, rfl, rfl, rfl, rfl⟩ rfl rfl rfl rfl rfl (by kernel_rfl) Try.func6 (by kernel_rfl)
    (of_decide_eq_true (by kernel_rfl)) (by unfold Func.isWrapper; first | (rw [if_pos (by decide +kernel)]; kernel_rfl) | (rw [if_neg (by decide +kernel)]; exact ⟨rfl, rfl⟩))
    (fun os started H enc _ => purges_lifted os started H enc)

end Go.Proofs.Ytncmhcfhbogjnaa
