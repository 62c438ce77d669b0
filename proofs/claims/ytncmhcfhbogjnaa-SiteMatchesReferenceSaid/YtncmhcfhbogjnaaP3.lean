/- Proved here: SiteMatchesReference answers true whatever the list of operations is, and the list reads afterwards as it read before. No condition beyond the given row's. -/
import Derived.Test.YtncmhcfhbogjnaaR9
import Derived.Test.YtncmhcfhbogjnaaP0
import Derived.Test.YtncmhcfhbogjnaaRows
namespace Go.Proofs.Ytncmhcfhbogjnaa
open Go.ChangeShapes Go.WideShapes Go.ChangeAt Go.RowKit Cdk

theorem matches_lifted (os : Os) (started : os.Started) (H : Type) (enc : TypeId × Value → H) :
    ReturnsInHanded {} Try.checked os 3 .any (Rows.siteMatchesReferenceSpec.pre6 enc Try.prog Try.f3 Rows.siteMatchesReferenceRow.domain false) (Rows.siteMatchesReferenceSpec.post enc Try.prog Try.f3 false true false false) := by
  refine returnsInHanded_of_change (C := Try.checked) Try.own started (by kernel_rfl) Try.func3
    (ChangeSpec.witness6 (enc := enc) (C := Try.checked) false ⟨#[], #[.slice none 0 0], []⟩ 8 (by kernel_rfl) (by kernel_rfl) (by kernel_rfl) (by kernel_rfl)) ?_
  intro W base args ds gs before hval0 hW _ _
  have hval : ∀ (j : Nat) t v, Try.f3.params[j]? = some t → args[j]? = some v → Value.okWide Try.prog W .any base t v := hval0
  have hW' := hW
  obtain ⟨p, q, hA0, hV, rfl, hfz, hnd⟩ := hW
  have hA : DataW.TrodAll enc Try.prog W 0 (fun _ => true) true Try.f3.params.toList args.toList ds p := hA0
  rw [Try.params3] at hA hval
  obtain ⟨v0, d0, rfl, rfl, h0⟩ := trodAll_one hA
  obtain ⟨rfl, rfl⟩ := trodVars_none hV
  obtain ⟨ao, cap, l, rfl, hr, hok, hl, hc⟩ := ops_open (hval 0 22 v0 rfl rfl) h0
  refine (matches_any W ao cap l hl hc hr hok).mono fun e W' ⟨he, hw⟩ => ?_
  exact ⟨_, he, post_true (P := Try.prog) Try.laidOut Try.underlying4 hW' (by kernel_rfl) rfl (by kernel_rfl) rfl rfl rfl hw⟩

theorem matches_holds : Rows.SiteMatchesReferenceSaid :=
  OpenClaim.holds_of_wide 3 Try.f3 rfl rfl rfl rfl rfl rfl rfl ⟨rfl, rfl, rfl, rfl, rfl⟩ rfl rfl rfl rfl rfl (by kernel_rfl) Try.func3 (by kernel_rfl)
    (of_decide_eq_true (by kernel_rfl)) (by unfold Func.isWrapper; first | (rw [if_pos (by decide +kernel)]; kernel_rfl) | (rw [if_neg (by decide +kernel)]; exact ⟨rfl, rfl⟩))
    (fun os started H enc _ => matches_lifted os started H enc)

end Go.Proofs.Ytncmhcfhbogjnaa
