/- Proved here: SiteSessions answers true whatever the list of operations is, and the list reads afterwards as it read before. No condition beyond the given row's. -/
import Derived.Test.YtncmhcfhbogjnaaG1
import Derived.Test.YtncmhcfhbogjnaaP0
import Derived.Test.YtncmhcfhbogjnaaRows
namespace Go.Proofs.Ytncmhcfhbogjnaa
open Go.ChangeShapes Go.WideShapes Go.ChangeAt Go.RowKit Cdk

theorem sessions_lifted (os : Os) (started : os.Started) (H : Type) (enc : TypeId × Value → H) :
    ReturnsInHanded {} Try.checked os 4 .any (Rows.siteSessionsSpec.pre6 enc Try.prog Try.f4 Rows.siteSessionsRow.domain false) (Rows.siteSessionsSpec.post enc Try.prog Try.f4 false true false false) := by
  refine returnsInHanded_of_change (C := Try.checked) Try.own started (by kernel_rfl) Try.func4
    (ChangeSpec.witness6 (enc := enc) (C := Try.checked) false ⟨#[], #[.slice none 0 0], []⟩ 8 (by kernel_rfl) (by kernel_rfl) (by kernel_rfl) (by kernel_rfl)) ?_
  intro W base args ds gs before hval0 hW _ _
  have hval : ∀ (j : Nat) t v, Try.f4.params[j]? = some t → args[j]? = some v → Value.okWide Try.prog W .any base t v := hval0
  have hW' := hW
  obtain ⟨p, q, hA0, hV, rfl, hfz, hnd⟩ := hW
  have hA : DataW.TrodAll enc Try.prog W 0 (fun _ => true) true Try.f4.params.toList args.toList ds p := hA0
  rw [Try.params4] at hA hval
  obtain ⟨v0, d0, rfl, rfl, h0⟩ := trodAll_one hA
  obtain ⟨rfl, rfl⟩ := trodVars_none hV
  obtain ⟨ao, cap, l, rfl, hr, hok, hl, hc⟩ := ops_open (hval 0 22 v0 rfl rfl) h0
  refine (sessions_any W ao cap l hl hc hr hok).mono fun e W' ⟨he, hw⟩ => ?_
  exact ⟨_, he, post_true (P := Try.prog) Try.laidOut Try.underlying4 hW' (by kernel_rfl) rfl (by kernel_rfl) rfl rfl rfl hw⟩

theorem sessions_holds : Rows.SiteSessionsSaid :=
  OpenClaim.holds_of_wide 4 Try.f4 rfl rfl rfl rfl rfl rfl rfl ⟨rfl, rfl, rfl, rfl, rfl⟩ rfl rfl rfl rfl rfl (by kernel_rfl) Try.func4 (by kernel_rfl)
    (of_decide_eq_true (by kernel_rfl)) (by unfold Func.isWrapper; first | (rw [if_pos (by decide +kernel)]; kernel_rfl) | (rw [if_neg (by decide +kernel)]; exact ⟨rfl, rfl⟩))
    (fun os started H enc _ => sessions_lifted os started H enc)

end Go.Proofs.Ytncmhcfhbogjnaa
