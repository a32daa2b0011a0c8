/- For every input RequestMakes tells true, and leaves its input as it was. -/
import Derived.Test.YtdgmkbjopcopcaaRows
import Derived.Test.YtdgmkbjopcopcaaRwz
import Derived.Test.YtdgmkbjopcopcaaOpb
import Derived.Test.YtdgmkbjopcopcaaRqd
set_option linter.unusedVariables false
set_option linter.unusedSimpArgs false
set_option maxRecDepth 100000
namespace Go.Proofs.Ytdgmkbjopcopcaa
open Go.ChangeShapes Go.WideShapes Go.ChangeAt Go.RowKit
theorem requestMakes_lifted (os : Os) (started : os.Started) (H : Type) (enc : TypeId × Value → H) :
    ReturnsInHanded {} Try.checked os 5 .any (Rows.requestMakesSpec.pre6 enc Try.prog Try.f5 Rows.requestMakesRow.domain false) (Rows.requestMakesSpec.post enc Try.prog Try.f5 false true false false) := by
  refine returnsInHanded_of_change (C := Try.checked) own started (by kernel_rfl) Try.func5
    (ChangeSpec.witness6 (enc := enc) (C := Try.checked) false ⟨#[], #[.agg ak0.toArray], []⟩ 8 (by kernel_rfl) (by kernel_rfl) (by kernel_rfl) (by kernel_rfl)) ?_
  intro W base args ds gs before hval0 hW hcnd _
  have hval : ∀ (j : Nat) t v, Try.f5.params[j]? = some t → args[j]? = some v → Value.okWide Try.prog W .any base t v := hval0
  have hW' := hW
  obtain ⟨p, q, hA0, hV, rfl, hfz, hnd⟩ := hW
  have hA : DataW.TrodAll enc Try.prog W 0 (fun _ => true) true Try.f5.params.toList args.toList ds p := hA0
  rw [Try.params5] at hA hval
  obtain ⟨v0, vs0, d0, ds0, p0, q0, hargs, rfl, rfl, h0, r0⟩ := trodAll_cons hA
  obtain ⟨rfl, rfl, rfl⟩ := trodAll_nil r0
  obtain rfl : args = #[v0] := by cases args; simp_all
  obtain ⟨c0, rfl, k0⟩ := arg_struct Try.underlying62 (hval 0 _ _ rfl rfl) h0
  obtain ⟨x0, rfl, g0⟩ := cs_Ask k0
  refine (c_RequestMakes x0 W).mono fun e W' he => ?_
  obtain ⟨v, L, rfl, hH, rfl, rfl⟩ := he
  exact ⟨_, rfl, post_true laidOut (by kernel_rfl) rfl Try.underlying4 rfl (fun ds h => match ds, h with | [_], _ => rfl) hW' hH.ext⟩
theorem requestMakes_holds : Rows.RequestMakesSaid :=
  OpenClaim.holds_of_wide 5 Try.f5 rfl rfl rfl rfl rfl rfl rfl ⟨rfl, rfl, rfl, rfl, rfl⟩ rfl rfl rfl rfl rfl (by kernel_rfl) Try.func5 (by kernel_rfl)
    (of_decide_eq_true (by kernel_rfl)) (by unfold Func.isWrapper; first | (rw [if_pos (by decide +kernel)]; kernel_rfl) | (rw [if_neg (by decide +kernel)]; exact ⟨rfl, rfl⟩))
    (fun os started H enc _ => requestMakes_lifted os started H enc)
end Go.Proofs.Ytdgmkbjopcopcaa
