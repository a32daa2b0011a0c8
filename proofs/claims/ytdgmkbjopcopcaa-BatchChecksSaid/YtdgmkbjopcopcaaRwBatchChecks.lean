/- For every input BatchChecks tells true, and leaves its input as it was. -/
import Derived.Test.YtdgmkbjopcopcaaRows
import Derived.Test.YtdgmkbjopcopcaaRwz
import Derived.Test.YtdgmkbjopcopcaaOps
import Derived.Test.YtdgmkbjopcopcaaBte
set_option linter.unusedVariables false
set_option linter.unusedSimpArgs false
set_option maxRecDepth 100000
namespace Go.Proofs.Ytdgmkbjopcopcaa
open Go.ChangeShapes Go.WideShapes Go.ChangeAt Go.RowKit
theorem batchChecks_lifted (os : Os) (started : os.Started) (H : Type) (enc : TypeId × Value → H) :
    ReturnsInHanded {} Try.checked os 10 .any (Rows.batchChecksSpec.pre6 enc Try.prog Try.f10 Rows.batchChecksRow.domain false) (Rows.batchChecksSpec.post enc Try.prog Try.f10 false true false false) := by
  refine returnsInHanded_of_change (C := Try.checked) own started (by kernel_rfl) Try.func10
    (ChangeSpec.witness6 (enc := enc) (C := Try.checked) false ⟨#[], #[.agg bt0.toArray, i0, i0], []⟩ 8 (by kernel_rfl) (by kernel_rfl) (by kernel_rfl) (by kernel_rfl)) ?_
  intro W base args ds gs before hval0 hW hcnd _
  have hval : ∀ (j : Nat) t v, Try.f10.params[j]? = some t → args[j]? = some v → Value.okWide Try.prog W .any base t v := hval0
  have hW' := hW
  obtain ⟨p, q, hA0, hV, rfl, hfz, hnd⟩ := hW
  have hA : DataW.TrodAll enc Try.prog W 0 (fun _ => true) true Try.f10.params.toList args.toList ds p := hA0
  rw [Try.params10] at hA hval
  obtain ⟨v0, vs0, d0, ds0, p0, q0, hargs, rfl, rfl, h0, r0⟩ := trodAll_cons hA
  obtain ⟨v1, vs1, d1, ds1, p1, q1, rfl, rfl, rfl, h1, r1⟩ := trodAll_cons r0
  obtain ⟨v2, vs2, d2, ds2, p2, q2, rfl, rfl, rfl, h2, r2⟩ := trodAll_cons r1
  obtain ⟨rfl, rfl, rfl⟩ := trodAll_nil r2
  obtain rfl : args = #[v0, v1, v2] := by cases args; simp_all
  obtain ⟨c0, rfl, k0⟩ := arg_struct Try.underlying26 (hval 0 _ _ rfl rfl) h0
  obtain ⟨x0, rfl, g0⟩ := cs_Batch k0
  have k1 := arg_cell Try.underlying3 rfl (hval 1 _ _ rfl rfl) h1
  obtain ⟨x1, e1, b1⟩ := k1.int Try.underlying3
  obtain rfl := List.singleton_inj.1 e1
  have k2 := arg_cell Try.underlying3 rfl (hval 2 _ _ rfl rfl) h2
  obtain ⟨x2, e2, b2⟩ := k2.int Try.underlying3
  obtain rfl := List.singleton_inj.1 e2
  refine (c_BatchChecks x0 x1 x2 W g0 b1.2).mono fun e W' he => ?_
  obtain ⟨v, L, rfl, hH, rfl, rfl⟩ := he
  exact ⟨_, rfl, post_true laidOut (by kernel_rfl) rfl Try.underlying4 rfl (fun ds h => match ds, h with | [_, _, _], _ => rfl) hW' hH.ext⟩
theorem batchChecks_holds : Rows.BatchChecksSaid :=
  OpenClaim.holds_of_wide 10 Try.f10 rfl rfl rfl rfl rfl rfl rfl ⟨rfl, rfl, rfl, rfl, rfl⟩ rfl rfl rfl rfl rfl (by kernel_rfl) Try.func10 (by kernel_rfl)
    (of_decide_eq_true (by kernel_rfl)) (by unfold Func.isWrapper; first | (rw [if_pos (by decide +kernel)]; kernel_rfl) | (rw [if_neg (by decide +kernel)]; exact ⟨rfl, rfl⟩))
    (fun os started H enc _ => batchChecks_lifted os started H enc)
end Go.Proofs.Ytdgmkbjopcopcaa
