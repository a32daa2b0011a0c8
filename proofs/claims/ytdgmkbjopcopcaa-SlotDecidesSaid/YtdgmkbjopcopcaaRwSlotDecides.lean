/- For every input SlotDecides tells true, and leaves its input as it was. -/
import Derived.Test.YtdgmkbjopcopcaaRows
import Derived.Test.YtdgmkbjopcopcaaRwz
import Derived.Test.YtdgmkbjopcopcaaOps
import Derived.Test.YtdgmkbjopcopcaaSltg
set_option linter.unusedVariables false
set_option linter.unusedSimpArgs false
set_option maxRecDepth 100000
namespace Go.Proofs.Ytdgmkbjopcopcaa
open Go.ChangeShapes Go.WideShapes Go.ChangeAt Go.RowKit
theorem slotDecides_lifted (os : Os) (started : os.Started) (H : Type) (enc : TypeId × Value → H) :
    ReturnsInHanded {} Try.checked os 4 .any (Rows.slotDecidesSpec.pre6 enc Try.prog Try.f4 Rows.slotDecidesRow.domain false) (Rows.slotDecidesSpec.post enc Try.prog Try.f4 false true false false) := by
  refine returnsInHanded_of_change (C := Try.checked) own started (by kernel_rfl) Try.func4
    (ChangeSpec.witness6 (enc := enc) (C := Try.checked) false ⟨#[], #[.agg sl0.toArray, .agg bt0.toArray, .agg bt0.toArray, .agg ct0.toArray], []⟩ 8 (by kernel_rfl) (by kernel_rfl) (by kernel_rfl) (by kernel_rfl)) ?_
  intro W base args ds gs before hval0 hW hcnd _
  have hval : ∀ (j : Nat) t v, Try.f4.params[j]? = some t → args[j]? = some v → Value.okWide Try.prog W .any base t v := hval0
  have hW' := hW
  obtain ⟨p, q, hA0, hV, rfl, hfz, hnd⟩ := hW
  have hA : DataW.TrodAll enc Try.prog W 0 (fun _ => true) true Try.f4.params.toList args.toList ds p := hA0
  rw [Try.params4] at hA hval
  obtain ⟨v0, vs0, d0, ds0, p0, q0, hargs, rfl, rfl, h0, r0⟩ := trodAll_cons hA
  obtain ⟨v1, vs1, d1, ds1, p1, q1, rfl, rfl, rfl, h1, r1⟩ := trodAll_cons r0
  obtain ⟨v2, vs2, d2, ds2, p2, q2, rfl, rfl, rfl, h2, r2⟩ := trodAll_cons r1
  obtain ⟨v3, vs3, d3, ds3, p3, q3, rfl, rfl, rfl, h3, r3⟩ := trodAll_cons r2
  obtain ⟨rfl, rfl, rfl⟩ := trodAll_nil r3
  obtain rfl : args = #[v0, v1, v2, v3] := by cases args; simp_all
  obtain ⟨c0, rfl, k0⟩ := arg_struct Try.underlying42 (hval 0 _ _ rfl rfl) h0
  obtain ⟨x0, rfl, g0⟩ := cs_Slot k0
  obtain ⟨c1, rfl, k1⟩ := arg_struct Try.underlying26 (hval 1 _ _ rfl rfl) h1
  obtain ⟨x1, rfl, g1⟩ := cs_Batch k1
  obtain ⟨c2, rfl, k2⟩ := arg_struct Try.underlying26 (hval 2 _ _ rfl rfl) h2
  obtain ⟨x2, rfl, g2⟩ := cs_Batch k2
  obtain ⟨c3, rfl, k3⟩ := arg_struct Try.underlying33 (hval 3 _ _ rfl rfl) h3
  obtain ⟨x3, rfl, g3⟩ := cs_Cert k3
  refine (c_SlotDecides x0 x1 x2 x3 W g0 g1 g2 g3).mono fun e W' he => ?_
  obtain ⟨v, L, rfl, hH, rfl, rfl⟩ := he
  exact ⟨_, rfl, post_true laidOut (by kernel_rfl) rfl Try.underlying4 rfl (fun ds h => match ds, h with | [_, _, _, _], _ => rfl) hW' hH.ext⟩
theorem slotDecides_holds : Rows.SlotDecidesSaid :=
  OpenClaim.holds_of_wide 4 Try.f4 rfl rfl rfl rfl rfl rfl rfl ⟨rfl, rfl, rfl, rfl, rfl⟩ rfl rfl rfl rfl rfl (by kernel_rfl) Try.func4 (by kernel_rfl)
    (of_decide_eq_true (by kernel_rfl)) (by unfold Func.isWrapper; first | (rw [if_pos (by decide +kernel)]; kernel_rfl) | (rw [if_neg (by decide +kernel)]; exact ⟨rfl, rfl⟩))
    (fun os started H enc _ => slotDecides_lifted os started H enc)
end Go.Proofs.Ytdgmkbjopcopcaa
