/- The rows of layer 18 (slot): for every input SlotTells tells true, and leaves its input as it was. -/
import Derived.Test.YtdgmkbjopcopcaaRows
import Derived.Test.YtdgmkbjopcopcaaOps
import Derived.Test.YtdgmkbjopcopcaaSltf
set_option linter.unusedVariables false
set_option linter.unusedSimpArgs false
set_option maxRecDepth 100000
namespace Go.Proofs.Ytdgmkbjopcopcaa
open Go.ChangeShapes Go.WideShapes Go.ChangeAt Go.RowKit
theorem own : ownKnob Try.prog.godebug = none := by kernel_rfl
theorem laidOut : laidOutB Try.prog = true := by kernel_rfl
theorem arg_struct {w : World} {t : TypeId} {r : Reach} {b0 : Nat} {v : Value} {fs : Array Field} {H : Type} {enc : TypeId × Value → H} {sp : Nat → Bool} {d : DataW H} {ps : List MemPlace} (ht : Try.prog.underlying t = some (.struct fs)) (hv : Value.okWide Try.prog w r b0 t v) (hd : DataW.Trod enc Try.prog w 0 sp true t v d ps) : ∃ cs : List Value, v = .agg cs.toArray ∧ Cs Try.prog w t cs := by
  obtain ⟨cs, rfl⟩ := arg_agg ht hv
  exact ⟨cs, rfl, by simpa [Value.cells] using Cs.of hd⟩
theorem arg_cell {w : World} {t : TypeId} {r : Reach} {b0 : Nat} {v : Value} {u : TypeDesc} {H : Type} {enc : TypeId × Value → H} {sp : Nat → Bool} {d : DataW H} {ps : List MemPlace} (ht : Try.prog.underlying t = some u) (hu : plainDesc u = true) (hv : Value.okWide Try.prog w r b0 t v) (hd : DataW.Trod enc Try.prog w 0 sp true t v d ps) : Cs Try.prog w t [v] := by
  have := Cs.of hd
  rwa [arg_one ht hu hv] at this
abbrev i0 : Value := .int .i64 0
def dg0 : List Value := List.replicate 32 (.int .u8 0)
def vt0 : List Value := [i0, i0, i0, i0] ++ dg0
def ct0 : List Value := vt0 ++ [.slice none 0 0]
def bt0 : List Value := [.bool false, .slice none 0 0]
def sl0 : List Value := [i0] ++ bt0 ++ [.bool false] ++ bt0 ++ ct0 ++ [.bool false] ++ [i0] ++ bt0 ++ ct0 ++ [.bool false]
theorem slotTells_lifted (os : Os) (started : os.Started) (H : Type) (enc : TypeId × Value → H) :
    ReturnsInHanded {} Try.checked os 7 .any (Rows.slotTellsSpec.pre6 enc Try.prog Try.f7 Rows.slotTellsRow.domain false) (Rows.slotTellsSpec.post enc Try.prog Try.f7 false true false false) := by
  refine returnsInHanded_of_change (C := Try.checked) own started (by kernel_rfl) Try.func7
    (ChangeSpec.witness6 (enc := enc) (C := Try.checked) false ⟨#[], #[.agg sl0.toArray, .agg sl0.toArray, i0, .agg bt0.toArray, .agg ct0.toArray], []⟩ 8 (by kernel_rfl) (by kernel_rfl) (by kernel_rfl) (by kernel_rfl)) ?_
  intro W base args ds gs before hval0 hW hcnd _
  have hval : ∀ (j : Nat) t v, Try.f7.params[j]? = some t → args[j]? = some v → Value.okWide Try.prog W .any base t v := hval0
  have hW' := hW
  obtain ⟨p, q, hA0, hV, rfl, hfz, hnd⟩ := hW
  have hA : DataW.TrodAll enc Try.prog W 0 (fun _ => true) true Try.f7.params.toList args.toList ds p := hA0
  rw [Try.params7] at hA hval
  obtain ⟨v0, vs0, d0, ds0, p0, q0, hargs, rfl, rfl, h0, r0⟩ := trodAll_cons hA
  obtain ⟨v1, vs1, d1, ds1, p1, q1, rfl, rfl, rfl, h1, r1⟩ := trodAll_cons r0
  obtain ⟨v2, vs2, d2, ds2, p2, q2, rfl, rfl, rfl, h2, r2⟩ := trodAll_cons r1
  obtain ⟨v3, vs3, d3, ds3, p3, q3, rfl, rfl, rfl, h3, r3⟩ := trodAll_cons r2
  obtain ⟨v4, vs4, d4, ds4, p4, q4, rfl, rfl, rfl, h4, r4⟩ := trodAll_cons r3
  obtain ⟨rfl, rfl, rfl⟩ := trodAll_nil r4
  obtain rfl : args = #[v0, v1, v2, v3, v4] := by cases args; simp_all
  obtain ⟨c0, rfl, k0⟩ := arg_struct Try.underlying42 (hval 0 _ _ rfl rfl) h0
  obtain ⟨c1, rfl, k1⟩ := arg_struct Try.underlying42 (hval 1 _ _ rfl rfl) h1
  have k2 := arg_cell Try.underlying3 rfl (hval 2 _ _ rfl rfl) h2
  obtain ⟨c3, rfl, k3⟩ := arg_struct Try.underlying26 (hval 3 _ _ rfl rfl) h3
  obtain ⟨c4, rfl, k4⟩ := arg_struct Try.underlying33 (hval 4 _ _ rfl rfl) h4
  obtain ⟨s, rfl, hs⟩ := cs_Slot k0
  obtain ⟨o, rfl, ho⟩ := cs_Slot k1
  obtain ⟨n, hn, _⟩ := k2.int Try.underlying3
  obtain rfl := List.singleton_inj.1 hn
  obtain ⟨b, rfl, hb⟩ := cs_Batch k3
  obtain ⟨c, rfl, hc⟩ := cs_Cert k4
  refine (c_SlotTells s o n b c W hs ho hb hc).mono fun e W' he => ?_
  obtain ⟨v, L, rfl, hH, rfl, rfl⟩ := he
  exact ⟨_, rfl, post_true laidOut (by kernel_rfl) rfl Try.underlying4 rfl (fun ds h => match ds, h with | [_, _, _, _, _], _ => rfl) hW' hH.ext⟩
theorem slotTells_holds : Rows.SlotTellsSaid :=
  OpenClaim.holds_of_wide 7 Try.f7 rfl rfl rfl rfl rfl rfl rfl ⟨rfl, rfl, rfl, rfl, rfl⟩ rfl rfl rfl rfl rfl (by kernel_rfl) Try.func7 (by kernel_rfl)
    (of_decide_eq_true (by kernel_rfl)) (by unfold Func.isWrapper; first | (rw [if_pos (by decide +kernel)]; kernel_rfl) | (rw [if_neg (by decide +kernel)]; exact ⟨rfl, rfl⟩))
    (fun os started H enc _ => slotTells_lifted os started H enc)
end Go.Proofs.Ytdgmkbjopcopcaa
