/- What all rows need: how an argument is opened; zeros. Printed by rows.py. Own work. -/
import Derived.Test.YtdgmkbjopcopcaaOpn
import Derived.Test.YtdgmkbjopcopcaaOpb
set_option linter.unusedVariables false
set_option linter.unusedSimpArgs false
set_option maxRecDepth 100000
namespace Go.Proofs.Ytdgmkbjopcopcaa
open Go.ChangeShapes Go.WideShapes Go.ChangeAt Go.RowKit
theorem own : ownKnob Try.prog.godebug = none := by kernel_rfl
theorem laidOut : laidOutB Try.prog = true := by kernel_rfl
theorem arg_struct {w : World} {t : TypeId} {r : Reach} {b0 : Nat} {v : Value} {fs : Array Field} {H : Type} {enc : TypeId × Value → H} {sp : Nat → Bool} {d : DataW H} {ps : List MemPlace} (ht : Try.prog.underlying t = some (.struct fs)) (hv : Value.okWide Try.prog w r b0 t v) (hd : DataW.Trod enc Try.prog w 0 sp true t v d ps) : ∃ cs : List Value, v = .agg cs.toArray ∧ Cs Try.prog w t cs := by
  obtain ⟨cs, rfl⟩ := arg_agg ht hv
  exact ⟨cs, rfl, by simpa [Value.cells] using Cs.of hd⟩
theorem arg_cell {w : World} {t : TypeId} {r : Reach} {b0 : Nat} {v : Value} {u : TypeDesc} {H : Type} {enc : TypeId × Value → H} {sp : Nat → Bool} {d : DataW H} {ps : List MemPlace} (ht : Try.prog.underlying t = some u) (hu : plainDesc u = true) (hv : Value.okWide Try.prog w r b0 t v) (hd : DataW.Trod enc Try.prog w 0 sp true t v d ps) : Cs Try.prog w t [v] := by
  have := Cs.of hd
  rwa [arg_one ht hu hv] at this
abbrev i0 : Value := .int .i64 0
def dg0 : List Value := List.replicate 32 (.int .u8 0)
def tg0 : List Value := List.replicate 16 (.int .u8 0)
def vt0 : List Value := [i0, i0, i0, i0] ++ dg0
def ct0 : List Value := vt0 ++ [.slice none 0 0]
def bt0 : List Value := [.bool false, .slice none 0 0]
def rq0 : List Value := [i0, i0, .string ByteArray.empty] ++ tg0
def ak0 : List Value := [i0, i0, i0, i0, .string ByteArray.empty]
def sl0 : List Value := [i0] ++ bt0 ++ [.bool false] ++ bt0 ++ ct0 ++ [.bool false] ++ [i0] ++ bt0 ++ ct0 ++ [.bool false]
end Go.Proofs.Ytdgmkbjopcopcaa
