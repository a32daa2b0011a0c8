/-
  No cell of these rows narrows 'for every input' (looked for: loops, veiled, ifaces, maps, wideKeys, modest, calm, conditions, laid).
  DERIVED. THE GIVEN ROWS OF THIS SEAT. 11 by the template 'for every input the law returns true; each argument reads behind the call as it read before'; 0 by the template 'total and deterministic' (their statements: YtdgmkbjopcopcaaTotals.lean).
  GIVEN WITH THE SEED: the statements are not yours to turn. If you find one false, say at which input.
  Laid BY PROGRAM, IN A SANDBOX (cutbox-rows.mjs): the forced cells as the released guide's own fill.sh prints them over the translation d6e968df7c91bc18… (all of the seat's roots in one cut). By AI agents, Wed Nov 11 2026. No macro, syntax, notation, axiom, sorry.
-/
import Derived.Test.YtdgmkbjopcopcaaChecked
import GoSem.Claim
import GoSem.ClaimJoined
import GoSem.ClaimMapViews
import Derived.JoinedTies
import Derived.KernelRfl
namespace Go.Proofs.Ytdgmkbjopcopcaa
/- THE CELL 'sum', in the pinned program and in every row, IS THE sha256 OF THE DUMP (.gsa) THAT YtdgmkbjopcopcaaProg.lean LOADS. Nothing in Lean hashes anything: it is a label: what it is worth is what the hold of that sum in a sandbox is worth. -/
noncomputable def Try.pinned : Pinned := { name := "ytdgmkbjopcopcaa", sum := "d6e968df7c91bc181e71c3814157521185a8911e002d4fa0d3276ded670cf0b4", checked := Try.checked }
namespace Rows
def none {H : Type} : Left H := { results := [], args := [] }

/-- 'raddlelaw18.SlotOnce': WHATEVER THE INPUT: true; the input reads as it did. -/
def slotOnceSpec : ChangeSpec := { name := "slotOnce", fn := fun _ => fun
  | [d] => { results := [.lit (.bool true)], args := [d] }
  | _ => none }
def slotOnceRow : OpenClaim := { program := "ytdgmkbjopcopcaa", sum := "d6e968df7c91bc181e71c3814157521185a8911e002d4fa0d3276ded670cf0b4", func := "raddle/raddlelaw18.SlotOnce", spec := "slotOnce", unfollowed := true, recurses := true, plainKeys := false, apart := false }
def SlotOnceSaid : Prop := slotOnceRow.holds Try.pinned (OpenSpec.ofChange slotOnceSpec)

/-- ITS FALSE NEIGHBOUR: 'it returns false'. Refute it at one input. -/
def slotOnceWrong : ChangeSpec := { name := "slotOnce", fn := fun _ => fun
  | [d] => { results := [.lit (.bool false)], args := [d] }
  | _ => none }
def SlotOnceWrongFalsely : Prop := slotOnceRow.holds Try.pinned (OpenSpec.ofChange slotOnceWrong)

/-- 'raddlelaw18.SlotDecides': WHATEVER THE INPUT: true; the input reads as it did. -/
def slotDecidesSpec : ChangeSpec := { name := "slotDecides", fn := fun _ => fun
  | [d1, d2, d3, d4] => { results := [.lit (.bool true)], args := [d1, d2, d3, d4] }
  | _ => none }
def slotDecidesRow : OpenClaim := { program := "ytdgmkbjopcopcaa", sum := "d6e968df7c91bc181e71c3814157521185a8911e002d4fa0d3276ded670cf0b4", func := "raddle/raddlelaw18.SlotDecides", spec := "slotDecides", unfollowed := true, recurses := true, plainKeys := false, apart := false }
def SlotDecidesSaid : Prop := slotDecidesRow.holds Try.pinned (OpenSpec.ofChange slotDecidesSpec)

/-- ITS FALSE NEIGHBOUR: 'it returns false'. Refute it at one input. -/
def slotDecidesWrong : ChangeSpec := { name := "slotDecides", fn := fun _ => fun
  | [d1, d2, d3, d4] => { results := [.lit (.bool false)], args := [d1, d2, d3, d4] }
  | _ => none }
def SlotDecidesWrongFalsely : Prop := slotDecidesRow.holds Try.pinned (OpenSpec.ofChange slotDecidesWrong)

/-- 'raddlelaw06.RequestMakes': WHATEVER THE INPUT: true; the input reads as it did. -/
def requestMakesSpec : ChangeSpec := { name := "requestMakes", fn := fun _ => fun
  | [d] => { results := [.lit (.bool true)], args := [d] }
  | _ => none }
def requestMakesRow : OpenClaim := { program := "ytdgmkbjopcopcaa", sum := "d6e968df7c91bc181e71c3814157521185a8911e002d4fa0d3276ded670cf0b4", func := "raddle/raddlelaw06.RequestMakes", spec := "requestMakes", unfollowed := true, recurses := true, plainKeys := false, apart := false }
def RequestMakesSaid : Prop := requestMakesRow.holds Try.pinned (OpenSpec.ofChange requestMakesSpec)

/-- ITS FALSE NEIGHBOUR: 'it returns false'. Refute it at one input. -/
def requestMakesWrong : ChangeSpec := { name := "requestMakes", fn := fun _ => fun
  | [d] => { results := [.lit (.bool false)], args := [d] }
  | _ => none }
def RequestMakesWrongFalsely : Prop := requestMakesRow.holds Try.pinned (OpenSpec.ofChange requestMakesWrong)

/-- 'raddlelaw06.RequestMade': WHATEVER THE INPUT: true; the input reads as it did. -/
def requestMadeSpec : ChangeSpec := { name := "requestMade", fn := fun _ => fun
  | [d1, d2, d3] => { results := [.lit (.bool true)], args := [d1, d2, d3] }
  | _ => none }
def requestMadeRow : OpenClaim := { program := "ytdgmkbjopcopcaa", sum := "d6e968df7c91bc181e71c3814157521185a8911e002d4fa0d3276ded670cf0b4", func := "raddle/raddlelaw06.RequestMade", spec := "requestMade", unfollowed := true, recurses := true, plainKeys := false, apart := false }
def RequestMadeSaid : Prop := requestMadeRow.holds Try.pinned (OpenSpec.ofChange requestMadeSpec)

/-- ITS FALSE NEIGHBOUR: 'it returns false'. Refute it at one input. -/
def requestMadeWrong : ChangeSpec := { name := "requestMade", fn := fun _ => fun
  | [d1, d2, d3] => { results := [.lit (.bool false)], args := [d1, d2, d3] }
  | _ => none }
def RequestMadeWrongFalsely : Prop := requestMadeRow.holds Try.pinned (OpenSpec.ofChange requestMadeWrong)

/-- 'raddlelaw18.SlotTells': WHATEVER THE INPUT: true; the input reads as it did. -/
def slotTellsSpec : ChangeSpec := { name := "slotTells", fn := fun _ => fun
  | [d1, d2, d3, d4, d5] => { results := [.lit (.bool true)], args := [d1, d2, d3, d4, d5] }
  | _ => none }
def slotTellsRow : OpenClaim := { program := "ytdgmkbjopcopcaa", sum := "d6e968df7c91bc181e71c3814157521185a8911e002d4fa0d3276ded670cf0b4", func := "raddle/raddlelaw18.SlotTells", spec := "slotTells", unfollowed := true, recurses := true, plainKeys := false, apart := false }
def SlotTellsSaid : Prop := slotTellsRow.holds Try.pinned (OpenSpec.ofChange slotTellsSpec)

/-- ITS FALSE NEIGHBOUR: 'it returns false'. Refute it at one input. -/
def slotTellsWrong : ChangeSpec := { name := "slotTells", fn := fun _ => fun
  | [d1, d2, d3, d4, d5] => { results := [.lit (.bool false)], args := [d1, d2, d3, d4, d5] }
  | _ => none }
def SlotTellsWrongFalsely : Prop := slotTellsRow.holds Try.pinned (OpenSpec.ofChange slotTellsWrong)

/-- 'raddlelaw06.RequestChecks': WHATEVER THE INPUT: true; the input reads as it did. -/
def requestChecksSpec : ChangeSpec := { name := "requestChecks", fn := fun _ => fun
  | [d1, d2, d3] => { results := [.lit (.bool true)], args := [d1, d2, d3] }
  | _ => none }
def requestChecksRow : OpenClaim := { program := "ytdgmkbjopcopcaa", sum := "d6e968df7c91bc181e71c3814157521185a8911e002d4fa0d3276ded670cf0b4", func := "raddle/raddlelaw06.RequestChecks", spec := "requestChecks", unfollowed := true, recurses := true, plainKeys := false, apart := false }
def RequestChecksSaid : Prop := requestChecksRow.holds Try.pinned (OpenSpec.ofChange requestChecksSpec)

/-- ITS FALSE NEIGHBOUR: 'it returns false'. Refute it at one input. -/
def requestChecksWrong : ChangeSpec := { name := "requestChecks", fn := fun _ => fun
  | [d1, d2, d3] => { results := [.lit (.bool false)], args := [d1, d2, d3] }
  | _ => none }
def RequestChecksWrongFalsely : Prop := requestChecksRow.holds Try.pinned (OpenSpec.ofChange requestChecksWrong)

/-- 'raddlelaw07.BatchOnce': WHATEVER THE INPUT: true; the input reads as it did. -/
def batchOnceSpec : ChangeSpec := { name := "batchOnce", fn := fun _ => fun
  | [d1, d2] => { results := [.lit (.bool true)], args := [d1, d2] }
  | _ => none }
def batchOnceRow : OpenClaim := { program := "ytdgmkbjopcopcaa", sum := "d6e968df7c91bc181e71c3814157521185a8911e002d4fa0d3276ded670cf0b4", func := "raddle/raddlelaw07.BatchOnce", spec := "batchOnce", unfollowed := true, recurses := true, plainKeys := false, apart := false }
def BatchOnceSaid : Prop := batchOnceRow.holds Try.pinned (OpenSpec.ofChange batchOnceSpec)

/-- ITS FALSE NEIGHBOUR: 'it returns false'. Refute it at one input. -/
def batchOnceWrong : ChangeSpec := { name := "batchOnce", fn := fun _ => fun
  | [d1, d2] => { results := [.lit (.bool false)], args := [d1, d2] }
  | _ => none }
def BatchOnceWrongFalsely : Prop := batchOnceRow.holds Try.pinned (OpenSpec.ofChange batchOnceWrong)

/-- 'raddlelaw07.BatchChecks': WHATEVER THE INPUT: true; the input reads as it did. -/
def batchChecksSpec : ChangeSpec := { name := "batchChecks", fn := fun _ => fun
  | [d1, d2, d3] => { results := [.lit (.bool true)], args := [d1, d2, d3] }
  | _ => none }
def batchChecksRow : OpenClaim := { program := "ytdgmkbjopcopcaa", sum := "d6e968df7c91bc181e71c3814157521185a8911e002d4fa0d3276ded670cf0b4", func := "raddle/raddlelaw07.BatchChecks", spec := "batchChecks", unfollowed := true, recurses := true, plainKeys := false, apart := false }
def BatchChecksSaid : Prop := batchChecksRow.holds Try.pinned (OpenSpec.ofChange batchChecksSpec)

/-- ITS FALSE NEIGHBOUR: 'it returns false'. Refute it at one input. -/
def batchChecksWrong : ChangeSpec := { name := "batchChecks", fn := fun _ => fun
  | [d1, d2, d3] => { results := [.lit (.bool false)], args := [d1, d2, d3] }
  | _ => none }
def BatchChecksWrongFalsely : Prop := batchChecksRow.holds Try.pinned (OpenSpec.ofChange batchChecksWrong)

/-- 'raddlelaw07.BatchReads': WHATEVER THE INPUT: true; the input reads as it did. -/
def batchReadsSpec : ChangeSpec := { name := "batchReads", fn := fun _ => fun
  | [d1, d2] => { results := [.lit (.bool true)], args := [d1, d2] }
  | _ => none }
def batchReadsRow : OpenClaim := { program := "ytdgmkbjopcopcaa", sum := "d6e968df7c91bc181e71c3814157521185a8911e002d4fa0d3276ded670cf0b4", func := "raddle/raddlelaw07.BatchReads", spec := "batchReads", unfollowed := true, recurses := true, plainKeys := false, apart := false }
def BatchReadsSaid : Prop := batchReadsRow.holds Try.pinned (OpenSpec.ofChange batchReadsSpec)

/-- ITS FALSE NEIGHBOUR: 'it returns false'. Refute it at one input. -/
def batchReadsWrong : ChangeSpec := { name := "batchReads", fn := fun _ => fun
  | [d1, d2] => { results := [.lit (.bool false)], args := [d1, d2] }
  | _ => none }
def BatchReadsWrongFalsely : Prop := batchReadsRow.holds Try.pinned (OpenSpec.ofChange batchReadsWrong)

/-- 'raddlelaw07.BatchBack': WHATEVER THE INPUT: true; the input reads as it did. -/
def batchBackSpec : ChangeSpec := { name := "batchBack", fn := fun _ => fun
  | [d1, d2] => { results := [.lit (.bool true)], args := [d1, d2] }
  | _ => none }
def batchBackRow : OpenClaim := { program := "ytdgmkbjopcopcaa", sum := "d6e968df7c91bc181e71c3814157521185a8911e002d4fa0d3276ded670cf0b4", func := "raddle/raddlelaw07.BatchBack", spec := "batchBack", unfollowed := true, recurses := true, plainKeys := false, apart := false }
def BatchBackSaid : Prop := batchBackRow.holds Try.pinned (OpenSpec.ofChange batchBackSpec)

/-- ITS FALSE NEIGHBOUR: 'it returns false'. Refute it at one input. -/
def batchBackWrong : ChangeSpec := { name := "batchBack", fn := fun _ => fun
  | [d1, d2] => { results := [.lit (.bool false)], args := [d1, d2] }
  | _ => none }
def BatchBackWrongFalsely : Prop := batchBackRow.holds Try.pinned (OpenSpec.ofChange batchBackWrong)

/-- 'raddlelaw06.RequestBack': WHATEVER THE INPUT: true; the input reads as it did. -/
def requestBackSpec : ChangeSpec := { name := "requestBack", fn := fun _ => fun
  | [d1, d2] => { results := [.lit (.bool true)], args := [d1, d2] }
  | _ => none }
def requestBackRow : OpenClaim := { program := "ytdgmkbjopcopcaa", sum := "d6e968df7c91bc181e71c3814157521185a8911e002d4fa0d3276ded670cf0b4", func := "raddle/raddlelaw06.RequestBack", spec := "requestBack", unfollowed := true, recurses := true, plainKeys := false, apart := false }
def RequestBackSaid : Prop := requestBackRow.holds Try.pinned (OpenSpec.ofChange requestBackSpec)

/-- ITS FALSE NEIGHBOUR: 'it returns false'. Refute it at one input. -/
def requestBackWrong : ChangeSpec := { name := "requestBack", fn := fun _ => fun
  | [d1, d2] => { results := [.lit (.bool false)], args := [d1, d2] }
  | _ => none }
def RequestBackWrongFalsely : Prop := requestBackRow.holds Try.pinned (OpenSpec.ofChange requestBackWrong)

/- THE SECOND FORM. 'bulk': how many values and letters a reading holds, each counted each time it is reached (what is shared counts as often as it is met; a slice's spare places count too). A statement '..UptoSaid' is the law's where the arguments, and the package variables that the reading takes, are together of bulk at most 1048576: NARROWER than '..Said'. Prove '..Said' where nothing that the law and all that it calls make is longer than what came in: it says more and counts as full. Else prove '..UptoSaid'. A law counts once. -/
mutual
def uptoBulk {H : Type} : DataW H → Nat
  | .lit (.string bytes) => bytes.length + 1
  | .lit _ => 1
  | .nil => 1
  | .ptr d => uptoBulk d + 1
  | .slice elems spare => uptoBulkAll elems + uptoBulkAll spare + 1
  | .agg parts => uptoBulkAll parts + 1
  | .iface _ d => uptoBulk d + 1
  | .map entries => uptoBulkEntries entries + 1
  | .held _ => 1
def uptoBulkAll {H : Type} : List (DataW H) → Nat
  | [] => 0
  | d :: r => uptoBulk d + uptoBulkAll r
def uptoBulkEntries {H : Type} : List (Lit × DataW H) → Nat
  | [] => 0
  | x :: r => uptoBulkEntry x + uptoBulkEntries r
def uptoBulkEntry {H : Type} : Lit × DataW H → Nat
  | (.string bytes, d) => bytes.length + uptoBulk d + 1
  | (_, d) => uptoBulk d + 1
 end
def uptoSmall : (H : Type) → List (DataW H) → Bool := fun _ ds => decide (uptoBulkAll ds ≤ 1048576)
def OpenSpec.upto (s : _root_.Go.ChangeSpec) : _root_.Go.OpenSpec := { _root_.Go.OpenSpec.ofChange s with cond := some uptoSmall }

/-- 'raddlelaw18.SlotOnce', WHERE WHAT IT READS IS OF BULK AT MOST 1048576: true; the input reads as it did. -/
def slotOnceUptoRow : OpenClaim := { program := "ytdgmkbjopcopcaa", sum := "d6e968df7c91bc181e71c3814157521185a8911e002d4fa0d3276ded670cf0b4", func := "raddle/raddlelaw18.SlotOnce", spec := "slotOnce", unfollowed := true, recurses := true, plainKeys := false, apart := false, narrowed := true }
def SlotOnceUptoSaid : Prop := slotOnceUptoRow.holds Try.pinned (OpenSpec.upto slotOnceSpec)

/-- 'raddlelaw18.SlotDecides', WHERE WHAT IT READS IS OF BULK AT MOST 1048576: true; the input reads as it did. -/
def slotDecidesUptoRow : OpenClaim := { program := "ytdgmkbjopcopcaa", sum := "d6e968df7c91bc181e71c3814157521185a8911e002d4fa0d3276ded670cf0b4", func := "raddle/raddlelaw18.SlotDecides", spec := "slotDecides", unfollowed := true, recurses := true, plainKeys := false, apart := false, narrowed := true }
def SlotDecidesUptoSaid : Prop := slotDecidesUptoRow.holds Try.pinned (OpenSpec.upto slotDecidesSpec)

/-- 'raddlelaw06.RequestMakes', WHERE WHAT IT READS IS OF BULK AT MOST 1048576: true; the input reads as it did. -/
def requestMakesUptoRow : OpenClaim := { program := "ytdgmkbjopcopcaa", sum := "d6e968df7c91bc181e71c3814157521185a8911e002d4fa0d3276ded670cf0b4", func := "raddle/raddlelaw06.RequestMakes", spec := "requestMakes", unfollowed := true, recurses := true, plainKeys := false, apart := false, narrowed := true }
def RequestMakesUptoSaid : Prop := requestMakesUptoRow.holds Try.pinned (OpenSpec.upto requestMakesSpec)

/-- 'raddlelaw06.RequestMade', WHERE WHAT IT READS IS OF BULK AT MOST 1048576: true; the input reads as it did. -/
def requestMadeUptoRow : OpenClaim := { program := "ytdgmkbjopcopcaa", sum := "d6e968df7c91bc181e71c3814157521185a8911e002d4fa0d3276ded670cf0b4", func := "raddle/raddlelaw06.RequestMade", spec := "requestMade", unfollowed := true, recurses := true, plainKeys := false, apart := false, narrowed := true }
def RequestMadeUptoSaid : Prop := requestMadeUptoRow.holds Try.pinned (OpenSpec.upto requestMadeSpec)

/-- 'raddlelaw18.SlotTells', WHERE WHAT IT READS IS OF BULK AT MOST 1048576: true; the input reads as it did. -/
def slotTellsUptoRow : OpenClaim := { program := "ytdgmkbjopcopcaa", sum := "d6e968df7c91bc181e71c3814157521185a8911e002d4fa0d3276ded670cf0b4", func := "raddle/raddlelaw18.SlotTells", spec := "slotTells", unfollowed := true, recurses := true, plainKeys := false, apart := false, narrowed := true }
def SlotTellsUptoSaid : Prop := slotTellsUptoRow.holds Try.pinned (OpenSpec.upto slotTellsSpec)

/-- 'raddlelaw06.RequestChecks', WHERE WHAT IT READS IS OF BULK AT MOST 1048576: true; the input reads as it did. -/
def requestChecksUptoRow : OpenClaim := { program := "ytdgmkbjopcopcaa", sum := "d6e968df7c91bc181e71c3814157521185a8911e002d4fa0d3276ded670cf0b4", func := "raddle/raddlelaw06.RequestChecks", spec := "requestChecks", unfollowed := true, recurses := true, plainKeys := false, apart := false, narrowed := true }
def RequestChecksUptoSaid : Prop := requestChecksUptoRow.holds Try.pinned (OpenSpec.upto requestChecksSpec)

/-- 'raddlelaw07.BatchOnce', WHERE WHAT IT READS IS OF BULK AT MOST 1048576: true; the input reads as it did. -/
def batchOnceUptoRow : OpenClaim := { program := "ytdgmkbjopcopcaa", sum := "d6e968df7c91bc181e71c3814157521185a8911e002d4fa0d3276ded670cf0b4", func := "raddle/raddlelaw07.BatchOnce", spec := "batchOnce", unfollowed := true, recurses := true, plainKeys := false, apart := false, narrowed := true }
def BatchOnceUptoSaid : Prop := batchOnceUptoRow.holds Try.pinned (OpenSpec.upto batchOnceSpec)

/-- 'raddlelaw07.BatchChecks', WHERE WHAT IT READS IS OF BULK AT MOST 1048576: true; the input reads as it did. -/
def batchChecksUptoRow : OpenClaim := { program := "ytdgmkbjopcopcaa", sum := "d6e968df7c91bc181e71c3814157521185a8911e002d4fa0d3276ded670cf0b4", func := "raddle/raddlelaw07.BatchChecks", spec := "batchChecks", unfollowed := true, recurses := true, plainKeys := false, apart := false, narrowed := true }
def BatchChecksUptoSaid : Prop := batchChecksUptoRow.holds Try.pinned (OpenSpec.upto batchChecksSpec)

/-- 'raddlelaw07.BatchReads', WHERE WHAT IT READS IS OF BULK AT MOST 1048576: true; the input reads as it did. -/
def batchReadsUptoRow : OpenClaim := { program := "ytdgmkbjopcopcaa", sum := "d6e968df7c91bc181e71c3814157521185a8911e002d4fa0d3276ded670cf0b4", func := "raddle/raddlelaw07.BatchReads", spec := "batchReads", unfollowed := true, recurses := true, plainKeys := false, apart := false, narrowed := true }
def BatchReadsUptoSaid : Prop := batchReadsUptoRow.holds Try.pinned (OpenSpec.upto batchReadsSpec)

/-- 'raddlelaw07.BatchBack', WHERE WHAT IT READS IS OF BULK AT MOST 1048576: true; the input reads as it did. -/
def batchBackUptoRow : OpenClaim := { program := "ytdgmkbjopcopcaa", sum := "d6e968df7c91bc181e71c3814157521185a8911e002d4fa0d3276ded670cf0b4", func := "raddle/raddlelaw07.BatchBack", spec := "batchBack", unfollowed := true, recurses := true, plainKeys := false, apart := false, narrowed := true }
def BatchBackUptoSaid : Prop := batchBackUptoRow.holds Try.pinned (OpenSpec.upto batchBackSpec)

/-- 'raddlelaw06.RequestBack', WHERE WHAT IT READS IS OF BULK AT MOST 1048576: true; the input reads as it did. -/
def requestBackUptoRow : OpenClaim := { program := "ytdgmkbjopcopcaa", sum := "d6e968df7c91bc181e71c3814157521185a8911e002d4fa0d3276ded670cf0b4", func := "raddle/raddlelaw06.RequestBack", spec := "requestBack", unfollowed := true, recurses := true, plainKeys := false, apart := false, narrowed := true }
def RequestBackUptoSaid : Prop := requestBackUptoRow.holds Try.pinned (OpenSpec.upto requestBackSpec)

end Rows
end Go.Proofs.Ytdgmkbjopcopcaa
