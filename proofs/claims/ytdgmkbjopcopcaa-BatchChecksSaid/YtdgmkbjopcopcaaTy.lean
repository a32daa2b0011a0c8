/- Facts on the types and functions of this seat, printed by a tool of our own. -/
import Derived.Test.YtdgmkbjopcopcaaProg
import Derived.Test.YtdgmkbjopcopcaaEngf
import Derived.KernelRfl
set_option linter.unusedVariables false
namespace Go.Proofs.Ytdgmkbjopcopcaa
open Go.Proofs
theorem siz3 : Siz Try.prog 3 1 := siz_of (by kernel_rfl)
theorem one3 : One Try.prog 3 := one_of Try.underlying3 rfl
theorem zer3 : Zer Try.prog 3 [.int .i64 0] := zer_of (z := .int .i64 0) (by kernel_rfl) rfl
theorem inf3 : (Try.prog.info? 3).map (fun i => (i.zero, i.size, i.bytes)) = some (some (.int .i64 0), 1, 8) := by kernel_rfl
theorem siz4 : Siz Try.prog 4 1 := siz_of (by kernel_rfl)
theorem one4 : One Try.prog 4 := one_of Try.underlying4 rfl
theorem zer4 : Zer Try.prog 4 [.bool false] := zer_of (z := .bool false) (by kernel_rfl) rfl
theorem inf4 : (Try.prog.info? 4).map (fun i => (i.zero, i.size, i.bytes)) = some (some (.bool false), 1, 1) := by kernel_rfl
theorem siz5 : Siz Try.prog 5 1 := siz_of (by kernel_rfl)
theorem one5 : One Try.prog 5 := one_of Try.underlying5 rfl
theorem zer5 : Zer Try.prog 5 [.int .u8 0] := zer_of (z := .int .u8 0) (by kernel_rfl) rfl
theorem inf5 : (Try.prog.info? 5).map (fun i => (i.zero, i.size, i.bytes)) = some (some (.int .u8 0), 1, 1) := by kernel_rfl
theorem siz9 : Siz Try.prog 9 1 := siz_of (by kernel_rfl)
theorem one9 : One Try.prog 9 := one_of Try.underlying9 rfl
theorem zer9 : Zer Try.prog 9 [.string ByteArray.empty] := zer_of (z := .string ByteArray.empty) (by kernel_rfl) rfl
theorem inf9 : (Try.prog.info? 9).map (fun i => (i.zero, i.size, i.bytes)) = some (some (.string ByteArray.empty), 1, 16) := by kernel_rfl
theorem siz22 : Siz Try.prog 22 1 := siz_of (by kernel_rfl)
theorem one22 : One Try.prog 22 := one_of Try.underlying22 rfl
theorem zer22 : Zer Try.prog 22 [.slice none 0 0] := zer_of (z := .slice none 0 0) (by kernel_rfl) rfl
theorem inf22 : (Try.prog.info? 22).map (fun i => (i.zero, i.size, i.bytes)) = some (some (.slice none 0 0), 1, 24) := by kernel_rfl
theorem siz24 : Siz Try.prog 24 1 := siz_of (by kernel_rfl)
theorem one24 : One Try.prog 24 := one_of Try.underlying24 rfl
theorem zer24 : Zer Try.prog 24 [.slice none 0 0] := zer_of (z := .slice none 0 0) (by kernel_rfl) rfl
theorem inf24 : (Try.prog.info? 24).map (fun i => (i.zero, i.size, i.bytes)) = some (some (.slice none 0 0), 1, 24) := by kernel_rfl
theorem siz26 : Siz Try.prog 26 2 := siz_of (by kernel_rfl)
theorem agg26 : AggOf Try.prog 26 2 := agg_of Try.underlying26 rfl (by kernel_rfl)
theorem zer26 : Zer Try.prog 26 [.bool false, .slice none 0 0] := zer_of (z := .agg #[.bool false, .slice none 0 0]) (by kernel_rfl) rfl
theorem inf26 : (Try.prog.info? 26).map (fun i => (i.zero, i.size, i.bytes)) = some (some (.agg #[.bool false, .slice none 0 0]), 2, 32) := by kernel_rfl
theorem siz28 : Siz Try.prog 28 32 := siz_of (by kernel_rfl)
theorem agg28 : AggOf Try.prog 28 32 := agg_of Try.underlying28 rfl (by kernel_rfl)
theorem zer28 : Zer Try.prog 28 [.int .u8 0, .int .u8 0, .int .u8 0, .int .u8 0, .int .u8 0, .int .u8 0, .int .u8 0, .int .u8 0, .int .u8 0, .int .u8 0, .int .u8 0, .int .u8 0, .int .u8 0, .int .u8 0, .int .u8 0, .int .u8 0, .int .u8 0, .int .u8 0, .int .u8 0, .int .u8 0, .int .u8 0, .int .u8 0, .int .u8 0, .int .u8 0, .int .u8 0, .int .u8 0, .int .u8 0, .int .u8 0, .int .u8 0, .int .u8 0, .int .u8 0, .int .u8 0] := zer_of (z := .agg #[.int .u8 0, .int .u8 0, .int .u8 0, .int .u8 0, .int .u8 0, .int .u8 0, .int .u8 0, .int .u8 0, .int .u8 0, .int .u8 0, .int .u8 0, .int .u8 0, .int .u8 0, .int .u8 0, .int .u8 0, .int .u8 0, .int .u8 0, .int .u8 0, .int .u8 0, .int .u8 0, .int .u8 0, .int .u8 0, .int .u8 0, .int .u8 0, .int .u8 0, .int .u8 0, .int .u8 0, .int .u8 0, .int .u8 0, .int .u8 0, .int .u8 0, .int .u8 0]) (by kernel_rfl) rfl
theorem inf28 : (Try.prog.info? 28).map (fun i => (i.zero, i.size, i.bytes)) = some (some (.agg #[.int .u8 0, .int .u8 0, .int .u8 0, .int .u8 0, .int .u8 0, .int .u8 0, .int .u8 0, .int .u8 0, .int .u8 0, .int .u8 0, .int .u8 0, .int .u8 0, .int .u8 0, .int .u8 0, .int .u8 0, .int .u8 0, .int .u8 0, .int .u8 0, .int .u8 0, .int .u8 0, .int .u8 0, .int .u8 0, .int .u8 0, .int .u8 0, .int .u8 0, .int .u8 0, .int .u8 0, .int .u8 0, .int .u8 0, .int .u8 0, .int .u8 0, .int .u8 0]), 32, 32) := by kernel_rfl
theorem siz30 : Siz Try.prog 30 36 := siz_of (by kernel_rfl)
theorem agg30 : AggOf Try.prog 30 36 := agg_of Try.underlying30 rfl (by kernel_rfl)
theorem zer30 : Zer Try.prog 30 [.int .i64 0, .int .i64 0, .int .i64 0, .int .i64 0, .int .u8 0, .int .u8 0, .int .u8 0, .int .u8 0, .int .u8 0, .int .u8 0, .int .u8 0, .int .u8 0, .int .u8 0, .int .u8 0, .int .u8 0, .int .u8 0, .int .u8 0, .int .u8 0, .int .u8 0, .int .u8 0, .int .u8 0, .int .u8 0, .int .u8 0, .int .u8 0, .int .u8 0, .int .u8 0, .int .u8 0, .int .u8 0, .int .u8 0, .int .u8 0, .int .u8 0, .int .u8 0, .int .u8 0, .int .u8 0, .int .u8 0, .int .u8 0] := zer_of (z := .agg #[.int .i64 0, .int .i64 0, .int .i64 0, .int .i64 0, .int .u8 0, .int .u8 0, .int .u8 0, .int .u8 0, .int .u8 0, .int .u8 0, .int .u8 0, .int .u8 0, .int .u8 0, .int .u8 0, .int .u8 0, .int .u8 0, .int .u8 0, .int .u8 0, .int .u8 0, .int .u8 0, .int .u8 0, .int .u8 0, .int .u8 0, .int .u8 0, .int .u8 0, .int .u8 0, .int .u8 0, .int .u8 0, .int .u8 0, .int .u8 0, .int .u8 0, .int .u8 0, .int .u8 0, .int .u8 0, .int .u8 0, .int .u8 0]) (by kernel_rfl) rfl
theorem inf30 : (Try.prog.info? 30).map (fun i => (i.zero, i.size, i.bytes)) = some (some (.agg #[.int .i64 0, .int .i64 0, .int .i64 0, .int .i64 0, .int .u8 0, .int .u8 0, .int .u8 0, .int .u8 0, .int .u8 0, .int .u8 0, .int .u8 0, .int .u8 0, .int .u8 0, .int .u8 0, .int .u8 0, .int .u8 0, .int .u8 0, .int .u8 0, .int .u8 0, .int .u8 0, .int .u8 0, .int .u8 0, .int .u8 0, .int .u8 0, .int .u8 0, .int .u8 0, .int .u8 0, .int .u8 0, .int .u8 0, .int .u8 0, .int .u8 0, .int .u8 0, .int .u8 0, .int .u8 0, .int .u8 0, .int .u8 0]), 36, 64) := by kernel_rfl
theorem siz31 : Siz Try.prog 31 1 := siz_of (by kernel_rfl)
theorem one31 : One Try.prog 31 := one_of Try.underlying31 rfl
theorem zer31 : Zer Try.prog 31 [.slice none 0 0] := zer_of (z := .slice none 0 0) (by kernel_rfl) rfl
theorem inf31 : (Try.prog.info? 31).map (fun i => (i.zero, i.size, i.bytes)) = some (some (.slice none 0 0), 1, 24) := by kernel_rfl
theorem siz33 : Siz Try.prog 33 37 := siz_of (by kernel_rfl)
theorem agg33 : AggOf Try.prog 33 37 := agg_of Try.underlying33 rfl (by kernel_rfl)
theorem zer33 : Zer Try.prog 33 [.int .i64 0, .int .i64 0, .int .i64 0, .int .i64 0, .int .u8 0, .int .u8 0, .int .u8 0, .int .u8 0, .int .u8 0, .int .u8 0, .int .u8 0, .int .u8 0, .int .u8 0, .int .u8 0, .int .u8 0, .int .u8 0, .int .u8 0, .int .u8 0, .int .u8 0, .int .u8 0, .int .u8 0, .int .u8 0, .int .u8 0, .int .u8 0, .int .u8 0, .int .u8 0, .int .u8 0, .int .u8 0, .int .u8 0, .int .u8 0, .int .u8 0, .int .u8 0, .int .u8 0, .int .u8 0, .int .u8 0, .int .u8 0, .slice none 0 0] := zer_of (z := .agg #[.int .i64 0, .int .i64 0, .int .i64 0, .int .i64 0, .int .u8 0, .int .u8 0, .int .u8 0, .int .u8 0, .int .u8 0, .int .u8 0, .int .u8 0, .int .u8 0, .int .u8 0, .int .u8 0, .int .u8 0, .int .u8 0, .int .u8 0, .int .u8 0, .int .u8 0, .int .u8 0, .int .u8 0, .int .u8 0, .int .u8 0, .int .u8 0, .int .u8 0, .int .u8 0, .int .u8 0, .int .u8 0, .int .u8 0, .int .u8 0, .int .u8 0, .int .u8 0, .int .u8 0, .int .u8 0, .int .u8 0, .int .u8 0, .slice none 0 0]) (by kernel_rfl) rfl
theorem inf33 : (Try.prog.info? 33).map (fun i => (i.zero, i.size, i.bytes)) = some (some (.agg #[.int .i64 0, .int .i64 0, .int .i64 0, .int .i64 0, .int .u8 0, .int .u8 0, .int .u8 0, .int .u8 0, .int .u8 0, .int .u8 0, .int .u8 0, .int .u8 0, .int .u8 0, .int .u8 0, .int .u8 0, .int .u8 0, .int .u8 0, .int .u8 0, .int .u8 0, .int .u8 0, .int .u8 0, .int .u8 0, .int .u8 0, .int .u8 0, .int .u8 0, .int .u8 0, .int .u8 0, .int .u8 0, .int .u8 0, .int .u8 0, .int .u8 0, .int .u8 0, .int .u8 0, .int .u8 0, .int .u8 0, .int .u8 0, .slice none 0 0]), 37, 88) := by kernel_rfl
theorem siz35 : Siz Try.prog 35 41 := siz_of (by kernel_rfl)
theorem agg35 : AggOf Try.prog 35 41 := agg_of Try.underlying35 rfl (by kernel_rfl)
theorem zer35 : Zer Try.prog 35 [.int .i64 0, .int .i64 0, .bool false, .slice none 0 0, .int .i64 0, .int .i64 0, .int .i64 0, .int .i64 0, .int .u8 0, .int .u8 0, .int .u8 0, .int .u8 0, .int .u8 0, .int .u8 0, .int .u8 0, .int .u8 0, .int .u8 0, .int .u8 0, .int .u8 0, .int .u8 0, .int .u8 0, .int .u8 0, .int .u8 0, .int .u8 0, .int .u8 0, .int .u8 0, .int .u8 0, .int .u8 0, .int .u8 0, .int .u8 0, .int .u8 0, .int .u8 0, .int .u8 0, .int .u8 0, .int .u8 0, .int .u8 0, .int .u8 0, .int .u8 0, .int .u8 0, .int .u8 0, .slice none 0 0] := zer_of (z := .agg #[.int .i64 0, .int .i64 0, .bool false, .slice none 0 0, .int .i64 0, .int .i64 0, .int .i64 0, .int .i64 0, .int .u8 0, .int .u8 0, .int .u8 0, .int .u8 0, .int .u8 0, .int .u8 0, .int .u8 0, .int .u8 0, .int .u8 0, .int .u8 0, .int .u8 0, .int .u8 0, .int .u8 0, .int .u8 0, .int .u8 0, .int .u8 0, .int .u8 0, .int .u8 0, .int .u8 0, .int .u8 0, .int .u8 0, .int .u8 0, .int .u8 0, .int .u8 0, .int .u8 0, .int .u8 0, .int .u8 0, .int .u8 0, .int .u8 0, .int .u8 0, .int .u8 0, .int .u8 0, .slice none 0 0]) (by kernel_rfl) rfl
theorem inf35 : (Try.prog.info? 35).map (fun i => (i.zero, i.size, i.bytes)) = some (some (.agg #[.int .i64 0, .int .i64 0, .bool false, .slice none 0 0, .int .i64 0, .int .i64 0, .int .i64 0, .int .i64 0, .int .u8 0, .int .u8 0, .int .u8 0, .int .u8 0, .int .u8 0, .int .u8 0, .int .u8 0, .int .u8 0, .int .u8 0, .int .u8 0, .int .u8 0, .int .u8 0, .int .u8 0, .int .u8 0, .int .u8 0, .int .u8 0, .int .u8 0, .int .u8 0, .int .u8 0, .int .u8 0, .int .u8 0, .int .u8 0, .int .u8 0, .int .u8 0, .int .u8 0, .int .u8 0, .int .u8 0, .int .u8 0, .int .u8 0, .int .u8 0, .int .u8 0, .int .u8 0, .slice none 0 0]), 41, 136) := by kernel_rfl
theorem siz38 : Siz Try.prog 38 39 := siz_of (by kernel_rfl)
theorem agg38 : AggOf Try.prog 38 39 := agg_of Try.underlying38 rfl (by kernel_rfl)
theorem zer38 : Zer Try.prog 38 [.bool false, .slice none 0 0, .int .i64 0, .int .i64 0, .int .i64 0, .int .i64 0, .int .u8 0, .int .u8 0, .int .u8 0, .int .u8 0, .int .u8 0, .int .u8 0, .int .u8 0, .int .u8 0, .int .u8 0, .int .u8 0, .int .u8 0, .int .u8 0, .int .u8 0, .int .u8 0, .int .u8 0, .int .u8 0, .int .u8 0, .int .u8 0, .int .u8 0, .int .u8 0, .int .u8 0, .int .u8 0, .int .u8 0, .int .u8 0, .int .u8 0, .int .u8 0, .int .u8 0, .int .u8 0, .int .u8 0, .int .u8 0, .int .u8 0, .int .u8 0, .slice none 0 0] := zer_of (z := .agg #[.bool false, .slice none 0 0, .int .i64 0, .int .i64 0, .int .i64 0, .int .i64 0, .int .u8 0, .int .u8 0, .int .u8 0, .int .u8 0, .int .u8 0, .int .u8 0, .int .u8 0, .int .u8 0, .int .u8 0, .int .u8 0, .int .u8 0, .int .u8 0, .int .u8 0, .int .u8 0, .int .u8 0, .int .u8 0, .int .u8 0, .int .u8 0, .int .u8 0, .int .u8 0, .int .u8 0, .int .u8 0, .int .u8 0, .int .u8 0, .int .u8 0, .int .u8 0, .int .u8 0, .int .u8 0, .int .u8 0, .int .u8 0, .int .u8 0, .int .u8 0, .slice none 0 0]) (by kernel_rfl) rfl
theorem inf38 : (Try.prog.info? 38).map (fun i => (i.zero, i.size, i.bytes)) = some (some (.agg #[.bool false, .slice none 0 0, .int .i64 0, .int .i64 0, .int .i64 0, .int .i64 0, .int .u8 0, .int .u8 0, .int .u8 0, .int .u8 0, .int .u8 0, .int .u8 0, .int .u8 0, .int .u8 0, .int .u8 0, .int .u8 0, .int .u8 0, .int .u8 0, .int .u8 0, .int .u8 0, .int .u8 0, .int .u8 0, .int .u8 0, .int .u8 0, .int .u8 0, .int .u8 0, .int .u8 0, .int .u8 0, .int .u8 0, .int .u8 0, .int .u8 0, .int .u8 0, .int .u8 0, .int .u8 0, .int .u8 0, .int .u8 0, .int .u8 0, .int .u8 0, .slice none 0 0]), 39, 120) := by kernel_rfl
theorem siz40 : Siz Try.prog 40 40 := siz_of (by kernel_rfl)
theorem agg40 : AggOf Try.prog 40 40 := agg_of Try.underlying40 rfl (by kernel_rfl)
theorem zer40 : Zer Try.prog 40 [.int .i64 0, .bool false, .slice none 0 0, .int .i64 0, .int .i64 0, .int .i64 0, .int .i64 0, .int .u8 0, .int .u8 0, .int .u8 0, .int .u8 0, .int .u8 0, .int .u8 0, .int .u8 0, .int .u8 0, .int .u8 0, .int .u8 0, .int .u8 0, .int .u8 0, .int .u8 0, .int .u8 0, .int .u8 0, .int .u8 0, .int .u8 0, .int .u8 0, .int .u8 0, .int .u8 0, .int .u8 0, .int .u8 0, .int .u8 0, .int .u8 0, .int .u8 0, .int .u8 0, .int .u8 0, .int .u8 0, .int .u8 0, .int .u8 0, .int .u8 0, .int .u8 0, .slice none 0 0] := zer_of (z := .agg #[.int .i64 0, .bool false, .slice none 0 0, .int .i64 0, .int .i64 0, .int .i64 0, .int .i64 0, .int .u8 0, .int .u8 0, .int .u8 0, .int .u8 0, .int .u8 0, .int .u8 0, .int .u8 0, .int .u8 0, .int .u8 0, .int .u8 0, .int .u8 0, .int .u8 0, .int .u8 0, .int .u8 0, .int .u8 0, .int .u8 0, .int .u8 0, .int .u8 0, .int .u8 0, .int .u8 0, .int .u8 0, .int .u8 0, .int .u8 0, .int .u8 0, .int .u8 0, .int .u8 0, .int .u8 0, .int .u8 0, .int .u8 0, .int .u8 0, .int .u8 0, .int .u8 0, .slice none 0 0]) (by kernel_rfl) rfl
theorem inf40 : (Try.prog.info? 40).map (fun i => (i.zero, i.size, i.bytes)) = some (some (.agg #[.int .i64 0, .bool false, .slice none 0 0, .int .i64 0, .int .i64 0, .int .i64 0, .int .i64 0, .int .u8 0, .int .u8 0, .int .u8 0, .int .u8 0, .int .u8 0, .int .u8 0, .int .u8 0, .int .u8 0, .int .u8 0, .int .u8 0, .int .u8 0, .int .u8 0, .int .u8 0, .int .u8 0, .int .u8 0, .int .u8 0, .int .u8 0, .int .u8 0, .int .u8 0, .int .u8 0, .int .u8 0, .int .u8 0, .int .u8 0, .int .u8 0, .int .u8 0, .int .u8 0, .int .u8 0, .int .u8 0, .int .u8 0, .int .u8 0, .int .u8 0, .int .u8 0, .slice none 0 0]), 40, 128) := by kernel_rfl
theorem siz42 : Siz Try.prog 42 85 := siz_of (by kernel_rfl)
theorem agg42 : AggOf Try.prog 42 85 := agg_of Try.underlying42 rfl (by kernel_rfl)
theorem zer42 : Zer Try.prog 42 [.int .i64 0, .bool false, .slice none 0 0, .bool false, .bool false, .slice none 0 0, .int .i64 0, .int .i64 0, .int .i64 0, .int .i64 0, .int .u8 0, .int .u8 0, .int .u8 0, .int .u8 0, .int .u8 0, .int .u8 0, .int .u8 0, .int .u8 0, .int .u8 0, .int .u8 0, .int .u8 0, .int .u8 0, .int .u8 0, .int .u8 0, .int .u8 0, .int .u8 0, .int .u8 0, .int .u8 0, .int .u8 0, .int .u8 0, .int .u8 0, .int .u8 0, .int .u8 0, .int .u8 0, .int .u8 0, .int .u8 0, .int .u8 0, .int .u8 0, .int .u8 0, .int .u8 0, .int .u8 0, .int .u8 0, .slice none 0 0, .bool false, .int .i64 0, .bool false, .slice none 0 0, .int .i64 0, .int .i64 0, .int .i64 0, .int .i64 0, .int .u8 0, .int .u8 0, .int .u8 0, .int .u8 0, .int .u8 0, .int .u8 0, .int .u8 0, .int .u8 0, .int .u8 0, .int .u8 0, .int .u8 0, .int .u8 0, .int .u8 0, .int .u8 0, .int .u8 0, .int .u8 0, .int .u8 0, .int .u8 0, .int .u8 0, .int .u8 0, .int .u8 0, .int .u8 0, .int .u8 0, .int .u8 0, .int .u8 0, .int .u8 0, .int .u8 0, .int .u8 0, .int .u8 0, .int .u8 0, .int .u8 0, .int .u8 0, .slice none 0 0, .bool false] := zer_of (z := .agg #[.int .i64 0, .bool false, .slice none 0 0, .bool false, .bool false, .slice none 0 0, .int .i64 0, .int .i64 0, .int .i64 0, .int .i64 0, .int .u8 0, .int .u8 0, .int .u8 0, .int .u8 0, .int .u8 0, .int .u8 0, .int .u8 0, .int .u8 0, .int .u8 0, .int .u8 0, .int .u8 0, .int .u8 0, .int .u8 0, .int .u8 0, .int .u8 0, .int .u8 0, .int .u8 0, .int .u8 0, .int .u8 0, .int .u8 0, .int .u8 0, .int .u8 0, .int .u8 0, .int .u8 0, .int .u8 0, .int .u8 0, .int .u8 0, .int .u8 0, .int .u8 0, .int .u8 0, .int .u8 0, .int .u8 0, .slice none 0 0, .bool false, .int .i64 0, .bool false, .slice none 0 0, .int .i64 0, .int .i64 0, .int .i64 0, .int .i64 0, .int .u8 0, .int .u8 0, .int .u8 0, .int .u8 0, .int .u8 0, .int .u8 0, .int .u8 0, .int .u8 0, .int .u8 0, .int .u8 0, .int .u8 0, .int .u8 0, .int .u8 0, .int .u8 0, .int .u8 0, .int .u8 0, .int .u8 0, .int .u8 0, .int .u8 0, .int .u8 0, .int .u8 0, .int .u8 0, .int .u8 0, .int .u8 0, .int .u8 0, .int .u8 0, .int .u8 0, .int .u8 0, .int .u8 0, .int .u8 0, .int .u8 0, .int .u8 0, .slice none 0 0, .bool false]) (by kernel_rfl) rfl
theorem inf42 : (Try.prog.info? 42).map (fun i => (i.zero, i.size, i.bytes)) = some (some (.agg #[.int .i64 0, .bool false, .slice none 0 0, .bool false, .bool false, .slice none 0 0, .int .i64 0, .int .i64 0, .int .i64 0, .int .i64 0, .int .u8 0, .int .u8 0, .int .u8 0, .int .u8 0, .int .u8 0, .int .u8 0, .int .u8 0, .int .u8 0, .int .u8 0, .int .u8 0, .int .u8 0, .int .u8 0, .int .u8 0, .int .u8 0, .int .u8 0, .int .u8 0, .int .u8 0, .int .u8 0, .int .u8 0, .int .u8 0, .int .u8 0, .int .u8 0, .int .u8 0, .int .u8 0, .int .u8 0, .int .u8 0, .int .u8 0, .int .u8 0, .int .u8 0, .int .u8 0, .int .u8 0, .int .u8 0, .slice none 0 0, .bool false, .int .i64 0, .bool false, .slice none 0 0, .int .i64 0, .int .i64 0, .int .i64 0, .int .i64 0, .int .u8 0, .int .u8 0, .int .u8 0, .int .u8 0, .int .u8 0, .int .u8 0, .int .u8 0, .int .u8 0, .int .u8 0, .int .u8 0, .int .u8 0, .int .u8 0, .int .u8 0, .int .u8 0, .int .u8 0, .int .u8 0, .int .u8 0, .int .u8 0, .int .u8 0, .int .u8 0, .int .u8 0, .int .u8 0, .int .u8 0, .int .u8 0, .int .u8 0, .int .u8 0, .int .u8 0, .int .u8 0, .int .u8 0, .int .u8 0, .int .u8 0, .int .u8 0, .slice none 0 0, .bool false]), 85, 312) := by kernel_rfl
theorem siz43 : Siz Try.prog 43 1 := siz_of (by kernel_rfl)
theorem one43 : One Try.prog 43 := one_of Try.underlying43 rfl
theorem zer43 : Zer Try.prog 43 [.map none] := zer_of (z := .map none) (by kernel_rfl) rfl
theorem inf43 : (Try.prog.info? 43).map (fun i => (i.zero, i.size, i.bytes)) = some (some (.map none), 1, 8) := by kernel_rfl
theorem siz44 : Siz Try.prog 44 1 := siz_of (by kernel_rfl)
theorem one44 : One Try.prog 44 := one_of Try.underlying44 rfl
theorem zer44 : Zer Try.prog 44 [.int .i64 0] := zer_of (z := .int .i64 0) (by kernel_rfl) rfl
theorem inf44 : (Try.prog.info? 44).map (fun i => (i.zero, i.size, i.bytes)) = some (some (.int .i64 0), 1, 8) := by kernel_rfl
theorem siz50 : Siz Try.prog 50 85 := siz_of (by kernel_rfl)
theorem agg50 : AggOf Try.prog 50 85 := agg_of Try.underlying50 rfl (by kernel_rfl)
theorem zer50 : Zer Try.prog 50 [.int .i64 0, .bool false, .slice none 0 0, .bool false, .bool false, .slice none 0 0, .int .i64 0, .int .i64 0, .int .i64 0, .int .i64 0, .int .u8 0, .int .u8 0, .int .u8 0, .int .u8 0, .int .u8 0, .int .u8 0, .int .u8 0, .int .u8 0, .int .u8 0, .int .u8 0, .int .u8 0, .int .u8 0, .int .u8 0, .int .u8 0, .int .u8 0, .int .u8 0, .int .u8 0, .int .u8 0, .int .u8 0, .int .u8 0, .int .u8 0, .int .u8 0, .int .u8 0, .int .u8 0, .int .u8 0, .int .u8 0, .int .u8 0, .int .u8 0, .int .u8 0, .int .u8 0, .int .u8 0, .int .u8 0, .slice none 0 0, .bool false, .int .i64 0, .bool false, .slice none 0 0, .int .i64 0, .int .i64 0, .int .i64 0, .int .i64 0, .int .u8 0, .int .u8 0, .int .u8 0, .int .u8 0, .int .u8 0, .int .u8 0, .int .u8 0, .int .u8 0, .int .u8 0, .int .u8 0, .int .u8 0, .int .u8 0, .int .u8 0, .int .u8 0, .int .u8 0, .int .u8 0, .int .u8 0, .int .u8 0, .int .u8 0, .int .u8 0, .int .u8 0, .int .u8 0, .int .u8 0, .int .u8 0, .int .u8 0, .int .u8 0, .int .u8 0, .int .u8 0, .int .u8 0, .int .u8 0, .int .u8 0, .int .u8 0, .slice none 0 0, .bool false] := zer_of (z := .agg #[.int .i64 0, .bool false, .slice none 0 0, .bool false, .bool false, .slice none 0 0, .int .i64 0, .int .i64 0, .int .i64 0, .int .i64 0, .int .u8 0, .int .u8 0, .int .u8 0, .int .u8 0, .int .u8 0, .int .u8 0, .int .u8 0, .int .u8 0, .int .u8 0, .int .u8 0, .int .u8 0, .int .u8 0, .int .u8 0, .int .u8 0, .int .u8 0, .int .u8 0, .int .u8 0, .int .u8 0, .int .u8 0, .int .u8 0, .int .u8 0, .int .u8 0, .int .u8 0, .int .u8 0, .int .u8 0, .int .u8 0, .int .u8 0, .int .u8 0, .int .u8 0, .int .u8 0, .int .u8 0, .int .u8 0, .slice none 0 0, .bool false, .int .i64 0, .bool false, .slice none 0 0, .int .i64 0, .int .i64 0, .int .i64 0, .int .i64 0, .int .u8 0, .int .u8 0, .int .u8 0, .int .u8 0, .int .u8 0, .int .u8 0, .int .u8 0, .int .u8 0, .int .u8 0, .int .u8 0, .int .u8 0, .int .u8 0, .int .u8 0, .int .u8 0, .int .u8 0, .int .u8 0, .int .u8 0, .int .u8 0, .int .u8 0, .int .u8 0, .int .u8 0, .int .u8 0, .int .u8 0, .int .u8 0, .int .u8 0, .int .u8 0, .int .u8 0, .int .u8 0, .int .u8 0, .int .u8 0, .int .u8 0, .int .u8 0, .slice none 0 0, .bool false]) (by kernel_rfl) rfl
theorem inf50 : (Try.prog.info? 50).map (fun i => (i.zero, i.size, i.bytes)) = some (some (.agg #[.int .i64 0, .bool false, .slice none 0 0, .bool false, .bool false, .slice none 0 0, .int .i64 0, .int .i64 0, .int .i64 0, .int .i64 0, .int .u8 0, .int .u8 0, .int .u8 0, .int .u8 0, .int .u8 0, .int .u8 0, .int .u8 0, .int .u8 0, .int .u8 0, .int .u8 0, .int .u8 0, .int .u8 0, .int .u8 0, .int .u8 0, .int .u8 0, .int .u8 0, .int .u8 0, .int .u8 0, .int .u8 0, .int .u8 0, .int .u8 0, .int .u8 0, .int .u8 0, .int .u8 0, .int .u8 0, .int .u8 0, .int .u8 0, .int .u8 0, .int .u8 0, .int .u8 0, .int .u8 0, .int .u8 0, .slice none 0 0, .bool false, .int .i64 0, .bool false, .slice none 0 0, .int .i64 0, .int .i64 0, .int .i64 0, .int .i64 0, .int .u8 0, .int .u8 0, .int .u8 0, .int .u8 0, .int .u8 0, .int .u8 0, .int .u8 0, .int .u8 0, .int .u8 0, .int .u8 0, .int .u8 0, .int .u8 0, .int .u8 0, .int .u8 0, .int .u8 0, .int .u8 0, .int .u8 0, .int .u8 0, .int .u8 0, .int .u8 0, .int .u8 0, .int .u8 0, .int .u8 0, .int .u8 0, .int .u8 0, .int .u8 0, .int .u8 0, .int .u8 0, .int .u8 0, .int .u8 0, .int .u8 0, .int .u8 0, .slice none 0 0, .bool false]), 85, 312) := by kernel_rfl
theorem siz62 : Siz Try.prog 62 5 := siz_of (by kernel_rfl)
theorem agg62 : AggOf Try.prog 62 5 := agg_of Try.underlying62 rfl (by kernel_rfl)
theorem zer62 : Zer Try.prog 62 [.int .i64 0, .int .i64 0, .int .i64 0, .int .i64 0, .string ByteArray.empty] := zer_of (z := .agg #[.int .i64 0, .int .i64 0, .int .i64 0, .int .i64 0, .string ByteArray.empty]) (by kernel_rfl) rfl
theorem inf62 : (Try.prog.info? 62).map (fun i => (i.zero, i.size, i.bytes)) = some (some (.agg #[.int .i64 0, .int .i64 0, .int .i64 0, .int .i64 0, .string ByteArray.empty]), 5, 48) := by kernel_rfl
theorem siz63 : Siz Try.prog 63 1 := siz_of (by kernel_rfl)
theorem one63 : One Try.prog 63 := one_of Try.underlying63 rfl
theorem zer63 : Zer Try.prog 63 [.pointer none] := zer_of (z := .pointer none) (by kernel_rfl) rfl
theorem inf63 : (Try.prog.info? 63).map (fun i => (i.zero, i.size, i.bytes)) = some (some (.pointer none), 1, 8) := by kernel_rfl
theorem siz65 : Siz Try.prog 65 2 := siz_of (by kernel_rfl)
theorem agg65 : AggOf Try.prog 65 2 := agg_of Try.underlying65 rfl (by kernel_rfl)
theorem zer65 : Zer Try.prog 65 [.string ByteArray.empty, .int .i64 0] := zer_of (z := .agg #[.string ByteArray.empty, .int .i64 0]) (by kernel_rfl) rfl
theorem inf65 : (Try.prog.info? 65).map (fun i => (i.zero, i.size, i.bytes)) = some (some (.agg #[.string ByteArray.empty, .int .i64 0]), 2, 24) := by kernel_rfl
theorem siz69 : Siz Try.prog 69 16 := siz_of (by kernel_rfl)
theorem agg69 : AggOf Try.prog 69 16 := agg_of Try.underlying69 rfl (by kernel_rfl)
theorem zer69 : Zer Try.prog 69 [.int .u8 0, .int .u8 0, .int .u8 0, .int .u8 0, .int .u8 0, .int .u8 0, .int .u8 0, .int .u8 0, .int .u8 0, .int .u8 0, .int .u8 0, .int .u8 0, .int .u8 0, .int .u8 0, .int .u8 0, .int .u8 0] := zer_of (z := .agg #[.int .u8 0, .int .u8 0, .int .u8 0, .int .u8 0, .int .u8 0, .int .u8 0, .int .u8 0, .int .u8 0, .int .u8 0, .int .u8 0, .int .u8 0, .int .u8 0, .int .u8 0, .int .u8 0, .int .u8 0, .int .u8 0]) (by kernel_rfl) rfl
theorem inf69 : (Try.prog.info? 69).map (fun i => (i.zero, i.size, i.bytes)) = some (some (.agg #[.int .u8 0, .int .u8 0, .int .u8 0, .int .u8 0, .int .u8 0, .int .u8 0, .int .u8 0, .int .u8 0, .int .u8 0, .int .u8 0, .int .u8 0, .int .u8 0, .int .u8 0, .int .u8 0, .int .u8 0, .int .u8 0]), 16, 16) := by kernel_rfl
theorem siz71 : Siz Try.prog 71 19 := siz_of (by kernel_rfl)
theorem agg71 : AggOf Try.prog 71 19 := agg_of Try.underlying71 rfl (by kernel_rfl)
theorem zer71 : Zer Try.prog 71 [.int .i64 0, .int .i64 0, .string ByteArray.empty, .int .u8 0, .int .u8 0, .int .u8 0, .int .u8 0, .int .u8 0, .int .u8 0, .int .u8 0, .int .u8 0, .int .u8 0, .int .u8 0, .int .u8 0, .int .u8 0, .int .u8 0, .int .u8 0, .int .u8 0, .int .u8 0] := zer_of (z := .agg #[.int .i64 0, .int .i64 0, .string ByteArray.empty, .int .u8 0, .int .u8 0, .int .u8 0, .int .u8 0, .int .u8 0, .int .u8 0, .int .u8 0, .int .u8 0, .int .u8 0, .int .u8 0, .int .u8 0, .int .u8 0, .int .u8 0, .int .u8 0, .int .u8 0, .int .u8 0]) (by kernel_rfl) rfl
theorem inf71 : (Try.prog.info? 71).map (fun i => (i.zero, i.size, i.bytes)) = some (some (.agg #[.int .i64 0, .int .i64 0, .string ByteArray.empty, .int .u8 0, .int .u8 0, .int .u8 0, .int .u8 0, .int .u8 0, .int .u8 0, .int .u8 0, .int .u8 0, .int .u8 0, .int .u8 0, .int .u8 0, .int .u8 0, .int .u8 0, .int .u8 0, .int .u8 0, .int .u8 0]), 19, 48) := by kernel_rfl
theorem siz77 : Siz Try.prog 77 1 := siz_of (by kernel_rfl)
theorem one77 : One Try.prog 77 := one_of Try.underlying77 rfl
theorem zer77 : Zer Try.prog 77 [.int .u64 0] := zer_of (z := .int .u64 0) (by kernel_rfl) rfl
theorem inf77 : (Try.prog.info? 77).map (fun i => (i.zero, i.size, i.bytes)) = some (some (.int .u64 0), 1, 8) := by kernel_rfl
theorem siz99 : Siz Try.prog 99 1 := siz_of (by kernel_rfl)
theorem one99 : One Try.prog 99 := one_of Try.underlying99 rfl
theorem zer99 : Zer Try.prog 99 [.slice none 0 0] := zer_of (z := .slice none 0 0) (by kernel_rfl) rfl
theorem inf99 : (Try.prog.info? 99).map (fun i => (i.zero, i.size, i.bytes)) = some (some (.slice none 0 0), 1, 24) := by kernel_rfl
theorem siz100 : Siz Try.prog 100 1 := siz_of (by kernel_rfl)
theorem one100 : One Try.prog 100 := one_of Try.underlying100 rfl
theorem zer100 : Zer Try.prog 100 [.pointer none] := zer_of (z := .pointer none) (by kernel_rfl) rfl
theorem inf100 : (Try.prog.info? 100).map (fun i => (i.zero, i.size, i.bytes)) = some (some (.pointer none), 1, 8) := by kernel_rfl
theorem siz102 : Siz Try.prog 102 1 := siz_of (by kernel_rfl)
theorem one102 : One Try.prog 102 := one_of Try.underlying102 rfl
theorem zer102 : Zer Try.prog 102 [.pointer none] := zer_of (z := .pointer none) (by kernel_rfl) rfl
theorem inf102 : (Try.prog.info? 102).map (fun i => (i.zero, i.size, i.bytes)) = some (some (.pointer none), 1, 8) := by kernel_rfl
theorem siz109 : Siz Try.prog 109 3 := siz_of (by kernel_rfl)
theorem agg109 : AggOf Try.prog 109 3 := agg_of Try.underlying109 rfl (by kernel_rfl)
theorem zer109 : Zer Try.prog 109 [.slice none 0 0, .int .i64 0, .int .i64 0] := zer_of (z := .agg #[.slice none 0 0, .int .i64 0, .int .i64 0]) (by kernel_rfl) rfl
theorem inf109 : (Try.prog.info? 109).map (fun i => (i.zero, i.size, i.bytes)) = some (some (.agg #[.slice none 0 0, .int .i64 0, .int .i64 0]), 3, 40) := by kernel_rfl
theorem siz117 : Siz Try.prog 117 1 := siz_of (by kernel_rfl)
theorem one117 : One Try.prog 117 := one_of Try.underlying117 rfl
theorem zer117 : Zer Try.prog 117 [.slice none 0 0] := zer_of (z := .slice none 0 0) (by kernel_rfl) rfl
theorem inf117 : (Try.prog.info? 117).map (fun i => (i.zero, i.size, i.bytes)) = some (some (.slice none 0 0), 1, 24) := by kernel_rfl
theorem siz120 : Siz Try.prog 120 1 := siz_of (by kernel_rfl)
theorem one120 : One Try.prog 120 := one_of Try.underlying120 rfl
theorem zer120 : Zer Try.prog 120 [.slice none 0 0] := zer_of (z := .slice none 0 0) (by kernel_rfl) rfl
theorem inf120 : (Try.prog.info? 120).map (fun i => (i.zero, i.size, i.bytes)) = some (some (.slice none 0 0), 1, 24) := by kernel_rfl
theorem siz123 : Siz Try.prog 123 1 := siz_of (by kernel_rfl)
theorem one123 : One Try.prog 123 := one_of Try.underlying123 rfl
theorem zer123 : Zer Try.prog 123 [.slice none 0 0] := zer_of (z := .slice none 0 0) (by kernel_rfl) rfl
theorem inf123 : (Try.prog.info? 123).map (fun i => (i.zero, i.size, i.bytes)) = some (some (.slice none 0 0), 1, 24) := by kernel_rfl
theorem siz124 : Siz Try.prog 124 3 := siz_of (by kernel_rfl)
theorem agg124 : AggOf Try.prog 124 3 := agg_of Try.underlying124 rfl (by kernel_rfl)
theorem zer124 : Zer Try.prog 124 [.bool false, .bool false, .slice none 0 0] := zer_of (z := .agg #[.bool false, .bool false, .slice none 0 0]) (by kernel_rfl) rfl
theorem inf124 : (Try.prog.info? 124).map (fun i => (i.zero, i.size, i.bytes)) = some (some (.agg #[.bool false, .bool false, .slice none 0 0]), 3, 40) := by kernel_rfl
theorem siz125 : Siz Try.prog 125 9 := siz_of (by kernel_rfl)
theorem agg125 : AggOf Try.prog 125 9 := agg_of Try.underlying125 rfl (by kernel_rfl)
theorem zer125 : Zer Try.prog 125 [.bool false, .bool false, .slice none 0 0, .bool false, .bool false, .slice none 0 0, .bool false, .bool false, .slice none 0 0] := zer_of (z := .agg #[.bool false, .bool false, .slice none 0 0, .bool false, .bool false, .slice none 0 0, .bool false, .bool false, .slice none 0 0]) (by kernel_rfl) rfl
theorem inf125 : (Try.prog.info? 125).map (fun i => (i.zero, i.size, i.bytes)) = some (some (.agg #[.bool false, .bool false, .slice none 0 0, .bool false, .bool false, .slice none 0 0, .bool false, .bool false, .slice none 0 0]), 9, 120) := by kernel_rfl
theorem siz139 : Siz Try.prog 139 1 := siz_of (by kernel_rfl)
theorem one139 : One Try.prog 139 := one_of Try.underlying139 rfl
theorem zer139 : Zer Try.prog 139 [.map none] := zer_of (z := .map none) (by kernel_rfl) rfl
theorem inf139 : (Try.prog.info? 139).map (fun i => (i.zero, i.size, i.bytes)) = some (some (.map none), 1, 8) := by kernel_rfl
theorem siz141 : Siz Try.prog 141 2 := siz_of (by kernel_rfl)
theorem agg141 : AggOf Try.prog 141 2 := agg_of Try.underlying141 rfl (by kernel_rfl)
theorem zer141 : Zer Try.prog 141 [.int .i64 0, .int .i64 0] := zer_of (z := .agg #[.int .i64 0, .int .i64 0]) (by kernel_rfl) rfl
theorem inf141 : (Try.prog.info? 141).map (fun i => (i.zero, i.size, i.bytes)) = some (some (.agg #[.int .i64 0, .int .i64 0]), 2, 16) := by kernel_rfl
theorem siz144 : Siz Try.prog 144 3 := siz_of (by kernel_rfl)
theorem agg144 : AggOf Try.prog 144 3 := agg_of Try.underlying144 rfl (by kernel_rfl)
theorem zer144 : Zer Try.prog 144 [.slice none 0 0, .int .i64 0, .bool false] := zer_of (z := .agg #[.slice none 0 0, .int .i64 0, .bool false]) (by kernel_rfl) rfl
theorem inf144 : (Try.prog.info? 144).map (fun i => (i.zero, i.size, i.bytes)) = some (some (.agg #[.slice none 0 0, .int .i64 0, .bool false]), 3, 40) := by kernel_rfl
theorem siz146 : Siz Try.prog 146 3 := siz_of (by kernel_rfl)
theorem agg146 : AggOf Try.prog 146 3 := agg_of Try.underlying146 rfl (by kernel_rfl)
theorem zer146 : Zer Try.prog 146 [.slice none 0 0, .int .i64 0, .bool false] := zer_of (z := .agg #[.slice none 0 0, .int .i64 0, .bool false]) (by kernel_rfl) rfl
theorem inf146 : (Try.prog.info? 146).map (fun i => (i.zero, i.size, i.bytes)) = some (some (.agg #[.slice none 0 0, .int .i64 0, .bool false]), 3, 40) := by kernel_rfl
theorem siz151 : Siz Try.prog 151 1 := siz_of (by kernel_rfl)
theorem one151 : One Try.prog 151 := one_of Try.underlying151 rfl
theorem zer151 : Zer Try.prog 151 [.int .u32 0] := zer_of (z := .int .u32 0) (by kernel_rfl) rfl
theorem inf151 : (Try.prog.info? 151).map (fun i => (i.zero, i.size, i.bytes)) = some (some (.int .u32 0), 1, 4) := by kernel_rfl
theorem siz152 : Siz Try.prog 152 8 := siz_of (by kernel_rfl)
theorem agg152 : AggOf Try.prog 152 8 := agg_of Try.underlying152 rfl (by kernel_rfl)
theorem zer152 : Zer Try.prog 152 [.int .u32 0, .int .u32 0, .int .u32 0, .int .u32 0, .int .u32 0, .int .u32 0, .int .u32 0, .int .u32 0] := zer_of (z := .agg #[.int .u32 0, .int .u32 0, .int .u32 0, .int .u32 0, .int .u32 0, .int .u32 0, .int .u32 0, .int .u32 0]) (by kernel_rfl) rfl
theorem inf152 : (Try.prog.info? 152).map (fun i => (i.zero, i.size, i.bytes)) = some (some (.agg #[.int .u32 0, .int .u32 0, .int .u32 0, .int .u32 0, .int .u32 0, .int .u32 0, .int .u32 0, .int .u32 0]), 8, 32) := by kernel_rfl
theorem siz156 : Siz Try.prog 156 2 := siz_of (by kernel_rfl)
theorem agg156 : AggOf Try.prog 156 2 := agg_of Try.underlying156 rfl (by kernel_rfl)
theorem zer156 : Zer Try.prog 156 [.string ByteArray.empty, .int .i64 0] := zer_of (z := .agg #[.string ByteArray.empty, .int .i64 0]) (by kernel_rfl) rfl
theorem inf156 : (Try.prog.info? 156).map (fun i => (i.zero, i.size, i.bytes)) = some (some (.agg #[.string ByteArray.empty, .int .i64 0]), 2, 24) := by kernel_rfl
theorem siz162 : Siz Try.prog 162 17 := siz_of (by kernel_rfl)
theorem agg162 : AggOf Try.prog 162 17 := agg_of Try.underlying162 rfl (by kernel_rfl)
theorem zer162 : Zer Try.prog 162 [.int .i64 0, .int .u8 0, .int .u8 0, .int .u8 0, .int .u8 0, .int .u8 0, .int .u8 0, .int .u8 0, .int .u8 0, .int .u8 0, .int .u8 0, .int .u8 0, .int .u8 0, .int .u8 0, .int .u8 0, .int .u8 0, .int .u8 0] := zer_of (z := .agg #[.int .i64 0, .int .u8 0, .int .u8 0, .int .u8 0, .int .u8 0, .int .u8 0, .int .u8 0, .int .u8 0, .int .u8 0, .int .u8 0, .int .u8 0, .int .u8 0, .int .u8 0, .int .u8 0, .int .u8 0, .int .u8 0, .int .u8 0]) (by kernel_rfl) rfl
theorem inf162 : (Try.prog.info? 162).map (fun i => (i.zero, i.size, i.bytes)) = some (some (.agg #[.int .i64 0, .int .u8 0, .int .u8 0, .int .u8 0, .int .u8 0, .int .u8 0, .int .u8 0, .int .u8 0, .int .u8 0, .int .u8 0, .int .u8 0, .int .u8 0, .int .u8 0, .int .u8 0, .int .u8 0, .int .u8 0, .int .u8 0]), 17, 24) := by kernel_rfl
theorem siz163 : Siz Try.prog 163 1 := siz_of (by kernel_rfl)
theorem one163 : One Try.prog 163 := one_of Try.underlying163 rfl
theorem zer163 : Zer Try.prog 163 [.slice none 0 0] := zer_of (z := .slice none 0 0) (by kernel_rfl) rfl
theorem inf163 : (Try.prog.info? 163).map (fun i => (i.zero, i.size, i.bytes)) = some (some (.slice none 0 0), 1, 24) := by kernel_rfl
theorem siz164 : Siz Try.prog 164 1 := siz_of (by kernel_rfl)
theorem one164 : One Try.prog 164 := one_of Try.underlying164 rfl
theorem zer164 : Zer Try.prog 164 [.pointer none] := zer_of (z := .pointer none) (by kernel_rfl) rfl
theorem inf164 : (Try.prog.info? 164).map (fun i => (i.zero, i.size, i.bytes)) = some (some (.pointer none), 1, 8) := by kernel_rfl
theorem siz174 : Siz Try.prog 174 64 := siz_of (by kernel_rfl)
theorem agg174 : AggOf Try.prog 174 64 := agg_of Try.underlying174 rfl (by kernel_rfl)
theorem zer174 : Zer Try.prog 174 [.int .u32 0, .int .u32 0, .int .u32 0, .int .u32 0, .int .u32 0, .int .u32 0, .int .u32 0, .int .u32 0, .int .u32 0, .int .u32 0, .int .u32 0, .int .u32 0, .int .u32 0, .int .u32 0, .int .u32 0, .int .u32 0, .int .u32 0, .int .u32 0, .int .u32 0, .int .u32 0, .int .u32 0, .int .u32 0, .int .u32 0, .int .u32 0, .int .u32 0, .int .u32 0, .int .u32 0, .int .u32 0, .int .u32 0, .int .u32 0, .int .u32 0, .int .u32 0, .int .u32 0, .int .u32 0, .int .u32 0, .int .u32 0, .int .u32 0, .int .u32 0, .int .u32 0, .int .u32 0, .int .u32 0, .int .u32 0, .int .u32 0, .int .u32 0, .int .u32 0, .int .u32 0, .int .u32 0, .int .u32 0, .int .u32 0, .int .u32 0, .int .u32 0, .int .u32 0, .int .u32 0, .int .u32 0, .int .u32 0, .int .u32 0, .int .u32 0, .int .u32 0, .int .u32 0, .int .u32 0, .int .u32 0, .int .u32 0, .int .u32 0, .int .u32 0] := zer_of (z := .agg #[.int .u32 0, .int .u32 0, .int .u32 0, .int .u32 0, .int .u32 0, .int .u32 0, .int .u32 0, .int .u32 0, .int .u32 0, .int .u32 0, .int .u32 0, .int .u32 0, .int .u32 0, .int .u32 0, .int .u32 0, .int .u32 0, .int .u32 0, .int .u32 0, .int .u32 0, .int .u32 0, .int .u32 0, .int .u32 0, .int .u32 0, .int .u32 0, .int .u32 0, .int .u32 0, .int .u32 0, .int .u32 0, .int .u32 0, .int .u32 0, .int .u32 0, .int .u32 0, .int .u32 0, .int .u32 0, .int .u32 0, .int .u32 0, .int .u32 0, .int .u32 0, .int .u32 0, .int .u32 0, .int .u32 0, .int .u32 0, .int .u32 0, .int .u32 0, .int .u32 0, .int .u32 0, .int .u32 0, .int .u32 0, .int .u32 0, .int .u32 0, .int .u32 0, .int .u32 0, .int .u32 0, .int .u32 0, .int .u32 0, .int .u32 0, .int .u32 0, .int .u32 0, .int .u32 0, .int .u32 0, .int .u32 0, .int .u32 0, .int .u32 0, .int .u32 0]) (by kernel_rfl) rfl
theorem inf174 : (Try.prog.info? 174).map (fun i => (i.zero, i.size, i.bytes)) = some (some (.agg #[.int .u32 0, .int .u32 0, .int .u32 0, .int .u32 0, .int .u32 0, .int .u32 0, .int .u32 0, .int .u32 0, .int .u32 0, .int .u32 0, .int .u32 0, .int .u32 0, .int .u32 0, .int .u32 0, .int .u32 0, .int .u32 0, .int .u32 0, .int .u32 0, .int .u32 0, .int .u32 0, .int .u32 0, .int .u32 0, .int .u32 0, .int .u32 0, .int .u32 0, .int .u32 0, .int .u32 0, .int .u32 0, .int .u32 0, .int .u32 0, .int .u32 0, .int .u32 0, .int .u32 0, .int .u32 0, .int .u32 0, .int .u32 0, .int .u32 0, .int .u32 0, .int .u32 0, .int .u32 0, .int .u32 0, .int .u32 0, .int .u32 0, .int .u32 0, .int .u32 0, .int .u32 0, .int .u32 0, .int .u32 0, .int .u32 0, .int .u32 0, .int .u32 0, .int .u32 0, .int .u32 0, .int .u32 0, .int .u32 0, .int .u32 0, .int .u32 0, .int .u32 0, .int .u32 0, .int .u32 0, .int .u32 0, .int .u32 0, .int .u32 0, .int .u32 0]), 64, 256) := by kernel_rfl
theorem siz177 : Siz Try.prog 177 64 := siz_of (by kernel_rfl)
theorem agg177 : AggOf Try.prog 177 64 := agg_of Try.underlying177 rfl (by kernel_rfl)
theorem zer177 : Zer Try.prog 177 [.int .u8 0, .int .u8 0, .int .u8 0, .int .u8 0, .int .u8 0, .int .u8 0, .int .u8 0, .int .u8 0, .int .u8 0, .int .u8 0, .int .u8 0, .int .u8 0, .int .u8 0, .int .u8 0, .int .u8 0, .int .u8 0, .int .u8 0, .int .u8 0, .int .u8 0, .int .u8 0, .int .u8 0, .int .u8 0, .int .u8 0, .int .u8 0, .int .u8 0, .int .u8 0, .int .u8 0, .int .u8 0, .int .u8 0, .int .u8 0, .int .u8 0, .int .u8 0, .int .u8 0, .int .u8 0, .int .u8 0, .int .u8 0, .int .u8 0, .int .u8 0, .int .u8 0, .int .u8 0, .int .u8 0, .int .u8 0, .int .u8 0, .int .u8 0, .int .u8 0, .int .u8 0, .int .u8 0, .int .u8 0, .int .u8 0, .int .u8 0, .int .u8 0, .int .u8 0, .int .u8 0, .int .u8 0, .int .u8 0, .int .u8 0, .int .u8 0, .int .u8 0, .int .u8 0, .int .u8 0, .int .u8 0, .int .u8 0, .int .u8 0, .int .u8 0] := zer_of (z := .agg #[.int .u8 0, .int .u8 0, .int .u8 0, .int .u8 0, .int .u8 0, .int .u8 0, .int .u8 0, .int .u8 0, .int .u8 0, .int .u8 0, .int .u8 0, .int .u8 0, .int .u8 0, .int .u8 0, .int .u8 0, .int .u8 0, .int .u8 0, .int .u8 0, .int .u8 0, .int .u8 0, .int .u8 0, .int .u8 0, .int .u8 0, .int .u8 0, .int .u8 0, .int .u8 0, .int .u8 0, .int .u8 0, .int .u8 0, .int .u8 0, .int .u8 0, .int .u8 0, .int .u8 0, .int .u8 0, .int .u8 0, .int .u8 0, .int .u8 0, .int .u8 0, .int .u8 0, .int .u8 0, .int .u8 0, .int .u8 0, .int .u8 0, .int .u8 0, .int .u8 0, .int .u8 0, .int .u8 0, .int .u8 0, .int .u8 0, .int .u8 0, .int .u8 0, .int .u8 0, .int .u8 0, .int .u8 0, .int .u8 0, .int .u8 0, .int .u8 0, .int .u8 0, .int .u8 0, .int .u8 0, .int .u8 0, .int .u8 0, .int .u8 0, .int .u8 0]) (by kernel_rfl) rfl
theorem inf177 : (Try.prog.info? 177).map (fun i => (i.zero, i.size, i.bytes)) = some (some (.agg #[.int .u8 0, .int .u8 0, .int .u8 0, .int .u8 0, .int .u8 0, .int .u8 0, .int .u8 0, .int .u8 0, .int .u8 0, .int .u8 0, .int .u8 0, .int .u8 0, .int .u8 0, .int .u8 0, .int .u8 0, .int .u8 0, .int .u8 0, .int .u8 0, .int .u8 0, .int .u8 0, .int .u8 0, .int .u8 0, .int .u8 0, .int .u8 0, .int .u8 0, .int .u8 0, .int .u8 0, .int .u8 0, .int .u8 0, .int .u8 0, .int .u8 0, .int .u8 0, .int .u8 0, .int .u8 0, .int .u8 0, .int .u8 0, .int .u8 0, .int .u8 0, .int .u8 0, .int .u8 0, .int .u8 0, .int .u8 0, .int .u8 0, .int .u8 0, .int .u8 0, .int .u8 0, .int .u8 0, .int .u8 0, .int .u8 0, .int .u8 0, .int .u8 0, .int .u8 0, .int .u8 0, .int .u8 0, .int .u8 0, .int .u8 0, .int .u8 0, .int .u8 0, .int .u8 0, .int .u8 0, .int .u8 0, .int .u8 0, .int .u8 0, .int .u8 0]), 64, 64) := by kernel_rfl
theorem siz180 : Siz Try.prog 180 73 := siz_of (by kernel_rfl)
theorem agg180 : AggOf Try.prog 180 73 := agg_of Try.underlying180 rfl (by kernel_rfl)
theorem zer180 : Zer Try.prog 180 [.int .u32 0, .int .u32 0, .int .u32 0, .int .u32 0, .int .u32 0, .int .u32 0, .int .u32 0, .int .u32 0, .int .u8 0, .int .u8 0, .int .u8 0, .int .u8 0, .int .u8 0, .int .u8 0, .int .u8 0, .int .u8 0, .int .u8 0, .int .u8 0, .int .u8 0, .int .u8 0, .int .u8 0, .int .u8 0, .int .u8 0, .int .u8 0, .int .u8 0, .int .u8 0, .int .u8 0, .int .u8 0, .int .u8 0, .int .u8 0, .int .u8 0, .int .u8 0, .int .u8 0, .int .u8 0, .int .u8 0, .int .u8 0, .int .u8 0, .int .u8 0, .int .u8 0, .int .u8 0, .int .u8 0, .int .u8 0, .int .u8 0, .int .u8 0, .int .u8 0, .int .u8 0, .int .u8 0, .int .u8 0, .int .u8 0, .int .u8 0, .int .u8 0, .int .u8 0, .int .u8 0, .int .u8 0, .int .u8 0, .int .u8 0, .int .u8 0, .int .u8 0, .int .u8 0, .int .u8 0, .int .u8 0, .int .u8 0, .int .u8 0, .int .u8 0, .int .u8 0, .int .u8 0, .int .u8 0, .int .u8 0, .int .u8 0, .int .u8 0, .int .u8 0, .int .u8 0, .int .i64 0] := zer_of (z := .agg #[.int .u32 0, .int .u32 0, .int .u32 0, .int .u32 0, .int .u32 0, .int .u32 0, .int .u32 0, .int .u32 0, .int .u8 0, .int .u8 0, .int .u8 0, .int .u8 0, .int .u8 0, .int .u8 0, .int .u8 0, .int .u8 0, .int .u8 0, .int .u8 0, .int .u8 0, .int .u8 0, .int .u8 0, .int .u8 0, .int .u8 0, .int .u8 0, .int .u8 0, .int .u8 0, .int .u8 0, .int .u8 0, .int .u8 0, .int .u8 0, .int .u8 0, .int .u8 0, .int .u8 0, .int .u8 0, .int .u8 0, .int .u8 0, .int .u8 0, .int .u8 0, .int .u8 0, .int .u8 0, .int .u8 0, .int .u8 0, .int .u8 0, .int .u8 0, .int .u8 0, .int .u8 0, .int .u8 0, .int .u8 0, .int .u8 0, .int .u8 0, .int .u8 0, .int .u8 0, .int .u8 0, .int .u8 0, .int .u8 0, .int .u8 0, .int .u8 0, .int .u8 0, .int .u8 0, .int .u8 0, .int .u8 0, .int .u8 0, .int .u8 0, .int .u8 0, .int .u8 0, .int .u8 0, .int .u8 0, .int .u8 0, .int .u8 0, .int .u8 0, .int .u8 0, .int .u8 0, .int .i64 0]) (by kernel_rfl) rfl
theorem inf180 : (Try.prog.info? 180).map (fun i => (i.zero, i.size, i.bytes)) = some (some (.agg #[.int .u32 0, .int .u32 0, .int .u32 0, .int .u32 0, .int .u32 0, .int .u32 0, .int .u32 0, .int .u32 0, .int .u8 0, .int .u8 0, .int .u8 0, .int .u8 0, .int .u8 0, .int .u8 0, .int .u8 0, .int .u8 0, .int .u8 0, .int .u8 0, .int .u8 0, .int .u8 0, .int .u8 0, .int .u8 0, .int .u8 0, .int .u8 0, .int .u8 0, .int .u8 0, .int .u8 0, .int .u8 0, .int .u8 0, .int .u8 0, .int .u8 0, .int .u8 0, .int .u8 0, .int .u8 0, .int .u8 0, .int .u8 0, .int .u8 0, .int .u8 0, .int .u8 0, .int .u8 0, .int .u8 0, .int .u8 0, .int .u8 0, .int .u8 0, .int .u8 0, .int .u8 0, .int .u8 0, .int .u8 0, .int .u8 0, .int .u8 0, .int .u8 0, .int .u8 0, .int .u8 0, .int .u8 0, .int .u8 0, .int .u8 0, .int .u8 0, .int .u8 0, .int .u8 0, .int .u8 0, .int .u8 0, .int .u8 0, .int .u8 0, .int .u8 0, .int .u8 0, .int .u8 0, .int .u8 0, .int .u8 0, .int .u8 0, .int .u8 0, .int .u8 0, .int .u8 0, .int .i64 0]), 73, 104) := by kernel_rfl
theorem fa26_0 : FA Try.prog 26 0 0 := fa_is (fa_of Try.underlying26 rfl siz4 (by decide)) rfl
theorem fa26_1 : FA Try.prog 26 1 1 := fa_is (fa_of Try.underlying26 rfl siz24 (by decide)) rfl
theorem fa30_0 : FA Try.prog 30 0 0 := fa_is (fa_of Try.underlying30 rfl siz3 (by decide)) rfl
theorem fa30_2 : FA Try.prog 30 2 2 := fa_is (fa_of Try.underlying30 rfl siz3 (by decide)) rfl
theorem fa30_3 : FA Try.prog 30 3 3 := fa_is (fa_of Try.underlying30 rfl siz3 (by decide)) rfl
theorem fa30_4 : FA Try.prog 30 4 4 := fa_is (fa_of Try.underlying30 rfl siz28 (by decide)) rfl
theorem fa33_0 : FA Try.prog 33 0 0 := fa_is (fa_of Try.underlying33 rfl siz30 (by decide)) rfl
theorem fa33_1 : FA Try.prog 33 1 36 := fa_is (fa_of Try.underlying33 rfl siz31 (by decide)) rfl
theorem fa35_0 : FA Try.prog 35 0 0 := fa_is (fa_of Try.underlying35 rfl siz3 (by decide)) rfl
theorem fa35_1 : FA Try.prog 35 1 1 := fa_is (fa_of Try.underlying35 rfl siz3 (by decide)) rfl
theorem fa35_2 : FA Try.prog 35 2 2 := fa_is (fa_of Try.underlying35 rfl siz26 (by decide)) rfl
theorem fa35_3 : FA Try.prog 35 3 4 := fa_is (fa_of Try.underlying35 rfl siz33 (by decide)) rfl
theorem fa38_0 : FA Try.prog 38 0 0 := fa_is (fa_of Try.underlying38 rfl siz26 (by decide)) rfl
theorem fa38_1 : FA Try.prog 38 1 2 := fa_is (fa_of Try.underlying38 rfl siz33 (by decide)) rfl
theorem fa40_0 : FA Try.prog 40 0 0 := fa_is (fa_of Try.underlying40 rfl siz3 (by decide)) rfl
theorem fa40_1 : FA Try.prog 40 1 1 := fa_is (fa_of Try.underlying40 rfl siz26 (by decide)) rfl
theorem fa40_2 : FA Try.prog 40 2 3 := fa_is (fa_of Try.underlying40 rfl siz33 (by decide)) rfl
theorem fa42_0 : FA Try.prog 42 0 0 := fa_is (fa_of Try.underlying42 rfl siz3 (by decide)) rfl
theorem fa42_1 : FA Try.prog 42 1 1 := fa_is (fa_of Try.underlying42 rfl siz26 (by decide)) rfl
theorem fa42_2 : FA Try.prog 42 2 3 := fa_is (fa_of Try.underlying42 rfl siz4 (by decide)) rfl
theorem fa42_3 : FA Try.prog 42 3 4 := fa_is (fa_of Try.underlying42 rfl siz38 (by decide)) rfl
theorem fa42_4 : FA Try.prog 42 4 43 := fa_is (fa_of Try.underlying42 rfl siz4 (by decide)) rfl
theorem fa42_5 : FA Try.prog 42 5 44 := fa_is (fa_of Try.underlying42 rfl siz40 (by decide)) rfl
theorem fa42_6 : FA Try.prog 42 6 84 := fa_is (fa_of Try.underlying42 rfl siz4 (by decide)) rfl
theorem fa50_0 : FA Try.prog 50 0 0 := fa_is (fa_of Try.underlying50 rfl siz3 (by decide)) rfl
theorem fa50_1 : FA Try.prog 50 1 1 := fa_is (fa_of Try.underlying50 rfl siz26 (by decide)) rfl
theorem fa50_2 : FA Try.prog 50 2 3 := fa_is (fa_of Try.underlying50 rfl siz4 (by decide)) rfl
theorem fa50_3 : FA Try.prog 50 3 4 := fa_is (fa_of Try.underlying50 rfl siz38 (by decide)) rfl
theorem fa50_4 : FA Try.prog 50 4 43 := fa_is (fa_of Try.underlying50 rfl siz4 (by decide)) rfl
theorem fa50_5 : FA Try.prog 50 5 44 := fa_is (fa_of Try.underlying50 rfl siz40 (by decide)) rfl
theorem fa50_6 : FA Try.prog 50 6 84 := fa_is (fa_of Try.underlying50 rfl siz4 (by decide)) rfl
theorem fa62_0 : FA Try.prog 62 0 0 := fa_is (fa_of Try.underlying62 rfl siz3 (by decide)) rfl
theorem fa62_1 : FA Try.prog 62 1 1 := fa_is (fa_of Try.underlying62 rfl siz3 (by decide)) rfl
theorem fa62_2 : FA Try.prog 62 2 2 := fa_is (fa_of Try.underlying62 rfl siz3 (by decide)) rfl
theorem fa62_3 : FA Try.prog 62 3 3 := fa_is (fa_of Try.underlying62 rfl siz3 (by decide)) rfl
theorem fa62_4 : FA Try.prog 62 4 4 := fa_is (fa_of Try.underlying62 rfl siz9 (by decide)) rfl
theorem fa65_0 : FA Try.prog 65 0 0 := fa_is (fa_of Try.underlying65 rfl siz9 (by decide)) rfl
theorem fa65_1 : FA Try.prog 65 1 1 := fa_is (fa_of Try.underlying65 rfl siz3 (by decide)) rfl
theorem fa71_0 : FA Try.prog 71 0 0 := fa_is (fa_of Try.underlying71 rfl siz3 (by decide)) rfl
theorem fa71_1 : FA Try.prog 71 1 1 := fa_is (fa_of Try.underlying71 rfl siz3 (by decide)) rfl
theorem fa71_2 : FA Try.prog 71 2 2 := fa_is (fa_of Try.underlying71 rfl siz9 (by decide)) rfl
theorem fa71_3 : FA Try.prog 71 3 3 := fa_is (fa_of Try.underlying71 rfl siz69 (by decide)) rfl
theorem fa109_0 : FA Try.prog 109 0 0 := fa_is (fa_of Try.underlying109 rfl siz99 (by decide)) rfl
theorem fa109_1 : FA Try.prog 109 1 1 := fa_is (fa_of Try.underlying109 rfl siz3 (by decide)) rfl
theorem fa109_2 : FA Try.prog 109 2 2 := fa_is (fa_of Try.underlying109 rfl siz3 (by decide)) rfl
theorem fa124_0 : FA Try.prog 124 0 0 := fa_is (fa_of Try.underlying124 rfl siz4 (by decide)) rfl
theorem fa124_1 : FA Try.prog 124 1 1 := fa_is (fa_of Try.underlying124 rfl siz26 (by decide)) rfl
theorem fa144_0 : FA Try.prog 144 0 0 := fa_is (fa_of Try.underlying144 rfl siz99 (by decide)) rfl
theorem fa144_1 : FA Try.prog 144 1 1 := fa_is (fa_of Try.underlying144 rfl siz44 (by decide)) rfl
theorem fa144_2 : FA Try.prog 144 2 2 := fa_is (fa_of Try.underlying144 rfl siz4 (by decide)) rfl
theorem fa146_0 : FA Try.prog 146 0 0 := fa_is (fa_of Try.underlying146 rfl siz144 (by decide)) rfl
theorem fa156_0 : FA Try.prog 156 0 0 := fa_is (fa_of Try.underlying156 rfl siz9 (by decide)) rfl
theorem fa156_1 : FA Try.prog 156 1 1 := fa_is (fa_of Try.underlying156 rfl siz3 (by decide)) rfl
theorem fa180_0 : FA Try.prog 180 0 0 := fa_is (fa_of Try.underlying180 rfl siz152 (by decide)) rfl
theorem fa180_1 : FA Try.prog 180 1 8 := fa_is (fa_of Try.underlying180 rfl siz177 (by decide)) rfl
theorem fa180_2 : FA Try.prog 180 2 72 := fa_is (fa_of Try.underlying180 rfl siz3 (by decide)) rfl
theorem fun14 : Fun Try.prog 14 := fun_of Try.func14 (by kernel_rfl) rfl
theorem fun15 : Fun Try.prog 15 := fun_of Try.func15 (by kernel_rfl) rfl
theorem fun16 : Fun Try.prog 16 := fun_of Try.func16 (by kernel_rfl) rfl
theorem fun17 : Fun Try.prog 17 := fun_of Try.func17 (by kernel_rfl) rfl
theorem fun18 : Fun Try.prog 18 := fun_of Try.func18 (by kernel_rfl) rfl
theorem fun19 : Fun Try.prog 19 := fun_of Try.func19 (by kernel_rfl) rfl
theorem fun20 : Fun Try.prog 20 := fun_of Try.func20 (by kernel_rfl) rfl
theorem fun21 : Fun Try.prog 21 := fun_of Try.func21 (by kernel_rfl) rfl
theorem fun22 : Fun Try.prog 22 := fun_of Try.func22 (by kernel_rfl) rfl
theorem fun23 : Fun Try.prog 23 := fun_of Try.func23 (by kernel_rfl) rfl
theorem fun24 : Fun Try.prog 24 := fun_of Try.func24 (by kernel_rfl) rfl
theorem fun25 : Fun Try.prog 25 := fun_of Try.func25 (by kernel_rfl) rfl
theorem fun26 : Fun Try.prog 26 := fun_of Try.func26 (by kernel_rfl) rfl
theorem fun27 : Fun Try.prog 27 := fun_of Try.func27 (by kernel_rfl) rfl
theorem fun28 : Fun Try.prog 28 := fun_of Try.func28 (by kernel_rfl) rfl
theorem fun29 : Fun Try.prog 29 := fun_of Try.func29 (by kernel_rfl) rfl
theorem fun30 : Fun Try.prog 30 := fun_of Try.func30 (by kernel_rfl) rfl
theorem fun31 : Fun Try.prog 31 := fun_of Try.func31 (by kernel_rfl) rfl
theorem fun32 : Fun Try.prog 32 := fun_of Try.func32 (by kernel_rfl) rfl
theorem fun33 : Fun Try.prog 33 := fun_of Try.func33 (by kernel_rfl) rfl
theorem fun34 : Fun Try.prog 34 := fun_of Try.func34 (by kernel_rfl) rfl
theorem fun35 : Fun Try.prog 35 := fun_of Try.func35 (by kernel_rfl) rfl
theorem fun36 : Fun Try.prog 36 := fun_of Try.func36 (by kernel_rfl) rfl
theorem fun37 : Fun Try.prog 37 := fun_of Try.func37 (by kernel_rfl) rfl
theorem fun38 : Fun Try.prog 38 := fun_of Try.func38 (by kernel_rfl) rfl
theorem fun39 : Fun Try.prog 39 := fun_of Try.func39 (by kernel_rfl) rfl
theorem fun40 : Fun Try.prog 40 := fun_of Try.func40 (by kernel_rfl) rfl
theorem fun41 : Fun Try.prog 41 := fun_of Try.func41 (by kernel_rfl) rfl
theorem fun42 : Fun Try.prog 42 := fun_of Try.func42 (by kernel_rfl) rfl
theorem fun43 : Fun Try.prog 43 := fun_of Try.func43 (by kernel_rfl) rfl
theorem fun44 : Fun Try.prog 44 := fun_of Try.func44 (by kernel_rfl) rfl
theorem fun45 : Fun Try.prog 45 := fun_of Try.func45 (by kernel_rfl) rfl
theorem fun46 : Fun Try.prog 46 := fun_of Try.func46 (by kernel_rfl) rfl
theorem fun47 : Fun Try.prog 47 := fun_of Try.func47 (by kernel_rfl) rfl
theorem fun48 : Fun Try.prog 48 := fun_of Try.func48 (by kernel_rfl) rfl
theorem fun49 : Fun Try.prog 49 := fun_of Try.func49 (by kernel_rfl) rfl
theorem fun50 : Fun Try.prog 50 := fun_of Try.func50 (by kernel_rfl) rfl
theorem fun51 : Fun Try.prog 51 := fun_of Try.func51 (by kernel_rfl) rfl
theorem fun52 : Fun Try.prog 52 := fun_of Try.func52 (by kernel_rfl) rfl
theorem fun53 : Fun Try.prog 53 := fun_of Try.func53 (by kernel_rfl) rfl
theorem fun54 : Fun Try.prog 54 := fun_of Try.func54 (by kernel_rfl) rfl
theorem fun55 : Fun Try.prog 55 := fun_of Try.func55 (by kernel_rfl) rfl
theorem fun56 : Fun Try.prog 56 := fun_of Try.func56 (by kernel_rfl) rfl
theorem fun57 : Fun Try.prog 57 := fun_of Try.func57 (by kernel_rfl) rfl
theorem fun58 : Fun Try.prog 58 := fun_of Try.func58 (by kernel_rfl) rfl
theorem fun59 : Fun Try.prog 59 := fun_of Try.func59 (by kernel_rfl) rfl
theorem fun60 : Fun Try.prog 60 := fun_of Try.func60 (by kernel_rfl) rfl
theorem fun61 : Fun Try.prog 61 := fun_of Try.func61 (by kernel_rfl) rfl
theorem fun62 : Fun Try.prog 62 := fun_of Try.func62 (by kernel_rfl) rfl
theorem fun63 : Fun Try.prog 63 := fun_of Try.func63 (by kernel_rfl) rfl
theorem fun64 : Fun Try.prog 64 := fun_of Try.func64 (by kernel_rfl) rfl
theorem fun65 : Fun Try.prog 65 := fun_of Try.func65 (by kernel_rfl) rfl
theorem fun66 : Fun Try.prog 66 := fun_of Try.func66 (by kernel_rfl) rfl
theorem fun67 : Fun Try.prog 67 := fun_of Try.func67 (by kernel_rfl) rfl
theorem fun68 : Fun Try.prog 68 := fun_of Try.func68 (by kernel_rfl) rfl
theorem fun69 : Fun Try.prog 69 := fun_of Try.func69 (by kernel_rfl) rfl
theorem fun70 : Fun Try.prog 70 := fun_of Try.func70 (by kernel_rfl) rfl
theorem fun71 : Fun Try.prog 71 := fun_of Try.func71 (by kernel_rfl) rfl
theorem fun72 : Fun Try.prog 72 := fun_of Try.func72 (by kernel_rfl) rfl
theorem fun73 : Fun Try.prog 73 := fun_of Try.func73 (by kernel_rfl) rfl
theorem fun74 : Fun Try.prog 74 := fun_of Try.func74 (by kernel_rfl) rfl
theorem fun75 : Fun Try.prog 75 := fun_of Try.func75 (by kernel_rfl) rfl
theorem fun76 : Fun Try.prog 76 := fun_of Try.func76 (by kernel_rfl) rfl
theorem fun77 : Fun Try.prog 77 := fun_of Try.func77 (by kernel_rfl) rfl
theorem fun78 : Fun Try.prog 78 := fun_of Try.func78 (by kernel_rfl) rfl
theorem fun79 : Fun Try.prog 79 := fun_of Try.func79 (by kernel_rfl) rfl
theorem fun80 : Fun Try.prog 80 := fun_of Try.func80 (by kernel_rfl) rfl
theorem fun81 : Fun Try.prog 81 := fun_of Try.func81 (by kernel_rfl) rfl
theorem fun82 : Fun Try.prog 82 := fun_of Try.func82 (by kernel_rfl) rfl
theorem fun83 : Fun Try.prog 83 := fun_of Try.func83 (by kernel_rfl) rfl
theorem fun84 : Fun Try.prog 84 := fun_of Try.func84 (by kernel_rfl) rfl
theorem fun85 : Fun Try.prog 85 := fun_of Try.func85 (by kernel_rfl) rfl
theorem fun86 : Fun Try.prog 86 := fun_of Try.func86 (by kernel_rfl) rfl
theorem fun87 : Fun Try.prog 87 := fun_of Try.func87 (by kernel_rfl) rfl
theorem fun88 : Fun Try.prog 88 := fun_of Try.func88 (by kernel_rfl) rfl
theorem fun89 : Fun Try.prog 89 := fun_of Try.func89 (by kernel_rfl) rfl
theorem fun90 : Fun Try.prog 90 := fun_of Try.func90 (by kernel_rfl) rfl
theorem fun91 : Fun Try.prog 91 := fun_of Try.func91 (by kernel_rfl) rfl
theorem fun92 : Fun Try.prog 92 := fun_of Try.func92 (by kernel_rfl) rfl
theorem fun93 : Fun Try.prog 93 := fun_of Try.func93 (by kernel_rfl) rfl
theorem fun94 : Fun Try.prog 94 := fun_of Try.func94 (by kernel_rfl) rfl
theorem fun95 : Fun Try.prog 95 := fun_of Try.func95 (by kernel_rfl) rfl
theorem fun96 : Fun Try.prog 96 := fun_of Try.func96 (by kernel_rfl) rfl
theorem fun97 : Fun Try.prog 97 := fun_of Try.func97 (by kernel_rfl) rfl
theorem fun98 : Fun Try.prog 98 := fun_of Try.func98 (by kernel_rfl) rfl
theorem fun99 : Fun Try.prog 99 := fun_of Try.func99 (by kernel_rfl) rfl
theorem fun100 : Fun Try.prog 100 := fun_of Try.func100 (by kernel_rfl) rfl
theorem fun101 : Fun Try.prog 101 := fun_of Try.func101 (by kernel_rfl) rfl
theorem fun102 : Fun Try.prog 102 := fun_of Try.func102 (by kernel_rfl) rfl
theorem fun103 : Fun Try.prog 103 := fun_of Try.func103 (by kernel_rfl) rfl
theorem fun104 : Fun Try.prog 104 := fun_of Try.func104 (by kernel_rfl) rfl
theorem fun105 : Fun Try.prog 105 := fun_of Try.func105 (by kernel_rfl) rfl
theorem fun106 : Fun Try.prog 106 := fun_of Try.func106 (by kernel_rfl) rfl
theorem fun107 : Fun Try.prog 107 := fun_of Try.func107 (by kernel_rfl) rfl
theorem fun108 : Fun Try.prog 108 := fun_of Try.func108 (by kernel_rfl) rfl
theorem fun109 : Fun Try.prog 109 := fun_of Try.func109 (by kernel_rfl) rfl
theorem fun110 : Fun Try.prog 110 := fun_of Try.func110 (by kernel_rfl) rfl
theorem fun111 : Fun Try.prog 111 := fun_of Try.func111 (by kernel_rfl) rfl
theorem fun112 : Fun Try.prog 112 := fun_of Try.func112 (by kernel_rfl) rfl
theorem fun113 : Fun Try.prog 113 := fun_of Try.func113 (by kernel_rfl) rfl
theorem fun114 : Fun Try.prog 114 := fun_of Try.func114 (by kernel_rfl) rfl
theorem fun115 : Fun Try.prog 115 := fun_of Try.func115 (by kernel_rfl) rfl
theorem fun116 : Fun Try.prog 116 := fun_of Try.func116 (by kernel_rfl) rfl
theorem fun117 : Fun Try.prog 117 := fun_of Try.func117 (by kernel_rfl) rfl
theorem fun118 : Fun Try.prog 118 := fun_of Try.func118 (by kernel_rfl) rfl
theorem fun119 : Fun Try.prog 119 := fun_of Try.func119 (by kernel_rfl) rfl
theorem fun120 : Fun Try.prog 120 := fun_of Try.func120 (by kernel_rfl) rfl
theorem fun121 : Fun Try.prog 121 := fun_of Try.func121 (by kernel_rfl) rfl
theorem mixed : Try.prog.follows .mixedOrders = true := by kernel_rfl
end Go.Proofs.Ytdgmkbjopcopcaa
