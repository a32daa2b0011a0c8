/- Zeros of digests and tags. Own work. -/
import Derived.Test.YtdgmkbjopcopcaaEngo
import Derived.Test.YtdgmkbjopcopcaaDige
set_option linter.unusedVariables false
namespace Go.Proofs.Ytdgmkbjopcopcaa
def Dg0 : Dg := ⟨zeros 32, by simp [zeros]⟩
def Tg0 : Tg := ⟨zeros 16, by simp [zeros]⟩
theorem zerDg : Zer Try.prog 28 (bvs Dg0.1) := zer28
theorem zerTg : Zer Try.prog 69 (bvs Tg0.1) := zer69
end Go.Proofs.Ytdgmkbjopcopcaa
