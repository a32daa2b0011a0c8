/- An engine for walks, eleventh part: cells behind lists; results of which the first lies in cells. Own work. -/
import Derived.Test.YtdgmkbjopcopcaaEngj
set_option linter.unusedVariables false
set_option linter.unusedSimpArgs false
namespace Go.Proofs.Ytdgmkbjopcopcaa
open Go.RowKit
theorem at_over {as cs : List Value} {k o o' : Nat} {v : Value} (hk : as.length = k) (ho : o' + k = o) (h : cs[o']? = some v) : (as ++ cs)[o]? = some v := by
  subst ho
  subst hk
  rw [List.getElem?_append_right (by omega), Nat.add_sub_cancel]
  exact h
theorem at_skip {c : Value} {cs : List Value} {o : Nat} {v : Value} (h : cs[o]? = some v) : (c :: cs)[o + 1]? = some v := by simpa using h
theorem at_here {c : Value} {cs : List Value} : (c :: cs)[0]? = some c := rfl
section
variable {P : Program} {Q : Post} {fn : Func} {N : Nat} {E E' : List (Nat × Value)} {w0 : World} {M : List Nat} {L L' Lk R : Mem}
/-- two results: the first lies in cells -/
theorem resc2 {a b t t2 : Nat} {cs us : List Value} {T : TypeId} {fr : Nat × Nat} {n : Nat} {v2 : Value} (hr : fn.results = #[.cell a t, .tmp t2]) (hl : lk E a = some (.pointer (some ⟨b, 0, none⟩))) (hl2 : lk E t2 = some v2) (h1 : AggOf P t n) [hp : PkBlk L b cs T fr R] (hv : PartN cs 0 n us) :
    ∀ a w, Env N E a → Has w0 M L w → (results fn a.tmps).run P w = .ok (.tuple #[.agg us.toArray, v2]) w := fun ac w hE hL => by
  have hv' := hv.part
  obtain ⟨h2, rfl⟩ := hv'
  have hg := hE.get _ _ hl
  have hg2 := hE.get _ _ hl2
  have := run_loadVarN (P := P) (t := t) h1 (w := w) (a := ⟨b, 0, none⟩) (fun j u hu => by rw [addr_add, cell_blk (R := R) hL]; exact h2 j u hu)
  simp only [Array.getD_eq_getD_getElem?] at hg hg2
  simp [results, hr, hg, hg2, asAddr, this]
end
end Go.Proofs.Ytdgmkbjopcopcaa
