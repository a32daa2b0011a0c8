/- What came in: acts. Printed by ops.py. Own work. -/
import Derived.Test.YtdgmkbjopcopcaaOps
import Derived.Test.YtdgmkbjopcopcaaAca
set_option linter.unusedVariables false
set_option linter.unusedSimpArgs false
set_option maxRecDepth 100000
namespace Go.Proofs.Ytdgmkbjopcopcaa
open Go.RowKit
theorem cs_Act {w : World} {cs : List Value} (h : Cs Try.prog w 35 cs) : ∃ p : Ac, cs = p.cells ∧ AcIn w p := by
  have hlen := (h.struct Try.underlying35).1
  rw [celAct] at hlen
  have f0 : Cs Try.prog w 3 ((cs.drop 0).take 1) := h.field Try.underlying35 0 rfl celint
  obtain ⟨a, e0, hy0, hx0⟩ := f0.int Try.underlying3
  have c0 := cat_step e0
  have f1 : Cs Try.prog w 3 ((cs.drop 1).take 1) := h.field Try.underlying35 1 rfl celint
  obtain ⟨b, e1, hy1, hx1⟩ := f1.int Try.underlying3
  have c1 := cat_step e1
  have f2 : Cs Try.prog w 26 ((cs.drop 2).take 2) := h.field Try.underlying35 2 rfl celBatch
  obtain ⟨x, e2, ho2⟩ := cs_Batch f2
  have c2 := cat_step e2
  have f3 : Cs Try.prog w 33 ((cs.drop 4).take 37) := h.field Try.underlying35 3 rfl celCert
  obtain ⟨y, e3, ho3⟩ := cs_Cert f3
  have c3 := cat_step e3
  have ce : cs.drop 41 = [] := List.drop_eq_nil_of_le (by omega)
  rw [List.drop_zero] at c0
  simp only [Nat.zero_add, Nat.reduceAdd] at c0 c1 c2 c3
  rw [c1, c2, c3, ce] at c0
  try simp only [i64max, i64min] at *
  exact ⟨⟨a, b, x, y⟩, c0.trans (by simp [Ac.cells]), ⟨ho2, ho3⟩⟩
theorem cs_Acts {w : World} {cs : List Value} (h : Cs Try.prog w 22 cs) : ∃ (p : Hd × List Ac), cs = [p.1.v p.2.length] ∧ RdI w [] (p.1.v p.2.length) 41 p.2.length (p.2.flatMap Ac.cells) ∧ ∀ x ∈ p.2, AcIn w x := by
  obtain ⟨v, xss, rfl, hr, hx⟩ := h.slice Try.underlying22 celAct
  obtain ⟨al, h1, h2, h3⟩ := cs_list (fun xs h => cs_Act h) hx
  obtain ⟨hd, rfl⟩ := hr.hd
  rw [← h2, h1] at hr
  rw [← h2]
  exact ⟨(hd, al), rfl, ⟨hr, by simp⟩, h3⟩
end Go.Proofs.Ytdgmkbjopcopcaa
