/- What came in: requests, asks. Printed by ops.py. Own work. -/
import Derived.Test.YtdgmkbjopcopcaaOpn
import Derived.Test.YtdgmkbjopcopcaaRqa
set_option linter.unusedVariables false
set_option linter.unusedSimpArgs false
set_option maxRecDepth 100000
namespace Go.Proofs.Ytdgmkbjopcopcaa
open Go.RowKit
theorem Cs.field {P : Program} {w : World} {t : TypeId} {cs : List Value} {fs : Array Field} {f : Field} {n : Nat} (h : Cs P w t cs) (ht : P.underlying t = some (.struct fs)) (i : Nat) (hf : fs[i]? = some f) (hn : P.cellsOf f.type = n) : Cs P w f.type ((cs.drop f.offset).take n) := hn ▸ (h.struct ht).2 i f hf
theorem cs_list {α : Type} {P : Program} {w : World} {e : TypeId} {sz : Nat} {f : α → List Value} {ok : α → Prop} (dec : ∀ xs, Cs P w e xs → ∃ a, xs = f a ∧ ok a) : ∀ {xss : List (List Value)}, (∀ xs ∈ xss, xs.length = sz ∧ Cs P w e xs) → ∃ al : List α, xss.flatten = al.flatMap f ∧ al.length = xss.length ∧ ∀ a ∈ al, ok a
  | [], _ => ⟨[], rfl, rfl, by simp⟩
  | xs :: xss, h => by
    obtain ⟨a, h1, h2⟩ := dec xs (h xs (by simp)).2
    obtain ⟨al, h3, h4, h5⟩ := cs_list dec (xss := xss) fun ys hy => h ys (by simp [hy])
    exact ⟨a :: al, by rw [List.flatten_cons, List.flatMap_cons, h1, h3], by simp [h4], fun x hx => by
      rcases List.mem_cons.1 hx with rfl | hx
      · exact h2
      · exact h5 x hx⟩
theorem i64max : IntKind.i64.max = 9223372036854775807 := rfl
theorem i64min : IntKind.i64.min = -9223372036854775808 := rfl
theorem celint : Try.prog.cellsOf 3 = 1 := by kernel_rfl
theorem celbool : Try.prog.cellsOf 4 = 1 := by kernel_rfl
theorem celstring : Try.prog.cellsOf 9 = 1 := by kernel_rfl
theorem celTag : Try.prog.cellsOf 69 = 16 := by kernel_rfl
theorem celDigest : Try.prog.cellsOf 28 = 32 := by kernel_rfl
theorem celReq : Try.prog.cellsOf 71 = 19 := by kernel_rfl
theorem celReqs : Try.prog.cellsOf 24 = 1 := by kernel_rfl
theorem celBatch : Try.prog.cellsOf 26 = 2 := by kernel_rfl
theorem celVote : Try.prog.cellsOf 30 = 36 := by kernel_rfl
theorem celSign : Try.prog.cellsOf 162 = 17 := by kernel_rfl
theorem celSigns : Try.prog.cellsOf 31 = 1 := by kernel_rfl
theorem celCert : Try.prog.cellsOf 33 = 37 := by kernel_rfl
theorem celHeld : Try.prog.cellsOf 38 = 39 := by kernel_rfl
theorem celEntry : Try.prog.cellsOf 40 = 40 := by kernel_rfl
theorem celSlot : Try.prog.cellsOf 42 = 85 := by kernel_rfl
theorem celu8 : Try.prog.cellsOf 5 = 1 := by kernel_rfl
theorem celAct : Try.prog.cellsOf 35 = 41 := by kernel_rfl
theorem celActs : Try.prog.cellsOf 22 = 1 := by kernel_rfl
theorem celAsk : Try.prog.cellsOf 62 = 5 := by kernel_rfl
theorem cs_Req {w : World} {cs : List Value} (h : Cs Try.prog w 71 cs) : ∃ r : Req, cs = reqc r ∧ r.ok 9223372036854775807 := by
  have hlen := (h.struct Try.underlying71).1
  rw [celReq] at hlen
  have f0 : Cs Try.prog w 3 ((cs.drop 0).take 1) := h.field Try.underlying71 0 rfl celint
  obtain ⟨a, e0, hy0, hx0⟩ := f0.int Try.underlying3
  have c0 := cat_step e0
  have f1 : Cs Try.prog w 3 ((cs.drop 1).take 1) := h.field Try.underlying71 1 rfl celint
  obtain ⟨b, e1, hy1, hx1⟩ := f1.int Try.underlying3
  have c1 := cat_step e1
  have f2 : Cs Try.prog w 9 ((cs.drop 2).take 1) := h.field Try.underlying71 2 rfl celstring
  obtain ⟨s, e2, hx2⟩ := f2.str Try.underlying9
  have c2 := cat_step e2
  have f3 : Cs Try.prog w 69 ((cs.drop 3).take 16) := h.field Try.underlying71 3 rfl celTag
  obtain ⟨l, hx3, e3⟩ := f3.bytes Try.underlying69 Try.underlying5 celu8 celTag
  have c3 := cat_step e3
  have ce : cs.drop 19 = [] := List.drop_eq_nil_of_le (by omega)
  rw [List.drop_zero] at c0
  simp only [Nat.zero_add, Nat.reduceAdd] at c0 c1 c2 c3
  rw [c1, c2, c3, ce] at c0
  try simp only [i64max, i64min] at *
  exact ⟨⟨a, b, s, l⟩, c0.trans (by simp [reqc]), ⟨hx3, hx0, hx1, hx2⟩⟩
/-- what came in as an ask -/
structure AkIn (a : Ak) : Prop where
  nodes : -9223372036854775808 ≤ a.nodes ∧ a.nodes ≤ 9223372036854775807
  clients : -9223372036854775808 ≤ a.clients ∧ a.clients ≤ 9223372036854775807
  client : -9223372036854775808 ≤ a.client ∧ a.client ≤ 9223372036854775807
  num : -9223372036854775808 ≤ a.num ∧ a.num ≤ 9223372036854775807
theorem cs_Ask {w : World} {cs : List Value} (h : Cs Try.prog w 62 cs) : ∃ x : Ak, cs = x.cells ∧ AkIn x := by
  have hlen := (h.struct Try.underlying62).1
  rw [celAsk] at hlen
  have f0 : Cs Try.prog w 3 ((cs.drop 0).take 1) := h.field Try.underlying62 0 rfl celint
  obtain ⟨a, e0, hy0, hx0⟩ := f0.int Try.underlying3
  have c0 := cat_step e0
  have f1 : Cs Try.prog w 3 ((cs.drop 1).take 1) := h.field Try.underlying62 1 rfl celint
  obtain ⟨b, e1, hy1, hx1⟩ := f1.int Try.underlying3
  have c1 := cat_step e1
  have f2 : Cs Try.prog w 3 ((cs.drop 2).take 1) := h.field Try.underlying62 2 rfl celint
  obtain ⟨c, e2, hy2, hx2⟩ := f2.int Try.underlying3
  have c2 := cat_step e2
  have f3 : Cs Try.prog w 3 ((cs.drop 3).take 1) := h.field Try.underlying62 3 rfl celint
  obtain ⟨d, e3, hy3, hx3⟩ := f3.int Try.underlying3
  have c3 := cat_step e3
  have f4 : Cs Try.prog w 9 ((cs.drop 4).take 1) := h.field Try.underlying62 4 rfl celstring
  obtain ⟨s, e4, hx4⟩ := f4.str Try.underlying9
  have c4 := cat_step e4
  have ce : cs.drop 5 = [] := List.drop_eq_nil_of_le (by omega)
  rw [List.drop_zero] at c0
  simp only [Nat.zero_add, Nat.reduceAdd] at c0 c1 c2 c3 c4
  rw [c1, c2, c3, c4, ce] at c0
  try simp only [i64max, i64min] at *
  exact ⟨⟨a, b, c, d, s⟩, c0, ⟨⟨hy0, hx0⟩, ⟨hy1, hx1⟩, ⟨hy2, hx2⟩, ⟨hy3, hx3⟩⟩⟩
theorem cs_Rq {w : World} {cs : List Value} (h : Cs Try.prog w 71 cs) : ∃ x : Rq, cs = x.cells ∧ x.client ≤ 9223372036854775807 ∧ x.num ≤ 9223372036854775807 := by
  have hlen := (h.struct Try.underlying71).1
  rw [celReq] at hlen
  have f0 : Cs Try.prog w 3 ((cs.drop 0).take 1) := h.field Try.underlying71 0 rfl celint
  obtain ⟨a, e0, hy0, hx0⟩ := f0.int Try.underlying3
  have c0 := cat_step e0
  have f1 : Cs Try.prog w 3 ((cs.drop 1).take 1) := h.field Try.underlying71 1 rfl celint
  obtain ⟨b, e1, hy1, hx1⟩ := f1.int Try.underlying3
  have c1 := cat_step e1
  have f2 : Cs Try.prog w 9 ((cs.drop 2).take 1) := h.field Try.underlying71 2 rfl celstring
  obtain ⟨s, e2, hx2⟩ := f2.str Try.underlying9
  have c2 := cat_step e2
  have f3 : Cs Try.prog w 69 ((cs.drop 3).take 16) := h.field Try.underlying71 3 rfl celTag
  obtain ⟨l, hx3, e3⟩ := f3.bytes Try.underlying69 Try.underlying5 celu8 celTag
  have c3 := cat_step e3
  have ce : cs.drop 19 = [] := List.drop_eq_nil_of_le (by omega)
  rw [List.drop_zero] at c0
  simp only [Nat.zero_add, Nat.reduceAdd] at c0 c1 c2 c3
  rw [c1, c2, c3, ce] at c0
  try simp only [i64max, i64min] at *
  exact ⟨⟨a, b, s, ⟨l, hx3⟩⟩, c0.trans (by simp [Rq.cells]), hx0, hx1⟩
/-- an argument that is a struct or an array -/
theorem arg_agg {P : Program} {w : World} {t : TypeId} {r : Reach} {b0 : Nat} {v : Value} {fs : Array Field} (ht : P.underlying t = some (.struct fs)) (hv : Value.okWide P w r b0 t v) : ∃ cs : List Value, v = .agg cs.toArray := by
  simp only [Value.okWide, ht] at hv
  obtain ⟨cs, rfl, _⟩ := hv
  exact ⟨cs.toList, by simp⟩
theorem arg_one {P : Program} {w : World} {t : TypeId} {r : Reach} {b0 : Nat} {v : Value} {u : TypeDesc} (ht : P.underlying t = some u) (hu : plainDesc u = true) (hv : Value.okWide P w r b0 t v) : v.cells.toList = [v] := by
  have h1 : v.oneCell' = true := by
    unfold Value.okWide at hv
    rw [ht] at hv
    cases v <;> first | rfl | (exfalso; unfold Cell.okWide Cell.ok at hv; rw [ht] at hv; cases u <;> first | exact hv | cases hu | (simp at hv; done))
  rw [cells_one h1]
end Go.Proofs.Ytdgmkbjopcopcaa
