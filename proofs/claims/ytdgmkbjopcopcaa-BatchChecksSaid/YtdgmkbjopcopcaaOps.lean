/- What came in: batches, votes, certs, entries, slots. Printed by ops.py. Own work. -/
import Derived.Test.YtdgmkbjopcopcaaOpb
import Derived.Test.YtdgmkbjopcopcaaSlte
set_option linter.unusedVariables false
set_option linter.unusedSimpArgs false
set_option maxRecDepth 100000
namespace Go.Proofs.Ytdgmkbjopcopcaa
open Go.RowKit
theorem cs_Reqs {w : World} {cs : List Value} (h : Cs Try.prog w 24 cs) : ∃ (p : Hd × List Req), cs = [p.1.v p.2.length] ∧ RdI w [] (p.1.v p.2.length) 19 p.2.length (p.2.flatMap reqc) ∧ ∀ x ∈ p.2, x.ok 9223372036854775807 := by
  obtain ⟨v, xss, rfl, hr, hx⟩ := h.slice Try.underlying24 celReq
  obtain ⟨al, h1, h2, h3⟩ := cs_list (fun xs h => cs_Req h) hx
  obtain ⟨hd, rfl⟩ := hr.hd
  rw [← h2, h1] at hr
  rw [← h2]
  exact ⟨(hd, al), rfl, ⟨hr, by simp⟩, h3⟩
theorem cs_Batch {w : World} {cs : List Value} (h : Cs Try.prog w 26 cs) : ∃ b : Bt, cs = b.cells ∧ BtIn w [] b := by
  have hlen := (h.struct Try.underlying26).1
  rw [celBatch] at hlen
  have f0 : Cs Try.prog w 4 ((cs.drop 0).take 1) := h.field Try.underlying26 0 rfl celbool
  obtain ⟨a, e0⟩ := f0.bool Try.underlying4
  have c0 := cat_step e0
  have f1 : Cs Try.prog w 24 ((cs.drop 1).take 1) := h.field Try.underlying26 1 rfl celReqs
  obtain ⟨⟨hd, rs⟩, e1, hr1, ho1⟩ := cs_Reqs f1
  have c1 := cat_step e1
  have ce : cs.drop 2 = [] := List.drop_eq_nil_of_le (by omega)
  rw [List.drop_zero] at c0
  simp only [Nat.zero_add, Nat.reduceAdd] at c0 c1
  rw [c1, ce] at c0
  try simp only [i64max, i64min] at *
  exact ⟨⟨a, hd, rs⟩, c0, ⟨hr1, ho1⟩⟩
theorem cs_Vote {w : World} {cs : List Value} (h : Cs Try.prog w 30 cs) : ∃ v : Vt, cs = v.cells ∧ True := by
  have hlen := (h.struct Try.underlying30).1
  rw [celVote] at hlen
  have f0 : Cs Try.prog w 3 ((cs.drop 0).take 1) := h.field Try.underlying30 0 rfl celint
  obtain ⟨a, e0, hy0, hx0⟩ := f0.int Try.underlying3
  have c0 := cat_step e0
  have f1 : Cs Try.prog w 3 ((cs.drop 1).take 1) := h.field Try.underlying30 1 rfl celint
  obtain ⟨b, e1, hy1, hx1⟩ := f1.int Try.underlying3
  have c1 := cat_step e1
  have f2 : Cs Try.prog w 3 ((cs.drop 2).take 1) := h.field Try.underlying30 2 rfl celint
  obtain ⟨c, e2, hy2, hx2⟩ := f2.int Try.underlying3
  have c2 := cat_step e2
  have f3 : Cs Try.prog w 3 ((cs.drop 3).take 1) := h.field Try.underlying30 3 rfl celint
  obtain ⟨d, e3, hy3, hx3⟩ := f3.int Try.underlying3
  have c3 := cat_step e3
  have f4 : Cs Try.prog w 28 ((cs.drop 4).take 32) := h.field Try.underlying30 4 rfl celDigest
  obtain ⟨l, hx4, e4⟩ := f4.bytes Try.underlying28 Try.underlying5 celu8 celDigest
  have c4 := cat_step e4
  have ce : cs.drop 36 = [] := List.drop_eq_nil_of_le (by omega)
  rw [List.drop_zero] at c0
  simp only [Nat.zero_add, Nat.reduceAdd] at c0 c1 c2 c3 c4
  rw [c1, c2, c3, c4, ce] at c0
  try simp only [i64max, i64min] at *
  exact ⟨⟨a, b, c, d, ⟨l, hx4⟩⟩, c0.trans (by simp [Vt.cells]), trivial⟩
theorem cs_Sign {w : World} {cs : List Value} (h : Cs Try.prog w 162 cs) : ∃ s : Sg, cs = s.cells ∧ True := by
  have hlen := (h.struct Try.underlying162).1
  rw [celSign] at hlen
  have f0 : Cs Try.prog w 3 ((cs.drop 0).take 1) := h.field Try.underlying162 0 rfl celint
  obtain ⟨a, e0, hy0, hx0⟩ := f0.int Try.underlying3
  have c0 := cat_step e0
  have f1 : Cs Try.prog w 69 ((cs.drop 1).take 16) := h.field Try.underlying162 1 rfl celTag
  obtain ⟨l, hx1, e1⟩ := f1.bytes Try.underlying69 Try.underlying5 celu8 celTag
  have c1 := cat_step e1
  have ce : cs.drop 17 = [] := List.drop_eq_nil_of_le (by omega)
  rw [List.drop_zero] at c0
  simp only [Nat.zero_add, Nat.reduceAdd] at c0 c1
  rw [c1, ce] at c0
  try simp only [i64max, i64min] at *
  exact ⟨⟨a, ⟨l, hx1⟩⟩, c0.trans (by simp [Sg.cells]), trivial⟩
theorem cs_Signs {w : World} {cs : List Value} (h : Cs Try.prog w 31 cs) : ∃ (p : Hd × List Sg), cs = [p.1.v p.2.length] ∧ RdI w [] (p.1.v p.2.length) 17 p.2.length (p.2.flatMap Sg.cells) ∧ ∀ x ∈ p.2, True := by
  obtain ⟨v, xss, rfl, hr, hx⟩ := h.slice Try.underlying31 celSign
  obtain ⟨al, h1, h2, h3⟩ := cs_list (fun xs h => cs_Sign h) hx
  obtain ⟨hd, rfl⟩ := hr.hd
  rw [← h2, h1] at hr
  rw [← h2]
  exact ⟨(hd, al), rfl, ⟨hr, by simp⟩, h3⟩
theorem cs_Cert {w : World} {cs : List Value} (h : Cs Try.prog w 33 cs) : ∃ c : Ct, cs = c.cells ∧ CtOk w c := by
  have hlen := (h.struct Try.underlying33).1
  rw [celCert] at hlen
  have f0 : Cs Try.prog w 30 ((cs.drop 0).take 36) := h.field Try.underlying33 0 rfl celVote
  obtain ⟨v, e0, ho0⟩ := cs_Vote f0
  have c0 := cat_step e0
  have f1 : Cs Try.prog w 31 ((cs.drop 36).take 1) := h.field Try.underlying33 1 rfl celSigns
  obtain ⟨⟨hd, ss⟩, e1, hr1, ho1⟩ := cs_Signs f1
  have c1 := cat_step e1
  have ce : cs.drop 37 = [] := List.drop_eq_nil_of_le (by omega)
  rw [List.drop_zero] at c0
  simp only [Nat.zero_add, Nat.reduceAdd] at c0 c1
  rw [c1, ce] at c0
  try simp only [i64max, i64min] at *
  exact ⟨⟨v, hd, ss⟩, c0.trans (by simp [Ct.cells]), ⟨hr1⟩⟩
theorem cs_Held {w : World} {cs : List Value} (h : Cs Try.prog w 38 cs) : ∃ x : He, cs = x.cells ∧ BtIn w [] x.b ∧ CtOk w x.c := by
  have hlen := (h.struct Try.underlying38).1
  rw [celHeld] at hlen
  have f0 : Cs Try.prog w 26 ((cs.drop 0).take 2) := h.field Try.underlying38 0 rfl celBatch
  obtain ⟨b, e0, ho0⟩ := cs_Batch f0
  have c0 := cat_step e0
  have f1 : Cs Try.prog w 33 ((cs.drop 2).take 37) := h.field Try.underlying38 1 rfl celCert
  obtain ⟨c, e1, ho1⟩ := cs_Cert f1
  have c1 := cat_step e1
  have ce : cs.drop 39 = [] := List.drop_eq_nil_of_le (by omega)
  rw [List.drop_zero] at c0
  simp only [Nat.zero_add, Nat.reduceAdd] at c0 c1
  rw [c1, ce] at c0
  try simp only [i64max, i64min] at *
  exact ⟨⟨b, c⟩, c0.trans (by simp [He.cells]), ho0, ho1⟩
theorem cs_Entry {w : World} {cs : List Value} (h : Cs Try.prog w 40 cs) : ∃ x : En, cs = x.cells ∧ BtIn w [] x.b ∧ CtOk w x.c := by
  have hlen := (h.struct Try.underlying40).1
  rw [celEntry] at hlen
  have f0 : Cs Try.prog w 3 ((cs.drop 0).take 1) := h.field Try.underlying40 0 rfl celint
  obtain ⟨a, e0, hy0, hx0⟩ := f0.int Try.underlying3
  have c0 := cat_step e0
  have f1 : Cs Try.prog w 26 ((cs.drop 1).take 2) := h.field Try.underlying40 1 rfl celBatch
  obtain ⟨b, e1, ho1⟩ := cs_Batch f1
  have c1 := cat_step e1
  have f2 : Cs Try.prog w 33 ((cs.drop 3).take 37) := h.field Try.underlying40 2 rfl celCert
  obtain ⟨c, e2, ho2⟩ := cs_Cert f2
  have c2 := cat_step e2
  have ce : cs.drop 40 = [] := List.drop_eq_nil_of_le (by omega)
  rw [List.drop_zero] at c0
  simp only [Nat.zero_add, Nat.reduceAdd] at c0 c1 c2
  rw [c1, c2, ce] at c0
  try simp only [i64max, i64min] at *
  exact ⟨⟨a, b, c⟩, c0.trans (by simp [En.cells]), ho1, ho2⟩
theorem cs_Slot {w : World} {cs : List Value} (h : Cs Try.prog w 42 cs) : ∃ s : Sl, cs = s.cells ∧ SlIn w s := by
  have hlen := (h.struct Try.underlying42).1
  rw [celSlot] at hlen
  have f0 : Cs Try.prog w 3 ((cs.drop 0).take 1) := h.field Try.underlying42 0 rfl celint
  obtain ⟨a, e0, hy0, hx0⟩ := f0.int Try.underlying3
  have c0 := cat_step e0
  have f1 : Cs Try.prog w 26 ((cs.drop 1).take 2) := h.field Try.underlying42 1 rfl celBatch
  obtain ⟨b, e1, ho1⟩ := cs_Batch f1
  have c1 := cat_step e1
  have f2 : Cs Try.prog w 4 ((cs.drop 3).take 1) := h.field Try.underlying42 2 rfl celbool
  obtain ⟨x, e2⟩ := f2.bool Try.underlying4
  have c2 := cat_step e2
  have f3 : Cs Try.prog w 38 ((cs.drop 4).take 39) := h.field Try.underlying42 3 rfl celHeld
  obtain ⟨y, e3, ho3⟩ := cs_Held f3
  have c3 := cat_step e3
  have f4 : Cs Try.prog w 4 ((cs.drop 43).take 1) := h.field Try.underlying42 4 rfl celbool
  obtain ⟨z, e4⟩ := f4.bool Try.underlying4
  have c4 := cat_step e4
  have f5 : Cs Try.prog w 40 ((cs.drop 44).take 40) := h.field Try.underlying42 5 rfl celEntry
  obtain ⟨u, e5, ho5⟩ := cs_Entry f5
  have c5 := cat_step e5
  have f6 : Cs Try.prog w 4 ((cs.drop 84).take 1) := h.field Try.underlying42 6 rfl celbool
  obtain ⟨q, e6⟩ := f6.bool Try.underlying4
  have c6 := cat_step e6
  have ce : cs.drop 85 = [] := List.drop_eq_nil_of_le (by omega)
  rw [List.drop_zero] at c0
  simp only [Nat.zero_add, Nat.reduceAdd] at c0 c1 c2 c3 c4 c5 c6
  rw [c1, c2, c3, c4, c5, c6, ce] at c0
  try simp only [i64max, i64min] at *
  exact ⟨⟨a, b, x, y, z, u, q⟩, c0.trans (by simp [Sl.cells]), ⟨ho1, ho3.1, ho3.2, ho5.1, ho5.2⟩⟩
end Go.Proofs.Ytdgmkbjopcopcaa
