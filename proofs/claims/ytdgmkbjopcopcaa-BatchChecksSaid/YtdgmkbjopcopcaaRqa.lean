/- Layers 4, 6: what keys and requests are in cells. Printed by rqa.py. Own work. -/
import Derived.Test.YtdgmkbjopcopcaaZer
import Derived.Test.YtdgmkbjopcopcaaEqsa
set_option linter.unusedVariables false
set_option linter.unusedSimpArgs false
set_option maxRecDepth 100000
namespace Go.Proofs.Ytdgmkbjopcopcaa
open Go.RowKit
theorem OneC.app {us vs : List Value} (h : OneC us) (k : OneC vs) : OneC (us ++ vs) := ⟨OneAll.app h.out k.out⟩
theorem OneC.cons {u : Value} {us : List Value} (h : OneV u) (k : OneC us) : OneC (u :: us) := ⟨OneAll.cons h.out k.out⟩
structure Rq where
  client : Int
  num : Int
  data : ByteArray
  tag : Tg
deriving DecidableEq
def Rq.cells (r : Rq) : List Value := .int .i64 r.client :: .int .i64 r.num :: .string r.data :: bvs r.tag.1
structure Ks where
  seed : ByteArray
  n : Int
def Ks.cells (k : Ks) : List Value := [.string k.seed, .int .i64 k.n]
structure Ak where
  nodes : Int
  clients : Int
  client : Int
  num : Int
  data : ByteArray
def Ak.cells (a : Ak) : List Value := [.int .i64 a.nodes, .int .i64 a.clients, .int .i64 a.client, .int .i64 a.num, .string a.data]
theorem Rq.len (v : Rq) : v.cells.length = 19 := by simp [Rq.cells, Tg.len]
theorem Ks.len (v : Ks) : v.cells.length = 2 := rfl
theorem Ak.len (v : Ak) : v.cells.length = 5 := rfl
abbrev Rq.req (r : Rq) : Req := ⟨r.client, r.num, r.data, r.tag.1⟩
theorem Rq.reqc (r : Rq) : reqc r.req = r.cells := by simp [Ytdgmkbjopcopcaa.reqc, Rq.cells]
instance {s : Rq} : OneC s.cells := by unfold Rq.cells; exact (OneC.cons inferInstance (OneC.cons inferInstance (OneC.cons inferInstance inferInstance)))
instance {s : Rq} : PartC s.cells 0 19 s.cells := .whole s.len
instance {s t : Rq} : SplC s.cells 0 t.cells t.cells := .whole (by rw [s.len, t.len])
instance {s : Rq} : At s.cells 0 (.int .i64 s.client) := ⟨by unfold Rq.cells; exact at_here⟩
instance {s : Rq} {n : Int} : SplC s.cells 0 [.int .i64 n] (Rq.cells { s with client := n }) := SplN.c (by unfold Rq.cells; exact (.cons .nil))
instance {s : Rq} : At s.cells 1 (.int .i64 s.num) := ⟨by unfold Rq.cells; exact (at_skip at_here)⟩
instance {s : Rq} {n : Int} : SplC s.cells 1 [.int .i64 n] (Rq.cells { s with num := n }) := SplN.c (by unfold Rq.cells; exact (.skip (.cons .nil)))
instance {s : Rq} : At s.cells 2 (.string s.data) := ⟨by unfold Rq.cells; exact (at_skip (at_skip at_here))⟩
instance {s : Rq} {n : ByteArray} : SplC s.cells 2 [.string n] (Rq.cells { s with data := n }) := SplN.c (by unfold Rq.cells; exact (.skip (.skip (.cons .nil))))
instance {s : Rq} : PartC s.cells 3 16 (bvs s.tag.1) := PartN.c (by unfold Rq.cells; exact (.skip (.skip (.skip (.all (Tg.len s.tag))))))
instance {s : Rq} {n : Tg} : SplC s.cells 3 (bvs n.1) (Rq.cells { s with tag := n }) := SplN.c (by unfold Rq.cells; exact (.skip (.skip (.skip (.all (Tg.len s.tag) (Tg.len n))))))
instance {s : Ks} : OneC s.cells := by unfold Ks.cells; exact (OneC.cons inferInstance (OneC.cons inferInstance ⟨OneAll.nil⟩))
instance {s : Ks} : PartC s.cells 0 2 s.cells := .whole s.len
instance {s t : Ks} : SplC s.cells 0 t.cells t.cells := .whole (by rw [s.len, t.len])
instance {s : Ks} : At s.cells 0 (.string s.seed) := ⟨by unfold Ks.cells; exact at_here⟩
instance {s : Ks} {n : ByteArray} : SplC s.cells 0 [.string n] (Ks.cells { s with seed := n }) := SplN.c (by unfold Ks.cells; exact (.cons .nil))
instance {s : Ks} : At s.cells 1 (.int .i64 s.n) := ⟨by unfold Ks.cells; exact (at_skip at_here)⟩
instance {s : Ks} {n : Int} : SplC s.cells 1 [.int .i64 n] (Ks.cells { s with n := n }) := SplN.c (by unfold Ks.cells; exact (.skip (.cons .nil)))
instance {s : Ak} : OneC s.cells := by unfold Ak.cells; exact (OneC.cons inferInstance (OneC.cons inferInstance (OneC.cons inferInstance (OneC.cons inferInstance (OneC.cons inferInstance ⟨OneAll.nil⟩)))))
instance {s : Ak} : PartC s.cells 0 5 s.cells := .whole s.len
instance {s t : Ak} : SplC s.cells 0 t.cells t.cells := .whole (by rw [s.len, t.len])
instance {s : Ak} : At s.cells 0 (.int .i64 s.nodes) := ⟨by unfold Ak.cells; exact at_here⟩
instance {s : Ak} {n : Int} : SplC s.cells 0 [.int .i64 n] (Ak.cells { s with nodes := n }) := SplN.c (by unfold Ak.cells; exact (.cons .nil))
instance {s : Ak} : At s.cells 1 (.int .i64 s.clients) := ⟨by unfold Ak.cells; exact (at_skip at_here)⟩
instance {s : Ak} {n : Int} : SplC s.cells 1 [.int .i64 n] (Ak.cells { s with clients := n }) := SplN.c (by unfold Ak.cells; exact (.skip (.cons .nil)))
instance {s : Ak} : At s.cells 2 (.int .i64 s.client) := ⟨by unfold Ak.cells; exact (at_skip (at_skip at_here))⟩
instance {s : Ak} {n : Int} : SplC s.cells 2 [.int .i64 n] (Ak.cells { s with client := n }) := SplN.c (by unfold Ak.cells; exact (.skip (.skip (.cons .nil))))
instance {s : Ak} : At s.cells 3 (.int .i64 s.num) := ⟨by unfold Ak.cells; exact (at_skip (at_skip (at_skip at_here)))⟩
instance {s : Ak} {n : Int} : SplC s.cells 3 [.int .i64 n] (Ak.cells { s with num := n }) := SplN.c (by unfold Ak.cells; exact (.skip (.skip (.skip (.cons .nil)))))
instance {s : Ak} : At s.cells 4 (.string s.data) := ⟨by unfold Ak.cells; exact (at_skip (at_skip (at_skip (at_skip at_here))))⟩
instance {s : Ak} {n : ByteArray} : SplC s.cells 4 [.string n] (Ak.cells { s with data := n }) := SplN.c (by unfold Ak.cells; exact (.skip (.skip (.skip (.skip (.cons .nil))))))
def Rq0 : Rq := ⟨0, 0, ByteArray.empty, Tg0⟩
def Ks0 : Ks := ⟨ByteArray.empty, 0⟩
theorem zerRq : Zer Try.prog 71 Rq0.cells := zer71
theorem zerKs : Zer Try.prog 65 Ks0.cells := zer65
theorem zerKp : Zer Try.prog 156 Ks0.cells := zer156
theorem bldRq : BldS Try.prog 71 [(0, 1), (1, 1), (2, 1), (3, 16)] Rq0.cells := bld_struct Try.underlying71 zerRq (.cons siz3 (.cons siz3 (.cons siz9 (.cons siz69 .nil))))
theorem bldKs : BldS Try.prog 65 [(0, 1), (1, 1)] Ks0.cells := bld_struct Try.underlying65 zerKs (.cons siz9 (.cons siz3 .nil))
theorem bldKp : BldS Try.prog 156 [(0, 1), (1, 1)] Ks0.cells := bld_struct Try.underlying156 zerKp (.cons siz9 (.cons siz3 .nil))
theorem eq_tg (l m : Tg) : Eqs Try.prog 2 69 (.agg (bvs l.1).toArray) (.agg (bvs m.1).toArray) (decide (l = m)) := (eq_tag l.2 m.2).is (by simp [Subtype.ext_iff])
theorem eq_rq (r s : Rq) : Eqs Try.prog 3 71 (.agg r.cells.toArray) (.agg s.cells.toArray) (decide (r = s)) := by
  have := eq_req (r := r.req) (s := s.req) r.tag.2 s.tag.2
  rw [r.reqc, s.reqc] at this
  refine this.is ?_
  cases r; cases s
  simp only [Req.mk.injEq, Rq.mk.injEq, Subtype.ext_iff]
end Go.Proofs.Ytdgmkbjopcopcaa
