/- Layer 18 (slot): what an act is in cells. Printed by aca.py. Own work. -/
import Derived.Test.YtdgmkbjopcopcaaSlte
set_option linter.unusedVariables false
set_option linter.unusedSimpArgs false
set_option maxRecDepth 100000
namespace Go.Proofs.Ytdgmkbjopcopcaa
open Go.RowKit
structure Ac where
  kind : Int
  view : Int
  b : Bt
  c : Ct
def Ac.cells (x : Ac) : List Value := .int .i64 x.kind :: .int .i64 x.view :: (x.b.cells ++ x.c.cells)
theorem Ac.len (v : Ac) : v.cells.length = 41 := by simp [Ac.cells, Bt.len, Ct.len]
instance {s : Ac} : OneC s.cells := by unfold Ac.cells; exact (OneC.cons inferInstance (OneC.cons inferInstance (OneC.app inferInstance inferInstance)))
instance {s : Ac} : PartC s.cells 0 41 s.cells := .whole s.len
instance {s t : Ac} : SplC s.cells 0 t.cells t.cells := .whole (by rw [s.len, t.len])
instance {s : Ac} : At s.cells 0 (.int .i64 s.kind) := ⟨by unfold Ac.cells; exact at_here⟩
instance {s : Ac} {n : Int} : SplC s.cells 0 [.int .i64 n] (Ac.cells { s with kind := n }) := SplN.c (by unfold Ac.cells; exact (.cons .nil))
instance {s : Ac} : At s.cells 1 (.int .i64 s.view) := ⟨by unfold Ac.cells; exact (at_skip at_here)⟩
instance {s : Ac} {n : Int} : SplC s.cells 1 [.int .i64 n] (Ac.cells { s with view := n }) := SplN.c (by unfold Ac.cells; exact (.skip (.cons .nil)))
instance {s : Ac} : PartC s.cells 2 2 s.b.cells := PartN.c (by unfold Ac.cells; exact (.skip (.skip (.takea (Bt.len s.b)))))
instance {s : Ac} {n : Bt} : SplC s.cells 2 n.cells (Ac.cells { s with b := n }) := SplN.c (by unfold Ac.cells; exact (.skip (.skip (.puta (Bt.len s.b) (Bt.len n)))))
instance {s : Ac} : At s.cells 2 (.bool s.b.noop) := PartC.at (cs := s.cells) (us := s.b.cells) (o := 2) (n := 2) (i := 0) inferInstance At.out rfl
instance {s : Ac} : At s.cells 3 s.b.v := PartC.at (cs := s.cells) (us := s.b.cells) (o := 2) (n := 2) (i := 1) inferInstance At.out rfl
instance {s : Ac} : PartC s.cells 4 37 s.c.cells := PartN.c (by unfold Ac.cells; exact (.skip (.skip (.over (Bt.len s.b) rfl (.all (Ct.len s.c))))))
instance {s : Ac} {n : Ct} : SplC s.cells 4 n.cells (Ac.cells { s with c := n }) := SplN.c (by unfold Ac.cells; exact (.skip (.skip (.over (Bt.len s.b) rfl (.all (Ct.len s.c) (Ct.len n))))))
instance {s : Ac} : PartC s.cells 4 36 s.c.vote.cells := PartC.part (cs := s.cells) (us := s.c.cells) (o := 4) (n := 37) (i := 0) inferInstance inferInstance rfl
instance {s : Ac} : At s.cells 4 (.int .i64 s.c.vote.kind) := PartC.at (cs := s.cells) (us := s.c.cells) (o := 4) (n := 37) (i := 0) inferInstance At.out rfl
instance {s : Ac} : At s.cells 5 (.int .i64 s.c.vote.epoch) := PartC.at (cs := s.cells) (us := s.c.cells) (o := 4) (n := 37) (i := 1) inferInstance At.out rfl
instance {s : Ac} : At s.cells 6 (.int .i64 s.c.vote.view) := PartC.at (cs := s.cells) (us := s.c.cells) (o := 4) (n := 37) (i := 2) inferInstance At.out rfl
instance {s : Ac} : At s.cells 7 (.int .i64 s.c.vote.slot) := PartC.at (cs := s.cells) (us := s.c.cells) (o := 4) (n := 37) (i := 3) inferInstance At.out rfl
instance {s : Ac} : PartC s.cells 8 32 (bvs s.c.vote.dig.1) := PartC.part (cs := s.cells) (us := s.c.cells) (o := 4) (n := 37) (i := 4) inferInstance inferInstance rfl
instance {s : Ac} : At s.cells 40 s.c.v := PartC.at (cs := s.cells) (us := s.c.cells) (o := 4) (n := 37) (i := 36) inferInstance At.out rfl
def Ac0 : Ac := ⟨0, 0, Bt0, Ct0⟩
theorem zerAc : Zer Try.prog 35 Ac0.cells := zer35
/-- what came in as an act -/
structure AcIn (w : World) (a : Ac) : Prop where
  b : BtIn w [] a.b
  c : CtOk w a.c
theorem AcIn.go {w0 w : World} {L : Mem} {a : Ac} (h : AcIn w0 a) (hw : Has w0 [] L w) : AcIn w a := ⟨h.b.go hw, h.c.go hw⟩
def lightA (a : Ac) : Prop := lightB [a.b] = true ∧ a.c.signs.length ≤ 100
instance (a : Ac) : Decidable (lightA a) := by unfold lightA; infer_instance
end Go.Proofs.Ytdgmkbjopcopcaa
