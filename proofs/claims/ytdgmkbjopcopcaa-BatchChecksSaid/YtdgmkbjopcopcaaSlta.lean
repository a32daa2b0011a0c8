/- Layer 18 (slot): what votes, certs, entries and slots are in cells. Printed by slta.py. Own work. -/
import Derived.Test.YtdgmkbjopcopcaaRqa
import Derived.Test.YtdgmkbjopcopcaaLigb
import Derived.Test.YtdgmkbjopcopcaaBatb
set_option linter.unusedVariables false
set_option linter.unusedSimpArgs false
set_option maxRecDepth 100000
set_option maxHeartbeats 8000000
namespace Go.Proofs.Ytdgmkbjopcopcaa
open Go.RowKit

structure Vt where
  kind : Int
  epoch : Int
  view : Int
  slot : Int
  dig : Dg
deriving DecidableEq
def Vt.cells (v : Vt) : List Value := .int .i64 v.kind :: .int .i64 v.epoch :: .int .i64 v.view :: .int .i64 v.slot :: bvs v.dig.1
structure Sg where
  node : Int
  tag : Tg
deriving DecidableEq
def Sg.cells (s : Sg) : List Value := .int .i64 s.node :: bvs s.tag.1
structure Ct where
  vote : Vt
  hd : Hd
  signs : List Sg
abbrev Ct.v (c : Ct) : Value := c.hd.v c.signs.length
def Ct.cells (c : Ct) : List Value := c.vote.cells ++ [c.v]
structure He where
  b : Bt
  c : Ct
def He.cells (h : He) : List Value := h.b.cells ++ h.c.cells
structure En where
  slot : Int
  b : Bt
  c : Ct
def En.cells (e : En) : List Value := .int .i64 e.slot :: (e.b.cells ++ e.c.cells)
structure Sl where
  view : Int
  batch : Bt
  is : Bool
  held : He
  holds : Bool
  entry : En
  decided : Bool
def Sl.cells (s : Sl) : List Value := .int .i64 s.view :: (s.batch.cells ++ .bool s.is :: (s.held.cells ++ .bool s.holds :: (s.entry.cells ++ [.bool s.decided])))
structure Ib where
  is : Bool
  b : Bt
def Ib.cells (x : Ib) : List Value := .bool x.is :: x.b.cells
theorem Bt.len (b : Bt) : b.cells.length = 2 := rfl
theorem Vt.len (v : Vt) : v.cells.length = 36 := by simp [Vt.cells, Dg.len]
theorem Sg.len (v : Sg) : v.cells.length = 17 := by simp [Sg.cells, Tg.len]
theorem Ct.len (v : Ct) : v.cells.length = 37 := by simp [Ct.cells, Vt.len]
theorem He.len (v : He) : v.cells.length = 39 := by simp [He.cells, Bt.len, Ct.len]
theorem En.len (v : En) : v.cells.length = 40 := by simp [En.cells, Bt.len, Ct.len]
theorem Sl.len (v : Sl) : v.cells.length = 85 := by simp [Sl.cells, Bt.len, He.len, En.len]
theorem Ib.len (v : Ib) : v.cells.length = 3 := rfl
instance {s : Bt} : OneC s.cells := by unfold Bt.cells; exact (.cons inferInstance (.cons inferInstance ⟨OneAll.nil⟩))
instance {s : Bt} : PartC s.cells 0 2 s.cells := .whole s.len
instance {s t : Bt} : SplC s.cells 0 t.cells t.cells := .whole (by rw [s.len, t.len])
instance {s : Bt} : At s.cells 0 (.bool s.noop) := ⟨by unfold Bt.cells; exact at_here⟩
instance {s : Bt} {n : Bool} : SplC s.cells 0 [.bool n] (Bt.cells { s with noop := n }) := SplN.c (by unfold Bt.cells; exact (.cons .nil))
instance {s : Bt} : At s.cells 1 s.v := ⟨by unfold Bt.cells; exact (at_skip at_here)⟩
instance {s : Vt} : OneC s.cells := by unfold Vt.cells; exact (.cons inferInstance (.cons inferInstance (.cons inferInstance (.cons inferInstance inferInstance))))
instance {s : Vt} : PartC s.cells 0 36 s.cells := .whole s.len
instance {s t : Vt} : SplC s.cells 0 t.cells t.cells := .whole (by rw [s.len, t.len])
instance {s : Vt} : At s.cells 0 (.int .i64 s.kind) := ⟨by unfold Vt.cells; exact at_here⟩
instance {s : Vt} {n : Int} : SplC s.cells 0 [.int .i64 n] (Vt.cells { s with kind := n }) := SplN.c (by unfold Vt.cells; exact (.cons .nil))
instance {s : Vt} : At s.cells 1 (.int .i64 s.epoch) := ⟨by unfold Vt.cells; exact (at_skip at_here)⟩
instance {s : Vt} {n : Int} : SplC s.cells 1 [.int .i64 n] (Vt.cells { s with epoch := n }) := SplN.c (by unfold Vt.cells; exact (.skip (.cons .nil)))
instance {s : Vt} : At s.cells 2 (.int .i64 s.view) := ⟨by unfold Vt.cells; exact (at_skip (at_skip at_here))⟩
instance {s : Vt} {n : Int} : SplC s.cells 2 [.int .i64 n] (Vt.cells { s with view := n }) := SplN.c (by unfold Vt.cells; exact (.skip (.skip (.cons .nil))))
instance {s : Vt} : At s.cells 3 (.int .i64 s.slot) := ⟨by unfold Vt.cells; exact (at_skip (at_skip (at_skip at_here)))⟩
instance {s : Vt} {n : Int} : SplC s.cells 3 [.int .i64 n] (Vt.cells { s with slot := n }) := SplN.c (by unfold Vt.cells; exact (.skip (.skip (.skip (.cons .nil)))))
instance {s : Vt} : PartC s.cells 4 32 (bvs s.dig.1) := PartN.c (by unfold Vt.cells; exact (.skip (.skip (.skip (.skip (.all (Dg.len s.dig)))))))
instance {s : Vt} {n : Dg} : SplC s.cells 4 (bvs n.1) (Vt.cells { s with dig := n }) := SplN.c (by unfold Vt.cells; exact (.skip (.skip (.skip (.skip (.all (Dg.len s.dig) (Dg.len n)))))))
instance {s : Sg} : OneC s.cells := by unfold Sg.cells; exact (.cons inferInstance inferInstance)
instance {s : Sg} : PartC s.cells 0 17 s.cells := .whole s.len
instance {s t : Sg} : SplC s.cells 0 t.cells t.cells := .whole (by rw [s.len, t.len])
instance {s : Sg} : At s.cells 0 (.int .i64 s.node) := ⟨by unfold Sg.cells; exact at_here⟩
instance {s : Sg} {n : Int} : SplC s.cells 0 [.int .i64 n] (Sg.cells { s with node := n }) := SplN.c (by unfold Sg.cells; exact (.cons .nil))
instance {s : Sg} : PartC s.cells 1 16 (bvs s.tag.1) := PartN.c (by unfold Sg.cells; exact (.skip (.all (Tg.len s.tag))))
instance {s : Sg} {n : Tg} : SplC s.cells 1 (bvs n.1) (Sg.cells { s with tag := n }) := SplN.c (by unfold Sg.cells; exact (.skip (.all (Tg.len s.tag) (Tg.len n))))
instance {s : Ct} : OneC s.cells := by unfold Ct.cells; exact (.app inferInstance (.cons inferInstance ⟨OneAll.nil⟩))
instance {s : Ct} : PartC s.cells 0 37 s.cells := .whole s.len
instance {s t : Ct} : SplC s.cells 0 t.cells t.cells := .whole (by rw [s.len, t.len])
instance {s : Ct} : PartC s.cells 0 36 s.vote.cells := PartN.c (by unfold Ct.cells; exact (.takea (Vt.len s.vote)))
instance {s : Ct} {n : Vt} : SplC s.cells 0 n.cells (Ct.cells { s with vote := n }) := SplN.c (by unfold Ct.cells; exact (.puta (Vt.len s.vote) (Vt.len n)))
instance {s : Ct} : At s.cells 0 (.int .i64 s.vote.kind) := PartC.at (cs := s.cells) (us := s.vote.cells) (o := 0) (n := 36) (i := 0) inferInstance At.out rfl
instance {s : Ct} : At s.cells 1 (.int .i64 s.vote.epoch) := PartC.at (cs := s.cells) (us := s.vote.cells) (o := 0) (n := 36) (i := 1) inferInstance At.out rfl
instance {s : Ct} : At s.cells 2 (.int .i64 s.vote.view) := PartC.at (cs := s.cells) (us := s.vote.cells) (o := 0) (n := 36) (i := 2) inferInstance At.out rfl
instance {s : Ct} : At s.cells 3 (.int .i64 s.vote.slot) := PartC.at (cs := s.cells) (us := s.vote.cells) (o := 0) (n := 36) (i := 3) inferInstance At.out rfl
instance {s : Ct} : PartC s.cells 4 32 (bvs s.vote.dig.1) := PartC.part (cs := s.cells) (us := s.vote.cells) (o := 0) (n := 36) (i := 4) inferInstance inferInstance rfl
instance {s : Ct} : At s.cells 36 s.v := ⟨by unfold Ct.cells; exact (at_over (Vt.len s.vote) rfl at_here)⟩
instance {s : He} : OneC s.cells := by unfold He.cells; exact (.app inferInstance inferInstance)
instance {s : He} : PartC s.cells 0 39 s.cells := .whole s.len
instance {s t : He} : SplC s.cells 0 t.cells t.cells := .whole (by rw [s.len, t.len])
instance {s : He} : PartC s.cells 0 2 s.b.cells := PartN.c (by unfold He.cells; exact (.takea (Bt.len s.b)))
instance {s : He} {n : Bt} : SplC s.cells 0 n.cells (He.cells { s with b := n }) := SplN.c (by unfold He.cells; exact (.puta (Bt.len s.b) (Bt.len n)))
instance {s : He} : At s.cells 0 (.bool s.b.noop) := PartC.at (cs := s.cells) (us := s.b.cells) (o := 0) (n := 2) (i := 0) inferInstance At.out rfl
instance {s : He} : At s.cells 1 s.b.v := PartC.at (cs := s.cells) (us := s.b.cells) (o := 0) (n := 2) (i := 1) inferInstance At.out rfl
instance {s : He} : PartC s.cells 2 37 s.c.cells := PartN.c (by unfold He.cells; exact (.over (Bt.len s.b) rfl (.all (Ct.len s.c))))
instance {s : He} {n : Ct} : SplC s.cells 2 n.cells (He.cells { s with c := n }) := SplN.c (by unfold He.cells; exact (.over (Bt.len s.b) rfl (.all (Ct.len s.c) (Ct.len n))))
instance {s : He} : PartC s.cells 2 36 s.c.vote.cells := PartC.part (cs := s.cells) (us := s.c.cells) (o := 2) (n := 37) (i := 0) inferInstance inferInstance rfl
instance {s : He} : At s.cells 2 (.int .i64 s.c.vote.kind) := PartC.at (cs := s.cells) (us := s.c.cells) (o := 2) (n := 37) (i := 0) inferInstance At.out rfl
instance {s : He} : At s.cells 3 (.int .i64 s.c.vote.epoch) := PartC.at (cs := s.cells) (us := s.c.cells) (o := 2) (n := 37) (i := 1) inferInstance At.out rfl
instance {s : He} : At s.cells 4 (.int .i64 s.c.vote.view) := PartC.at (cs := s.cells) (us := s.c.cells) (o := 2) (n := 37) (i := 2) inferInstance At.out rfl
instance {s : He} : At s.cells 5 (.int .i64 s.c.vote.slot) := PartC.at (cs := s.cells) (us := s.c.cells) (o := 2) (n := 37) (i := 3) inferInstance At.out rfl
instance {s : He} : PartC s.cells 6 32 (bvs s.c.vote.dig.1) := PartC.part (cs := s.cells) (us := s.c.cells) (o := 2) (n := 37) (i := 4) inferInstance inferInstance rfl
instance {s : He} : At s.cells 38 s.c.v := PartC.at (cs := s.cells) (us := s.c.cells) (o := 2) (n := 37) (i := 36) inferInstance At.out rfl
instance {s : En} : OneC s.cells := by unfold En.cells; exact (.cons inferInstance (.app inferInstance inferInstance))
instance {s : En} : PartC s.cells 0 40 s.cells := .whole s.len
instance {s t : En} : SplC s.cells 0 t.cells t.cells := .whole (by rw [s.len, t.len])
instance {s : En} : At s.cells 0 (.int .i64 s.slot) := ⟨by unfold En.cells; exact at_here⟩
instance {s : En} {n : Int} : SplC s.cells 0 [.int .i64 n] (En.cells { s with slot := n }) := SplN.c (by unfold En.cells; exact (.cons .nil))
instance {s : En} : PartC s.cells 1 2 s.b.cells := PartN.c (by unfold En.cells; exact (.skip (.takea (Bt.len s.b))))
instance {s : En} {n : Bt} : SplC s.cells 1 n.cells (En.cells { s with b := n }) := SplN.c (by unfold En.cells; exact (.skip (.puta (Bt.len s.b) (Bt.len n))))
instance {s : En} : At s.cells 1 (.bool s.b.noop) := PartC.at (cs := s.cells) (us := s.b.cells) (o := 1) (n := 2) (i := 0) inferInstance At.out rfl
instance {s : En} : At s.cells 2 s.b.v := PartC.at (cs := s.cells) (us := s.b.cells) (o := 1) (n := 2) (i := 1) inferInstance At.out rfl
instance {s : En} : PartC s.cells 3 37 s.c.cells := PartN.c (by unfold En.cells; exact (.skip (.over (Bt.len s.b) rfl (.all (Ct.len s.c)))))
instance {s : En} {n : Ct} : SplC s.cells 3 n.cells (En.cells { s with c := n }) := SplN.c (by unfold En.cells; exact (.skip (.over (Bt.len s.b) rfl (.all (Ct.len s.c) (Ct.len n)))))
instance {s : En} : PartC s.cells 3 36 s.c.vote.cells := PartC.part (cs := s.cells) (us := s.c.cells) (o := 3) (n := 37) (i := 0) inferInstance inferInstance rfl
instance {s : En} : At s.cells 3 (.int .i64 s.c.vote.kind) := PartC.at (cs := s.cells) (us := s.c.cells) (o := 3) (n := 37) (i := 0) inferInstance At.out rfl
instance {s : En} : At s.cells 4 (.int .i64 s.c.vote.epoch) := PartC.at (cs := s.cells) (us := s.c.cells) (o := 3) (n := 37) (i := 1) inferInstance At.out rfl
instance {s : En} : At s.cells 5 (.int .i64 s.c.vote.view) := PartC.at (cs := s.cells) (us := s.c.cells) (o := 3) (n := 37) (i := 2) inferInstance At.out rfl
instance {s : En} : At s.cells 6 (.int .i64 s.c.vote.slot) := PartC.at (cs := s.cells) (us := s.c.cells) (o := 3) (n := 37) (i := 3) inferInstance At.out rfl
instance {s : En} : PartC s.cells 7 32 (bvs s.c.vote.dig.1) := PartC.part (cs := s.cells) (us := s.c.cells) (o := 3) (n := 37) (i := 4) inferInstance inferInstance rfl
instance {s : En} : At s.cells 39 s.c.v := PartC.at (cs := s.cells) (us := s.c.cells) (o := 3) (n := 37) (i := 36) inferInstance At.out rfl
instance {s : Sl} : OneC s.cells := by unfold Sl.cells; exact (.cons inferInstance (.app inferInstance (.cons inferInstance (.app inferInstance (.cons inferInstance (.app inferInstance (.cons inferInstance ⟨OneAll.nil⟩)))))))
instance {s : Sl} : PartC s.cells 0 85 s.cells := .whole s.len
instance {s t : Sl} : SplC s.cells 0 t.cells t.cells := .whole (by rw [s.len, t.len])
instance {s : Sl} : At s.cells 0 (.int .i64 s.view) := ⟨by unfold Sl.cells; exact at_here⟩
instance {s : Sl} {n : Int} : SplC s.cells 0 [.int .i64 n] (Sl.cells { s with view := n }) := SplN.c (by unfold Sl.cells; exact (.cons .nil))
instance {s : Sl} : PartC s.cells 1 2 s.batch.cells := PartN.c (by unfold Sl.cells; exact (.skip (.takea (Bt.len s.batch))))
instance {s : Sl} {n : Bt} : SplC s.cells 1 n.cells (Sl.cells { s with batch := n }) := SplN.c (by unfold Sl.cells; exact (.skip (.puta (Bt.len s.batch) (Bt.len n))))
instance {s : Sl} : At s.cells 1 (.bool s.batch.noop) := PartC.at (cs := s.cells) (us := s.batch.cells) (o := 1) (n := 2) (i := 0) inferInstance At.out rfl
instance {s : Sl} : At s.cells 2 s.batch.v := PartC.at (cs := s.cells) (us := s.batch.cells) (o := 1) (n := 2) (i := 1) inferInstance At.out rfl
instance {s : Sl} : At s.cells 3 (.bool s.is) := ⟨by unfold Sl.cells; exact (at_skip (at_over (Bt.len s.batch) rfl at_here))⟩
instance {s : Sl} {n : Bool} : SplC s.cells 3 [.bool n] (Sl.cells { s with is := n }) := SplN.c (by unfold Sl.cells; exact (.skip (.over (Bt.len s.batch) rfl (.cons .nil))))
instance {s : Sl} : PartC s.cells 4 39 s.held.cells := PartN.c (by unfold Sl.cells; exact (.skip (.over (Bt.len s.batch) rfl (.skip (.takea (He.len s.held))))))
instance {s : Sl} {n : He} : SplC s.cells 4 n.cells (Sl.cells { s with held := n }) := SplN.c (by unfold Sl.cells; exact (.skip (.over (Bt.len s.batch) rfl (.skip (.puta (He.len s.held) (He.len n))))))
instance {s : Sl} : PartC s.cells 4 2 s.held.b.cells := PartC.part (cs := s.cells) (us := s.held.cells) (o := 4) (n := 39) (i := 0) inferInstance inferInstance rfl
instance {s : Sl} : At s.cells 4 (.bool s.held.b.noop) := PartC.at (cs := s.cells) (us := s.held.cells) (o := 4) (n := 39) (i := 0) inferInstance At.out rfl
instance {s : Sl} : At s.cells 5 s.held.b.v := PartC.at (cs := s.cells) (us := s.held.cells) (o := 4) (n := 39) (i := 1) inferInstance At.out rfl
instance {s : Sl} : PartC s.cells 6 37 s.held.c.cells := PartC.part (cs := s.cells) (us := s.held.cells) (o := 4) (n := 39) (i := 2) inferInstance inferInstance rfl
instance {s : Sl} : PartC s.cells 6 36 s.held.c.vote.cells := PartC.part (cs := s.cells) (us := s.held.cells) (o := 4) (n := 39) (i := 2) inferInstance inferInstance rfl
instance {s : Sl} : At s.cells 6 (.int .i64 s.held.c.vote.kind) := PartC.at (cs := s.cells) (us := s.held.cells) (o := 4) (n := 39) (i := 2) inferInstance At.out rfl
instance {s : Sl} : At s.cells 7 (.int .i64 s.held.c.vote.epoch) := PartC.at (cs := s.cells) (us := s.held.cells) (o := 4) (n := 39) (i := 3) inferInstance At.out rfl
instance {s : Sl} : At s.cells 8 (.int .i64 s.held.c.vote.view) := PartC.at (cs := s.cells) (us := s.held.cells) (o := 4) (n := 39) (i := 4) inferInstance At.out rfl
instance {s : Sl} : At s.cells 9 (.int .i64 s.held.c.vote.slot) := PartC.at (cs := s.cells) (us := s.held.cells) (o := 4) (n := 39) (i := 5) inferInstance At.out rfl
instance {s : Sl} : PartC s.cells 10 32 (bvs s.held.c.vote.dig.1) := PartC.part (cs := s.cells) (us := s.held.cells) (o := 4) (n := 39) (i := 6) inferInstance inferInstance rfl
instance {s : Sl} : At s.cells 42 s.held.c.v := PartC.at (cs := s.cells) (us := s.held.cells) (o := 4) (n := 39) (i := 38) inferInstance At.out rfl
instance {s : Sl} : At s.cells 43 (.bool s.holds) := ⟨by unfold Sl.cells; exact (at_skip (at_over (Bt.len s.batch) rfl (at_skip (at_over (He.len s.held) rfl at_here))))⟩
instance {s : Sl} {n : Bool} : SplC s.cells 43 [.bool n] (Sl.cells { s with holds := n }) := SplN.c (by unfold Sl.cells; exact (.skip (.over (Bt.len s.batch) rfl (.skip (.over (He.len s.held) rfl (.cons .nil))))))
instance {s : Sl} : PartC s.cells 44 40 s.entry.cells := PartN.c (by unfold Sl.cells; exact (.skip (.over (Bt.len s.batch) rfl (.skip (.over (He.len s.held) rfl (.skip (.takea (En.len s.entry))))))))
instance {s : Sl} {n : En} : SplC s.cells 44 n.cells (Sl.cells { s with entry := n }) := SplN.c (by unfold Sl.cells; exact (.skip (.over (Bt.len s.batch) rfl (.skip (.over (He.len s.held) rfl (.skip (.puta (En.len s.entry) (En.len n))))))))
instance {s : Sl} : At s.cells 44 (.int .i64 s.entry.slot) := PartC.at (cs := s.cells) (us := s.entry.cells) (o := 44) (n := 40) (i := 0) inferInstance At.out rfl
instance {s : Sl} : PartC s.cells 45 2 s.entry.b.cells := PartC.part (cs := s.cells) (us := s.entry.cells) (o := 44) (n := 40) (i := 1) inferInstance inferInstance rfl
instance {s : Sl} : At s.cells 45 (.bool s.entry.b.noop) := PartC.at (cs := s.cells) (us := s.entry.cells) (o := 44) (n := 40) (i := 1) inferInstance At.out rfl
instance {s : Sl} : At s.cells 46 s.entry.b.v := PartC.at (cs := s.cells) (us := s.entry.cells) (o := 44) (n := 40) (i := 2) inferInstance At.out rfl
instance {s : Sl} : PartC s.cells 47 37 s.entry.c.cells := PartC.part (cs := s.cells) (us := s.entry.cells) (o := 44) (n := 40) (i := 3) inferInstance inferInstance rfl
instance {s : Sl} : PartC s.cells 47 36 s.entry.c.vote.cells := PartC.part (cs := s.cells) (us := s.entry.cells) (o := 44) (n := 40) (i := 3) inferInstance inferInstance rfl
instance {s : Sl} : At s.cells 47 (.int .i64 s.entry.c.vote.kind) := PartC.at (cs := s.cells) (us := s.entry.cells) (o := 44) (n := 40) (i := 3) inferInstance At.out rfl
instance {s : Sl} : At s.cells 48 (.int .i64 s.entry.c.vote.epoch) := PartC.at (cs := s.cells) (us := s.entry.cells) (o := 44) (n := 40) (i := 4) inferInstance At.out rfl
instance {s : Sl} : At s.cells 49 (.int .i64 s.entry.c.vote.view) := PartC.at (cs := s.cells) (us := s.entry.cells) (o := 44) (n := 40) (i := 5) inferInstance At.out rfl
instance {s : Sl} : At s.cells 50 (.int .i64 s.entry.c.vote.slot) := PartC.at (cs := s.cells) (us := s.entry.cells) (o := 44) (n := 40) (i := 6) inferInstance At.out rfl
instance {s : Sl} : PartC s.cells 51 32 (bvs s.entry.c.vote.dig.1) := PartC.part (cs := s.cells) (us := s.entry.cells) (o := 44) (n := 40) (i := 7) inferInstance inferInstance rfl
instance {s : Sl} : At s.cells 83 s.entry.c.v := PartC.at (cs := s.cells) (us := s.entry.cells) (o := 44) (n := 40) (i := 39) inferInstance At.out rfl
instance {s : Sl} : At s.cells 84 (.bool s.decided) := ⟨by unfold Sl.cells; exact (at_skip (at_over (Bt.len s.batch) rfl (at_skip (at_over (He.len s.held) rfl (at_skip (at_over (En.len s.entry) rfl at_here))))))⟩
instance {s : Sl} {n : Bool} : SplC s.cells 84 [.bool n] (Sl.cells { s with decided := n }) := SplN.c (by unfold Sl.cells; exact (.skip (.over (Bt.len s.batch) rfl (.skip (.over (He.len s.held) rfl (.skip (.over (En.len s.entry) rfl (.cons .nil))))))))
instance {s : Ib} : OneC s.cells := by unfold Ib.cells; exact (.cons inferInstance inferInstance)
instance {s : Ib} : PartC s.cells 0 3 s.cells := .whole s.len
instance {s t : Ib} : SplC s.cells 0 t.cells t.cells := .whole (by rw [s.len, t.len])
instance {s : Ib} : At s.cells 0 (.bool s.is) := ⟨by unfold Ib.cells; exact at_here⟩
instance {s : Ib} {n : Bool} : SplC s.cells 0 [.bool n] (Ib.cells { s with is := n }) := SplN.c (by unfold Ib.cells; exact (.cons .nil))
instance {s : Ib} : PartC s.cells 1 2 s.b.cells := PartN.c (by unfold Ib.cells; exact (.skip (.all (Bt.len s.b))))
instance {s : Ib} {n : Bt} : SplC s.cells 1 n.cells (Ib.cells { s with b := n }) := SplN.c (by unfold Ib.cells; exact (.skip (.all (Bt.len s.b) (Bt.len n))))
instance {s : Ib} : At s.cells 1 (.bool s.b.noop) := PartC.at (cs := s.cells) (us := s.b.cells) (o := 1) (n := 2) (i := 0) inferInstance At.out rfl
instance {s : Ib} : At s.cells 2 s.b.v := PartC.at (cs := s.cells) (us := s.b.cells) (o := 1) (n := 2) (i := 1) inferInstance At.out rfl
theorem Ct.put {c : Ct} {o : Nat} {us : List Value} {v : Vt} (h : SplC c.vote.cells o us v.cells) : SplC c.cells o us (Ct.cells { c with vote := v }) := by
  obtain ⟨h1, h2⟩ := h.out
  refine ⟨?_, by simp only [Ct.cells, List.length_append]; omega⟩
  simp only [Ct.cells, splice] at h1 ⊢
  rw [← h1, List.take_append, List.drop_append]
  have e1 : o - c.vote.cells.length = 0 := by omega
  have e2 : o + us.length - c.vote.cells.length = 0 := by omega
  rw [e1, e2]
  simp
instance {s : Ct} {n : Int} : SplC s.cells 0 [.int .i64 n] (Ct.cells { s with vote := { s.vote with kind := n } }) := Ct.put inferInstance
instance {s : Ct} {n : Dg} : SplC s.cells 4 (bvs n.1) (Ct.cells { s with vote := { s.vote with dig := n } }) := Ct.put inferInstance
def Bt0 : Bt := ⟨false, Hd0, []⟩
def Vt0 : Vt := ⟨0, 0, 0, 0, Dg0⟩
def Ct0 : Ct := ⟨Vt0, Hd0, []⟩
def He0 : He := ⟨Bt0, Ct0⟩
def En0 : En := ⟨0, Bt0, Ct0⟩
def Sl0 : Sl := ⟨0, Bt0, false, He0, false, En0, false⟩
theorem zerBt : Zer Try.prog 26 Bt0.cells := zer26
theorem zerSl : Zer Try.prog 42 Sl0.cells := zer42
theorem zerRs : Zer Try.prog 50 Sl0.cells := zer50
def Ib0 : Ib := ⟨false, Bt0⟩
theorem zerIb : Zer Try.prog 124 Ib0.cells := zer124
theorem zerVt : Zer Try.prog 30 Vt0.cells := zer30
theorem zerCt : Zer Try.prog 33 Ct0.cells := zer33
theorem zerHe : Zer Try.prog 38 He0.cells := zer38
theorem zerEn : Zer Try.prog 40 En0.cells := zer40
theorem bldBt : BldS Try.prog 26 [(0, 1), (1, 1)] Bt0.cells := bld_struct Try.underlying26 zerBt (.cons siz4 (.cons siz24 .nil))
theorem bldVt : BldS Try.prog 30 [(0, 1), (1, 1), (2, 1), (3, 1), (4, 32)] Vt0.cells := bld_struct Try.underlying30 zerVt (.cons siz3 (.cons siz3 (.cons siz3 (.cons siz3 (.cons siz28 .nil)))))
theorem bldCt : BldS Try.prog 33 [(0, 36), (36, 1)] Ct0.cells := bld_struct Try.underlying33 zerCt (.cons siz30 (.cons siz31 .nil))
theorem bldHe : BldS Try.prog 38 [(0, 2), (2, 37)] He0.cells := bld_struct Try.underlying38 zerHe (.cons siz26 (.cons siz33 .nil))
theorem bldEn : BldS Try.prog 40 [(0, 1), (1, 2), (3, 37)] En0.cells := bld_struct Try.underlying40 zerEn (.cons siz3 (.cons siz26 (.cons siz33 .nil)))
theorem bldIb : BldS Try.prog 124 [(0, 1), (1, 2)] Ib0.cells := bld_struct Try.underlying124 zerIb (.cons siz4 (.cons siz26 .nil))
theorem bld3Ib (a b c : Ib) (w : World) : (Instr.build 125 [(0, .agg a.cells.toArray), (1, .agg b.cells.toArray), (2, .agg c.cells.toArray)].toArray).run Try.prog w = .ok (.agg (a.cells ++ (b.cells ++ c.cells)).toArray) w := by kernel_rfl
end Go.Proofs.Ytdgmkbjopcopcaa
