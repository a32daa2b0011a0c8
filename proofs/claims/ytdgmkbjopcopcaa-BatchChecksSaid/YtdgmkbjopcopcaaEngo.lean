/- An engine for walks, fifteenth part: blocks of the caller that are read; arrays cut whole; copies; calls of values. Own work. -/
import Derived.Test.YtdgmkbjopcopcaaEngn
set_option linter.unusedVariables false
set_option linter.unusedSimpArgs false
namespace Go.Proofs.Ytdgmkbjopcopcaa
open Go.RowKit
/-- a block that is there, whoever made it -/
structure InB (w : World) (b : Nat) (cs : List Value) : Prop where
  out : ∃ T fr, w.heap[b]? = some (.cells cs.toArray T fr)
section
variable {P : Program} {Q : Post} {fn : Func} {N : Nat} {E E' : List (Nat × Value)} {w0 w : World} {M : List Nat} {L L' Lk R : Mem} {dd : Nat} {d : Option Nat} {ty : TypeId} {pos : String} {af : Array Edge} {g : Option (Nat × Bool)} {x y z : Operand} {t t' : TypeId}
theorem InB.go {b : Nat} {cs : List Value} (h : InB w0 b cs) (hw : Has w0 [] L w) : InB w b cs := by
  obtain ⟨T, fr, h⟩ := h.out
  exact ⟨T, fr, (hw.ext.block b (Array.getElem?_eq_some_iff.1 h).1 (by simp)).trans h⟩
theorem inB_own {b : Nat} {cs : List Value} {T : TypeId} {fr : Nat × Nat} [hp : PkBlk L b cs T fr R] (hw : Has w0 M L w) : InB w b cs := ⟨T, fr, hw.pick hp.out⟩
theorem InB.cell {b o : Nat} {cs : List Value} (h : InB w b cs) : w.cell? ⟨b, o, none⟩ = cs[o]? := by
  obtain ⟨T, fr, h⟩ := h.out
  rw [cell_of_row w b o cs.toArray T fr h]
  simp
theorem y_loadI {b o : Nat} {cs : List Value} {v : Value} (h1 : One P t) (hx : ev E x = some (.pointer (some ⟨b, o, none⟩))) (hb : InB w0 b cs) [ha : At cs o v] : Yl P ⟨d, .load t x, ty, pos, af, g⟩ N E w0 [] L v := fun a w hE hL => by
  simp [execOp, hE.ev hx, Instr.loadAt, Instr.sureAddr, run_loadVar1 h1 ((hb.go hL).cell.trans ha.out)]
theorem y_loadIN {b o n : Nat} {cs us : List Value} (h1 : AggOf P t n) (hx : ev E x = some (.pointer (some ⟨b, o, none⟩))) (hb : InB w0 b cs) [hc : PartC cs o n us] : Yl P ⟨d, .load t x, ty, pos, af, g⟩ N E w0 [] L (.agg us.toArray) := fun a w hE hL => by
  obtain ⟨h2, rfl⟩ := hc.out
  have := run_loadVarN (P := P) (t := t) h1 (w := w) (a := ⟨b, o, none⟩) (fun j u hu => by rw [addr_add, (hb.go hL).cell]; exact h2 j u hu)
  simp [execOp, hE.ev hx, Instr.loadAt, Instr.sureAddr, this]
theorem rdI_blk {b o n c : Nat} {cs us : List Value} {T : TypeId} {fr : Nat × Nat} [hp : PkBlk L b cs T fr R] (hw : Has w0 M L w) [hc : PartC cs o n us] (h1 : n ≤ c) (h2 : c ≤ maxLen) : RdI w [] (.slice (some ⟨b, o, none⟩) n c) 1 n us :=
  ⟨rd_blk (hw.pick hp.out) hc.out.1 (by rw [hc.out.2, Nat.mul_one]) h1 h2, by simp⟩
theorem rd_blkA {b o n c : Nat} {cs us : List Value} {T : TypeId} {fr : Nat × Nat} [hp : PkBlk L b cs T fr R] [hc : PartC cs o n us] (h1 : n ≤ c) (h2 : c ≤ maxLen) : ∀ w, Has w0 M L w → Rd w (.slice (some ⟨b, o, none⟩) n c) 1 n us := fun w hw => (rdI_blk hw h1 h2).rd
theorem y_sliceAll {e : TypeId} {b o n : Nat} (hu : P.underlying t = some (.array n e)) (hs : Siz P e 1) (hx : ev E x = some (.pointer (some ⟨b, o, none⟩))) (h0 : 0 < n) : Yl P ⟨d, .slice t x none none none, ty, pos, af, g⟩ N E w0 M L (.slice (some ⟨b, o, none⟩) n n) :=
  yl_is (y_sliceA (l := 0) (h := n) hu hs hx (.inl ⟨rfl, rfl⟩) (.inl ⟨rfl, rfl⟩) (by omega) (Nat.le_refl _) h0) (by simp)
theorem ef_copyS {e : TypeId} {b o dl dc sl m : Nat} {v : Value} {xs cs cs' : List Value} {T : TypeId} (hN : Nat.blt dd N = true) (hu : P.underlying t = some (.slice e)) (hs : Siz P e 1) (hx : ev E x = some (.slice (some ⟨b, o, none⟩) dl dc)) (hy : ev E y = some v)
    (hr : ∀ w, Has w0 M L w → Rd w v 1 sl xs) (h1 : OneAll xs) [hp : PkBlk L b cs T (0, 0) R] (hm : min sl dl = m) (hl : o + m ≤ cs.length) (hcs : splice cs o (xs.take m) = cs') :
    Ef P Q ⟨some dd, .call ⟨.builtin .copy, #[x, y], #[t, t']⟩, ty, pos, af, g⟩ N E w0 M L (fun E' L'' => E' = (dd, .int .i64 (m : Int)) :: E ∧ L'' = .blk b cs' T (0, 0) :: R) := hcs ▸ ef_copyB hN hu hs hx hy hr h1 hm hl
/-- two results: the second lies in cells -/
theorem rescTC {a b t t2 : Nat} {cs us : List Value} {T : TypeId} {fr : Nat × Nat} {n : Nat} {v2 : Value} (hr : fn.results = #[.tmp t2, .cell a t]) (hl2 : lk E t2 = some v2) (hl : lk E a = some (.pointer (some ⟨b, 0, none⟩))) (h1 : AggOf P t n) [hp : PkBlk L b cs T fr R] [hv : PartC cs 0 n us] :
    ∀ a w, Env N E a → Has w0 M L w → (results fn a.tmps).run P w = .ok (.tuple #[v2, .agg us.toArray]) w := fun ac w hE hL => by
  obtain ⟨h2, rfl⟩ := hv.out
  have hg := hE.get _ _ hl
  have hg2 := hE.get _ _ hl2
  have := run_loadVarN (P := P) (t := t) h1 (w := w) (a := ⟨b, 0, none⟩) (fun j u hu => by rw [addr_add, cell_blk (R := R) hL]; exact h2 j u hu)
  simp only [Array.getD_eq_getD_getElem?] at hg hg2
  simp [results, hr, hg, hg2, asAddr, this]
/-- a call that hands back a value of which a new block is a part -/
theorem ef_callg {f : FuncId} {xs : List Operand} {ts : Array TypeId} {vs : List Value} {cs : List Value} {T : TypeId} {fr : Nat × Nat} (v0 : Nat → Value) (hN : Nat.blt dd N = true) (hf : Fun P f) (hx : evs E xs = some vs)
    (hc : ∀ w, Has w0 M L w → Calls P f vs.toArray w (RP [] w (fun v L' => ∃ b, v = v0 b ∧ L' = [.blk b cs T fr]))) :
    Ef P Q ⟨some dd, .call ⟨.value (.func f), xs.toArray, ts⟩, ty, pos, af, g⟩ N E w0 M L (fun E' L' => ∃ b, E' = (dd, v0 b) :: E ∧ L' = .blk b cs T fr :: L) := by
  intro K hK a w hE hL
  refine ef_call (Lm := []) (R := L) hN hf hx ⟨L, by simp, rfl⟩ (by simp) hc K (fun E' L' hΦ => ?_) a w hE hL
  obtain ⟨v, Lc, rfl, rfl, b, rfl, rfl⟩ := hΦ
  exact hK _ _ ⟨b, rfl, rfl⟩
theorem y_xor_u8 {a b : UInt8} (hx : ev E x = some (bv a)) (hy : ev E y = some (bv b)) : Yl P ⟨d, .binOp .xor t x y t', ty, pos, af, g⟩ N E w0 M L (bv (a ^^^ b)) :=
  y_bits hx hy rfl (fun w => (bits_of .u8 _ _ .xor _ rfl a.toNat_lt b.toNat_lt rfl w).trans (by simp [bv]))
end
/-- what memory tells of values -/
theorem wl_fct {P : Program} {ops : Array Oper} {Q : Post} {l : List Oper} {N : Nat} {E : List (Nat × Value)} {w0 : World} {M : List Nat} {L : Mem} {p : Prop} (hp : ∀ w, Has w0 M L w → p) (k : p → WL P ops Q l N E w0 M L) : WL P ops Q l N E w0 M L := fun a w hE hL => k (hp w hL) a w hE hL
theorem own_1c {w0 w : World} {M : List Nat} {L R : Mem} {v : Value} {T : TypeId} {sz n : Nat} {us : List Value} [hp : PkOwn L v T sz n us R] (h : Has w0 M L w) : v.oneCell' = true := by
  have ho : OwnR w T sz v n us := h.pick hp.out
  rcases ho.2 with ⟨rfl, _⟩ | ⟨gb, cap, cur, lo, hi, rfl, _⟩ <;> rfl
theorem OneV.sl {v : Value} {w : World} {M : List Nat} {sz n : Nat} {xs : List Value} (h : RdI w M v sz n xs) : v.oneCell' = true := by
  obtain ⟨A, c, rfl, _⟩ := h.rd.form
  rfl
end Go.Proofs.Ytdgmkbjopcopcaa
