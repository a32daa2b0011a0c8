/- An engine for walks, thirteenth part: cells that are named: their parts are found by the instances. Own work. -/
import Derived.Test.YtdgmkbjopcopcaaEngl
set_option linter.unusedVariables false
set_option linter.unusedSimpArgs false
namespace Go.Proofs.Ytdgmkbjopcopcaa
open Go.RowKit
/-- the cell at o -/
class At (cs : List Value) (o : Nat) (v : outParam Value) : Prop where
  out : cs[o]? = some v
/-- n cells from o on -/
class PartC (cs : List Value) (o n : Nat) (us : outParam (List Value)) : Prop where
  out : PartOf cs o us ∧ us.length = n
/-- us put over the cells from o on -/
class SplC (cs : List Value) (o : Nat) (us : List Value) (cs' : outParam (List Value)) : Prop where
  out : splice cs o us = cs' ∧ o + us.length ≤ cs.length
class OneC (us : List Value) : Prop where
  out : OneAll us
class OneV (v : Value) : Prop where
  out : v.oneCell' = true
instance {b : Bool} : OneV (.bool b) := ⟨rfl⟩
instance {k : IntKind} {n : Int} : OneV (.int k n) := ⟨rfl⟩
instance {s : ByteArray} : OneV (.string s) := ⟨rfl⟩
instance {A : Option Addr} {n c : Nat} : OneV (.slice A n c) := ⟨rfl⟩
instance {A : Option Addr} : OneV (.pointer A) := ⟨rfl⟩
instance {A : Option Nat} : OneV (.map A) := ⟨rfl⟩
instance {b : UInt8} : OneV (bv b) := ⟨rfl⟩
instance {v : Value} [h : OneV v] : OneC [v] := ⟨OneAll.cons h.out OneAll.nil⟩
instance {l : List UInt8} : OneC (bvs l) := ⟨bvs_one l⟩
theorem PartN.c {cs us : List Value} {o n : Nat} (h : PartN cs o n us) : PartC cs o n us := ⟨h.part⟩
theorem SplN.c {cs us cs' : List Value} {o : Nat} (h : SplN cs o us cs') : SplC cs o us cs' := ⟨h.splice⟩
instance {v : Value} : PartC [v] 0 1 [v] := ⟨PartOf.all, rfl⟩
theorem PartC.whole {cs : List Value} {n : Nat} (h : cs.length = n) : PartC cs 0 n cs := ⟨PartOf.all, h⟩
theorem SplC.whole {cs us : List Value} (h : us.length = cs.length) : SplC cs 0 us us := ⟨by simp [splice, h], by omega⟩
/-- a part of a part -/
theorem PartC.at {cs us : List Value} {o n i : Nat} {v : Value} (h : PartC cs o n us) (hv : us[i]? = some v) {j : Nat} (e : o + i = j) : At cs j v := ⟨e ▸ h.out.1 i v hv⟩
theorem PartC.part {cs us vs : List Value} {o n i m : Nat} (h : PartC cs o n us) (hv : PartC us i m vs) {j : Nat} (e : o + i = j) : PartC cs j m vs := by
  subst e
  refine ⟨fun k v hk => ?_, hv.out.2⟩
  rw [Nat.add_assoc]
  exact h.out.1 _ _ (hv.out.1 k v hk)
section
variable {P : Program} {Q : Post} {fn : Func} {N : Nat} {E E' : List (Nat × Value)} {w0 : World} {M : List Nat} {L L' Lk R : Mem} {dd : Nat} {d : Option Nat} {ty : TypeId} {pos : String} {af : Array Edge} {g : Option (Nat × Bool)} {x y z : Operand} {t t' : TypeId}
theorem y_loadA {b o : Nat} {cs : List Value} {T : TypeId} {fr : Nat × Nat} {v : Value} (h1 : One P t) (hx : ev E x = some (.pointer (some ⟨b, o, none⟩))) [hp : PkBlk L b cs T fr R] [ha : At cs o v] : Yl P ⟨d, .load t x, ty, pos, af, g⟩ N E w0 M L v := y_load h1 hx ha.out
theorem y_loadC {b o : Nat} {cs us : List Value} {T : TypeId} {fr : Nat × Nat} {n : Nat} (h1 : AggOf P t n) (hx : ev E x = some (.pointer (some ⟨b, o, none⟩))) [hp : PkBlk L b cs T fr R] [hc : PartC cs o n us] : Yl P ⟨d, .load t x, ty, pos, af, g⟩ N E w0 M L (.agg us.toArray) :=
  y_loadN h1 hx hc.out.1 hc.out.2
theorem y_fieldN {b o f off o' : Nat} (hf : FA P t f off) (hx : ev E x = some (.pointer (some ⟨b, o, none⟩))) (e : o + off = o') : Yl P ⟨d, .fieldAddr t x f, ty, pos, af, g⟩ N E w0 M L (.pointer (some ⟨b, o', none⟩)) := e ▸ y_field hf hx
theorem ef_storeC {b o : Nat} {cs us cs' : List Value} {T : TypeId} {v : Value} {n : Nat} (hs : Siz P t n) (hx : ev E x = some (.pointer (some ⟨b, o, none⟩))) (hy : ev E y = some v) (hv : v.cells = us.toArray) [h1 : OneC us]
    [hp : PkBlk L b cs T (0, 0) R] [hcs : SplC cs o us cs'] [hn : PartC us 0 n us] :
    Ef P Q ⟨none, .store t x y, ty, pos, af, g⟩ N E w0 M L (fun E' L'' => E' = E ∧ L'' = .blk b cs' T (0, 0) :: R) :=
  ef_storeN hs hx hy hv hn.out.2 h1.out hcs.out.1 hcs.out.2
theorem rescC {a b t : Nat} {cs us : List Value} {T : TypeId} {fr : Nat × Nat} {n : Nat} (hr : fn.results = #[.cell a t]) (hl : lk E a = some (.pointer (some ⟨b, 0, none⟩))) (h1 : AggOf P t n) [hp : PkBlk L b cs T fr R] [hv : PartC cs 0 n us] :
    ∀ a w, Env N E a → Has w0 M L w → (results fn a.tmps).run P w = .ok (.agg us.toArray) w := fun ac w hE hL => by
  obtain ⟨h2, rfl⟩ := hv.out
  have hg := hE.get _ _ hl
  have := run_loadVarN (P := P) (t := t) h1 (w := w) (a := ⟨b, 0, none⟩) (fun j u hu => by rw [addr_add, cell_blk (R := R) hL]; exact h2 j u hu)
  simp only [Array.getD_eq_getD_getElem?] at hg
  simp [results, hr, hg, asAddr, this]
theorem rescC2 {a b t t2 : Nat} {cs us : List Value} {T : TypeId} {fr : Nat × Nat} {n : Nat} {v2 : Value} (hr : fn.results = #[.cell a t, .tmp t2]) (hl : lk E a = some (.pointer (some ⟨b, 0, none⟩))) (hl2 : lk E t2 = some v2) (h1 : AggOf P t n) [hp : PkBlk L b cs T fr R] [hv : PartC cs 0 n us] :
    ∀ a w, Env N E a → Has w0 M L w → (results fn a.tmps).run P w = .ok (.tuple #[.agg us.toArray, v2]) w := fun ac w hE hL => by
  obtain ⟨h2, rfl⟩ := hv.out
  have hg := hE.get _ _ hl
  have hg2 := hE.get _ _ hl2
  have := run_loadVarN (P := P) (t := t) h1 (w := w) (a := ⟨b, 0, none⟩) (fun j u hu => by rw [addr_add, cell_blk (R := R) hL]; exact h2 j u hu)
  simp only [Array.getD_eq_getD_getElem?] at hg hg2
  simp [results, hr, hg, hg2, asAddr, this]
end
/-- a slice's header: the row lies elsewhere -/
structure Hd where
  A : Option Addr
  cap : Nat
abbrev Hd.v (h : Hd) (n : Nat) : Value := .slice h.A n h.cap
def Hd0 : Hd := ⟨none, 0⟩
theorem Rd.hd {w : World} {v : Value} {sz n : Nat} {xs : List Value} (h : Rd w v sz n xs) : ∃ hd : Hd, v = hd.v n := by
  obtain ⟨A, c, rfl, _⟩ := h.form
  exact ⟨⟨A, c⟩, rfl⟩
/-- a digest -/
abbrev Dg := { l : List UInt8 // l.length = 32 }
theorem Dg.len (d : Dg) : (bvs d.1).length = 32 := by rw [bvs_len, d.2]
abbrev Tg := { l : List UInt8 // l.length = 16 }
theorem Tg.len (d : Tg) : (bvs d.1).length = 16 := by rw [bvs_len, d.2]
instance {d : Dg} : PartC (bvs d.1) 0 32 (bvs d.1) := .whole d.len
instance {d : Tg} : PartC (bvs d.1) 0 16 (bvs d.1) := .whole d.len
instance {d e : Dg} : SplC (bvs d.1) 0 (bvs e.1) (bvs e.1) := .whole (by rw [d.len, e.len])
instance {d e : Tg} : SplC (bvs d.1) 0 (bvs e.1) (bvs e.1) := .whole (by rw [d.len, e.len])
end Go.Proofs.Ytdgmkbjopcopcaa
