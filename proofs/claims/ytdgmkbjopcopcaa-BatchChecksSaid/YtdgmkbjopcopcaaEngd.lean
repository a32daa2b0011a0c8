/- An engine for walks, fourth part: the rules of memory. Own work. -/
import Derived.Test.YtdgmkbjopcopcaaEngc
set_option linter.unusedVariables false
set_option linter.unusedSimpArgs false
namespace Go.Proofs.Ytdgmkbjopcopcaa
open Go.RowKit

/-! ### what a type is -/
def One (P : Program) (t : TypeId) : Prop := ∀ w, (isAgg t).run P w = .ok false w
def Siz (P : Program) (t : TypeId) (n : Nat) : Prop := ∀ w, (sizeOf t).run P w = .ok n w
structure AggOf (P : Program) (t : TypeId) (n : Nat) : Prop where
  agg : ∀ w, (isAgg t).run P w = .ok true w
  siz : Siz P t n
def plainDesc : TypeDesc → Bool
  | .struct _ | .array _ _ => false
  | _ => true
theorem one_of {P : Program} {t : TypeId} {u : TypeDesc} (hu : P.underlying t = some u) (hd : plainDesc u = true) : One P t := fun w => by
  unfold isAgg
  rw [Sem.run_bind, run_underlying hu w]
  cases u <;> simp_all [plainDesc]
theorem siz_of {P : Program} {t : TypeId} {n : Nat} (hi : (P.info? t).map (·.size) = some n) : Siz P t n := fun w => by
  cases hq : P.info? t with
  | none => simp [hq] at hi
  | some i =>
    have : i.size = n := by simpa [hq] using hi
    simp [sizeOf, typeInfo, hq, this]
theorem agg_of {P : Program} {t : TypeId} {u : TypeDesc} {n : Nat} (hu : P.underlying t = some u) (hd : plainDesc u = false) (hi : (P.info? t).map (·.size) = some n) : AggOf P t n := by
  refine ⟨fun w => ?_, siz_of hi⟩
  unfold isAgg
  rw [Sem.run_bind, run_underlying hu w]
  cases u <;> simp_all [plainDesc]
/-- The field's place. -/
def FA (P : Program) (t : TypeId) (f off : Nat) : Prop := ∀ w a, (Instr.fieldAt t (.pointer (some a)) f).run P w = .ok (.pointer (some (a.add off))) w
theorem fa_of {P : Program} {t : TypeId} {fs : Array Field} {f n : Nat} {fd : Field} (hu : P.underlying t = some (.struct fs)) (hf : fs[f]? = some fd) (hn : Siz P fd.type n) (h0 : n ≠ 0) : FA P t f fd.offset := fun w a => by
  simp [Instr.fieldAt, run_underlying hu, hf, Instr.sureAddr, fieldPlace, hn w, h0]
theorem fa_is {P : Program} {t : TypeId} {f o o' : Nat} (h : FA P t f o) (e : o = o') : FA P t f o' := e ▸ h
theorem arr_add0 (a : Addr) : a.add 0 = a := by simp [Addr.add]
theorem add_add (a : Addr) (m n : Nat) : (a.add m).add n = a.add (m + n) := by
  unfold Addr.add
  by_cases h1 : m = 0 <;> by_cases h2 : n = 0 <;> simp [h1, h2, Nat.add_assoc]
/-- The address of cell k of a slice. -/
def eaddr (v : Value) (k : Nat) : Value := match v with
  | .slice (some a) _ _ => .pointer (some (a.add k))
  | _ => .pointer none
/-- v[l:h] -/
def cutv (v : Value) (l h sz : Nat) : Value := match v with
  | .slice a _ c => .slice (if c = l then a else a.map (·.add (l * sz))) (h - l) (c - l)
  | _ => v
/-- v[:n:n] -/
def fullv (v : Value) (n : Nat) : Value := match v with
  | .slice a _ _ => .slice a n n
  | _ => v
theorem Rd.cut {w : World} {v : Value} {sz n l h : Nat} {xs : List Value} (hr : Rd w v sz n xs) (h1 : l ≤ h) (h2 : h ≤ n) : Rd w (cutv v l h sz) sz (h - l) ((xs.drop (l * sz)).take ((h - l) * sz)) := by
  obtain ⟨A, c, rfl, h3, h4, h5, h6⟩ := hr.form
  have hl := hr.len
  have hm : l * sz + (h - l) * sz ≤ n * sz := by rw [← Nat.add_mul]; exact Nat.mul_le_mul_right _ (by omega)
  refine ⟨by simp; omega, _, c - l, rfl, by omega, by omega, ?_, ?_⟩
  · intro hA
    split at hA
    · omega
    · cases A with
      | none => have := h5 rfl; omega
      | some a => simp at hA
  · intro ad hA j u hu
    rw [List.getElem?_take] at hu
    split at hu
    · rename_i hj
      rw [List.getElem?_drop] at hu
      split at hA
      · rename_i hcl
        have : h - l = 0 := by omega
        rw [this] at hj
        simp at hj
      · cases A with
        | none => simp at hA
        | some a =>
          simp only [Option.map_some, Option.some.injEq] at hA
          subst hA
          rw [add_add]
          exact h6 a rfl _ u hu
    · cases hu
theorem Rd.full {w : World} {v : Value} {sz n : Nat} {xs : List Value} (hr : Rd w v sz n xs) : Rd w (fullv v n) sz n xs := by
  obtain ⟨A, c, rfl, h3, h4, h5, h6⟩ := hr.form
  exact ⟨hr.len, A, n, rfl, Nat.le_refl _, by omega, fun h => by have := h5 h; omega, h6⟩
/-- A slice of an array's block. -/
theorem rd_blk {w : World} {b o m c sz : Nat} {cs us : List Value} {T : TypeId} {fr : Nat × Nat} (h : w.heap[b]? = some (.cells cs.toArray T fr)) (hp : ∀ j u, us[j]? = some u → cs[o + j]? = some u) (hl : us.length = m * sz) (hc : m ≤ c) (hm : c ≤ maxLen) : Rd w (.slice (some ⟨b, o, none⟩) m c) sz m us :=
  ⟨hl, _, c, rfl, hc, hm, by simp, fun ad hA j u hu => by
    simp only [Option.some.injEq] at hA
    subst hA
    rw [addr_add, cell_of_row w b _ cs.toArray T fr h]
    simpa using hp j u hu⟩

/-! ### parts of a list of cells -/
/-- us stands in cs from off on. -/
def PartOf (cs : List Value) (off : Nat) (us : List Value) : Prop := ∀ j u, us[j]? = some u → cs[off + j]? = some u
theorem PartOf.nil {cs : List Value} {off : Nat} : PartOf cs off [] := fun j u h => by simp at h
theorem PartOf.skip {c : Value} {cs us : List Value} {off : Nat} (h : PartOf cs off us) : PartOf (c :: cs) (off + 1) us := fun j u hu => by
  rw [show off + 1 + j = (off + j) + 1 from by omega]
  simpa using h j u hu
theorem PartOf.over {as cs us : List Value} {off n : Nat} (hn : as.length = n) (h : PartOf cs off us) : PartOf (as ++ cs) (n + off) us := fun j u hu => by
  rw [List.getElem?_append_right (by omega), show n + off + j - as.length = off + j from by omega]
  exact h j u hu
theorem PartOf.cons {c : Value} {cs us : List Value} (h : PartOf cs 0 us) : PartOf (c :: cs) 0 (c :: us) := fun j u hu => by
  cases j with
  | zero => simpa using hu
  | succ j =>
    have := h j u (by simpa using hu)
    simpa [Nat.add_comm] using this
theorem PartOf.take {as cs us : List Value} (h : PartOf cs 0 us) : PartOf (as ++ cs) 0 (as ++ us) := fun j u hu => by
  simp only [Nat.zero_add]
  rw [List.getElem?_append] at hu ⊢
  split
  · rename_i hlt; rw [if_pos hlt] at hu; exact hu
  · rename_i hlt; rw [if_neg hlt] at hu; simpa using h _ u hu
theorem PartOf.all {cs : List Value} : PartOf cs 0 cs := fun j u h => by simpa using h
theorem PartOf.front {as cs : List Value} : PartOf (as ++ cs) 0 as := fun j u h => by
  simp only [Nat.zero_add]
  rw [List.getElem?_append_left (List.getElem?_eq_some_iff.1 h).1]
  exact h
theorem PartOf.of {cs us : List Value} {off : Nat} (h : (cs.drop off).take us.length = us) : PartOf cs off us := fun j u hu => by
  rw [← h, List.getElem?_take] at hu
  split at hu
  · simpa using hu
  · cases hu
/-- us put over cs from off on. -/
def splice (cs : List Value) (off : Nat) (us : List Value) : List Value := cs.take off ++ us ++ cs.drop (off + us.length)

/-! ### loads -/
theorem run_loadVar1 {P : Program} {t : TypeId} (h : One P t) {w : World} {a : Addr} {v : Value} (hc : w.cell? a = some v) : (loadVar t a).run P w = .ok v w := by
  simp [loadVar, h w, hc]
theorem run_loadVarN {P : Program} {t : TypeId} {us : List Value} (h : AggOf P t us.length) {w : World} {a : Addr} (hc : ∀ j u, us[j]? = some u → w.cell? (a.add j) = some u) : (loadVar t a).run P w = .ok (.agg us.toArray) w := by
  have := run_loadCells_list (P := P) w a us hc
  simp [loadVar, h.agg w, h.siz w, this]
section
variable {P : Program} {N : Nat} {E : List (Nat × Value)} {w0 : World} {M : List Nat} {L L' R : Mem} {d : Option Nat} {ty : TypeId} {pos : String} {af : Array Edge} {g : Option (Nat × Bool)} {x y z : Operand} {t t' : TypeId}

theorem cell_blk {b o : Nat} {cs : List Value} {T : TypeId} {fr : Nat × Nat} {w : World} (hL : Has w0 M L w) [hp : PkBlk L b cs T fr R] : w.cell? ⟨b, o, none⟩ = cs[o]? := by
  have h : w.heap[b]? = some (.cells cs.toArray T fr) := hL.pick hp.out
  rw [cell_of_row w b o cs.toArray T fr h]
  simp
theorem y_load {b o : Nat} {cs : List Value} {T : TypeId} {fr : Nat × Nat} {v : Value} (h1 : One P t) (hx : ev E x = some (.pointer (some ⟨b, o, none⟩))) [hp : PkBlk L b cs T fr R] (hv : cs[o]? = some v) : Yl P ⟨d, .load t x, ty, pos, af, g⟩ N E w0 M L v := fun a w hE hL => by
  simp [execOp, hE.ev hx, Instr.loadAt, Instr.sureAddr, run_loadVar1 h1 ((cell_blk (R := R) hL).trans hv)]
theorem y_loadN {b o : Nat} {cs us : List Value} {T : TypeId} {fr : Nat × Nat} {n : Nat} (h1 : AggOf P t n) (hx : ev E x = some (.pointer (some ⟨b, o, none⟩))) [hp : PkBlk L b cs T fr R] (hv : PartOf cs o us) (hn : us.length = n) : Yl P ⟨d, .load t x, ty, pos, af, g⟩ N E w0 M L (.agg us.toArray) := fun a w hE hL => by
  subst hn
  have := run_loadVarN (P := P) (t := t) h1 (w := w) (a := ⟨b, o, none⟩) (fun j u hu => by rw [addr_add, cell_blk (R := R) hL]; exact hv j u hu)
  simp [execOp, hE.ev hx, Instr.loadAt, Instr.sureAddr, this]
theorem Rd.cell {w : World} {v : Value} {sz n : Nat} {xs : List Value} (h : Rd w v sz n xs) {k : Nat} {u : Value} (hu : xs[k]? = some u) : ∃ a : Addr, eaddr v k = .pointer (some (a.add k)) ∧ ∀ j u, xs[j]? = some u → w.cell? (a.add j) = some u := by
  obtain ⟨A, cap, rfl, h1, h2, h3, h4⟩ := h.form
  have hlt := (List.getElem?_eq_some_iff.1 hu).1
  cases A with
  | none =>
    have := h3 rfl
    have := h.len
    obtain rfl : n = 0 := by omega
    simp at this
    subst this
    simp at hu
  | some a => exact ⟨a, rfl, h4 a rfl⟩
theorem y_loadE {v u : Value} {k sz n : Nat} {xs : List Value} (h1 : One P t) (hx : ev E x = some (eaddr v k)) (hr : ∀ w, Has w0 M L w → Rd w v sz n xs) (hu : xs[k]? = some u) : Yl P ⟨d, .load t x, ty, pos, af, g⟩ N E w0 M L u := fun a w hE hL => by
  obtain ⟨ad, he, hc⟩ := (hr w hL).cell hu
  rw [he] at hx
  simp [execOp, hE.ev hx, Instr.loadAt, Instr.sureAddr, run_loadVar1 h1 (hc k u hu)]
theorem y_loadNE {v : Value} {k sz n m : Nat} {xs us : List Value} (h1 : AggOf P t m) (hx : ev E x = some (eaddr v k)) (hr : ∀ w, Has w0 M L w → Rd w v sz n xs) (hu : PartOf xs k us) (hn : us.length = m) (h0 : 0 < m) : Yl P ⟨d, .load t x, ty, pos, af, g⟩ N E w0 M L (.agg us.toArray) := fun a w hE hL => by
  subst hn
  obtain ⟨u, hu0⟩ : ∃ u, us[0]? = some u := ⟨us[0], by simp [h0]⟩
  obtain ⟨ad, he, hc⟩ := (hr w hL).cell (hu 0 u hu0)
  have he' : eaddr v k = .pointer (some (ad.add k)) := by simpa using he
  rw [he'] at hx
  have := run_loadVarN (P := P) (t := t) h1 (w := w) (a := ad.add k) (fun j u hju => by rw [add_add]; exact hc _ _ (hu j u hju))
  simp [execOp, hE.ev hx, Instr.loadAt, Instr.sureAddr, this]

/-! ### addresses -/
theorem y_field {b o f off : Nat} (hf : FA P t f off) (hx : ev E x = some (.pointer (some ⟨b, o, none⟩))) : Yl P ⟨d, .fieldAddr t x f, ty, pos, af, g⟩ N E w0 M L (.pointer (some ⟨b, o + off, none⟩)) := fun a w hE hL => by
  simp [execOp, hE.ev hx, hf w, addr_add]
theorem y_field0 {b f off : Nat} (hf : FA P t f off) (hx : ev E x = some (.pointer (some ⟨b, 0, none⟩))) : Yl P ⟨d, .fieldAddr t x f, ty, pos, af, g⟩ N E w0 M L (.pointer (some ⟨b, off, none⟩)) := fun a w hE hL => by
  simp [execOp, hE.ev hx, hf w, addr_add]
theorem y_fieldE {v : Value} {k sz n f off : Nat} {xs : List Value} (hf : FA P t f off) (hx : ev E x = some (eaddr v k)) (hr : ∀ w, Has w0 M L w → Rd w v sz n xs) (hk : k < xs.length) : Yl P ⟨d, .fieldAddr t x f, ty, pos, af, g⟩ N E w0 M L (eaddr v (k + off)) := fun a w hE hL => by
  obtain ⟨u, hu⟩ : ∃ u, xs[k]? = some u := ⟨xs[k], by simp [hk]⟩
  obtain ⟨A, cap, rfl, h1, h2, h3, h4⟩ := (hr w hL).form
  cases A with
  | none =>
    have := h3 rfl
    have := (hr w hL).len
    obtain rfl : n = 0 := by omega
    omega
  | some ad =>
    simp only [eaddr] at hx ⊢
    simp [execOp, hE.ev hx, hf w, add_add]
/-- x[i], x an array's address -/
theorem run_indexArr {e : TypeId} {n sz : Nat} (hu : P.underlying t = some (.array n e)) (hs : Siz P e sz) {k : IntKind} {i : Int} (h0 : 0 ≤ i) (h1 : i < n) (w : World) (a : Addr) : (Instr.indexAt t (.pointer (some a)) (.int k i)).run P w = .ok (.pointer (some (a.add (i.toNat * sz)))) w := by
  simp [Instr.indexAt, asIntOf, run_underlying hu, Instr.sureAddr, h0, h1, hs w]
theorem y_indexA {e : TypeId} {b o n sz : Nat} {k : IntKind} {i : Int} (hu : P.underlying t = some (.array n e)) (hs : Siz P e sz) (hx : ev E x = some (.pointer (some ⟨b, o, none⟩))) (hy : ev E y = some (.int k i)) (h0 : 0 ≤ i) (h1 : i < n) : Yl P ⟨d, .indexAddr t x y, ty, pos, af, g⟩ N E w0 M L (.pointer (some ⟨b, o + i.toNat * sz, none⟩)) := fun a w hE hL => by
  simp [execOp, hE.ev hx, hE.ev hy, run_indexArr hu hs h0 h1, addr_add]
/-- elements of one cell -/
theorem y_indexA1 {e : TypeId} {b n : Nat} {k : IntKind} {i : Int} (hu : P.underlying t = some (.array n e)) (hs : Siz P e 1) (hx : ev E x = some (.pointer (some ⟨b, 0, none⟩))) (hy : ev E y = some (.int k i)) (h0 : 0 ≤ i) (h1 : i < n) : Yl P ⟨d, .indexAddr t x y, ty, pos, af, g⟩ N E w0 M L (.pointer (some ⟨b, i.toNat, none⟩)) := fun a w hE hL => by
  simp [execOp, hE.ev hx, hE.ev hy, run_indexArr hu hs h0 h1, addr_add]
theorem y_indexA1n {e : TypeId} {b n : Nat} {k : IntKind} {i : Nat} (hu : P.underlying t = some (.array n e)) (hs : Siz P e 1) (hx : ev E x = some (.pointer (some ⟨b, 0, none⟩))) (hy : ev E y = some (.int k (i : Int))) (h1 : i < n) : Yl P ⟨d, .indexAddr t x y, ty, pos, af, g⟩ N E w0 M L (.pointer (some ⟨b, i, none⟩)) := by
  have := y_indexA1 (P := P) (w0 := w0) (M := M) (L := L) (d := d) (ty := ty) (pos := pos) (af := af) (g := g) (t := t) (N := N) hu hs hx hy (by omega) (by omega)
  simpa using this
theorem run_indexSl {e : TypeId} {n sz c : Nat} (hu : P.underlying t = some (.slice e)) (hs : Siz P e sz) {k : IntKind} {i : Int} (h0 : 0 ≤ i) (h1 : i < n) (w : World) (a : Addr) : (Instr.indexAt t (.slice (some a) n c) (.int k i)).run P w = .ok (.pointer (some (a.add (i.toNat * sz)))) w := by
  simp [Instr.indexAt, asIntOf, run_underlying hu, h0, h1, hs w]
theorem y_indexE {e : TypeId} {v : Value} {sz sz' n : Nat} {xs : List Value} {k : IntKind} {i : Int} (hu : P.underlying t = some (.slice e)) (hs : Siz P e sz) (hx : ev E x = some v) (hy : ev E y = some (.int k i)) (hr : ∀ w, Has w0 M L w → Rd w v sz' n xs) (h0 : 0 ≤ i) (h1 : i < n) : Yl P ⟨d, .indexAddr t x y, ty, pos, af, g⟩ N E w0 M L (eaddr v (i.toNat * sz)) := fun a w hE hL => by
  obtain ⟨A, cap, rfl, h2, _, h3, h4⟩ := (hr w hL).form
  cases A with
  | none => have := h3 rfl; omega
  | some ad => simp [execOp, hE.ev hx, hE.ev hy, run_indexSl hu hs h0 h1, eaddr]
theorem y_indexEn {e : TypeId} {v : Value} {sz sz' n : Nat} {xs : List Value} {k : IntKind} {i : Nat} (hu : P.underlying t = some (.slice e)) (hs : Siz P e sz) (hx : ev E x = some v) (hy : ev E y = some (.int k (i : Int))) (hr : ∀ w, Has w0 M L w → Rd w v sz' n xs) (h1 : i < n) : Yl P ⟨d, .indexAddr t x y, ty, pos, af, g⟩ N E w0 M L (eaddr v (i * sz)) := by
  have := y_indexE (P := P) (d := d) (ty := ty) (pos := pos) (af := af) (g := g) (N := N) (E := E) hu hs hx hy hr (by omega) (by omega)
  simpa using this
theorem y_indexE1 {e : TypeId} {v : Value} {sz' n : Nat} {xs : List Value} {k : IntKind} {i : Int} (hu : P.underlying t = some (.slice e)) (hs : Siz P e 1) (hx : ev E x = some v) (hy : ev E y = some (.int k i)) (hr : ∀ w, Has w0 M L w → Rd w v sz' n xs) (h0 : 0 ≤ i) (h1 : i < n) : Yl P ⟨d, .indexAddr t x y, ty, pos, af, g⟩ N E w0 M L (eaddr v i.toNat) := by
  have := y_indexE (P := P) (d := d) (ty := ty) (pos := pos) (af := af) (g := g) (N := N) (E := E) hu hs hx hy hr h0 h1
  simpa using this
theorem y_indexE1n {e : TypeId} {v : Value} {sz' n : Nat} {xs : List Value} {k : IntKind} {i : Nat} (hu : P.underlying t = some (.slice e)) (hs : Siz P e 1) (hx : ev E x = some v) (hy : ev E y = some (.int k (i : Int))) (hr : ∀ w, Has w0 M L w → Rd w v sz' n xs) (h1 : i < n) : Yl P ⟨d, .indexAddr t x y, ty, pos, af, g⟩ N E w0 M L (eaddr v i) := by
  have := y_indexE (P := P) (d := d) (ty := ty) (pos := pos) (af := af) (g := g) (N := N) (E := E) hu hs hx hy hr (by omega) (by omega)
  simpa using this
/-- s[i], a string's byte -/
theorem y_indexS {s : ByteArray} {k : IntKind} {i : Int} {b : UInt8} (hu : P.underlying t = some .string) (hx : ev E x = some (.string s)) (hy : ev E y = some (.int k i)) (h0 : 0 ≤ i) (hb : s.data.toList[i.toNat]? = some b) : Yl P ⟨d, .index t x y, ty, pos, af, g⟩ N E w0 M L (.int .u8 b.toNat) := fun a w hE hL => by
  have hlt := (List.getElem?_eq_some_iff.1 hb).1
  have hb2 : s[i.toNat]? = some b := by
    have h1 : i.toNat < s.size := by simpa using hlt
    rw [getElem?_pos s i.toNat h1]
    have := (List.getElem?_eq_some_iff.1 hb).2
    simp at this
    rw [← this]
    rfl
  simp [execOp, hE.ev hx, hE.ev hy, Instr.index, asIntOf, run_underlying hu, h0, hb2]

/-! ### cuts -/
/-- an array's address, cut whole or up to h -/
theorem y_sliceA {e : TypeId} {b o n l h sz : Nat} {lo hi : Option Operand} (hu : P.underlying t = some (.array n e)) (hs : Siz P e sz) (hx : ev E x = some (.pointer (some ⟨b, o, none⟩)))
    (hl : (lo = none ∧ l = 0) ∨ ∃ y k, lo = some y ∧ ev E y = some (.int k (l : Int))) (hh : (hi = none ∧ h = n) ∨ ∃ y k, hi = some y ∧ ev E y = some (.int k (h : Int))) (h1 : l ≤ h) (h2 : h ≤ n) (h3 : l < n) : Yl P ⟨d, .slice t x lo hi none, ty, pos, af, g⟩ N E w0 M L (.slice (some ⟨b, o + l * sz, none⟩) (h - l) (n - l)) := fun a w hE hL => by
  have hne : n ≠ l := by omega
  rcases hl with ⟨rfl, rfl⟩ | ⟨yl, kl, rfl, hyl⟩ <;> rcases hh with ⟨rfl, rfl⟩ | ⟨yh, kh, rfl, hyh⟩
  · simp [execOp, hE.ev hx, Instr.sliceAt, run_underlying hu, Instr.sureAddr, Instr.sliceBounds, hs w, hne, addr_add, arr_add0]
  · simp [execOp, hE.ev hx, hE.ev hyh, Instr.sliceAt, run_underlying hu, Instr.sureAddr, Instr.sliceBounds, Instr.sliceBound, asIntOf, hs w, hne, addr_add, h2, arr_add0]
  · simp [execOp, hE.ev hx, hE.ev hyl, Instr.sliceAt, run_underlying hu, Instr.sureAddr, Instr.sliceBounds, Instr.sliceBound, asIntOf, hs w, hne, addr_add, h1]
  · simp [execOp, hE.ev hx, hE.ev hyl, hE.ev hyh, Instr.sliceAt, run_underlying hu, Instr.sureAddr, Instr.sliceBounds, Instr.sliceBound, asIntOf, hs w, hne, addr_add, h1, h2]
/-- v[l:h], whatever v is. -/
theorem y_sliceS {e : TypeId} {v : Value} {n l h sz : Nat} {xs : List Value} {lo hi : Option Operand} (hu : P.underlying t = some (.slice e)) (hs : Siz P e sz) (hx : ev E x = some v) (hr : ∀ w, Has w0 M L w → Rd w v sz n xs)
    (hl : (lo = none ∧ l = 0) ∨ ∃ y k, lo = some y ∧ ev E y = some (.int k (l : Int))) (hh : (hi = none ∧ h = n) ∨ ∃ y k, hi = some y ∧ ev E y = some (.int k (h : Int))) (h1 : l ≤ h) (h2 : h ≤ n) : Yl P ⟨d, .slice t x lo hi none, ty, pos, af, g⟩ N E w0 M L (cutv v l h sz) := fun a w hE hL => by
  obtain ⟨A, c, rfl, hc, _⟩ := (hr w hL).form
  rcases hl with ⟨rfl, rfl⟩ | ⟨yl, kl, rfl, hyl⟩ <;> rcases hh with ⟨rfl, rfl⟩ | ⟨yh, kh, rfl, hyh⟩
  · simp [execOp, hE.ev hx, Instr.sliceAt, Instr.slice, run_underlying hu, Instr.sliceBounds, hs w, cutv]
  · simp [execOp, hE.ev hx, hE.ev hyh, Instr.sliceAt, Instr.slice, run_underlying hu, Instr.sliceBounds, Instr.sliceBound, asIntOf, hs w, show h ≤ c from by omega, cutv]
  · simp [execOp, hE.ev hx, hE.ev hyl, Instr.sliceAt, Instr.slice, run_underlying hu, Instr.sliceBounds, Instr.sliceBound, asIntOf, hs w, h1, cutv]
  · simp [execOp, hE.ev hx, hE.ev hyl, hE.ev hyh, Instr.sliceAt, Instr.slice, run_underlying hu, Instr.sliceBounds, Instr.sliceBound, asIntOf, hs w, h1, show h ≤ c from by omega, cutv]
/-- v[:n:n], v of n elements -/
theorem y_slice3 {e : TypeId} {v : Value} {n sz : Nat} {xs : List Value} {kh km : IntKind} (hu : P.underlying t = some (.slice e)) (hs : Siz P e sz) (hx : ev E x = some v) (hr : ∀ w, Has w0 M L w → Rd w v sz n xs)
    (hy : ev E y = some (.int kh (n : Int))) (hz : ev E z = some (.int km (n : Int))) : Yl P ⟨d, .slice t x none (some y) (some z), ty, pos, af, g⟩ N E w0 M L (fullv v n) := fun a w hE hL => by
  obtain ⟨A, c, rfl, hc, _⟩ := (hr w hL).form
  simp [execOp, hE.ev hx, hE.ev hy, hE.ev hz, Instr.sliceAt, Instr.slice, run_underlying hu, Instr.sliceBounds, Instr.sliceBound, asIntOf, hs w, hc, fullv]
  cases A <;> simp [arr_add0]
/-- s[l:h], a string -/
theorem y_sliceStr {s : ByteArray} {l h : Nat} {lo hi : Option Operand} (hu : P.underlying t = some .string) (hx : ev E x = some (.string s))
    (hl : (lo = none ∧ l = 0) ∨ ∃ y k, lo = some y ∧ ev E y = some (.int k (l : Int))) (hh : (hi = none ∧ h = s.size) ∨ ∃ y k, hi = some y ∧ ev E y = some (.int k (h : Int))) (h1 : l ≤ h) (h2 : h ≤ s.size) : Yl P ⟨d, .slice t x lo hi none, ty, pos, af, g⟩ N E w0 M L (.string (s.extract l h)) := fun a w hE hL => by
  rcases hl with ⟨rfl, rfl⟩ | ⟨yl, kl, rfl, hyl⟩ <;> rcases hh with ⟨rfl, rfl⟩ | ⟨yh, kh, rfl, hyh⟩
  · simp [execOp, hE.ev hx, Instr.sliceAt, Instr.slice, run_underlying hu, Instr.sliceBounds]
  · simp [execOp, hE.ev hx, hE.ev hyh, Instr.sliceAt, Instr.slice, run_underlying hu, Instr.sliceBounds, Instr.sliceBound, asIntOf, h2]
  · simp [execOp, hE.ev hx, hE.ev hyl, Instr.sliceAt, Instr.slice, run_underlying hu, Instr.sliceBounds, Instr.sliceBound, asIntOf, h1]
  · simp [execOp, hE.ev hx, hE.ev hyl, hE.ev hyh, Instr.sliceAt, Instr.slice, run_underlying hu, Instr.sliceBounds, Instr.sliceBound, asIntOf, h1, h2]
end
end Go.Proofs.Ytdgmkbjopcopcaa
