/- An engine for walks, fourteenth part: structs that are built of named cells; parts of arrays; maps. Own work. -/
import Derived.Test.YtdgmkbjopcopcaaEngm
set_option linter.unusedVariables false
set_option linter.unusedSimpArgs false
namespace Go.Proofs.Ytdgmkbjopcopcaa
open Go.RowKit
/-- the fields' places -/
inductive Pl (P : Program) : List Field → List (Nat × Nat) → Prop
  | nil : Pl P [] []
  | cons {f : Field} {fs : List Field} {pl : List (Nat × Nat)} {n : Nat} (h : Siz P f.type n) (k : Pl P fs pl) : Pl P (f :: fs) ((f.offset, n) :: pl)
theorem Pl.run {P : Program} {fs : List Field} {pl : List (Nat × Nat)} (h : Pl P fs pl) (w : World) : (fs.mapM fun f => (do pure (f.offset, ← sizeOf f.type) : Sem (Nat × Nat))).run P w = .ok pl w := by
  induction h with
  | nil => simp
  | cons h _ ih =>
    rw [List.mapM_cons]
    simp only [Sem.run_bind, h w, Result.andThen_ok, Sem.run_pure, ih]
/-- how a type is built out of its parts -/
def BldS (P : Program) (t : TypeId) (pl : List (Nat × Nat)) (zs : List Value) : Prop :=
  ∀ (parts : Array (Nat × Value)) (cells : Array Value) w, Instr.fill (fun i => pl[i]?) zs.toArray parts.toList = some cells → (Instr.build t parts).run P w = .ok (.agg cells) w
theorem bld_struct {P : Program} {t : TypeId} {fs : List Field} {pl : List (Nat × Nat)} {zs : List Value} (hu : P.underlying t = some (.struct fs.toArray)) (hz : Zer P t zs) (hp : Pl P fs pl) : BldS P t pl zs := fun parts cells w hf => by
  obtain ⟨z, hz1, hz2⟩ := hz w
  have h := hp.run w
  have hm : (fs.toArray.mapM fun f => (do pure (f.offset, ← sizeOf f.type) : Sem (Nat × Nat))).run P w = .ok pl.toArray w := by
    rw [Array.mapM_eq_mapM_toList, map_eq_pure_bind, Sem.run_bind, h]
    rfl
  simp only [Instr.build, Sem.run_bind, hz1, Result.andThen_ok, run_underlying hu, hm, hz2, List.getElem?_toArray, hf, Sem.run_pure]
class GetC (pl : List (Nat × Nat)) (i : Nat) (off n : outParam Nat) : Prop where
  out : pl[i]? = some (off, n)
instance {l : List (Nat × Nat)} {a b : Nat} : GetC ((a, b) :: l) 0 a b := ⟨rfl⟩
instance {l : List (Nat × Nat)} {p : Nat × Nat} {i a b : Nat} [h : GetC l i a b] : GetC (p :: l) (i + 1) a b := ⟨by simpa using h.out⟩
class CellsC (v : Value) (us : outParam (List Value)) : Prop where
  out : v.cells = us.toArray
instance {l : List Value} : CellsC (.agg l.toArray) l := ⟨rfl⟩
instance {b : Bool} : CellsC (.bool b) [.bool b] := ⟨rfl⟩
instance {k : IntKind} {n : Int} : CellsC (.int k n) [.int k n] := ⟨rfl⟩
instance {s : ByteArray} : CellsC (.string s) [.string s] := ⟨rfl⟩
instance {A : Option Addr} {n c : Nat} : CellsC (.slice A n c) [.slice A n c] := ⟨rfl⟩
instance {A : Option Addr} : CellsC (.pointer A) [.pointer A] := ⟨rfl⟩
class FillC (pl : List (Nat × Nat)) (cs : List Value) (vs : List (Nat × Value)) (cs' : outParam (List Value)) : Prop where
  fill : Instr.fill (fun i => pl[i]?) cs.toArray vs = some cs'.toArray
instance {pl : List (Nat × Nat)} {cs : List Value} : FillC pl cs [] cs := ⟨rfl⟩
instance {pl : List (Nat × Nat)} {cs cs' cs'' us : List Value} {i off n : Nat} {v : Value} {rest : List (Nat × Value)} [hp : GetC pl i off n] [hv : CellsC v us] [hn : PartC us 0 n us] [hs : SplC cs off us cs'] [h : FillC pl cs' rest cs''] : FillC pl cs ((i, v) :: rest) cs'' := ⟨by
  obtain ⟨h1, h2⟩ := hs.out
  have h3 := fill_put us cs off h2
  rw [h1] at h3
  have hn := hn.out.2
  simp only [Instr.fill, hp.out, hv.out]
  rw [if_neg (by simp [hn]; omega), h3]
  exact h.fill⟩
section
variable {P : Program} {Q : Post} {fn : Func} {N : Nat} {E E' : List (Nat × Value)} {w0 : World} {M : List Nat} {L L' Lk R : Mem} {dd : Nat} {d : Option Nat} {ty : TypeId} {pos : String} {af : Array Edge} {g : Option (Nat × Bool)} {x y z : Operand} {t t' : TypeId}
theorem y_buildS {pl : List (Nat × Nat)} {zs cs : List Value} {parts : List (Nat × Operand)} {vs : List (Nat × Value)} (hb : BldS P t pl zs) (hv : evp E parts = some vs) [hf : FillC pl zs vs cs] : Yl P ⟨d, .build t parts.toArray, ty, pos, af, g⟩ N E w0 M L (.agg cs.toArray) := fun a w hE hL => by
  have h1 := hE.evp hv
  have h2 := hb (parts.map fun x => (x.1, a.eval x.2)).toArray cs.toArray w (by rw [h1]; exact hf.fill)
  rw [h1] at h2
  simp only [execOp, List.map_toArray, h1, Sem.run_bind]
  rw [h2]
  simp
/-- a part of an array that is a value, of more than one cell -/
theorem y_indexVN {e : TypeId} {n sz : Nat} {k : IntKind} {i : Nat} {cs us : List Value} (hu : P.underlying t = some (.array n e)) (h1 : AggOf P e sz) (hx : ev E x = some (.agg cs.toArray)) (hy : ev E y = some (.int k (i : Int))) (h2 : i < n) (hv : PartOf cs (i * sz) us) (hl : us.length = sz) : Yl P ⟨d, .index t x y, ty, pos, af, g⟩ N E w0 M L (.agg us.toArray) := fun a w hE hL => by
  have hp := partN (P := P) (t := e) (cs := cs) (us := us) (off := i * sz) (n := sz)
  have hpart : (part e cs.toArray (i * sz)).run P w = .ok (.agg us.toArray) w := by
    simp only [part, Sem.run_bind, h1.agg w, Result.andThen_ok, if_true, h1.siz w, Sem.run_pure]
    congr 2
    have : (cs.drop (i * sz)).take sz = us := by
      apply List.ext_getElem?
      intro j
      rw [List.getElem?_take]
      split
      · rename_i hj
        rw [List.getElem?_drop]
        obtain ⟨u, hu⟩ : ∃ u, us[j]? = some u := ⟨us[j], by simp⟩
        rw [hv j u hu, hu]
      · rename_i hj
        rw [List.getElem?_eq_none (by omega)]
    rw [← this]
    simp
  have hi : ((i : Nat) : Int) < (n : Int) := by omega
  simp [execOp, hE.ev hx, hE.ev hy, Instr.index, asIntOf, run_underlying hu, h2, h1.siz w, hpart]
end

/-! ### a slice's literal, elements of named cells -/
class LitC (sz k : Nat) (vs : List (Nat × Value)) (cs : outParam (List Value)) : Prop where
  fill : ∀ A Z : List Value, A.length = k * sz → Z.length = vs.length * sz → Instr.fill (fun i => some (i * sz, sz)) (A ++ Z).toArray vs = some (A ++ cs).toArray
  len : cs.length = vs.length * sz
instance {sz k : Nat} : LitC sz k [] [] := ⟨fun A Z h1 h2 => by
  have : Z = [] := List.eq_nil_of_length_eq_zero (by simpa using h2)
  subst this
  rfl, by simp⟩
theorem LitC.cons {sz k : Nat} {v : Value} {us cs : List Value} {rest : List (Nat × Value)} (hv : v.cells = us.toArray) (hn : us.length = sz) (h : LitC sz (k + 1) rest cs) : LitC sz k ((k, v) :: rest) (us ++ cs) := by
  refine ⟨fun A Z h1 h2 => ?_, by rw [List.length_append, h.len, hn, List.length_cons, Nat.add_mul]; omega⟩
  have hZ : Z.length = sz + rest.length * sz := by rw [h2, List.length_cons, Nat.add_mul]; omega
  have h3 := fill_put us (A ++ Z) (k * sz) (by rw [List.length_append, h1, hn]; omega)
  have h4 : splice (A ++ Z) (k * sz) us = (A ++ us) ++ Z.drop sz := by
    simp only [splice]
    rw [← h1, List.take_left, hn, List.drop_append, show A.length + sz - A.length = sz from by omega, List.drop_eq_nil_of_le (by omega), List.nil_append]
  rw [h4] at h3
  have h5 := h.fill (A ++ us) (Z.drop sz) (by rw [List.length_append, h1, hn, Nat.add_mul]; omega) (by rw [List.length_drop, hZ]; omega)
  simp only [Instr.fill, hv]
  rw [if_neg (by simp [hn, h1]; omega), h3, h5, List.append_assoc]
instance {sz : Nat} {v : Value} {us cs : List Value} {rest : List (Nat × Value)} [hv : CellsC v us] [hn : PartC us 0 sz us] [h : LitC sz 1 rest cs] : LitC sz 0 ((0, v) :: rest) (us ++ cs) := .cons hv.out hn.out.2 h
instance {sz : Nat} {v : Value} {us cs : List Value} {rest : List (Nat × Value)} [hv : CellsC v us] [hn : PartC us 0 sz us] [h : LitC sz 2 rest cs] : LitC sz 1 ((1, v) :: rest) (us ++ cs) := .cons hv.out hn.out.2 h
instance {sz : Nat} {v : Value} {us cs : List Value} {rest : List (Nat × Value)} [hv : CellsC v us] [hn : PartC us 0 sz us] [h : LitC sz 3 rest cs] : LitC sz 2 ((2, v) :: rest) (us ++ cs) := .cons hv.out hn.out.2 h
instance {sz : Nat} {v : Value} {us cs : List Value} {rest : List (Nat × Value)} [hv : CellsC v us] [hn : PartC us 0 sz us] [h : LitC sz 4 rest cs] : LitC sz 3 ((3, v) :: rest) (us ++ cs) := .cons hv.out hn.out.2 h
theorem LitC.last {sz k : Nat} {v : Value} {us : List Value} (hv : v.cells = us.toArray) (hn : us.length = sz) : LitC sz k [(k, v)] us := by
  have := LitC.cons (sz := sz) (k := k) hv hn (rest := []) (cs := []) ⟨fun A Z h1 h2 => by
    have : Z = [] := List.eq_nil_of_length_eq_zero (by simpa using h2)
    subst this
    rfl, by simp⟩
  rwa [List.append_nil] at this
instance {sz : Nat} {v : Value} {us : List Value} [hv : CellsC v us] [hn : PartC us 0 sz us] : LitC sz 0 [(0, v)] us := .last hv.out hn.out.2
instance {sz : Nat} {v : Value} {us : List Value} [hv : CellsC v us] [hn : PartC us 0 sz us] : LitC sz 1 [(1, v)] us := .last hv.out hn.out.2
instance {sz : Nat} {v : Value} {us : List Value} [hv : CellsC v us] [hn : PartC us 0 sz us] : LitC sz 2 [(2, v)] us := .last hv.out hn.out.2
instance {sz : Nat} {v : Value} {us : List Value} [hv : CellsC v us] [hn : PartC us 0 sz us] : LitC sz 3 [(3, v)] us := .last hv.out hn.out.2
section
variable {P : Program} {Q : Post} {fn : Func} {N : Nat} {E E' : List (Nat × Value)} {w0 : World} {M : List Nat} {L L' Lk R : Mem} {dd : Nat} {d : Option Nat} {ty : TypeId} {pos : String} {af : Array Edge} {g : Option (Nat × Bool)} {x y z : Operand} {t t' : TypeId}
theorem ef_litN {e : TypeId} {sz n : Nat} {zs cs : List Value} {parts : List (Nat × Operand)} {vs : List (Nat × Value)} (hN : Nat.blt dd N = true) (hu : P.underlying t = some (.slice e)) (hs : Siz P e sz) (hz : Zer P e zs) (hv : evp E parts = some vs) (hn : vs.length = n)
    (hb : (Nat.ble n 1000 && Nat.ble sz 1000) = true) [hl : LitC sz 0 vs cs] :
    Ef P Q ⟨some dd, .buildSlice t n parts.toArray, ty, pos, af, g⟩ N E w0 M L (fun E' L' => ∃ s, E' = (dd, s) :: E ∧ L' = .own s e sz n cs :: L) := by
  simp only [Bool.and_eq_true, Nat.ble_eq] at hb
  have hmul : n * sz ≤ 1000 * 1000 := Nat.mul_le_mul hb.1 hb.2
  have hlen := hl.len
  rw [hn] at hlen
  refine ef_lit hN (by simp; omega) (fun a w hE => ?_) hlen
  obtain ⟨zv, hz1, hz2⟩ := hz w
  have h1 := hE.evp hv
  have hf : ∀ Z : Array Value, Z.size = n * sz → Instr.fill (fun i => some (i * sz, sz)) Z vs = some cs.toArray := fun Z hZ => by
    have := hl.fill [] Z.toList (by simp) (by simp [hn, hZ])
    simpa using this
  have hbig : ¬ (2 ^ 24 < n * sz) := by omega
  have h1' : (parts.toArray.map fun x => (x.1, a.eval x.2)).toList = vs := by simpa using h1
  by_cases h0 : n * sz = 0
  · have hq := hf ((Array.range 0).map fun _ => default) (by simp [h0])
    simp [Instr.buildSlice, run_underlying hu, hs w, h0, newRow, h1, hq]
  · have hq := hf ((Array.range (n * sz)).map (zv.cells[· % zv.cells.size]!)) (by simp)
    simp [Instr.buildSlice, run_underlying hu, hs w, hz1, h0, hbig, newRow, h1, hq]
end
/-! ### maps that the call makes: told by their entries in order -/
section
variable {K : Type} [DecidableEq K]
def assoc : List (K × Value) → K → Option Value
  | [], _ => none
  | (a, v) :: l, x => if a = x then some v else assoc l x
def upd : List (K × Value) → K → Value → List (K × Value)
  | [], x, v => [(x, v)]
  | (a, u) :: l, x, v => if a = x then (a, v) :: l else (a, u) :: upd l x v
/-- the entries, the first of which is the nth -/
def entsAt (key : K → Value) : Nat → List (K × Value) → List MapEntry
  | _, [] => []
  | n, (a, v) :: l => { key := key a, val := v, born := n } :: entsAt key (n + 1) l
abbrev ents (key : K → Value) (kv : List (K × Value)) : List MapEntry := entsAt key 0 kv
def fnd : List (K × Value) → K → Nat → Option (Nat × Value)
  | [], _, _ => none
  | (a, v) :: l, x, i => if a = x then some (i, v) else fnd l x (i + 1)
theorem fnd_assoc (l : List (K × Value)) (x : K) : ∀ i, (fnd l x i).map (·.2) = assoc l x := by
  induction l with
  | nil => intro i; rfl
  | cons p l ih =>
    intro i
    obtain ⟨a, v⟩ := p
    simp only [fnd, assoc]
    split
    · rfl
    · exact ih _
/-- keys of the type kt: they may be, they are found -/
structure KeyOk (P : Program) (kt : TypeId) (key : K → Value) : Prop where
  check : ∀ e x w, (Instr.checkKey e 10000 kt (key x)).run P w = .ok () w
  find : ∀ x n l w, (Instr.findKey kt (key x) (entsAt key n l)).run P w = .ok (fnd l x 0) w
  bits : ∀ x, Instr.sameBits 10000 (key x) (key x) = true
theorem findAsking_of {P : Program} {kt : TypeId} {key : K → Value} (h : ∀ x y w, (Op.equal kt (key x) (key y)).run P w = .ok (decide (x = y)) w) (x : K) (w : World) : ∀ (l : List (K × Value)) (n i : Nat), (Instr.findAsking kt (key x) (entsAt key n l) i).run P w = .ok (fnd l x i) w
  | [], _, _ => by simp [Instr.findAsking, entsAt, fnd]
  | (a, v) :: l, n, i => by
    simp only [entsAt, Instr.findAsking, fnd, Sem.run_bind, h x a w, Result.andThen_ok]
    by_cases e : x = a
    · subst e; simp
    · have e2 : ¬ a = x := fun h => e h.symm
      simp only [e, decide_false, if_false, e2]
      simpa using findAsking_of h x w l (n + 1) (i + 1)
theorem keyInt {P : Program} {kt : TypeId} {k : IntKind} (hu : P.underlying kt = some (.int k)) : KeyOk P kt (fun x : Int => .int k x) where
  check e x w := by
    rw [show (10000 : Nat) = 9999 + 1 from rfl, Instr.checkKey]
    simp only [Sem.run_bind, run_underlying hu, Result.andThen_ok, Sem.run_pure]
  find x n l w := by
    simp only [Instr.findKey, Sem.run_bind, run_underlying hu, Result.andThen_ok]
    have h : ∀ (l : List (Int × Value)) (n i : Nat), Instr.findNow (.int k) (.int k x) (entsAt (fun x : Int => .int k x) n l) i = some (fnd l x i) := by
      intro l
      induction l with
      | nil => intro n i; simp [Instr.findNow, entsAt, fnd]
      | cons p l ih =>
        intro n i
        obtain ⟨a, v⟩ := p
        simp only [entsAt, Instr.findNow, Instr.sameNow, if_true, fnd]
        by_cases e : x = a
        · subst e; simp
        · have e2 : ¬ a = x := fun h => e h.symm
          have e3 : (x == a) = false := by simpa using e
          simp only [e3, e2, if_false]
          exact ih _ _
    rw [h]
    simp
  bits x := by rw [Instr.sameBits]; simp
theorem entsAt_get (key : K → Value) (x : K) : ∀ (l : List (K × Value)) (n i j : Nat) (v : Value), fnd l x i = some (j, v) → ∃ m, j = i + m ∧ (entsAt key n l)[m]? = some { key := key x, val := v, born := n + m }
  | [], _, _, _, _, h => by simp [fnd] at h
  | (a, u) :: l, n, i, j, v, h => by
    simp only [fnd] at h
    split at h
    · rename_i e
      subst e
      simp at h
      obtain ⟨rfl, rfl⟩ := h
      exact ⟨0, rfl, by simp [entsAt]⟩
    · obtain ⟨m, h1, h2⟩ := entsAt_get key x l (n + 1) (i + 1) j v h
      exact ⟨m + 1, by omega, by simp [entsAt, h2]; omega⟩
theorem entsAt_upd (key : K → Value) (x : K) (v : Value) : ∀ (l : List (K × Value)) (n i j : Nat) (u : Value), fnd l x i = some (j, u) → ∃ m, j = i + m ∧ (entsAt key n l).modify m (fun e => { e with key := key x, val := v }) = entsAt key n (upd l x v) ∧ (upd l x v).length = l.length
  | [], _, _, _, _, h => by simp [fnd] at h
  | (a, u) :: l, n, i, j, u', h => by
    simp only [fnd] at h
    split at h
    · rename_i e
      subst e
      simp at h
      obtain ⟨rfl, rfl⟩ := h
      exact ⟨0, rfl, by simp [entsAt, upd], by simp [upd]⟩
    · rename_i e
      obtain ⟨m, h1, h2, h3⟩ := entsAt_upd key x v l (n + 1) (i + 1) j u' h
      exact ⟨m + 1, by omega, by simp [entsAt, upd, e, h2], by simp [upd, e, h3]⟩
theorem entsAt_new (key : K → Value) (x : K) (v : Value) : ∀ (l : List (K × Value)) (n i : Nat), fnd l x i = none → entsAt key n (upd l x v) = entsAt key n l ++ [{ key := key x, val := v, born := n + l.length }] ∧ (upd l x v).length = l.length + 1
  | [], n, i, _ => by simp [entsAt, upd]
  | (a, u) :: l, n, i, h => by
    simp only [fnd] at h
    split at h
    · cases h
    · rename_i e
      obtain ⟨h1, h2⟩ := entsAt_new key x v l (n + 1) (i + 1) h
      simp [entsAt, upd, e, h1, h2]
      omega
omit [DecidableEq K] in
theorem entsAt_len (key : K → Value) : ∀ (l : List (K × Value)) (n : Nat), (entsAt key n l).length = l.length
  | [], _ => rfl
  | _ :: l, n => by simp [entsAt, entsAt_len key l]
section
variable {P : Program} {Q : Post} {fn : Func} {N : Nat} {E E' : List (Nat × Value)} {w0 : World} {M : List Nat} {L L' Lk R : Mem} {dd : Nat} {d : Option Nat} {ty : TypeId} {pos : String} {af : Array Edge} {g : Option (Nat × Bool)} {x y z : Operand} {t t' : TypeId} {kt et : TypeId} {key : K → Value} {kv : List (K × Value)} {b clock : Nat}
theorem run_mapLook {zs : Value} (hu : P.underlying t = some (.map kt et)) (hk : KeyOk P kt key) (hz : ∀ w, (zeroValue et).run P w = .ok zs w) (a : K) {w : World} (hb : w.heap[b]? = some (.map (ents key kv).toArray clock)) (ok : Bool) :
    (Instr.lookup t (.map (some b)) (key a) ok).run P w = .ok (if ok then .tuple #[(assoc kv a).getD zs, .bool (assoc kv a).isSome] else (assoc kv a).getD zs) w := by
  have hf := fnd_assoc kv a 0
  simp only [Instr.lookup, Sem.run_bind, run_underlying hu, Result.andThen_ok, Go.MapKept.run_getObj_map hb, hk.check, hk.find, Sem.run_pure]
  cases h : fnd kv a 0 with
  | none =>
    rw [h] at hf
    simp at hf
    rw [← hf]
    cases ok <;> simp [hz w]
  | some p =>
    rw [h] at hf
    simp at hf
    rw [← hf]
    cases ok <;> simp
theorem y_lookup {zs : Value} {a : K} (hu : P.underlying t = some (.map kt et)) (hk : KeyOk P kt key) (hz : ∀ w, (zeroValue et).run P w = .ok zs w) (hx : ev E x = some (.map (some b))) (hy : ev E y = some (key a)) [hp : PkMap L b (ents key kv) clock R] :
    Yl P ⟨d, .lookup t x y false, ty, pos, af, g⟩ N E w0 M L ((assoc kv a).getD zs) := fun ac w hE hL => by
  have hb : w.heap[b]? = some (.map (ents key kv).toArray clock) := hL.pick hp.out
  simp [execOp, hE.ev hx, hE.ev hy, run_mapLook hu hk hz a hb false]
theorem y_lookupOk {zs : Value} {a : K} (hu : P.underlying t = some (.map kt et)) (hk : KeyOk P kt key) (hz : ∀ w, (zeroValue et).run P w = .ok zs w) (hx : ev E x = some (.map (some b))) (hy : ev E y = some (key a)) [hp : PkMap L b (ents key kv) clock R] :
    Yl P ⟨d, .lookup t x y true, ty, pos, af, g⟩ N E w0 M L (.tuple #[(assoc kv a).getD zs, .bool (assoc kv a).isSome]) := fun ac w hE hL => by
  have hb : w.heap[b]? = some (.map (ents key kv).toArray clock) := hL.pick hp.out
  simp [execOp, hE.ev hx, hE.ev hy, run_mapLook hu hk hz a hb true]
theorem ef_mapUpdate {a : K} {v : Value} (hu : P.underlying t = some (.map kt et)) (hk : KeyOk P kt key) (hx : ev E x = some (.map (some b))) (hy : ev E y = some (key a)) (hz : ev E z = some v) [hp : PkMap L b (ents key kv) kv.length R] :
    Ef P Q ⟨none, .mapUpdate t x y z, ty, pos, af, g⟩ N E w0 M L (fun E' L'' => E' = E ∧ L'' = .map b (ents key (upd kv a v)) (upd kv a v).length :: R) := by
  intro K' hK ac w hE hL
  have hL' := hL.perm hp.out.perm
  have hb : w.heap[b]? = some (.map (ents key kv).toArray kv.length) := hL.pick hp.out
  have hlt : b < w.heap.size := (Array.getElem?_eq_some_iff.1 hb).1
  obtain ⟨w', hr, hh, he⟩ : ∃ w', (Instr.mapUpdate t (.map (some b)) (key a) v).run P w = .ok () w' ∧ w'.heap[b]? = some (.map (ents key (upd kv a v)).toArray (upd kv a v).length) ∧ Ext [b] w w' := by
    refine ⟨{ w with heap := w.heap.setIfInBounds b (.map (ents key (upd kv a v)).toArray (upd kv a v).length) }, ?_, by simp [hlt], ⟨rfl, rfl, rfl, by simp, fun k _ hm => by simp at hm; simp only [Array.getElem?_setIfInBounds]; rw [if_neg (fun e => hm e.symm)]⟩⟩
    simp only [Instr.mapUpdate, Sem.run_bind, run_underlying hu, Result.andThen_ok, Go.MapKept.run_getObj_map hb, hk.check, hk.find]
    cases h : fnd kv a 0 with
    | none =>
      obtain ⟨h1, h2⟩ := entsAt_new key a v kv 0 0 h
      simp only [Go.MapKept.run_setObj_map _ hb]
      simp [ents, h1, h2]
    | some p =>
      obtain ⟨j, u⟩ := p
      obtain ⟨m, h1, h2, h3⟩ := entsAt_upd key a v kv 0 0 j u h
      obtain ⟨m', h4, h5⟩ := entsAt_get key a kv 0 0 j u h
      obtain rfl : m = j := by omega
      obtain rfl : m = m' := by omega
      have h6 : (((ents key kv).toArray[m]?).map (·.key)).getD (key a) = key a := by simp [ents, h5]
      simp only [Sem.run_bind, h6, Instr.keyThatStays, hk.bits, if_true, Sem.run_pure, Result.andThen_ok, Go.MapKept.run_setObj_map _ hb]
      simp [ents, ← h2, h3]
  have hr' : (execOp ac.eval ⟨none, .mapUpdate t x y z, ty, pos, af, g⟩).run P w = .ok .skip w' := by
    simp [execOp, hE.ev hx, hE.ev hy, hE.ev hz, hr]
  unfold Oper.wp
  rw [hr']
  exact hK _ _ ⟨rfl, rfl⟩ _ _ hE (hL'.upd (x := .map b _ _) .head (he.mono (by simp [Asn.foot])) hh (by simp [Asn.foot]) (by simp [Asn.foot]))
end
end
end Go.Proofs.Ytdgmkbjopcopcaa
