/- An engine for walks, tenth part: equality of structs and arrays. Own work. -/
import Derived.Test.YtdgmkbjopcopcaaEngi
import Derived.Stop.BytesEq
import Derived.Laws.StructEq
set_option linter.unusedVariables false
set_option linter.unusedSimpArgs false
namespace Go.Proofs.Ytdgmkbjopcopcaa
open Go.RowKit
/-- x == y at the type t, k deep, tells b -/
def Eqs (P : Program) (k : Nat) (t : TypeId) (x y : Value) (b : Bool) : Prop := ∀ d w, (Op.equalIn (d + k) t x y).run P w = .ok b w
section
variable {P : Program} {Q : Post} {fn : Func} {N : Nat} {E E' : List (Nat × Value)} {w0 : World} {M : List Nat} {L L' Lk R : Mem} {dd : Nat} {d : Option Nat} {ty : TypeId} {pos : String} {af : Array Edge} {g : Option (Nat × Bool)} {x y z : Operand} {t t' : TypeId}
theorem Eqs.up {k k' : Nat} {x y : Value} {b : Bool} (h : Eqs P k t x y b) (hk : k ≤ k') : Eqs P k' t x y b := fun d w => by
  have := h (d + (k' - k)) w
  rwa [show d + (k' - k) + k = d + k' from by omega] at this
theorem eqs_int {k : IntKind} {a b : Int} (hu : P.underlying t = some (.int k)) : Eqs P 1 t (.int k a) (.int k b) (decide (a = b)) := fun d w => by
  rw [run_equalIn_int w d t k k a b hu]
  congr 1
theorem eqs_bool {a b : Bool} (hu : P.underlying t = some .bool) : Eqs P 1 t (.bool a) (.bool b) (decide (a = b)) := fun d w => by
  rw [run_equalIn_bool w d t a b hu]
  cases a <;> cases b <;> rfl
theorem eqs_str {a b : ByteArray} (hu : P.underlying t = some .string) : Eqs P 1 t (.string a) (.string b) (decide (a = b)) := fun d w => by
  rw [run_equalIn_string w d t a b hu, str_beq]
theorem eqs_bytes {e : TypeId} {n : Nat} (ht : P.underlying t = some (.array n e)) (he : P.underlying e = some (.int .u8)) (hs : Siz P e 1) {l m : List UInt8} (hl : l.length = n) (hm : m.length = n) : Eqs P 2 t (.agg (bvs l).toArray) (.agg (bvs m).toArray) (decide (l = m)) := fun d w => by
  have := run_equalIn_bytes (P := P) w d t e n ht he hs l m hl hm
  have e1 : (l == m) = decide (l = m) := by
    by_cases h : l = m
    · simp [h]
    · simp [h]
  rw [e1] at this
  exact this
/-- the part of a struct at a field -/
theorem part1 {cs : List Value} {off : Nat} {v : Value} (h1 : One P t) (hv : cs[off]? = some v) (w : World) : (part t cs.toArray off).run P w = .ok v w := by
  simp [part, h1 w, hv]
theorem partN {cs us : List Value} {off n : Nat} (h1 : AggOf P t n) (hv : PartN cs off n us) (w : World) : (part t cs.toArray off).run P w = .ok (.agg us.toArray) w := by
  obtain ⟨hp, hl⟩ := hv.part
  simp only [part, Sem.run_bind, h1.agg w, Result.andThen_ok, if_true, h1.siz w, Sem.run_pure]
  congr 2
  have : (cs.drop off).take n = us := by
    apply List.ext_getElem?
    intro j
    rw [List.getElem?_take]
    split
    · rename_i hj
      rw [List.getElem?_drop]
      obtain ⟨u, hu⟩ : ∃ u, us[j]? = some u := ⟨us[j], by simp⟩
      rw [hp j u hu, hu]
    · rename_i hj
      rw [List.getElem?_eq_none (by omega)]
  rw [← this]
  simp
/-- the fields one by one -/
inductive EqF (P : Program) (k : Nat) (xs ys : Array Value) : List Field → Bool → Prop
  | nil : EqF P k xs ys [] true
  | cons {f : Field} {fs : List Field} {v u : Value} {b c : Bool} (hn : f.name ≠ "_") (hx : ∀ w, (part f.type xs f.offset).run P w = .ok v w) (hy : ∀ w, (part f.type ys f.offset).run P w = .ok u w) (he : Eqs P k f.type v u b) (h : EqF P k xs ys fs c) : EqF P k xs ys (f :: fs) (b && c)
theorem EqF.run {k : Nat} {xs ys : Array Value} {fs : List Field} {b : Bool} (h : EqF P k xs ys fs b) (d : Nat) (w : World) : (Op.eqFields (d + k) xs ys fs).run P w = .ok b w := by
  induction h with
  | nil => simp [Op.eqFields]
  | cons hn hx hy he _ ih =>
    rename_i b c _
    simp only [Op.eqFields, if_pos hn, Sem.run_bind, hx w, hy w, Result.andThen_ok, he d w]
    cases b
    · simp
    · simpa using ih
theorem eqs_struct {k : Nat} {xs ys : Array Value} {b : Bool} (ht : P.underlying t = some (.struct (P.fieldsOf t))) (hp : P.stoodInHeld t = false) (h : EqF P k xs ys (P.fieldsOf t).toList b) : Eqs P (k + 1) t (.agg xs) (.agg ys) b := fun d w => by
  have := run_equalIn_struct (P := P) w (d + k) t xs ys ht hp
  rw [← Nat.add_assoc, this]
  exact h.run d w
theorem y_eqlAgg {k : Nat} {xs ys : Array Value} {b : Bool} (hg : P.eqGuardType P.depth t = false) (hx : ev E x = some (.agg xs)) (hy : ev E y = some (.agg ys)) (h : Eqs P k t (.agg xs) (.agg ys) b) (hk : k ≤ 10000) : Yl P ⟨d, .binOp .eql t x y t', ty, pos, af, g⟩ N E w0 M L (.bool b) := fun a w hE hL => by
  have h1 := run_eqGuard_agg (P := P) w .eql t x y xs ys hg
  have h2 := run_eql_struct (P := P) w t xs ys
  have h3 := (h.up hk) 0 w
  rw [Nat.zero_add] at h3
  rw [h3] at h2
  simp only [execOp, hE.ev hx, hE.ev hy, Sem.run_bind, h1, Result.andThen_ok, h2, Sem.run_pure]
theorem y_neqAgg {k : Nat} {xs ys : Array Value} {b : Bool} (hg : P.eqGuardType P.depth t = false) (hx : ev E x = some (.agg xs)) (hy : ev E y = some (.agg ys)) (h : Eqs P k t (.agg xs) (.agg ys) b) (hk : k ≤ 10000) : Yl P ⟨d, .binOp .neq t x y t', ty, pos, af, g⟩ N E w0 M L (.bool (!b)) := fun a w hE hL => by
  have h1 := run_eqGuard_agg (P := P) w .neq t x y xs ys hg
  have h2 := run_neq_struct (P := P) w t xs ys
  have h3 := (h.up hk) 0 w
  rw [Nat.zero_add] at h3
  rw [h3] at h2
  simp only [execOp, hE.ev hx, hE.ev hy, Sem.run_bind, h1, Result.andThen_ok, h2, Sem.run_pure]
end
end Go.Proofs.Ytdgmkbjopcopcaa
