/- An engine for walks, third part: the rules of single operations. Own work. -/
import Derived.Test.YtdgmkbjopcopcaaEngb
import Derived.Laws.Entries
import Derived.Laws.Slices
set_option linter.unusedVariables false
set_option linter.unusedSimpArgs false
namespace Go.Proofs.Ytdgmkbjopcopcaa
open Go.RowKit

/-! ### enter and return -/
/-- What a call hands back: a value and the memory that it tells of. -/
def RP (M : List Nat) (w : World) (Ψ : Value → Mem → Prop) (e : Ending) (w' : World) : Prop := ∃ v L, e = .returned v ∧ Has w M L w' ∧ Ψ v L
def num : Nat → List Value → List (Nat × Value)
  | _, [] => []
  | k, v :: vs => (k, v) :: num (k + 1) vs
theorem lk_num : ∀ (vs : List Value) (b k : Nat) (v : Value), lk (num b vs) k = some v → b ≤ k ∧ vs[k - b]? = some v
  | [], b, k, v, h => by simp [num, lk] at h
  | u :: vs, b, k, v, h => by
    simp only [num, lk] at h
    cases hb : Nat.beq b k with
    | true =>
      have := Nat.eq_of_beq_eq_true hb
      subst this
      rw [hb] at h
      simp at h
      simp [h]
    | false =>
      rw [hb] at h
      obtain ⟨h1, h2⟩ := lk_num vs (b + 1) k v h
      have hne : k - b = (k - (b + 1)) + 1 := by omega
      exact ⟨by omega, by rw [hne]; simpa using h2⟩
theorem enter {P : Program} {f : FuncId} {fn : Func} {c : Code} {N : Nat} {vs : List Value} {w : World} {M : List Nat} {L : Mem} {Ψ : Value → Mem → Prop} (hf : P.funcs[f]? = some fn) (hb : fn.body = some c) (hN : fn.ntmps = N)
    (hlen : Nat.ble vs.length N = true) (hL : Has w M L w) (h : WC P (bodyPost P fn (RP M w Ψ)) c N (num 0 vs) w M L) : Calls P f vs.toArray w (RP M w Ψ) := by
  have hle : vs.length ≤ N := by simpa using hlen
  refine calls_of_wp hf hb (h _ _ ⟨?_, rfl, fun k v hk => ?_⟩ hL)
  · simp [hN]; omega
  · obtain ⟨_, h2⟩ := lk_num vs 0 k v hk
    simp only [Nat.sub_zero] at h2
    have hlt := (List.getElem?_eq_some_iff.1 h2).1
    simp only [Array.getD_eq_getD_getElem?]
    rw [Array.getElem?_append_left (by simpa using hlt)]
    simp [h2]

section
variable {P : Program} {fn : Func} {Q : Post} {N : Nat} {E : List (Nat × Value)} {w0 : World} {M : List Nat} {L L' R : Mem} {Ψ : Value → Mem → Prop}
theorem q_retg {v : Value} (hres : ∀ a w, Env N E a → Has w0 M L w → (results fn a.tmps).run P w = .ok v w) (hΨ : Ψ v L') (hs : SubL L L') : AtQ (bodyPost P fn (RP M w0 Ψ)) .ret N E w0 M L :=
  fun a w hE hL => ⟨hE.defers, v, hres a w hE hL, v, L', rfl, hL.sub hs, hΨ⟩
theorem q_endg {v : Value} (hres : ∀ a w, Env N E a → Has w0 M L w → (results fn a.tmps).run P w = .ok v w) (hΨ : Ψ v L') (hs : SubL L L') : AtQ (bodyPost P fn (RP M w0 Ψ)) .normal N E w0 M L :=
  fun a w hE hL => ⟨hE.defers, v, hres a w hE hL, v, L', rfl, hL.sub hs, hΨ⟩
theorem res0 (hr : fn.results = #[]) : ∀ a w, Env N E a → Has w0 M L w → (results fn a.tmps).run P w = .ok (.tuple #[]) w := fun a w _ _ => results_none hr _ _ _
theorem res1 {t : Nat} {v : Value} (hr : fn.results = #[.tmp t]) (hl : lk E t = some v) : ∀ a w, Env N E a → Has w0 M L w → (results fn a.tmps).run P w = .ok v w := fun a w hE _ => by rw [results_tmp hr, hE.get _ _ hl]
theorem res2 {t u : Nat} {v v' : Value} (hr : fn.results = #[.tmp t, .tmp u]) (hl : lk E t = some v) (hl' : lk E u = some v') : ∀ a w, Env N E a → Has w0 M L w → (results fn a.tmps).run P w = .ok (.tuple #[v, v']) w := fun a w hE _ => by
  rw [results_tmp2 hr, hE.get _ _ hl, hE.get _ _ hl']
theorem res3 {t u s : Nat} {v v' v'' : Value} (hr : fn.results = #[.tmp t, .tmp u, .tmp s]) (hl : lk E t = some v) (hl' : lk E u = some v') (hl'' : lk E s = some v'') : ∀ a w, Env N E a → Has w0 M L w → (results fn a.tmps).run P w = .ok (.tuple #[v, v', v'']) w := fun a w hE _ => by
  have h1 := hE.get _ _ hl
  have h2 := hE.get _ _ hl'
  have h3 := hE.get _ _ hl''
  simp only [results, hr]
  simp [h1, h2, h3]
  simp only [Array.getD_eq_getD_getElem?] at h1 h2 h3
  simp [h1, h2, h3]
theorem calm_body {R : Ending → World → Prop} : Calm (bodyPost P fn R) := fun c d v a w h => by
  cases d <;> exact h
theorem calm_then {K : Act → World → Prop} (h : Calm Q) : Calm (Exit.then K Q) := fun c d v a w hh => h c d v a w hh
theorem calm_block {id : Nat} (h : Calm Q) : Calm (Exit.inBlock id Q) := fun c d v a w hh => h c d v a w hh
end

/-! ### plain operations -/
section
variable {P : Program} {N : Nat} {E : List (Nat × Value)} {w0 : World} {M : List Nat} {L R : Mem} {d : Option Nat} {ty : TypeId} {pos : String} {af : Array Edge} {g : Option (Nat × Bool)} {x y z : Operand} {t t' : TypeId}

theorem y_move {v : Value} (hx : ev E x = some v) : Yl P ⟨d, .move x, ty, pos, af, g⟩ N E w0 M L v := fun a w hE hL => by simp [execOp, hE.ev hx]
theorem y_assign {v : Value} (hx : ev E x = some v) : Yl P ⟨d, .assign x, ty, pos, af, g⟩ N E w0 M L v := fun a w hE hL => by simp [execOp, hE.ev hx]
theorem y_pick {v v' : Value} {b : Bool} (hx : ev E x = some (.bool b)) (hy : ev E y = some v) (hz : ev E z = some v') : Yl P ⟨d, .pick x y z, ty, pos, af, g⟩ N E w0 M L (if b then v else v') := fun a w hE hL => by
  simp [execOp, hE.ev hx, hE.ev hy, hE.ev hz, asBool]
theorem y_pickt {v : Value} (hx : ev E x = some (.bool true)) (hy : ev E y = some v) : Yl P ⟨d, .pick x y z, ty, pos, af, g⟩ N E w0 M L v := fun a w hE hL => by
  simp [execOp, hE.ev hx, hE.ev hy, asBool]
theorem y_pickf {v : Value} (hx : ev E x = some (.bool false)) (hz : ev E z = some v) : Yl P ⟨d, .pick x y z, ty, pos, af, g⟩ N E w0 M L v := fun a w hE hL => by
  simp [execOp, hE.ev hx, hE.ev hz, asBool]
theorem y_nilCheck {ad : Addr} (hx : ev E x = some (.pointer (some ad))) : Yl P ⟨d, .nilCheck x, ty, pos, af, g⟩ N E w0 M L (.pointer (some ad)) := fun a w hE hL => by simp [execOp, hE.ev hx]
theorem y_nilCheckF {f : FuncId} {c1 c2 : Array Value} (hx : ev E x = some (.func (.func f) c1 c2)) : Yl P ⟨d, .nilCheck x, ty, pos, af, g⟩ N E w0 M L (.func (.func f) c1 c2) := fun a w hE hL => by simp [execOp, hE.ev hx]

theorem eqGuard_int (op : BinOp) (k k' : IntKind) (m n : Int) (w : World) : (eqGuard op t x y (.int k m) (.int k' n)).run P w = .ok () w := by
  unfold eqGuard; split <;> simp
theorem y_add {k : IntKind} {m n : Int} (hx : ev E x = some (.int k m)) (hy : ev E y = some (.int k n)) : Yl P ⟨d, .binOp .add t x y t', ty, pos, af, g⟩ N E w0 M L (.int k (k.wrap (m + n))) := fun a w hE hL => by
  simp [execOp, hE.ev hx, hE.ev hy, eqGuard_int, binOp, Op.intArith]
theorem y_sub {k : IntKind} {m n : Int} (hx : ev E x = some (.int k m)) (hy : ev E y = some (.int k n)) : Yl P ⟨d, .binOp .sub t x y t', ty, pos, af, g⟩ N E w0 M L (.int k (k.wrap (m - n))) := fun a w hE hL => by
  simp [execOp, hE.ev hx, hE.ev hy, eqGuard_int, binOp, Op.intArith]
theorem y_mul {k : IntKind} {m n : Int} (hx : ev E x = some (.int k m)) (hy : ev E y = some (.int k n)) : Yl P ⟨d, .binOp .mul t x y t', ty, pos, af, g⟩ N E w0 M L (.int k (k.wrap (m * n))) := fun a w hE hL => by
  simp [execOp, hE.ev hx, hE.ev hy, eqGuard_int, binOp, Op.intArith]
/-- within int's range -/
theorem y_addn {m n : Int} (hx : ev E x = some (.int .i64 m)) (hy : ev E y = some (.int .i64 n)) (h : -9223372036854775808 ≤ m + n ∧ m + n ≤ 9223372036854775807) : Yl P ⟨d, .binOp .add t x y t', ty, pos, af, g⟩ N E w0 M L (.int .i64 (m + n)) := by
  have := y_add (P := P) (w0 := w0) (M := M) (L := L) (d := d) (ty := ty) (pos := pos) (af := af) (g := g) (t := t) (t' := t') (N := N) hx hy
  rwa [IntKind.wrap_i64, show (m + n + 9223372036854775808) % 18446744073709551616 - 9223372036854775808 = m + n from by omega] at this
theorem y_subn {m n : Int} (hx : ev E x = some (.int .i64 m)) (hy : ev E y = some (.int .i64 n)) (h : -9223372036854775808 ≤ m - n ∧ m - n ≤ 9223372036854775807) : Yl P ⟨d, .binOp .sub t x y t', ty, pos, af, g⟩ N E w0 M L (.int .i64 (m - n)) := by
  have := y_sub (P := P) (w0 := w0) (M := M) (L := L) (d := d) (ty := ty) (pos := pos) (af := af) (g := g) (t := t) (t' := t') (N := N) hx hy
  rwa [IntKind.wrap_i64, show (m - n + 9223372036854775808) % 18446744073709551616 - 9223372036854775808 = m - n from by omega] at this
theorem y_muln {m n : Int} (hx : ev E x = some (.int .i64 m)) (hy : ev E y = some (.int .i64 n)) (h : -9223372036854775808 ≤ m * n ∧ m * n ≤ 9223372036854775807) : Yl P ⟨d, .binOp .mul t x y t', ty, pos, af, g⟩ N E w0 M L (.int .i64 (m * n)) := by
  have := y_mul (P := P) (w0 := w0) (M := M) (L := L) (d := d) (ty := ty) (pos := pos) (af := af) (g := g) (t := t) (t' := t') (N := N) hx hy
  rwa [IntKind.wrap_i64, show (m * n + 9223372036854775808) % 18446744073709551616 - 9223372036854775808 = m * n from by omega] at this
theorem y_quo {k : IntKind} {m n : Int} (hx : ev E x = some (.int k m)) (hy : ev E y = some (.int k n)) (hn : n ≠ 0) : Yl P ⟨d, .binOp .quo t x y t', ty, pos, af, g⟩ N E w0 M L (.int k (k.wrap (m.tdiv n))) := fun a w hE hL => by
  simp [execOp, hE.ev hx, hE.ev hy, eqGuard_int, binOp, Op.intDiv, hn]
theorem y_rem {k : IntKind} {m n : Int} (hx : ev E x = some (.int k m)) (hy : ev E y = some (.int k n)) (hn : n ≠ 0) : Yl P ⟨d, .binOp .rem t x y t', ty, pos, af, g⟩ N E w0 M L (.int k (m.tmod n)) := fun a w hE hL => by
  simp [execOp, hE.ev hx, hE.ev hy, eqGuard_int, binOp, Op.intDiv, hn]
theorem y_quon {m n : Int} (hx : ev E x = some (.int .i64 m)) (hy : ev E y = some (.int .i64 n)) (hm : 0 ≤ m ∧ m ≤ 9223372036854775807) (hn : 0 < n) : Yl P ⟨d, .binOp .quo t x y t', ty, pos, af, g⟩ N E w0 M L (.int .i64 (m / n)) := by
  have := y_quo (P := P) (w0 := w0) (M := M) (L := L) (d := d) (ty := ty) (pos := pos) (af := af) (g := g) (t := t) (t' := t') (N := N) hx hy (by omega)
  have h1 : 0 ≤ m / n := Int.ediv_nonneg hm.1 (by omega)
  have h2 : m / n ≤ m := Int.ediv_le_self _ hm.1
  rwa [Int.tdiv_eq_ediv_of_nonneg hm.1, IntKind.wrap_i64, show (m / n + 9223372036854775808) % 18446744073709551616 - 9223372036854775808 = m / n from by omega] at this
theorem y_remn {k : IntKind} {m n : Int} (hx : ev E x = some (.int k m)) (hy : ev E y = some (.int k n)) (hm : 0 ≤ m) (hn : 0 < n) : Yl P ⟨d, .binOp .rem t x y t', ty, pos, af, g⟩ N E w0 M L (.int k (m % n)) := by
  have := y_rem (P := P) (w0 := w0) (M := M) (L := L) (d := d) (ty := ty) (pos := pos) (af := af) (g := g) (t := t) (t' := t') (N := N) hx hy (by omega)
  rwa [Int.tmod_eq_emod_of_nonneg hm] at this
theorem y_shr {k k' : IntKind} {m n : Int} (hx : ev E x = some (.int k m)) (hy : ev E y = some (.int k' n)) (hn : 0 ≤ n) : Yl P ⟨d, .binOp .shr t x y t', ty, pos, af, g⟩ N E w0 M L (.int k (m.fdiv (2 ^ (min n.toNat k.bits)))) := fun a w hE hL => by
  simp [execOp, hE.ev hx, hE.ev hy, eqGuard_int, binOp, Op.shift, show ¬ n < 0 from by omega]
theorem y_shl {k k' : IntKind} {m n : Int} (hx : ev E x = some (.int k m)) (hy : ev E y = some (.int k' n)) (hn : 0 ≤ n) : Yl P ⟨d, .binOp .shl t x y t', ty, pos, af, g⟩ N E w0 M L (.int k (k.wrap (m * 2 ^ (min n.toNat k.bits)))) := fun a w hE hL => by
  simp [execOp, hE.ev hx, hE.ev hy, eqGuard_int, binOp, Op.shift, show ¬ n < 0 from by omega]
theorem y_bits {k : IntKind} {op : BinOp} {m n : Int} {v : Value} (hx : ev E x = some (.int k m)) (hy : ev E y = some (.int k n)) (hop : (match op with | .and | .or | .xor | .andNot => true | _ => false) = true)
    (hv : ∀ w, (Op.intBits op k m n).run P w = .ok v w) : Yl P ⟨d, .binOp op t x y t', ty, pos, af, g⟩ N E w0 M L v := fun a w hE hL => by
  cases op <;> simp at hop <;> simp [execOp, hE.ev hx, hE.ev hy, eqGuard_int, binOp, hv w]
theorem y_lss {k : IntKind} {m n : Int} (hx : ev E x = some (.int k m)) (hy : ev E y = some (.int k n)) : Yl P ⟨d, .binOp .lss t x y t', ty, pos, af, g⟩ N E w0 M L (.bool (decide (m < n))) := fun a w hE hL => by
  simp [execOp, hE.ev hx, hE.ev hy, eqGuard_int, binOp, Op.intCmp]
theorem y_leq {k : IntKind} {m n : Int} (hx : ev E x = some (.int k m)) (hy : ev E y = some (.int k n)) : Yl P ⟨d, .binOp .leq t x y t', ty, pos, af, g⟩ N E w0 M L (.bool (decide (m ≤ n))) := fun a w hE hL => by
  simp [execOp, hE.ev hx, hE.ev hy, eqGuard_int, binOp, Op.intCmp]
theorem y_gtr {k : IntKind} {m n : Int} (hx : ev E x = some (.int k m)) (hy : ev E y = some (.int k n)) : Yl P ⟨d, .binOp .gtr t x y t', ty, pos, af, g⟩ N E w0 M L (.bool (decide (n < m))) := fun a w hE hL => by
  simp [execOp, hE.ev hx, hE.ev hy, eqGuard_int, binOp, Op.intCmp]
theorem y_geq {k : IntKind} {m n : Int} (hx : ev E x = some (.int k m)) (hy : ev E y = some (.int k n)) : Yl P ⟨d, .binOp .geq t x y t', ty, pos, af, g⟩ N E w0 M L (.bool (decide (n ≤ m))) := fun a w hE hL => by
  simp [execOp, hE.ev hx, hE.ev hy, eqGuard_int, binOp, Op.intCmp]
theorem y_eql {k : IntKind} {m n : Int} (hx : ev E x = some (.int k m)) (hy : ev E y = some (.int k n)) : Yl P ⟨d, .binOp .eql t x y t', ty, pos, af, g⟩ N E w0 M L (.bool (decide (m = n))) := fun a w hE hL => by
  simp [execOp, hE.ev hx, hE.ev hy, eqGuard_int, binOp, Op.intCmp, BEq.beq]
theorem y_neq {k : IntKind} {m n : Int} (hx : ev E x = some (.int k m)) (hy : ev E y = some (.int k n)) : Yl P ⟨d, .binOp .neq t x y t', ty, pos, af, g⟩ N E w0 M L (.bool (decide (m ≠ n))) := fun a w hE hL => by
  simp [execOp, hE.ev hx, hE.ev hy, eqGuard_int, binOp, Op.intCmp, bne, BEq.beq]
theorem y_not {p : Prop} {i : Decidable p} (hx : ev E x = some (.bool (@decide p i))) : Yl P ⟨d, .unOp .not t x, ty, pos, af, g⟩ N E w0 M L (.bool (decide (¬ p))) := fun a w hE hL => by
  simp [execOp, hE.ev hx, Op.unary]
theorem y_nott (hx : ev E x = some (.bool true)) : Yl P ⟨d, .unOp .not t x, ty, pos, af, g⟩ N E w0 M L (.bool false) := fun a w hE hL => by
  simp [execOp, hE.ev hx, Op.unary]
theorem y_notf (hx : ev E x = some (.bool false)) : Yl P ⟨d, .unOp .not t x, ty, pos, af, g⟩ N E w0 M L (.bool true) := fun a w hE hL => by
  simp [execOp, hE.ev hx, Op.unary]
theorem y_notb {b : Bool} (hx : ev E x = some (.bool b)) : Yl P ⟨d, .unOp .not t x, ty, pos, af, g⟩ N E w0 M L (.bool (!b)) := fun a w hE hL => by
  simp [execOp, hE.ev hx, Op.unary]
theorem y_neg {k : IntKind} {m : Int} (hx : ev E x = some (.int k m)) : Yl P ⟨d, .unOp .neg t x, ty, pos, af, g⟩ N E w0 M L (.int k (k.wrap (-m))) := fun a w hE hL => by
  simp [execOp, hE.ev hx, Op.unary, Op.intArith]
/-- numbers to numbers -/
theorem y_conv {k k' : IntKind} {m : Int} (hu : P.underlying t = some (.int k)) (hu' : P.underlying t' = some (.int k')) (hx : ev E x = some (.int k m)) : Yl P ⟨d, .convert t t' x, ty, pos, af, g⟩ N E w0 M L (.int k' (k'.wrap m)) := fun a w hE hL => by
  simp [execOp, hE.ev hx, convert, run_underlying hu, run_underlying hu', Conv.intToInt]
theorem y_extract {vs : Array Value} {i : Nat} {v : Value} (hx : ev E x = some (.tuple vs)) (hi : vs[i]? = some v) : Yl P ⟨d, .extract x i, ty, pos, af, g⟩ N E w0 M L v := fun a w hE hL => by
  simp [execOp, hE.ev hx, Instr.extract, hi]
theorem y_lenStr {s : ByteArray} (hu : P.underlying t = some .string) (hx : ev E x = some (.string s)) : Yl P ⟨d, .call ⟨.builtin .len, #[x], #[t]⟩, ty, pos, af, g⟩ N E w0 M L (.int .i64 s.size) := fun a w hE hL => by
  simp [execOp, resolve, hE.ev hx, invoke, builtin, Builtin.len_, run_underlying hu, goInt]
theorem y_lenSl {A : Option Addr} {n c : Nat} {e : TypeId} (hu : P.underlying t = some (.slice e)) (hx : ev E x = some (.slice A n c)) : Yl P ⟨d, .call ⟨.builtin .len, #[x], #[t]⟩, ty, pos, af, g⟩ N E w0 M L (.int .i64 n) := fun a w hE hL => by
  simp [execOp, resolve, hE.ev hx, invoke, builtin, Builtin.len_, run_underlying hu, goInt]
/-- of a slice of which memory tells -/
theorem y_lenRd {v : Value} {e : TypeId} {sz n : Nat} {xs : List Value} (hu : P.underlying t = some (.slice e)) (hx : ev E x = some v) (hr : ∀ w, Has w0 M L w → Rd w v sz n xs) : Yl P ⟨d, .call ⟨.builtin .len, #[x], #[t]⟩, ty, pos, af, g⟩ N E w0 M L (.int .i64 n) := fun a w hE hL => by
  obtain ⟨A, c, rfl, _⟩ := (hr w hL).form
  simp [execOp, resolve, hE.ev hx, invoke, builtin, Builtin.len_, run_underlying hu, goInt]
end
end Go.Proofs.Ytdgmkbjopcopcaa
