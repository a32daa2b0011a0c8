/- An engine for walks, eighth part: structs that are built; words of 32 bits; comparisons of what is not a number. Own work. -/
import Derived.Test.YtdgmkbjopcopcaaEngg
import Derived.Laws.Strings
import Derived.Laws.Pointers
import Derived.Laws.Small
set_option linter.unusedVariables false
set_option linter.unusedSimpArgs false
namespace Go.Proofs.Ytdgmkbjopcopcaa
open Go.RowKit

/-! ### build -/
def evp (E : List (Nat × Value)) : List (Nat × Operand) → Option (List (Nat × Value))
  | [] => some []
  | (i, x) :: xs => match ev E x, evp E xs with
    | some v, some vs => some ((i, v) :: vs)
    | _, _ => none
theorem Env.evp {N : Nat} {E : List (Nat × Value)} {a : Act} (hE : Env N E a) : ∀ {xs : List (Nat × Operand)} {vs : List (Nat × Value)}, Ytdgmkbjopcopcaa.evp E xs = some vs → xs.map (fun x => (x.1, a.eval x.2)) = vs
  | [], vs, h => by simp [Ytdgmkbjopcopcaa.evp] at h; simp [h]
  | (i, x) :: xs, vs, h => by
    simp only [Ytdgmkbjopcopcaa.evp] at h
    split at h
    · rename_i v vs' h1 h2
      simp at h
      subst h
      simp [hE.ev h1, Env.evp hE h2]
    · simp at h
/-- how a type is built: its parts' places, its zero -/
def Bld (P : Program) (t : TypeId) (place : Nat → Option (Nat × Nat)) (zs : List Value) : Prop :=
  ∀ (parts : Array (Nat × Value)) w, (Instr.build t parts).run P w = match Instr.fill place zs.toArray parts.toList with
    | some cells => .ok (.agg cells) w
    | none => (stuck "" : Sem Value).run P w
theorem fill_put (us cs : List Value) (off : Nat) (h : off + us.length ≤ cs.length) :
    (us.toArray.zipIdx.foldl (fun (x : Array Value) (y : Value × Nat) => x.setIfInBounds (off + y.2) y.1) cs.toArray) = (splice cs off us).toArray := by
  have key : ∀ (us cs : List Value) (k off : Nat), off + us.length ≤ cs.length → (us.zipIdx k).foldl (fun (x : Array Value) (y : Value × Nat) => x.setIfInBounds (off - k + y.2) y.1) cs.toArray = (splice cs off us).toArray ∨ off < k := by
    intro us
    induction us with
    | nil => intro cs k off h; left; simp [splice]
    | cons u us ih =>
      intro cs k off h
      rcases Nat.lt_or_ge off k with hlt | hge
      · right; exact hlt
      left
      simp only [List.zipIdx_cons, List.foldl_cons]
      have e1 : off - k + k = off := by omega
      rw [e1]
      have e2 : cs.toArray.setIfInBounds off u = (cs.set off u).toArray := by simp
      rw [e2]
      have := ih (cs.set off u) (k + 1) (off + 1) (by simp at h ⊢; omega)
      rcases this with this | this
      · have e3 : ∀ j, off + 1 - (k + 1) + j = off - k + j := by intro j; omega
        simp only [e3] at this
        rw [this]
        have e := list_seg_step cs off u us (by simp at h; omega)
        simp only [splice, List.length_cons]
        congr 1
      · omega
  have := key us cs 0 off h
  simp only [Nat.sub_zero] at this
  rcases this with this | this
  · rw [← this]
    simp [← Array.foldl_toList]
  · omega
inductive FillR (place : Nat → Option (Nat × Nat)) : List Value → List (Nat × Value) → List Value → Prop
  | nil {cs : List Value} : FillR place cs [] cs
  | cons {cs cs' cs'' us : List Value} {i off n : Nat} {v : Value} {rest : List (Nat × Value)} (hp : place i = some (off, n)) (hv : v.cells = us.toArray) (hn : us.length = n) (hs : SplN cs off us cs') (h : FillR place cs' rest cs'') : FillR place cs ((i, v) :: rest) cs''
theorem FillR.fill {place : Nat → Option (Nat × Nat)} {cs cs' : List Value} {vs : List (Nat × Value)} (h : FillR place cs vs cs') : Instr.fill place cs.toArray vs = some cs'.toArray := by
  induction h with
  | nil => rfl
  | cons hp hv hn hs _ ih =>
    rename_i cs cs' cs'' us i off n v rest _
    obtain ⟨h1, h2⟩ := hs.splice
    have h3 := fill_put us cs off h2
    rw [h1] at h3
    simp only [Instr.fill, hp, hv]
    rw [if_neg (by simp [hn]; omega), h3]
    exact ih
section
variable {P : Program} {Q : Post} {fn : Func} {N : Nat} {E E' : List (Nat × Value)} {w0 : World} {M : List Nat} {L L' Lk R : Mem} {dd : Nat} {d : Option Nat} {ty : TypeId} {pos : String} {af : Array Edge} {g : Option (Nat × Bool)} {x y z : Operand} {t t' : TypeId}
theorem y_build {place : Nat → Option (Nat × Nat)} {zs cs : List Value} {parts : List (Nat × Operand)} {vs : List (Nat × Value)} (hb : Bld P t place zs) (hv : evp E parts = some vs) (hf : FillR place zs vs cs) : Yl P ⟨d, .build t parts.toArray, ty, pos, af, g⟩ N E w0 M L (.agg cs.toArray) := fun a w hE hL => by
  have h1 := hE.evp hv
  have h2 := hb (parts.map fun x => (x.1, a.eval x.2)).toArray w
  rw [h1] at h2
  simp only [hf.fill] at h2
  simp only [execOp, List.map_toArray, h1, Sem.run_bind]
  rw [h2]
  simp
/-- of constants alone -/
theorem y_buildc {cs : List Value} {parts : List (Nat × Operand)} {vs : List (Nat × Value)} (hv : evp E parts = some vs) (hf : ∀ w, (Instr.build t vs.toArray).run P w = .ok (.agg cs.toArray) w) : Yl P ⟨d, .build t parts.toArray, ty, pos, af, g⟩ N E w0 M L (.agg cs.toArray) := fun a w hE hL => by
  have h1 := hE.evp hv
  simp only [execOp, List.map_toArray, h1, Sem.run_bind]
  rw [hf w]
  rfl

/-! ### words of 32 bits -/
end
def wv (x : UInt32) : Value := .int .u32 (x.toNat : Int)
theorem wv_wrap (n : Nat) : Value.int .u32 (IntKind.u32.wrap (n : Int)) = wv (UInt32.ofNat n) := by
  simp only [wv]
  congr 1
section
variable {P : Program} {Q : Post} {fn : Func} {N : Nat} {E E' : List (Nat × Value)} {w0 : World} {M : List Nat} {L L' Lk R : Mem} {dd : Nat} {d : Option Nat} {ty : TypeId} {pos : String} {af : Array Edge} {g : Option (Nat × Bool)} {x y z : Operand} {t t' : TypeId}
theorem yl_is {o : Oper} {u v : Value} (h : Yl P o N E w0 M L u) (e : u = v) : Yl P o N E w0 M L v := e ▸ h
theorem y_addW {a b : UInt32} (hx : ev E x = some (wv a)) (hy : ev E y = some (wv b)) : Yl P ⟨d, .binOp .add t x y t', ty, pos, af, g⟩ N E w0 M L (wv (a + b)) := by
  refine yl_is (y_add hx hy) ?_
  rw [show ((a.toNat : Int) + (b.toNat : Int)) = ((a.toNat + b.toNat : Nat) : Int) from by omega, wv_wrap]
  congr 1
theorem bits_of (k : IntKind) (m n : Nat) : ∀ op r, (match op with | .and => r = m &&& n | .or => r = m ||| n | .xor => r = m ^^^ n | _ => False) → m < 2 ^ k.bits → n < 2 ^ k.bits → k.signed = false → ∀ w, (Op.intBits op k (m : Int) (n : Int)).run P w = .ok (.int k (r : Int)) w := by
  intro op r hop hm hn hk w
  have e0 : ∀ m : Nat, m < 2 ^ k.bits → (BitVec.ofInt k.bits (m : Int)).toNat = m := by
    intro m hm
    rw [BitVec.toNat_ofInt, Int.emod_eq_of_lt (by omega) (by exact_mod_cast hm)]
    simp
  have e1 := e0 m hm
  have e2 := e0 n hn
  have wr : ∀ r : Nat, r < 2 ^ k.bits → k.wrap (r : Int) = (r : Int) := by
    intro r hr
    simp only [IntKind.wrap, hk]
    simp
    have : ((2 : Int) ^ k.bits) = ((2 ^ k.bits : Nat) : Int) := by simp
    rw [this, Int.emod_eq_of_lt (by omega) (by omega)]
  cases op <;> simp only at hop
  case and =>
    subst hop
    simp only [Op.intBits, BitVec.toNat_and, e1, e2, Sem.run_pure]
    rw [wr _ (Nat.lt_of_le_of_lt Nat.and_le_left hm)]
  case or =>
    subst hop
    simp only [Op.intBits, BitVec.toNat_or, e1, e2, Sem.run_pure]
    rw [wr _ (Nat.or_lt_two_pow hm hn)]
  case xor =>
    subst hop
    simp only [Op.intBits, BitVec.toNat_xor, e1, e2, Sem.run_pure]
    rw [wr _ (Nat.xor_lt_two_pow hm hn)]
theorem y_and_u32 {a b : UInt32} (hx : ev E x = some (wv a)) (hy : ev E y = some (wv b)) : Yl P ⟨d, .binOp .and t x y t', ty, pos, af, g⟩ N E w0 M L (wv (a &&& b)) :=
  y_bits hx hy rfl (fun w => (bits_of .u32 _ _ .and _ rfl a.toNat_lt b.toNat_lt rfl w).trans (by simp [wv]))
theorem y_or_u32 {a b : UInt32} (hx : ev E x = some (wv a)) (hy : ev E y = some (wv b)) : Yl P ⟨d, .binOp .or t x y t', ty, pos, af, g⟩ N E w0 M L (wv (a ||| b)) :=
  y_bits hx hy rfl (fun w => (bits_of .u32 _ _ .or _ rfl a.toNat_lt b.toNat_lt rfl w).trans (by simp [wv]))
theorem y_xor_u32 {a b : UInt32} (hx : ev E x = some (wv a)) (hy : ev E y = some (wv b)) : Yl P ⟨d, .binOp .xor t x y t', ty, pos, af, g⟩ N E w0 M L (wv (a ^^^ b)) :=
  y_bits hx hy rfl (fun w => (bits_of .u32 _ _ .xor _ rfl a.toNat_lt b.toNat_lt rfl w).trans (by simp [wv]))
theorem y_notW {a : UInt32} (hx : ev E x = some (wv a)) : Yl P ⟨d, .unOp .xor t x, ty, pos, af, g⟩ N E w0 M L (wv (~~~a)) := fun ac w hE hL => by
  have h := bits_of (P := P) .u32 4294967295 a.toNat .xor _ rfl (by decide) a.toNat_lt rfl w
  have e : (if IntKind.u32.signed = true then (-1 : Int) else IntKind.u32.max) = ((4294967295 : Nat) : Int) := by decide
  simp only [execOp, hE.ev hx, wv, Op.unary, e, h, Sem.run_bind]
  simp
  congr 1
  apply Nat.eq_of_testBit_eq
  intro i
  rw [Nat.testBit_xor]
  have e2 : (4294967295 : Nat) = 2 ^ 32 - 1 := by decide
  rw [e2, Nat.testBit_two_pow_sub_one]
  by_cases hi : i < 32
  · simp [hi]
    rw [show 4294967295 - a.toNat = 2 ^ 32 - (a.toNat + 1) from by omega, Nat.testBit_two_pow_sub_succ a.toNat_lt]
    simp [hi]
  · simp [hi]
    rw [Nat.testBit_lt_two_pow (Nat.lt_of_lt_of_le a.toNat_lt (Nat.pow_le_pow_right (by decide) (by omega)))]
    rw [Nat.testBit_lt_two_pow (Nat.lt_of_lt_of_le (show 4294967295 - a.toNat < 2 ^ 32 from by omega) (Nat.pow_le_pow_right (by decide) (by omega)))]
/-- shifts by less than 32 -/
theorem y_shrW {a : UInt32} {k' : IntKind} {n : Nat} (hx : ev E x = some (wv a)) (hy : ev E y = some (.int k' (n : Int))) (hn : n < 32) : Yl P ⟨d, .binOp .shr t x y t', ty, pos, af, g⟩ N E w0 M L (wv (a >>> UInt32.ofNat n)) := by
  refine yl_is (y_shr hx hy (by omega)) ?_
  simp only [wv]
  congr 1
  have e : min (n : Int).toNat IntKind.u32.bits = n := by simp [IntKind.bits]; omega
  rw [e, Int.fdiv_eq_ediv_of_nonneg _ (Int.le_of_lt (Int.pow_pos (by omega)))]
  have e2 : ((2 : Int) ^ n) = ((2 ^ n : Nat) : Int) := by simp
  rw [e2, ← Int.natCast_ediv]
  congr 1
  simp [UInt32.toNat_shiftRight, Nat.shiftRight_eq_div_pow, Nat.mod_eq_of_lt hn, Nat.mod_eq_of_lt (show n < 4294967296 from by omega)]
theorem y_shlW {a : UInt32} {k' : IntKind} {n : Nat} (hx : ev E x = some (wv a)) (hy : ev E y = some (.int k' (n : Int))) (hn : n < 32) : Yl P ⟨d, .binOp .shl t x y t', ty, pos, af, g⟩ N E w0 M L (wv (a <<< UInt32.ofNat n)) := by
  refine yl_is (y_shl hx hy (by omega)) ?_
  have e : min (n : Int).toNat IntKind.u32.bits = n := by simp [IntKind.bits]; omega
  have e2 : ((a.toNat : Int) * 2 ^ n) = ((a.toNat * 2 ^ n : Nat) : Int) := by simp
  rw [e, e2, wv_wrap]
  congr 1
  apply UInt32.toNat.inj
  simp [UInt32.toNat_shiftLeft, Nat.shiftLeft_eq, Nat.mod_eq_of_lt hn, Nat.mod_eq_of_lt (show n < 4294967296 from by omega)]
theorem y_convW {b : UInt8} (hu : P.underlying t = some (.int .u8)) (hu' : P.underlying t' = some (.int .u32)) (hx : ev E x = some (bv b)) : Yl P ⟨d, .convert t t' x, ty, pos, af, g⟩ N E w0 M L (wv b.toUInt32) := by
  refine yl_is (y_conv hu hu' hx) ?_
  rw [wv_wrap]
  congr 1
  apply UInt32.toNat.inj
  have := b.toNat_lt
  simp
theorem y_negn {m : Int} (hx : ev E x = some (.int .i64 m)) (h : -9223372036854775807 ≤ m ∧ m ≤ 9223372036854775807) : Yl P ⟨d, .unOp .neg t x, ty, pos, af, g⟩ N E w0 M L (.int .i64 (-m)) := by
  refine yl_is (y_neg hx) ?_
  rw [IntKind.wrap_i64, show (-m + 9223372036854775808) % 18446744073709551616 - 9223372036854775808 = -m from by omega]
theorem y_makeFunc {f : FuncId} {fs cs : List Operand} {vs us : List Value} (h1 : evs E fs = some vs) (h2 : evs E cs = some us) : Yl P ⟨d, .makeFunc (.func f) fs.toArray cs.toArray, ty, pos, af, g⟩ N E w0 M L (.func (.func f) vs.toArray us.toArray) := fun a w hE hL => by
  simp [execOp, Instr.makeFunc, hE.evs h1, hE.evs h2]
theorem y_eqlBool {a b : Bool} (hu : P.underlying t = some .bool) (hx : ev E x = some (.bool a)) (hy : ev E y = some (.bool b)) : Yl P ⟨d, .binOp .eql t x y t', ty, pos, af, g⟩ N E w0 M L (.bool (decide (a = b))) := fun ac w hE hL => by
  have h : (eqGuard .eql t x y (.bool a) (.bool b)).run P w = .ok () w := by simp [eqGuard]
  simp [execOp, hE.ev hx, hE.ev hy, h, run_eql_bool w t a b hu]
  cases a <;> cases b <;> rfl
theorem y_neqBool {a b : Bool} (hu : P.underlying t = some .bool) (hx : ev E x = some (.bool a)) (hy : ev E y = some (.bool b)) : Yl P ⟨d, .binOp .neq t x y t', ty, pos, af, g⟩ N E w0 M L (.bool (decide (a ≠ b))) := fun ac w hE hL => by
  have h : (eqGuard .neq t x y (.bool a) (.bool b)).run P w = .ok () w := by simp [eqGuard]
  simp [execOp, hE.ev hx, hE.ev hy, h, run_neq_bool w t a b hu]
  cases a <;> cases b <;> rfl
theorem str_beq (a b : ByteArray) : (a.toList == b.toList) = decide (a = b) := by
  by_cases h : a = b
  · subst h; simp
  · have : ¬ a.toList = b.toList := fun e => h (by
      have e1 : a.data.toList = b.data.toList := by
        have h1 := ByteArray.toList_eq a
        have h2 := ByteArray.toList_eq b
        rw [← h1, ← h2, e]
      cases a; cases b; congr 1; exact Array.ext' e1)
    simp [h, this]
theorem y_eqlStr {a b : ByteArray} (hx : ev E x = some (.string a)) (hy : ev E y = some (.string b)) : Yl P ⟨d, .binOp .eql t x y t', ty, pos, af, g⟩ N E w0 M L (.bool (decide (a = b))) := fun ac w hE hL => by
  have h : (eqGuard .eql t x y (.string a) (.string b)).run P w = .ok () w := by simp [eqGuard]
  simp [execOp, hE.ev hx, hE.ev hy, h, binOp, Op.stringOp, str_beq]
theorem y_neqStr {a b : ByteArray} (hx : ev E x = some (.string a)) (hy : ev E y = some (.string b)) : Yl P ⟨d, .binOp .neq t x y t', ty, pos, af, g⟩ N E w0 M L (.bool (decide (a ≠ b))) := fun ac w hE hL => by
  have h : (eqGuard .neq t x y (.string a) (.string b)).run P w = .ok () w := by simp [eqGuard]
  simp [execOp, hE.ev hx, hE.ev hy, h, binOp, Op.stringOp, str_beq]
/-- p == nil -/
theorem y_eqlPtrNil {e : TypeId} {o : Option Addr} (hu : P.underlying t = some (.pointer e)) (hx : ev E x = some (.pointer o)) (hy : ev E y = some (.pointer none)) : Yl P ⟨d, .binOp .eql t x y t', ty, pos, af, g⟩ N E w0 M L (.bool o.isNone) := fun ac w hE hL => by
  have h : (eqGuard .eql t x y (.pointer o) (.pointer none)).run P w = .ok () w := by simp [eqGuard]
  have h2 : (binOp .eql t (.pointer o) (.pointer none)).run P w = .ok (.bool o.isNone) w := by
    simp only [binOp, Op.equal, Op.maxDepth]
    rw [Op.equalIn]
    cases o <;> simp [run_underlying hu]
  simp only [execOp, hE.ev hx, hE.ev hy, Sem.run_bind, h, Result.andThen_ok, h2, Sem.run_pure]
theorem y_neqPtrNil {e : TypeId} {o : Option Addr} (hu : P.underlying t = some (.pointer e)) (hx : ev E x = some (.pointer o)) (hy : ev E y = some (.pointer none)) : Yl P ⟨d, .binOp .neq t x y t', ty, pos, af, g⟩ N E w0 M L (.bool o.isSome) := fun ac w hE hL => by
  have h : (eqGuard .neq t x y (.pointer o) (.pointer none)).run P w = .ok () w := by simp [eqGuard]
  have h2 : (binOp .neq t (.pointer o) (.pointer none)).run P w = .ok (.bool o.isSome) w := by
    simp only [binOp, Op.equal, Op.maxDepth]
    rw [Op.equalIn]
    cases o <;> simp [run_underlying hu]
  simp only [execOp, hE.ev hx, hE.ev hy, Sem.run_bind, h, Result.andThen_ok, h2, Sem.run_pure]
end
end Go.Proofs.Ytdgmkbjopcopcaa
