/- Plain facts on numbers as bytes: no program in sight. Own work. -/
set_option linter.unusedVariables false
namespace Go.Proofs.Ytdgmkbjopcopcaa

/-- a number's bytes to the base 256, the greatest first -/
def dig (n : Nat) : List UInt8 := if h : n = 0 then [] else dig (n / 256) ++ [UInt8.ofNat (n % 256)]
termination_by n
decreasing_by omega
theorem dig_zero : dig 0 = [] := by unfold dig; simp
theorem dig_pos {n : Nat} (h : 0 < n) : dig n = dig (n / 256) ++ [UInt8.ofNat (n % 256)] := by
  conv => lhs; unfold dig
  rw [dif_neg (by omega)]
theorem dig_len_le : ∀ (k n : Nat), n < 256 ^ k → (dig n).length ≤ k
  | 0, n, h => by
    have : n = 0 := by simpa using h
    subst this; simp [dig_zero]
  | k + 1, n, h => by
    rcases Nat.eq_zero_or_pos n with h0 | h0
    · subst h0; simp [dig_zero]
    · rw [dig_pos h0]
      have := dig_len_le k (n / 256) (by rw [Nat.pow_succ] at h; omega)
      simp; omega
theorem dig_len8 {n : Nat} (h : n ≤ 9223372036854775807) : (dig n).length ≤ 8 := dig_len_le 8 n (by omega)
/-- byte i of the k digits -/
theorem dig_get : ∀ (n i : Nat), i < (dig n).length → (dig n)[i]? = some (UInt8.ofNat (n / 256 ^ ((dig n).length - 1 - i))) := by
  intro n
  induction n using Nat.strongRecOn with
  | _ n ih =>
    intro i hi
    rcases Nat.eq_zero_or_pos n with h0 | h0
    · subst h0; simp [dig_zero] at hi
    · rw [dig_pos h0] at hi ⊢
      simp only [List.length_append, List.length_cons, List.length_nil] at hi ⊢
      by_cases hlt : i < (dig (n / 256)).length
      · rw [List.getElem?_append_left hlt, ih (n / 256) (by omega) i hlt]
        congr 2
        rw [Nat.div_div_eq_div_mul]
        congr 1
        rw [show (dig (n / 256)).length + 0 + 1 - 1 - i = ((dig (n / 256)).length - 1 - i) + 1 from by omega, Nat.pow_succ, Nat.mul_comm]
      · rw [List.getElem?_append_right (by omega)]
        rw [show i - (dig (n / 256)).length = 0 from by omega]
        rw [show (dig (n / 256)).length + (0 + 1) - 1 - i = 0 from by omega]
        simp
        apply UInt8.toNat.inj
        simp
theorem dig_take {n i : Nat} (h : i < (dig n).length) : (dig n).take (i + 1) = (dig n).take i ++ [UInt8.ofNat (n / 256 ^ ((dig n).length - 1 - i))] := by
  have := dig_get n i h
  rw [List.take_add_one, this]
  rfl
/-- a number as bytes: how many digits, and these -/
def enc (n : Nat) : List UInt8 := UInt8.ofNat (dig n).length :: dig n
theorem enc_len {n : Nat} : (enc n).length = (dig n).length + 1 := by simp [enc]
/-- Put of an int: a number below 0 puts nothing. -/
def encI (n : Int) : List UInt8 := if n < 0 then [] else enc n.toNat
theorem encI_nat (n : Nat) : encI n = enc n := by
  unfold encI
  rw [if_neg (by omega)]
  simp
theorem encI_len {n : Int} (h : n ≤ 9223372036854775807) : (encI n).length ≤ 9 := by
  unfold encI
  split
  · simp
  · have := dig_len8 (n := n.toNat) (by omega)
    rw [enc_len]; omega
end Go.Proofs.Ytdgmkbjopcopcaa
