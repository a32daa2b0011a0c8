/- SHA-256 as a stream takes it: plain law. Own work. -/
import Derived.Test.YtdgmkbjopcopcaaPlb
set_option linter.unusedVariables false
namespace Go.Proofs.Ytdgmkbjopcopcaa

def putAt (l : List UInt8) (i : Nat) (us : List UInt8) : List UInt8 := l.take i ++ us ++ l.drop (i + us.length)
theorem putAt_len {l us : List UInt8} {i : Nat} (h : i + us.length ≤ l.length) : (putAt l i us).length = l.length := by
  simp [putAt]; omega
theorem putAt_take {l us : List UInt8} {i : Nat} (h : i + us.length ≤ l.length) : (putAt l i us).take (i + us.length) = l.take i ++ us := by
  have e : (l.take i ++ us).length = i + us.length := by simp; omega
  rw [putAt, ← e, List.take_left]
/-- the bytes that wait -/
def Inv (wt L : List UInt8) : Prop := wt.length = 64 ∧ wt.take (L.length % 64) = L.drop (64 * (L.length / 64))
def sst (L : List UInt8) : S8 := blks S0 L (L.length / 64)
theorem blks_pre (L us : List UInt8) : ∀ q, 64 * q ≤ L.length → blks S0 (L ++ us) q = blks S0 L q
  | 0, _ => by rw [blks_zero, blks_zero]
  | q + 1, h => by
    rw [blks_succ, blks_succ, blks_pre L us q (by omega), List.drop_append_of_le_length (by omega), List.take_append_of_le_length (by simp; omega)]
theorem inv_less {wt L us : List UInt8} (hi : Inv wt L) (h : L.length % 64 + us.length < 64) : Inv (putAt wt (L.length % 64) us) (L ++ us) ∧ sst (L ++ us) = sst L := by
  obtain ⟨h1, h2⟩ := hi
  have e1 : (L ++ us).length % 64 = L.length % 64 + us.length := by simp; omega
  have e2 : (L ++ us).length / 64 = L.length / 64 := by simp; omega
  refine ⟨⟨by rw [putAt_len (by omega), h1], ?_⟩, ?_⟩
  · rw [e1, e2, putAt_take (by omega), h2, List.drop_append_of_le_length (by omega)]
  · rw [sst, sst, e2, blks_pre L us _ (by omega)]
theorem inv_full {wt L us : List UInt8} (hi : Inv wt L) (h : L.length % 64 + us.length = 64) : Inv (putAt wt (L.length % 64) us) (L ++ us) ∧ sst (L ++ us) = blk8 (sst L) (putAt wt (L.length % 64) us) := by
  obtain ⟨h1, h2⟩ := hi
  have e1 : (L ++ us).length % 64 = 0 := by simp; omega
  have e2 : (L ++ us).length / 64 = L.length / 64 + 1 := by simp; omega
  have hp : (putAt wt (L.length % 64) us).length = 64 := by rw [putAt_len (by omega), h1]
  have h3 : putAt wt (L.length % 64) us = (L ++ us).drop (64 * (L.length / 64)) := by
    have := putAt_take (l := wt) (us := us) (i := L.length % 64) (by omega)
    rw [h, List.take_of_length_le (by omega), h2] at this
    rw [this, List.drop_append_of_le_length (by omega)]
  refine ⟨⟨hp, ?_⟩, ?_⟩
  · rw [e1, e2, List.take_zero, List.drop_eq_nil_of_le (by simp; omega)]
  · rw [sst, sst, e2, blks_succ, blks_pre L us _ (by omega), ← h3, List.take_of_length_le (by omega)]
theorem inv_nil {wt : List UInt8} (h : wt.length = 64) : Inv wt [] := ⟨h, by simp⟩
theorem sst_nil : sst [] = S0 := by simp [sst, blks_zero]
theorem sha_is (l : List UInt8) : sha l = out (sst (l ++ pad l.length)) := rfl
theorem pad_is (n : Nat) : pad n = 0x80 :: (List.replicate ((119 - n % 64) % 64) 0 ++ be8 (8 * n)) := rfl
def outB (s : S8) (i : Nat) : UInt8 := (g32 s.list (i / 4) >>> UInt32.ofNat (24 - 8 * (i % 4))).toUInt8
theorem out_is (s : S8) : out s = (List.range 32).map (outB s) := rfl
theorem range_take_map {α : Type} (f : Nat → α) (n i : Nat) (h : i < n) : ((List.range n).map f).take (i + 1) = ((List.range n).map f).take i ++ [f i] := by
  rw [List.take_add_one]
  simp [h]
attribute [irreducible] sst putAt
end Go.Proofs.Ytdgmkbjopcopcaa
