/- SHA-256 as a plain function: no program in sight. Own work. -/
set_option linter.unusedVariables false
namespace Go.Proofs.Ytdgmkbjopcopcaa

def rr (x : UInt32) (n : Nat) : UInt32 := (x >>> UInt32.ofNat n) ||| (x <<< UInt32.ofNat (32 - n))
/-- the numbers of the rounds -/
def Kl : List UInt32 := [
  0x428a2f98, 0x71374491, 0xb5c0fbcf, 0xe9b5dba5, 0x3956c25b, 0x59f111f1, 0x923f82a4, 0xab1c5ed5,
  0xd807aa98, 0x12835b01, 0x243185be, 0x550c7dc3, 0x72be5d74, 0x80deb1fe, 0x9bdc06a7, 0xc19bf174,
  0xe49b69c1, 0xefbe4786, 0x0fc19dc6, 0x240ca1cc, 0x2de92c6f, 0x4a7484aa, 0x5cb0a9dc, 0x76f988da,
  0x983e5152, 0xa831c66d, 0xb00327c8, 0xbf597fc7, 0xc6e00bf3, 0xd5a79147, 0x06ca6351, 0x14292967,
  0x27b70a85, 0x2e1b2138, 0x4d2c6dfc, 0x53380d13, 0x650a7354, 0x766a0abb, 0x81c2c92e, 0x92722c85,
  0xa2bfe8a1, 0xa81a664b, 0xc24b8b70, 0xc76c51a3, 0xd192e819, 0xd6990624, 0xf40e3585, 0x106aa070,
  0x19a4c116, 0x1e376c08, 0x2748774c, 0x34b0bcb5, 0x391c0cb3, 0x4ed8aa4a, 0x5b9cca4f, 0x682e6ff3,
  0x748f82ee, 0x78a5636f, 0x84c87814, 0x8cc70208, 0x90befffa, 0xa4506ceb, 0xbef9a3f7, 0xc67178f2]
theorem Kl_len : Kl.length = 64 := rfl
def Hl : List UInt32 := [0x6a09e667, 0xbb67ae85, 0x3c6ef372, 0xa54ff53a, 0x510e527f, 0x9b05688c, 0x1f83d9ab, 0x5be0cd19]
/-- a word out of four bytes -/
def w4 (a b c d : UInt8) : UInt32 := (((a.toUInt32 <<< 24) ||| (b.toUInt32 <<< 16)) ||| (c.toUInt32 <<< 8)) ||| d.toUInt32
def g8 (l : List UInt8) (i : Nat) : UInt8 := l.getD i 0
def g32 (l : List UInt32) (i : Nat) : UInt32 := l.getD i 0
theorem g8_at {l : List UInt8} {i : Nat} (h : i < l.length) : l[i]? = some (g8 l i) := by
  simp [g8, h]
theorem g32_at {l : List UInt32} {i : Nat} (h : i < l.length) : l[i]? = some (g32 l i) := by
  simp [g32, h]
/-- the first k words of a block -/
def wor (b : List UInt8) : Nat → List UInt32
  | 0 => []
  | i + 1 => wor b i ++ [w4 (g8 b (4 * i)) (g8 b (4 * i + 1)) (g8 b (4 * i + 2)) (g8 b (4 * i + 3))]
theorem wor_len (b : List UInt8) : ∀ k, (wor b k).length = k
  | 0 => rfl
  | k + 1 => by simp [wor, wor_len b k]
def mixW (x : UInt32) (a b c : Nat) : UInt32 := (rr x a ^^^ rr x b) ^^^ (x >>> UInt32.ofNat c)
/-- k words more -/
def sch (b : List UInt8) : Nat → List UInt32
  | 0 => wor b 16
  | k + 1 => sch b k ++ [((g32 (sch b k) k + mixW (g32 (sch b k) (k + 1)) 7 18 3) + g32 (sch b k) (k + 9)) + mixW (g32 (sch b k) (k + 14)) 17 19 10]
theorem sch_len (b : List UInt8) : ∀ k, (sch b k).length = 16 + k
  | 0 => by simp [sch, wor_len]
  | k + 1 => by simp [sch, sch_len b k]; omega
/-- the eight words of a state, one behind the other -/
structure S8 where
  (a b c d e f g h : UInt32)
def S8.list (s : S8) : List UInt32 := [s.a, s.b, s.c, s.d, s.e, s.f, s.g, s.h]
def turnW (x : UInt32) (a b c : Nat) : UInt32 := (rr x a ^^^ rr x b) ^^^ rr x c
def t1 (s : S8) (k w : UInt32) : UInt32 := (((s.h + turnW s.e 6 11 25) + ((s.e &&& s.f) ^^^ (~~~s.e &&& s.g))) + k) + w
def t2 (s : S8) : UInt32 := turnW s.a 2 13 22 + (((s.a &&& s.b) ^^^ (s.a &&& s.c)) ^^^ (s.b &&& s.c))
def rnd (s : S8) (k w : UInt32) : S8 := ⟨t1 s k w + t2 s, s.a, s.b, s.c, s.d + t1 s k w, s.e, s.f, s.g⟩
def rnds (b : List UInt8) (s : S8) : Nat → S8
  | 0 => s
  | t + 1 => rnd (rnds b s t) (g32 Kl t) (g32 (sch b 48) t)
def S8.add (s t : S8) : S8 := ⟨s.a + t.a, s.b + t.b, s.c + t.c, s.d + t.d, s.e + t.e, s.f + t.f, s.g + t.g, s.h + t.h⟩
/-- a block of 64 bytes -/
def blk8 (s : S8) (b : List UInt8) : S8 := s.add (rnds b s 64)
def S0 : S8 := ⟨0x6a09e667, 0xbb67ae85, 0x3c6ef372, 0xa54ff53a, 0x510e527f, 0x9b05688c, 0x1f83d9ab, 0x5be0cd19⟩
/-- whole blocks -/
def blks (s : S8) (l : List UInt8) : Nat → S8
  | 0 => s
  | n + 1 => blk8 (blks s l n) ((l.drop (64 * n)).take 64)
/-- eight bytes of a number -/
def be8 (n : Nat) : List UInt8 := (List.range 8).map fun i => UInt8.ofNat (n / 256 ^ (7 - i))
def pad (n : Nat) : List UInt8 := 0x80 :: (List.replicate ((119 - n % 64) % 64) 0 ++ be8 (8 * n))
def padded (l : List UInt8) : List UInt8 := l ++ pad l.length
def out (s : S8) : List UInt8 := (List.range 32).map fun i => (g32 s.list (i / 4) >>> UInt32.ofNat (24 - 8 * (i % 4))).toUInt8
def sha (l : List UInt8) : List UInt8 := out (blks S0 (padded l) ((padded l).length / 64))
theorem sha_len (l : List UInt8) : (sha l).length = 32 := by simp [sha, out]
theorem be8_len (n : Nat) : (be8 n).length = 8 := by simp [be8]
theorem pad_len (n : Nat) : (n + (pad n).length) % 64 = 0 := by
  simp [pad, be8_len]
  omega
theorem padded_len (l : List UInt8) : (padded l).length % 64 = 0 := by
  simp only [padded, List.length_append]
  exact pad_len _
theorem wor_succ (b : List UInt8) (i : Nat) : wor b (i + 1) = wor b i ++ [w4 (g8 b (4 * i)) (g8 b (4 * i + 1)) (g8 b (4 * i + 2)) (g8 b (4 * i + 3))] := rfl
theorem wor_zero (b : List UInt8) : wor b 0 = [] := rfl
theorem sch_zero (b : List UInt8) : sch b 0 = wor b 16 := rfl
theorem sch_succ (b : List UInt8) (k : Nat) : sch b (k + 1) = sch b k ++ [((g32 (sch b k) k + mixW (g32 (sch b k) (k + 1)) 7 18 3) + g32 (sch b k) (k + 9)) + mixW (g32 (sch b k) (k + 14)) 17 19 10] := rfl
theorem rnds_zero (b : List UInt8) (s : S8) : rnds b s 0 = s := rfl
theorem rnds_succ (b : List UInt8) (s : S8) (t : Nat) : rnds b s (t + 1) = rnd (rnds b s t) (g32 Kl t) (g32 (sch b 48) t) := rfl
theorem blks_zero (s : S8) (l : List UInt8) : blks s l 0 = s := rfl
theorem blks_succ (s : S8) (l : List UInt8) (n : Nat) : blks s l (n + 1) = blk8 (blks s l n) ((l.drop (64 * n)).take 64) := rfl
attribute [irreducible] wor sch rnds blks
end Go.Proofs.Ytdgmkbjopcopcaa
