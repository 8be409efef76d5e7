/- Plain laws of the digest. -/
import Derived.Test.YtfehhihllenjiaaC4
import Derived.KernelRfl
set_option linter.all false
namespace Go.Proofs.Ytfehhihllenjiaa

def be4 (a b c d : BitVec 8) : BitVec 32 := a.setWidth 32 <<< 24 ||| b.setWidth 32 <<< 16 ||| c.setWidth 32 <<< 8 ||| d.setWidth 32
def wAt (b : List (BitVec 8)) (i : Nat) : BitVec 32 := be4 (b.getD (4 * i) 0#8) (b.getD (4 * i + 1) 0#8) (b.getD (4 * i + 2) 0#8) (b.getD (4 * i + 3) 0#8)
theorem be4_eq (a b c d : BitVec 8) : (((0#32 <<< 8 ||| a.setWidth 32) <<< 8 ||| b.setWidth 32) <<< 8 ||| c.setWidth 32) <<< 8 ||| d.setWidth 32 = be4 a b c d := by
  unfold be4
  simp [BitVec.shiftLeft_or_distrib, ← BitVec.shiftLeft_add]
def sg0 (y : BitVec 32) : BitVec 32 := y.rotateRight 7 ^^^ y.rotateRight 18 ^^^ y >>> 3
def sg1 (x : BitVec 32) : BitVec 32 := x.rotateRight 17 ^^^ x.rotateRight 19 ^^^ x >>> 10
def wNext (w : List (BitVec 32)) (n : Nat) : BitVec 32 := sg1 (w.getD (n - 2) 0#32) + w.getD (n - 7) 0#32 + sg0 (w.getD (n - 15) 0#32) + w.getD (n - 16) 0#32
def wl (b : List (BitVec 8)) : Nat → List (BitVec 32)
  | 0 => []
  | n + 1 => wl b n ++ [if n < 16 then wAt b n else wNext (wl b n) n]
theorem wl_length (b : List (BitVec 8)) : ∀ n, (wl b n).length = n
  | 0 => rfl
  | n + 1 => by simp [wl, wl_length b n]
theorem wl_get (b : List (BitVec 8)) {m : Nat} : ∀ {n : Nat}, m < n → (wl b n).getD m 0#32 = (wl b (m + 1)).getD m 0#32
  | 0, h => by omega
  | n + 1, h => by
    by_cases e : m = n
    · subst e; rfl
    · have hm : m < n := by omega
      rw [← wl_get b hm]
      show (wl b n ++ _).getD m 0#32 = _
      simp only [List.getD_eq_getElem?_getD]
      rw [List.getElem?_append_left (by rw [wl_length]; exact hm)]
structure St where
  a : BitVec 32
  b : BitVec 32
  c : BitVec 32
  d : BitVec 32
  e : BitVec 32
  f : BitVec 32
  g : BitVec 32
  h : BitVec 32
def St.l (s : St) : List (BitVec 32) := [s.a, s.b, s.c, s.d, s.e, s.f, s.g, s.h]
def rndT (k w : BitVec 32) (s : St) : BitVec 32 := s.h + (s.e.rotateRight 6 ^^^ s.e.rotateRight 11 ^^^ s.e.rotateRight 25) + (s.g ^^^ s.e &&& (s.f ^^^ s.g)) + k + w
def rndU (s : St) : BitVec 32 := (s.a.rotateRight 2 ^^^ s.a.rotateRight 13 ^^^ s.a.rotateRight 22) + (s.a &&& s.b ||| s.c &&& (s.a ||| s.b))
def rnd (k w : BitVec 32) (s : St) : St := ⟨rndT k w s + rndU s, s.a, s.b, s.c, s.d + rndT k w s, s.e, s.f, s.g⟩
def kl : List (BitVec 32) := [
  0x428a2f98#32, 0x71374491#32, 0xb5c0fbcf#32, 0xe9b5dba5#32, 0x3956c25b#32, 0x59f111f1#32, 0x923f82a4#32, 0xab1c5ed5#32,
  0xd807aa98#32, 0x12835b01#32, 0x243185be#32, 0x550c7dc3#32, 0x72be5d74#32, 0x80deb1fe#32, 0x9bdc06a7#32, 0xc19bf174#32,
  0xe49b69c1#32, 0xefbe4786#32, 0x0fc19dc6#32, 0x240ca1cc#32, 0x2de92c6f#32, 0x4a7484aa#32, 0x5cb0a9dc#32, 0x76f988da#32,
  0x983e5152#32, 0xa831c66d#32, 0xb00327c8#32, 0xbf597fc7#32, 0xc6e00bf3#32, 0xd5a79147#32, 0x06ca6351#32, 0x14292967#32,
  0x27b70a85#32, 0x2e1b2138#32, 0x4d2c6dfc#32, 0x53380d13#32, 0x650a7354#32, 0x766a0abb#32, 0x81c2c92e#32, 0x92722c85#32,
  0xa2bfe8a1#32, 0xa81a664b#32, 0xc24b8b70#32, 0xc76c51a3#32, 0xd192e819#32, 0xd6990624#32, 0xf40e3585#32, 0x106aa070#32,
  0x19a4c116#32, 0x1e376c08#32, 0x2748774c#32, 0x34b0bcb5#32, 0x391c0cb3#32, 0x4ed8aa4a#32, 0x5b9cca4f#32, 0x682e6ff3#32,
  0x748f82ee#32, 0x78a5636f#32, 0x84c87814#32, 0x8cc70208#32, 0x90befffa#32, 0xa4506ceb#32, 0xbef9a3f7#32, 0xc67178f2#32]
theorem kl_length : kl.length = 64 := by kernel_rfl
def rnds (b : List (BitVec 8)) (s : St) : Nat → St
  | 0 => s
  | n + 1 => rnd (kl.getD n 0#32) ((wl b 64).getD n 0#32) (rnds b s n)
def St.add (s r : St) : St := ⟨s.a + r.a, s.b + r.b, s.c + r.c, s.d + r.d, s.e + r.e, s.f + r.f, s.g + r.g, s.h + r.h⟩
def shaStep (s : St) (b : List (BitVec 8)) : St := if b.length = 64 then s.add (rnds b s 64) else s
def start : St := ⟨0x6a09e667#32, 0xbb67ae85#32, 0x3c6ef372#32, 0xa54ff53a#32, 0x510e527f#32, 0x9b05688c#32, 0x1f83d9ab#32, 0x5be0cd19#32⟩
/-- The reference's forms. -/
theorem ch_eq (e f g : BitVec 32) : (e &&& f) ^^^ ((4294967295#32 - e) &&& g) = g ^^^ e &&& (f ^^^ g) := by
  have h1 : 4294967295#32 - e = ~~~e := BitVec.allOnes_sub_eq_not e
  rw [h1]
  ext i hi
  simp
  cases e[i] <;> cases f[i] <;> cases g[i] <;> rfl
theorem maj_eq (a b c : BitVec 32) : (a &&& b) ^^^ (a &&& c) ^^^ (b &&& c) = a &&& b ||| c &&& (a ||| b) := by
  ext i hi
  simp
  cases a[i] <;> cases b[i] <;> cases c[i] <;> rfl
def padN (n : Nat) : Nat := (n + 9 + 63) / 64 * 64
def be8 (n : Nat) : List (BitVec 8) := (List.range 8).map fun i => BitVec.ofNat 8 (n / 2 ^ (56 - 8 * i))
def padS (b : List (BitVec 8)) : List (BitVec 8) := b ++ [0x80#8] ++ List.replicate (padN b.length - b.length - 9) 0#8 ++ be8 (8 * b.length)
theorem padS_length (b : List (BitVec 8)) : (padS b).length = padN b.length := by
  simp [padS, be8, padN]; omega
def blk (p : List (BitVec 8)) (i : Nat) : List (BitVec 8) := (p.drop (64 * i)).take 64
def stAt (p : List (BitVec 8)) : Nat → St
  | 0 => start
  | n + 1 => shaStep (stAt p n) (blk p n)
def outS (s : St) : List (BitVec 8) := (List.range 32).map fun i => ((s.l.getD (i / 4) 0#32) >>> (24 - 8 * (i % 4))).setWidth 8
def sumS (b : List (BitVec 8)) : List (BitVec 8) := outS (stAt (padS b) (padN b.length / 64))
end Go.Proofs.Ytfehhihllenjiaa
