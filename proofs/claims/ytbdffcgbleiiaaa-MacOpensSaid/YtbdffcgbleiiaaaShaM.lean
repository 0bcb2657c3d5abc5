/-
  The digest of chapter 3, and the keyed digest of chapter 4, on lists of numbers. Conditions: none.
-/
import Derived.Test.YtbdffcgbleiiaaaSx28
set_option linter.unusedVariables false
set_option linter.unusedSimpArgs false
namespace Go.Sha
open Go.RowKit Go.Sx

def ad (a b : Nat) : Nat := (a + b) % 4294967296
def xo (a b : Nat) : Nat := (a ^^^ b) % 4294967296
def an (a b : Nat) : Nat := (a &&& b) % 4294967296
def og (a b : Nat) : Nat := (a ||| b) % 4294967296
def sl (a n : Nat) : Nat := (a * 2 ^ n) % 4294967296
def sr (a n : Nat) : Nat := a / 2 ^ n
def rr (x n : Nat) : Nat := og (sl x (32 - n)) (sr x n)
theorem wAdd (a b : Nat) : IntKind.u32.wrap ((a : Int) + (b : Int)) = ((ad a b : Nat) : Int) := by
  simp [IntKind.wrap, IntKind.bits, IntKind.signed, ad]
theorem ofInt_cast (n a : Nat) : BitVec.ofInt n (a : Int) = BitVec.ofNat n a := by
  apply BitVec.eq_of_toNat_eq
  simp [BitVec.toNat_ofInt]
theorem wrap32_lt {x : Nat} (h : x < 4294967296) : IntKind.u32.wrap (x : Int) = (x : Int) := wrap_u32 _ (by omega) (by omega)
theorem bXor (a b : Nat) : ibit .xor .u32 (a : Int) (b : Int) = ((xo a b : Nat) : Int) := by
  simp only [ibit, ofInt_cast, IntKind.bits, BitVec.toNat_xor, BitVec.toNat_ofNat, xo]
  rw [Nat.xor_mod_two_pow (n := 32)]
  exact wrap32_lt (Nat.xor_lt_two_pow (n := 32) (Nat.mod_lt _ (by omega)) (Nat.mod_lt _ (by omega)))
theorem bAnd (a b : Nat) : ibit .and .u32 (a : Int) (b : Int) = ((an a b : Nat) : Int) := by
  simp only [ibit, ofInt_cast, IntKind.bits, BitVec.toNat_and, BitVec.toNat_ofNat, an]
  rw [Nat.and_mod_two_pow (n := 32)]
  exact wrap32_lt (Nat.and_lt_two_pow _ (n := 32) (Nat.mod_lt _ (by omega)))
theorem bOr (a b : Nat) : ibit .or .u32 (a : Int) (b : Int) = ((og a b : Nat) : Int) := by
  simp only [ibit, ofInt_cast, IntKind.bits, BitVec.toNat_or, BitVec.toNat_ofNat, og]
  rw [Nat.or_mod_two_pow (n := 32)]
  exact wrap32_lt (Nat.or_lt_two_pow (n := 32) (Nat.mod_lt _ (by omega)) (Nat.mod_lt _ (by omega)))
theorem bNot (a : Nat) : ibit .xor .u32 IntKind.u32.max (a : Int) = ((xo 4294967295 a : Nat) : Int) := bXor 4294967295 a
theorem wShl (a n : Nat) : IntKind.u32.wrap ((a : Int) * 2 ^ n) = ((sl a n : Nat) : Int) := by
  simp [IntKind.wrap, IntKind.bits, IntKind.signed, sl]
theorem wShr (a n : Nat) : ((a : Int)).fdiv (2 ^ n) = ((sr a n : Nat) : Int) := by
  rw [Int.fdiv_eq_ediv_of_nonneg _ (by exact Int.pow_nonneg (by decide))]
  simp [sr]

def s0 (x : Nat) : Nat := xo (xo (rr x 7) (rr x 18)) (sr x 3)
def s1 (x : Nat) : Nat := xo (xo (rr x 17) (rr x 19)) (sr x 10)
def e1 (x : Nat) : Nat := xo (xo (rr x 6) (rr x 11)) (rr x 25)
def e0 (x : Nat) : Nat := xo (xo (rr x 2) (rr x 13)) (rr x 22)
def ch (e f g : Nat) : Nat := xo (an e f) (an (xo 4294967295 e) g)
def mj (a b c : Nat) : Nat := xo (xo (an a b) (an a c)) (an b c)
structure S8 where
  a : Nat
  b : Nat
  c : Nat
  d : Nat
  e : Nat
  f : Nat
  g : Nat
  h : Nat
def t1 (s : S8) (k w : Nat) : Nat := ad (ad (ad (ad s.h (e1 s.e)) (ch s.e s.f s.g)) k) w
def t2 (s : S8) : Nat := ad (e0 s.a) (mj s.a s.b s.c)
def stp (s : S8) (k w : Nat) : S8 := ⟨ad (t1 s k w) (t2 s), s.a, s.b, s.c, ad s.d (t1 s k w), s.e, s.f, s.g⟩
def start : S8 := ⟨1779033703, 3144134277, 1013904242, 2773480762, 1359893119, 2600822924, 528734635, 1541459225⟩
def keys : List Nat := [0x428a2f98, 0x71374491, 0xb5c0fbcf, 0xe9b5dba5, 0x3956c25b, 0x59f111f1, 0x923f82a4, 0xab1c5ed5,
  0xd807aa98, 0x12835b01, 0x243185be, 0x550c7dc3, 0x72be5d74, 0x80deb1fe, 0x9bdc06a7, 0xc19bf174,
  0xe49b69c1, 0xefbe4786, 0x0fc19dc6, 0x240ca1cc, 0x2de92c6f, 0x4a7484aa, 0x5cb0a9dc, 0x76f988da,
  0x983e5152, 0xa831c66d, 0xb00327c8, 0xbf597fc7, 0xc6e00bf3, 0xd5a79147, 0x06ca6351, 0x14292967,
  0x27b70a85, 0x2e1b2138, 0x4d2c6dfc, 0x53380d13, 0x650a7354, 0x766a0abb, 0x81c2c92e, 0x92722c85,
  0xa2bfe8a1, 0xa81a664b, 0xc24b8b70, 0xc76c51a3, 0xd192e819, 0xd6990624, 0xf40e3585, 0x106aa070,
  0x19a4c116, 0x1e376c08, 0x2748774c, 0x34b0bcb5, 0x391c0cb3, 0x4ed8aa4a, 0x5b9cca4f, 0x682e6ff3,
  0x748f82ee, 0x78a5636f, 0x84c87814, 0x8cc70208, 0x90befffa, 0xa4506ceb, 0xbef9a3f7, 0xc67178f2]
/-- A word out of bytes, the first of them of most weight. -/
def bw (x b : Nat) : Nat := og (sl x 8) b
/-- The words of a block. -/
def wds (l : List Nat) (i : Nat) : Nat := bw (bw (bw (bw 0 (l.getD (4 * i) 0)) (l.getD (4 * i + 1) 0)) (l.getD (4 * i + 2) 0)) (l.getD (4 * i + 3) 0)
/-- The next word. -/
def nw (w16 w15 w7 w2 : Nat) : Nat := ad (ad (ad w16 (s0 w15)) w7) (s1 w2)
/-- The schedule: 16 words, and so many more, the last first. -/
def sch (r : List Nat) : Nat → List Nat
  | 0 => r
  | k + 1 => nw ((sch r k).getD 15 0) ((sch r k).getD 14 0) ((sch r k).getD 6 0) ((sch r k).getD 1 0) :: sch r k
def r16 (l : List Nat) : List Nat := [wds l 15, wds l 14, wds l 13, wds l 12, wds l 11, wds l 10, wds l 9, wds l 8, wds l 7, wds l 6, wds l 5, wds l 4, wds l 3, wds l 2, wds l 1, wds l 0]
/-- The words behind so many steps. -/
def wk (l : List Nat) (k i : Nat) : Nat := (sch (r16 l) k).getD (15 + k - i) 0
def kf (i : Nat) : Nat := keys.getD i 0
def itr {α : Type} (f : Nat → α → α) : Nat → Nat → α → α
  | 0, _, s => s
  | n + 1, t, s => itr f n (t + 1) (f t s)
theorem itr_z {α : Type} {f : Nat → α → α} {t : Nat} {s : α} : itr f 0 t s = s := rfl
theorem itr_s {α : Type} {f : Nat → α → α} {n t : Nat} {s : α} : itr f (n + 1) t s = itr f n (t + 1) (f t s) := rfl
def rnd (kf wf : Nat → Nat) : Nat → Nat → S8 → S8 := itr fun t s => stp s (kf t) (wf t)
theorem rnd_z {kf wf : Nat → Nat} {t : Nat} {s : S8} : rnd kf wf 0 t s = s := itr_z
theorem rnd_s {kf wf : Nat → Nat} {n t : Nat} {s : S8} : rnd kf wf (n + 1) t s = rnd kf wf n (t + 1) (stp s (kf t) (wf t)) := itr_s
def add8 (s v : S8) : S8 := ⟨ad s.a v.a, ad s.b v.b, ad s.c v.c, ad s.d v.d, ad s.e v.e, ad s.f v.f, ad s.g v.g, ad s.h v.h⟩
/-- The state behind a block. -/
def cmp (s : S8) (l : List Nat) : S8 := add8 s (rnd kf (wk l 48) 64 0 s)
def be (n : Nat) : Nat → List Nat
  | 0 => []
  | k + 1 => n / 256 ^ k % 256 :: be n k
/-- What stands behind so many bytes. -/
def padL (n : Nat) : List Nat := (128 :: List.replicate ((183 - n % 64) % 64) 0) ++ be (n * 8 % 18446744073709551616) 8
def goG {α : Type} (f : α → List Nat → α) : Nat → List Nat → α → α
  | 0, _, s => s
  | n + 1, l, s => goG f n (l.drop 64) (f s (l.take 64))
theorem goG_z {α : Type} {f : α → List Nat → α} {l : List Nat} {s : α} : goG f 0 l s = s := rfl
theorem goG_s {α : Type} {f : α → List Nat → α} {n : Nat} {l : List Nat} {s : α} : goG f (n + 1) l s = goG f n (l.drop 64) (f s (l.take 64)) := rfl
def goL : Nat → List Nat → S8 → S8 := goG cmp
theorem goL_z {l : List Nat} {s : S8} : goL 0 l s = s := goG_z
theorem goL_s {n : Nat} {l : List Nat} {s : S8} : goL (n + 1) l s = goL n (l.drop 64) (cmp s (l.take 64)) := goG_s
def out8 (s : S8) : List Nat := be s.a 4 ++ be s.b 4 ++ be s.c 4 ++ be s.d 4 ++ be s.e 4 ++ be s.f 4 ++ be s.g 4 ++ be s.h 4
def shaL (m : List Nat) : List Nat := out8 (goL ((m ++ padL m.length).length / 64) (m ++ padL m.length) start)
def wth (k : List Nat) (by' : Nat) : List Nat := (k ++ List.replicate (64 - k.length) 0).map fun b => (b ^^^ by') % 256
def hmK (k : List Nat) : List Nat := if 64 < k.length then shaL k else k
def hmL (k m : List Nat) : List Nat := shaL (wth (hmK k) 92 ++ shaL (wth (hmK k) 54 ++ m))

theorem be_len (n : Nat) : ∀ k, (be n k).length = k
  | 0 => rfl
  | k + 1 => by rw [be, List.length_cons, be_len n k]
theorem out8_len (s : S8) : (out8 s).length = 32 := by simp [out8, be_len]
theorem shaL_len (m : List Nat) : (shaL m).length = 32 := out8_len _
theorem hmL_len (k m : List Nat) : (hmL k m).length = 32 := shaL_len _
theorem be_lt (n : Nat) : ∀ k x, x ∈ be n k → x < 256
  | 0, x, h => by cases h
  | k + 1, x, h => by
    rcases List.mem_cons.1 h with h | h
    · rw [h]; exact Nat.mod_lt _ (by omega)
    · exact be_lt n k x h
theorem out8_lt (s : S8) : ∀ x, x ∈ out8 s → x < 256 := fun x h => by
  simp only [out8, List.mem_append] at h
  rcases h with ((((((h | h) | h) | h) | h) | h) | h) | h <;> exact be_lt _ _ x h
theorem shaL_lt (m : List Nat) : ∀ x, x ∈ shaL m → x < 256 := out8_lt _
theorem sch_len (r : List Nat) : ∀ k, (sch r k).length = r.length + k
  | 0 => rfl
  | k + 1 => by rw [sch, List.length_cons, sch_len r k]; omega
theorem pad_len (n : Nat) : (n + (padL n).length) % 64 = 0 := by
  have := be_len (n * 8 % 18446744073709551616) 8
  simp only [padL, List.length_append, List.length_cons, List.length_replicate, this]
  omega
end Go.Sha
