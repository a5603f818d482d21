import Derived.Test.YtcdponddgnkecaaDoorSxG
import Derived.Test.YtcdponddgnkecaaDoorSxL
set_option linter.unusedVariables false
set_option linter.unusedSimpArgs false
/- SHA-256 in plain Lean: what the program's package and the reference compute. -/
namespace Go.Ps

/-- Turned right by k places. -/
def ror (x : UInt32) (k : Nat) : UInt32 := x <<< (UInt32.ofNat (32 - k)) ||| x >>> (UInt32.ofNat k)
def gb (W : List UInt8) (k : Nat) : UInt8 := W.getD k default
def gw (W : List UInt32) (k : Nat) : UInt32 := W.getD k default

/-- The table. -/
def KT : List UInt32 := [
  0x428a2f98, 0x71374491, 0xb5c0fbcf, 0xe9b5dba5, 0x3956c25b, 0x59f111f1, 0x923f82a4, 0xab1c5ed5,
  0xd807aa98, 0x12835b01, 0x243185be, 0x550c7dc3, 0x72be5d74, 0x80deb1fe, 0x9bdc06a7, 0xc19bf174,
  0xe49b69c1, 0xefbe4786, 0x0fc19dc6, 0x240ca1cc, 0x2de92c6f, 0x4a7484aa, 0x5cb0a9dc, 0x76f988da,
  0x983e5152, 0xa831c66d, 0xb00327c8, 0xbf597fc7, 0xc6e00bf3, 0xd5a79147, 0x06ca6351, 0x14292967,
  0x27b70a85, 0x2e1b2138, 0x4d2c6dfc, 0x53380d13, 0x650a7354, 0x766a0abb, 0x81c2c92e, 0x92722c85,
  0xa2bfe8a1, 0xa81a664b, 0xc24b8b70, 0xc76c51a3, 0xd192e819, 0xd6990624, 0xf40e3585, 0x106aa070,
  0x19a4c116, 0x1e376c08, 0x2748774c, 0x34b0bcb5, 0x391c0cb3, 0x4ed8aa4a, 0x5b9cca4f, 0x682e6ff3,
  0x748f82ee, 0x78a5636f, 0x84c87814, 0x8cc70208, 0x90befffa, 0xa4506ceb, 0xbef9a3f7, 0xc67178f2]
def H0 : List UInt32 := [0x6a09e667, 0xbb67ae85, 0x3c6ef372, 0xa54ff53a, 0x510e527f, 0x9b05688c, 0x1f83d9ab, 0x5be0cd19]

def ldw (bl : List UInt8) (k : Nat) : UInt32 :=
  (gb bl (4 * k)).toUInt32 <<< UInt32.ofNat 24 ||| (gb bl (4 * k + 1)).toUInt32 <<< UInt32.ofNat 16 ||| (gb bl (4 * k + 2)).toUInt32 <<< UInt32.ofNat 8 ||| (gb bl (4 * k + 3)).toUInt32
def fill1 (bl : List UInt8) : Nat → List UInt32
  | 0 => List.replicate 64 0
  | k + 1 => (fill1 bl k).set k (ldw bl k)
def sig0 (x : UInt32) : UInt32 := ror x 7 ^^^ ror x 18 ^^^ x >>> UInt32.ofNat 3
def sig1 (x : UInt32) : UInt32 := ror x 17 ^^^ ror x 19 ^^^ x >>> UInt32.ofNat 10
def fill2 (bl : List UInt8) : Nat → List UInt32
  | 0 => fill1 bl 16
  | j + 1 => (fill2 bl j).set (16 + j) (gw (fill2 bl j) ((16 + j) - 16) + sig0 (gw (fill2 bl j) ((16 + j) - 15)) + gw (fill2 bl j) ((16 + j) - 7) + sig1 (gw (fill2 bl j) ((16 + j) - 2)))
theorem fill1_len (bl : List UInt8) : ∀ k, (fill1 bl k).length = 64
  | 0 => by simp [fill1]
  | k + 1 => by simp [fill1, fill1_len bl k]
theorem fill2_len (bl : List UInt8) : ∀ j, (fill2 bl j).length = 64
  | 0 => fill1_len bl 16
  | j + 1 => by simp [fill2, fill2_len bl j]
structure St where
  a : UInt32
  b : UInt32
  c : UInt32
  d : UInt32
  e : UInt32
  f : UInt32
  g : UInt32
  h : UInt32
def big1 (e : UInt32) : UInt32 := ror e 6 ^^^ ror e 11 ^^^ ror e 25
def big0 (a : UInt32) : UInt32 := ror a 2 ^^^ ror a 13 ^^^ ror a 22
def rnd (K W : List UInt32) (i : Nat) (s : St) : St :=
  let t := s.h + big1 s.e + (s.e &&& s.f ^^^ ~~~ s.e &&& s.g) + gw K i + gw W i
  let u := big0 s.a + (s.a &&& s.b ^^^ s.a &&& s.c ^^^ s.b &&& s.c)
  ⟨t + u, s.a, s.b, s.c, s.d + t, s.e, s.f, s.g⟩
def rnds (K W : List UInt32) (s : St) : Nat → St
  | 0 => s
  | i + 1 => rnd K W i (rnds K W s i)
def St.list (s : St) : List UInt32 := [s.a, s.b, s.c, s.d, s.e, s.f, s.g, s.h]
def addUp (h : List UInt32) (v : List UInt32) : Nat → List UInt32
  | 0 => h
  | i + 1 => (addUp h v i).set i (gw (addUp h v i) i + gw v i)
theorem addUp_len (h v : List UInt32) : ∀ i, (addUp h v i).length = h.length
  | 0 => rfl
  | i + 1 => by simp [addUp, addUp_len h v i]
/-- The program's Compress. -/
def compress (h : List UInt32) (bl : List UInt8) : List UInt32 :=
  addUp h (rnds KT (fill2 bl 48) ⟨gw h 0, gw h 1, gw h 2, gw h 3, gw h 4, gw h 5, gw h 6, gw h 7⟩ 64).list 8
theorem compress_len (h : List UInt32) (bl : List UInt8) : (compress h bl).length = h.length := addUp_len _ _ _

/-- The program's state. -/
structure Sh where
  h : List UInt32
  bg : Bool
  bl : List UInt8
  n : UInt64
/-- Its lists have their lengths. -/
structure Sh.ok (s : Sh) : Prop where
  h : s.h.length = 8
  bl : s.bl.length = 64
def Sh.zero : Sh := ⟨List.replicate 8 0, false, List.replicate 64 0, 0⟩
theorem Sh.zero_ok : Sh.zero.ok := ⟨by simp [Sh.zero], by simp [Sh.zero]⟩
def Sh.begin (s : Sh) : Sh := if s.bg then s else { s with h := H0, bg := true }
theorem Sh.begin_ok {s : Sh} (h : s.ok) : s.begin.ok := by
  unfold Sh.begin; split
  · exact h
  · exact ⟨rfl, h.bl⟩
/-- One byte goes in. -/
def Sh.feed (s : Sh) (x : UInt8) : Sh :=
  let i := (s.n % 64).toNat
  let bl := s.bl.set i x
  { s with h := if i = 63 then compress s.h bl else s.h, bl := bl, n := s.n + 1 }
theorem Sh.feed_ok {s : Sh} (h : s.ok) (x : UInt8) : (s.feed x).ok := by
  refine ⟨?_, by simp [Sh.feed, h.bl]⟩
  simp only [Sh.feed]; split
  · rw [compress_len]; exact h.h
  · exact h.h
theorem Sh.feeds_ok {s : Sh} (h : s.ok) : ∀ (p : List UInt8), (p.foldl Sh.feed s).ok := by
  intro p; induction p generalizing s with
  | nil => exact h
  | cons x r ih => exact ih (Sh.feed_ok h x)
/-- The program's Write. -/
def Sh.write (s : Sh) (p : List UInt8) : Sh := p.foldl Sh.feed s.begin
theorem Sh.write_ok {s : Sh} (h : s.ok) (p : List UInt8) : (s.write p).ok := Sh.feeds_ok (Sh.begin_ok h) p

/-- A piece goes into the block: how the program lays it. -/
def Sh.chunk (s : Sh) (c : List UInt8) : Sh :=
  let i := (s.n % 64).toNat
  let bl := s.bl.take i ++ c ++ s.bl.drop (i + c.length)
  { s with h := if i + c.length = 64 then compress s.h bl else s.h, bl := bl, n := s.n + UInt64.ofNat c.length }

theorem mod64 (n : UInt64) : (n % 64).toNat = n.toNat % 64 := by
  rw [UInt64.toNat_mod]; rfl

theorem chunk_eq : ∀ (c : List UInt8) (s : Sh), s.ok → 0 < c.length → (s.n % 64).toNat + c.length ≤ 64 → c.foldl Sh.feed s = s.chunk c := by
  intro c
  induction c with
  | nil => intro s _ h; simp at h
  | cons x r ih =>
    intro s hs _ hl
    simp only [List.length_cons] at hl
    have hn := s.n.toNat_lt
    simp only [List.foldl_cons]
    have hi : (s.n % 64).toNat < 64 := by rw [mod64]; omega
    by_cases hr : r.length = 0
    · have hr' : r = [] := List.length_eq_zero_iff.1 hr
      subst hr'
      have h1 : s.bl.set (s.n % 64).toNat x = s.bl.take (s.n % 64).toNat ++ [x] ++ s.bl.drop ((s.n % 64).toNat + 1) := by
        rw [List.set_eq_take_append_cons_drop, if_pos (by rw [hs.bl]; exact hi)]
        simp
      simp only [List.foldl_nil, Sh.feed, Sh.chunk, h1, List.length_cons, List.length_nil, Nat.zero_add]
      congr 1
      by_cases h2 : (s.n % 64).toNat = 63
      · rw [if_pos h2, if_pos (by omega)]
      · rw [if_neg h2, if_neg (by omega)]
    · have h63 : (s.n % 64).toNat ≠ 63 := by omega
      have hm : ((s.feed x).n % 64).toNat = (s.n % 64).toNat + 1 := by
        simp only [Sh.feed, mod64, UInt64.toNat_add] at *
        simp only [show (1 : UInt64).toNat = 1 from rfl] at *
        omega
      rw [ih (s.feed x) (Sh.feed_ok hs x) (by omega) (by rw [hm]; omega)]
      simp only [Sh.chunk, hm]
      simp only [Sh.feed, h63, if_false]
      have h1 : (s.bl.set (s.n % 64).toNat x).take ((s.n % 64).toNat + 1) = s.bl.take (s.n % 64).toNat ++ [x] := by
        rw [List.take_succ_eq_append_getElem (by simp [hs.bl]; omega), List.take_set_of_le (Nat.le_refl _)]
        simp
      have h2 : (s.bl.set (s.n % 64).toNat x).drop ((s.n % 64).toNat + 1 + r.length) = s.bl.drop ((s.n % 64).toNat + (r.length + 1)) := by
        apply List.ext_getElem?
        intro j
        simp only [List.getElem?_drop]
        rw [List.getElem?_set_ne (by omega)]
        congr 1; omega
      have h3 : s.bl.take (s.n % 64).toNat ++ [x] ++ r ++ s.bl.drop ((s.n % 64).toNat + (r.length + 1)) = s.bl.take (s.n % 64).toNat ++ (x :: r) ++ s.bl.drop ((s.n % 64).toNat + (r.length + 1)) := by simp
      rw [h1, h2, h3]
      simp only [List.length_cons]
      have h4 : s.n + 1 + UInt64.ofNat r.length = s.n + UInt64.ofNat (r.length + 1) := by
        rw [← UInt64.toNat_inj]; simp only [UInt64.toNat_add, UInt64.toNat_ofNat']; simp only [show (1 : UInt64).toNat = 1 from rfl]; omega
      rw [h4, show (s.n % 64).toNat + 1 + r.length = (s.n % 64).toNat + (r.length + 1) by omega]

/-- The loop of Write: a piece as great as the block has room for, again and again. -/
theorem write_step (s : Sh) (hs : s.ok) (p : List UInt8) (hp : 0 < p.length) :
    p.foldl Sh.feed s = (p.drop (min p.length (64 - (s.n % 64).toNat))).foldl Sh.feed (s.chunk (p.take (min p.length (64 - (s.n % 64).toNat)))) := by
  have hi : (s.n % 64).toNat < 64 := by rw [mod64]; omega
  conv => lhs; rw [← List.take_append_drop (min p.length (64 - (s.n % 64).toNat)) p]
  rw [List.foldl_append, chunk_eq _ s hs (by rw [List.length_take]; omega) (by rw [List.length_take]; omega)]
theorem chunk_ok {s : Sh} (hs : s.ok) (c : List UInt8) (hl : (s.n % 64).toNat + c.length ≤ 64) : (s.chunk c).ok := by
  refine ⟨?_, ?_⟩
  · simp only [Sh.chunk]; split
    · rw [compress_len]; exact hs.h
    · exact hs.h
  · simp only [Sh.chunk, List.length_append, List.length_take, List.length_drop, hs.bl]; omega

/-- Padding. -/
def padZeros (n : UInt64) : UInt64 := (119 - n % 64) % 64
def padFill (n : UInt64) (L : List UInt8) : Nat → List UInt8
  | 0 => L
  | i + 1 => (padFill n L i).set (L.length - 1 - i) ((8 * n) >>> UInt64.ofNat (8 * i)).toUInt8
def padding (n : UInt64) : List UInt8 :=
  padFill n ((List.replicate (1 + padZeros n + 8).toNat 0).set 0 0x80) 8
theorem padFill_len (n : UInt64) (L : List UInt8) : ∀ i, (padFill n L i).length = L.length
  | 0 => rfl
  | i + 1 => by simp [padFill, padFill_len n L i]

/-- The bytes of the words, the highest first. -/
def outFill (h : List UInt32) : Nat → Nat → List UInt8 → List UInt8
  | _, 0, o => o
  | i, j + 1, o => (outFill h i j o).set (4 * i + j) (gw h i >>> UInt32.ofNat (24 - 8 * j)).toUInt8
def outAll (h : List UInt32) : Nat → List UInt8
  | 0 => List.replicate 32 0
  | i + 1 => outFill h i 4 (outAll h i)
theorem outFill_len (h : List UInt32) (i : Nat) (o : List UInt8) : ∀ j, (outFill h i j o).length = o.length
  | 0 => rfl
  | j + 1 => by simp [outFill, outFill_len h i o j]
theorem outAll_len (h : List UInt32) : ∀ i, (outAll h i).length = 32
  | 0 => by simp [outAll]
  | i + 1 => by rw [outAll, outFill_len, outAll_len h i]
/-- The program's Sum. -/
def Sh.sum (s : Sh) : List UInt8 := outAll (s.write (padding s.n)).h 8
theorem Sh.sum_len (s : Sh) : s.sum.length = 32 := outAll_len _ _
/-- The program's Sum256. -/
def sum256 (p : List UInt8) : List UInt8 := (Sh.zero.write p).sum

end Go.Ps

namespace Go.Ps

/-! Bits. -/
theorem or_of_add32 (a b : UInt32) (i : Nat) (ha : ∃ k, a.toNat = k <<< i) (hb : b.toNat < 2 ^ i) : a + b = a ||| b := by
  obtain ⟨k, ha⟩ := ha
  have h1 : a.toNat + b.toNat = a.toNat ||| b.toNat := by rw [ha, Nat.shiftLeft_add_eq_or_of_lt hb]
  have h2 : a.toNat ||| b.toNat < 2 ^ 32 := Nat.or_lt_two_pow a.toNat_lt b.toNat_lt
  apply UInt32.toNat_inj.1
  rw [UInt32.toNat_add, UInt32.toNat_or, h1, Nat.mod_eq_of_lt h2]
theorem turn_eq (x : UInt32) (k : Nat) (hk : 0 < k) (hk2 : k < 32) : x >>> UInt32.ofNat k + x <<< UInt32.ofNat (32 - k) = ror x k := by
  have e1 : (UInt32.ofNat k).toNat % 32 = k := by rw [UInt32.toNat_ofNat']; omega
  have e2 : (UInt32.ofNat (32 - k)).toNat % 32 = 32 - k := by rw [UInt32.toNat_ofNat']; omega
  rw [UInt32.add_comm, ror]
  refine or_of_add32 _ _ (32 - k) ⟨x.toNat % 2 ^ k, ?_⟩ ?_
  · rw [UInt32.toNat_shiftLeft, e2, Nat.shiftLeft_eq, Nat.shiftLeft_eq]
    have : 2 ^ 32 = 2 ^ k * 2 ^ (32 - k) := by rw [← Nat.pow_add]; congr 1; omega
    rw [this, Nat.mul_mod_mul_right]
  · rw [UInt32.toNat_shiftRight, e1, Nat.shiftRight_eq_div_pow]
    have h := x.toNat_lt
    apply (Nat.div_lt_iff_lt_mul (Nat.two_pow_pos k)).2
    rw [← Nat.pow_add, show 32 - k + k = 32 by omega]
    exact h

/-- Four bytes, the highest first, added up. -/
def ldr (bl : List UInt8) (k : Nat) : UInt32 :=
  (gb bl (4 * k)).toUInt32 <<< UInt32.ofNat 24 + (gb bl (4 * k + 1)).toUInt32 <<< UInt32.ofNat 16 + (gb bl (4 * k + 2)).toUInt32 <<< UInt32.ofNat 8 + (gb bl (4 * k + 3)).toUInt32
theorem shl8 (a : UInt8) (i : Nat) (hi : i ≤ 24) : ((a.toUInt32) <<< UInt32.ofNat i).toNat = a.toNat <<< i := by
  have e2 : (UInt32.ofNat i).toNat % 32 = i := by rw [UInt32.toNat_ofNat']; omega
  rw [UInt32.toNat_shiftLeft, e2, UInt8.toNat_toUInt32, Nat.mod_eq_of_lt]
  rw [Nat.shiftLeft_eq]
  have h := a.toNat_lt
  calc a.toNat * 2 ^ i < 2 ^ 8 * 2 ^ i := Nat.mul_lt_mul_of_pos_right h (Nat.two_pow_pos i)
    _ = 2 ^ (8 + i) := (Nat.pow_add 2 8 i).symm
    _ ≤ 2 ^ 32 := Nat.pow_le_pow_right (by decide) (by omega)
theorem bytes_or (a b c d : UInt8) : a.toUInt32 <<< UInt32.ofNat 24 + b.toUInt32 <<< UInt32.ofNat 16 + c.toUInt32 <<< UInt32.ofNat 8 + d.toUInt32 = a.toUInt32 <<< UInt32.ofNat 24 ||| b.toUInt32 <<< UInt32.ofNat 16 ||| c.toUInt32 <<< UInt32.ofNat 8 ||| d.toUInt32 := by
  have ha := a.toNat_lt; have hb := b.toNat_lt; have hc := c.toNat_lt; have hd := d.toNat_lt
  have s1 : a.toUInt32 <<< UInt32.ofNat 24 + b.toUInt32 <<< UInt32.ofNat 16 = a.toUInt32 <<< UInt32.ofNat 24 ||| b.toUInt32 <<< UInt32.ofNat 16 :=
    or_of_add32 _ _ 24 ⟨a.toNat, shl8 a 24 (by omega)⟩ (by rw [shl8 b 16 (by omega), Nat.shiftLeft_eq]; omega)
  have t1 : (a.toUInt32 <<< UInt32.ofNat 24 + b.toUInt32 <<< UInt32.ofNat 16).toNat = a.toNat * 2 ^ 24 + b.toNat * 2 ^ 16 := by
    rw [UInt32.toNat_add, shl8 a 24 (by omega), shl8 b 16 (by omega), Nat.shiftLeft_eq, Nat.shiftLeft_eq]; omega
  have s2 := or_of_add32 (a.toUInt32 <<< UInt32.ofNat 24 + b.toUInt32 <<< UInt32.ofNat 16) (c.toUInt32 <<< UInt32.ofNat 8) 16 ⟨a.toNat * 2 ^ 8 + b.toNat, by rw [t1, Nat.shiftLeft_eq]; omega⟩ (by rw [shl8 c 8 (by omega), Nat.shiftLeft_eq]; omega)
  have t2 : (a.toUInt32 <<< UInt32.ofNat 24 + b.toUInt32 <<< UInt32.ofNat 16 + c.toUInt32 <<< UInt32.ofNat 8).toNat = a.toNat * 2 ^ 24 + b.toNat * 2 ^ 16 + c.toNat * 2 ^ 8 := by
    rw [UInt32.toNat_add, t1, shl8 c 8 (by omega), Nat.shiftLeft_eq]; omega
  have s3 := or_of_add32 (a.toUInt32 <<< UInt32.ofNat 24 + b.toUInt32 <<< UInt32.ofNat 16 + c.toUInt32 <<< UInt32.ofNat 8) d.toUInt32 8 ⟨a.toNat * 2 ^ 16 + b.toNat * 2 ^ 8 + c.toNat, by rw [t2, Nat.shiftLeft_eq]; omega⟩ (by rw [UInt8.toNat_toUInt32]; omega)
  rw [s3, s2, s1]
theorem ldr_eq (bl : List UInt8) (k : Nat) : ldr bl k = ldw bl k := bytes_or _ _ _ _
theorem choice_eq (e f g : UInt32) : g ^^^ e &&& (f ^^^ g) = e &&& f ^^^ ~~~ e &&& g := by
  apply UInt32.eq_of_toBitVec_eq
  apply BitVec.eq_of_getLsbD_eq
  intro i hi
  simp only [UInt32.toBitVec_xor, UInt32.toBitVec_and, UInt32.toBitVec_not, BitVec.getLsbD_xor, BitVec.getLsbD_and, BitVec.getLsbD_not, hi, decide_true, Bool.true_and]
  cases e.toBitVec.getLsbD i <;> cases f.toBitVec.getLsbD i <;> cases g.toBitVec.getLsbD i <;> rfl
theorem most_eq (a b c : UInt32) : a &&& b ||| c &&& (a ||| b) = a &&& b ^^^ a &&& c ^^^ b &&& c := by
  apply UInt32.eq_of_toBitVec_eq
  apply BitVec.eq_of_getLsbD_eq
  intro i hi
  simp only [UInt32.toBitVec_xor, UInt32.toBitVec_and, UInt32.toBitVec_or, BitVec.getLsbD_xor, BitVec.getLsbD_and, BitVec.getLsbD_or]
  cases a.toBitVec.getLsbD i <;> cases b.toBitVec.getLsbD i <;> cases c.toBitVec.getLsbD i <;> rfl

/-! The words of a block. -/
def spr (bl : List UInt8) : Nat → List UInt32
  | 0 => List.replicate 64 0
  | i + 1 => if i < 16 then (spr bl i).set i (ldr bl i)
    else (spr bl i).set i (gw (spr bl i) (i - 16) + gw (spr bl i) (i - 7) + (ror (gw (spr bl i) (i - 15)) 7 ^^^ ror (gw (spr bl i) (i - 15)) 18 ^^^ gw (spr bl i) (i - 15) >>> UInt32.ofNat 3) + (ror (gw (spr bl i) (i - 2)) 17 ^^^ ror (gw (spr bl i) (i - 2)) 19 ^^^ gw (spr bl i) (i - 2) >>> UInt32.ofNat 10))
theorem spr_len (bl : List UInt8) : ∀ i, (spr bl i).length = 64
  | 0 => by simp [spr]
  | i + 1 => by simp only [spr]; split <;> simp [spr_len bl i]
theorem spr_fill1 (bl : List UInt8) : ∀ i, i ≤ 16 → spr bl i = fill1 bl i
  | 0, _ => rfl
  | i + 1, h => by simp only [spr, fill1, if_pos (show i < 16 by omega), ldr_eq, spr_fill1 bl i (by omega)]
theorem spr_fill2 (bl : List UInt8) : ∀ j, spr bl (16 + j) = fill2 bl j
  | 0 => spr_fill1 bl 16 (Nat.le_refl _)
  | j + 1 => by
    rw [← Nat.add_assoc]
    simp only [spr, fill2, if_neg (show ¬ 16 + j < 16 by omega), spr_fill2 bl j, sig0, sig1]
    congr 1
    ac_rfl
theorem spr_eq (bl : List UInt8) : spr bl 64 = fill2 bl 48 := spr_fill2 bl 48

/-! The rounds: no register is moved. -/
def rtm (K W r : List UInt32) (i : Nat) : UInt32 :=
  gw r ((64 - i + 7) % 8) + (ror (gw r ((64 - i + 4) % 8)) 6 ^^^ ror (gw r ((64 - i + 4) % 8)) 11 ^^^ ror (gw r ((64 - i + 4) % 8)) 25) + (gw r ((64 - i + 6) % 8) ^^^ gw r ((64 - i + 4) % 8) &&& (gw r ((64 - i + 5) % 8) ^^^ gw r ((64 - i + 6) % 8))) + gw K i + gw W i
def rtop (t : UInt32) (r : List UInt32) (i : Nat) : UInt32 :=
  t + (ror (gw r ((64 - i) % 8)) 2 ^^^ ror (gw r ((64 - i) % 8)) 13 ^^^ ror (gw r ((64 - i) % 8)) 22) + (gw r ((64 - i) % 8) &&& gw r ((64 - i + 1) % 8) ||| gw r ((64 - i + 2) % 8) &&& (gw r ((64 - i) % 8) ||| gw r ((64 - i + 1) % 8)))
def rr (K W r : List UInt32) (i : Nat) : List UInt32 :=
  (r.set ((64 - i + 3) % 8) (gw r ((64 - i + 3) % 8) + rtm K W r i)).set ((64 - i + 7) % 8) (rtop (rtm K W r i) r i)
def rrs (K W h : List UInt32) : Nat → List UInt32
  | 0 => h
  | i + 1 => rr K W (rrs K W h i) i
theorem rr_len (K W r : List UInt32) (i : Nat) : (rr K W r i).length = r.length := by simp [rr]
theorem rrs_len (K W h : List UInt32) : ∀ i, (rrs K W h i).length = h.length
  | 0 => rfl
  | i + 1 => by rw [rrs, rr_len, rrs_len K W h i]
def regs (r : List UInt32) (o : Nat) : St := ⟨gw r (o % 8), gw r ((o + 1) % 8), gw r ((o + 2) % 8), gw r ((o + 3) % 8), gw r ((o + 4) % 8), gw r ((o + 5) % 8), gw r ((o + 6) % 8), gw r ((o + 7) % 8)⟩
theorem gw_set (r : List UInt32) (k j : Nat) (x : UInt32) (hk : k < r.length) : gw (r.set k x) j = if k = j then x else gw r j := by
  unfold gw
  by_cases h : k = j
  · subst h; simp [hk, List.getD_eq_getElem?_getD]
  · simp [h, List.getD_eq_getElem?_getD, List.getElem?_set_ne]
theorem rr_regs (K W r : List UInt32) (hr : r.length = 8) (i : Nat) (hi : i < 64) : regs (rr K W r i) (64 - (i + 1)) = rnd K W i (regs r (64 - i)) := by
  have h3 : (64 - i + 3) % 8 < r.length := by omega
  have h7 : (64 - i + 7) % 8 < (r.set ((64 - i + 3) % 8) (gw r ((64 - i + 3) % 8) + rtm K W r i)).length := by rw [List.length_set]; omega
  have hg : ∀ j, gw (rr K W r i) j = if (64 - i + 7) % 8 = j then rtop (rtm K W r i) r i else if (64 - i + 3) % 8 = j then gw r ((64 - i + 3) % 8) + rtm K W r i else gw r j := by
    intro j
    rw [rr, gw_set _ _ _ _ h7, gw_set _ _ _ _ h3]
  have ht : rtm K W r i = gw r ((64 - i + 7) % 8) + big1 (gw r ((64 - i + 4) % 8)) + (gw r ((64 - i + 4) % 8) &&& gw r ((64 - i + 5) % 8) ^^^ ~~~ (gw r ((64 - i + 4) % 8)) &&& gw r ((64 - i + 6) % 8)) + gw K i + gw W i := by
    simp only [rtm, big1, choice_eq]
  have hu : ∀ t, rtop t r i = t + (big0 (gw r ((64 - i) % 8)) + (gw r ((64 - i) % 8) &&& gw r ((64 - i + 1) % 8) ^^^ gw r ((64 - i) % 8) &&& gw r ((64 - i + 2) % 8) ^^^ gw r ((64 - i + 1) % 8) &&& gw r ((64 - i + 2) % 8))) := by
    intro t
    simp only [rtop, big0, most_eq, UInt32.add_assoc]
  have e0 : (64 - (i + 1)) % 8 = (64 - i + 7) % 8 := by omega
  have e1 : (64 - (i + 1) + 1) % 8 = (64 - i) % 8 := by omega
  have e2 : (64 - (i + 1) + 2) % 8 = (64 - i + 1) % 8 := by omega
  have e3 : (64 - (i + 1) + 3) % 8 = (64 - i + 2) % 8 := by omega
  have e4 : (64 - (i + 1) + 4) % 8 = (64 - i + 3) % 8 := by omega
  have e5 : (64 - (i + 1) + 5) % 8 = (64 - i + 4) % 8 := by omega
  have e6 : (64 - (i + 1) + 6) % 8 = (64 - i + 5) % 8 := by omega
  have e7 : (64 - (i + 1) + 7) % 8 = (64 - i + 6) % 8 := by omega
  simp only [regs, rnd, hg, e0, e1, e2, e3, e4, e5, e6, e7]
  simp only [if_true]
  rw [if_neg (by omega), if_neg (by omega), if_neg (by omega), if_neg (by omega), if_neg (by omega), if_neg (by omega), if_neg (by omega),
    if_neg (by omega), if_neg (by omega), if_neg (by omega), if_neg (by omega), if_neg (by omega), if_neg (by omega), hu, ht]
theorem rrs_regs (K W h : List UInt32) (hh : h.length = 8) : ∀ i, i ≤ 64 → regs (rrs K W h i) (64 - i) = rnds K W (regs h 64) i
  | 0, _ => rfl
  | i + 1, hi => by
    have h1 := rr_regs K W (rrs K W h i) (by rw [rrs_len]; exact hh) i (by omega)
    rw [rrs_regs K W h hh i (by omega)] at h1
    exact h1
/-- The reference's compression. -/
def compressR (h : List UInt32) (bl : List UInt8) : List UInt32 := addUp h (rrs KT (spr bl 64) h 64) 8
theorem list8 {r : List UInt32} (hr : r.length = 8) : r = [gw r 0, gw r 1, gw r 2, gw r 3, gw r 4, gw r 5, gw r 6, gw r 7] := by
  match r, hr with
  | [a, b, c, d, e, f, g, h], _ => rfl
theorem compressR_eq (h : List UInt32) (hh : h.length = 8) (bl : List UInt8) : compressR h bl = compress h bl := by
  have h1 := rrs_regs KT (spr bl 64) h hh 64 (Nat.le_refl _)
  have h3 : ∀ r : List UInt32, r.length = 8 → r = (regs r (64 - 64)).list := fun r hr => list8 hr
  have h2 := h3 (rrs KT (spr bl 64) h 64) (by rw [rrs_len]; exact hh)
  have h4 : regs h 64 = ⟨gw h 0, gw h 1, gw h 2, gw h 3, gw h 4, gw h 5, gw h 6, gw h 7⟩ := rfl
  rw [h1, h4, spr_eq] at h2
  unfold compressR compress
  rw [spr_eq, h2]

/-! Padding. -/
def padTail (n : UInt64) (j : Nat) : List UInt8 := (List.range j).map fun t => ((8 * n) >>> UInt64.ofNat (8 * (7 - t))).toUInt8
def padHead (k : Nat) : List UInt8 := 0x80 :: List.replicate k 0
def docPad (n : UInt64) : List UInt8 := padHead (padZeros n).toNat ++ padTail n 8
theorem padHead_len (k : Nat) : (padHead k).length = 1 + k := by simp [padHead]; omega
theorem padTail_len (n : UInt64) (j : Nat) : (padTail n j).length = j := by simp [padTail]
theorem padZeros_toNat (n : UInt64) : (padZeros n).toNat = (119 - n.toNat % 64) % 64 := by
  unfold padZeros
  rw [UInt64.toNat_mod, UInt64.toNat_sub_of_le]
  · rw [UInt64.toNat_mod]; rfl
  · rw [UInt64.le_iff_toNat_le, UInt64.toNat_mod]
    have : n.toNat % 64 < 64 := Nat.mod_lt _ (by decide)
    show n.toNat % 64 ≤ 119
    omega
theorem padLen' (n : UInt64) : (1 + padZeros n + 8).toNat = 9 + (padZeros n).toNat := by
  have := padZeros_toNat n
  simp only [UInt64.toNat_add, show (1 : UInt64).toNat = 1 from rfl, show (8 : UInt64).toNat = 8 from rfl]; omega
theorem docPad_eq (n : UInt64) : docPad n = padding n := by
  have h1 : (List.replicate (1 + padZeros n + 8).toNat (0 : UInt8)).set 0 0x80 = padHead (padZeros n).toNat ++ [0, 0, 0, 0, 0, 0, 0, 0] := by
    rw [padLen', show 9 + (padZeros n).toNat = (padZeros n).toNat + 8 + 1 by omega, List.replicate_succ, List.set_cons_zero, ← List.replicate_append_replicate]
    rfl
  unfold padding docPad
  rw [h1]
  generalize padHead (padZeros n).toNat = A
  have hs : ∀ (B : List UInt8) k x, (A ++ B).set (A.length + k) x = A ++ B.set k x := fun B k x => by
    rw [List.set_append_right _ _ (by omega)]; congr 2; omega
  have hi : ∀ i, i < 8 → (A ++ [0, 0, 0, 0, 0, 0, 0, (0 : UInt8)]).length - 1 - i = A.length + (7 - i) := fun i hi => by
    rw [List.length_append]; simp only [List.length_cons, List.length_nil]; omega
  simp only [padFill]
  rw [hi 0 (by decide), hi 1 (by decide), hi 2 (by decide), hi 3 (by decide), hi 4 (by decide), hi 5 (by decide), hi 6 (by decide), hi 7 (by decide)]
  simp only [hs]
  rfl

/-! The whole text, block by block. -/
def blocks (h : List UInt32) (p : List UInt8) : Nat → List UInt32
  | 0 => h
  | k + 1 => compress (blocks h p k) ((p.drop (64 * k)).take 64)
theorem blocks_len (h : List UInt32) (p : List UInt8) : ∀ k, (blocks h p k).length = h.length
  | 0 => rfl
  | k + 1 => by rw [blocks, compress_len, blocks_len h p k]
theorem blocks_append (h : List UInt32) (p q : List UInt8) (k : Nat) (hp : p.length = 64 * k) : ∀ j, blocks h (p ++ q) (k + j) = blocks (blocks h p k) q j
  | 0 => by
    have : ∀ i, i ≤ k → blocks h (p ++ q) i = blocks h p i := by
      intro i
      induction i with
      | zero => intro _; rfl
      | succ i ih =>
        intro hi
        rw [blocks, blocks, ih (by omega)]
        congr 1
        rw [List.drop_append_of_le_length (by omega), List.take_append_of_le_length (by rw [List.length_drop]; omega)]
    exact this k (Nat.le_refl _)
  | j + 1 => by
    rw [← Nat.add_assoc, blocks, blocks, blocks_append h p q k hp j]
    congr 1
    rw [show 64 * (k + j) = p.length + 64 * j by omega, List.drop_length_add_append]
theorem feed_block (s : Sh) (hs : s.ok) (hn : s.n % 64 = 0) (p : List UInt8) (hp : p.length = 64) : p.foldl Sh.feed s = { s with h := compress s.h p, bl := p, n := s.n + 64 } := by
  have h0 : (s.n % 64).toNat = 0 := by rw [hn]; rfl
  rw [chunk_eq p s hs (by omega) (by omega)]
  simp only [Sh.chunk, h0, hp, Nat.zero_add, List.take_zero, List.nil_append, if_true]
  have : s.bl.drop 64 = [] := List.drop_eq_nil_of_le (by rw [hs.bl]; exact Nat.le_refl _)
  rw [this, List.append_nil]
  rfl
theorem feed_blocks (s : Sh) (hs : s.ok) (hn : s.n % 64 = 0) : ∀ (k : Nat) (p : List UInt8), p.length = 64 * k → (p.foldl Sh.feed s).h = blocks s.h p k := by
  intro k
  have key : ∀ (k : Nat) (s : Sh), s.ok → s.n % 64 = 0 → ∀ p : List UInt8, p.length = 64 * k → (p.foldl Sh.feed s).h = blocks s.h p k := by
    intro k
    induction k with
    | zero =>
      intro s _ _ p hp
      have : p = [] := List.length_eq_zero_iff.1 (by omega)
      subst this; rfl
    | succ k ih =>
      intro s hs hn p hp
      have e : p = p.take 64 ++ p.drop 64 := (List.take_append_drop 64 p).symm
      have ht : (p.take 64).length = 64 := by rw [List.length_take]; omega
      rw [e, List.foldl_append, feed_block s hs hn _ ht]
      have hn' : (s.n + 64) % 64 = 0 := by
        rw [← UInt64.toNat_inj] at hn ⊢
        simp only [UInt64.toNat_mod, UInt64.toNat_add, show (64 : UInt64).toNat = 64 from rfl, show (0 : UInt64).toNat = 0 from rfl] at hn ⊢
        omega
      rw [ih { s with h := compress s.h (p.take 64), bl := p.take 64, n := s.n + 64 } ⟨by rw [compress_len]; exact hs.h, ht⟩ hn' _ (by rw [List.length_drop]; omega)]
      rw [show k + 1 = 1 + k by omega, blocks_append s.h (p.take 64) (p.drop 64) 1 (by omega) k]
      simp only [blocks, Nat.mul_zero, List.drop_zero]
      rw [List.take_of_length_le (Nat.le_of_eq ht)]
  exact key k s hs hn
theorem feeds_n (s : Sh) : ∀ p : List UInt8, (p.foldl Sh.feed s).n = s.n + UInt64.ofNat p.length := by
  intro p
  induction p generalizing s with
  | nil => simp
  | cons x r ih =>
    simp only [List.foldl_cons, ih, Sh.feed, List.length_cons]
    rw [← UInt64.toNat_inj]; simp only [UInt64.toNat_add, UInt64.toNat_ofNat']; simp only [show (1 : UInt64).toNat = 1 from rfl]; omega
theorem write_bg (s : Sh) (p : List UInt8) : (s.write p).bg = true := by
  have h1 : ∀ (p : List UInt8) (s : Sh), s.bg = true → (p.foldl Sh.feed s).bg = true := by
    intro p
    induction p with
    | nil => intro s h; exact h
    | cons x r ih => intro s h; exact ih _ h
  apply h1
  unfold Sh.begin
  cases h : s.bg <;> simp [h]
theorem write_write (s : Sh) (p q : List UInt8) : (s.write p).write q = s.write (p ++ q) := by
  have : (s.write p).begin = s.write p := by simp [Sh.begin, write_bg]
  rw [Sh.write, this, Sh.write, Sh.write, List.foldl_append]
theorem whole_len (p : List UInt8) : (p ++ padding (UInt64.ofNat p.length)).length % 64 = 0 := by
  rw [List.length_append, ← docPad_eq, docPad, List.length_append, padHead_len, padTail_len, padZeros_toNat, UInt64.toNat_ofNat']; omega
/-- The shaOf: the blocks of the text and its padding. -/
def shaOf (p : List UInt8) : List UInt8 := outAll (blocks H0 (p ++ padding (UInt64.ofNat p.length)) ((p ++ padding (UInt64.ofNat p.length)).length / 64)) 8
theorem sum_hash (s : Sh) (p : List UInt8) (hs : s = Sh.zero.write p) : s.sum = shaOf p := by
  subst hs
  have hn : (Sh.zero.write p).n = UInt64.ofNat p.length := by
    rw [Sh.write, feeds_n]; simp [Sh.begin, Sh.zero]
  unfold Sh.sum shaOf
  rw [hn, write_write]
  refine congrArg (fun x => outAll x 8) ?_
  have := whole_len p
  exact feed_blocks Sh.zero.begin (Sh.begin_ok Sh.zero_ok) rfl _ _ (by omega)
theorem sum256_hash (p : List UInt8) : sum256 p = shaOf p := sum_hash _ p rfl
/-- The reference's last loop. -/
def outR (h : List UInt32) : Nat → List UInt8
  | 0 => List.replicate 32 0
  | i + 1 => (outR h i).set i (gw h (i / 4) >>> UInt32.ofNat (24 - 8 * (i % 4))).toUInt8
theorem outR_len (h : List UInt32) : ∀ i, (outR h i).length = 32
  | 0 => by simp [outR]
  | i + 1 => by simp [outR, outR_len h i]
theorem outR_fill (h : List UInt32) (i : Nat) (hi : outR h (4 * i) = outAll h i) : ∀ j, j ≤ 4 → outR h (4 * i + j) = outFill h i j (outAll h i)
  | 0, _ => hi
  | j + 1, hj => by
    rw [← Nat.add_assoc, outR, outFill, outR_fill h i hi j (by omega), show (4 * i + j) / 4 = i by omega, show (4 * i + j) % 4 = j by omega]
theorem outR_all (h : List UInt32) : ∀ i, outR h (4 * i) = outAll h i
  | 0 => rfl
  | i + 1 => outR_fill h i (outR_all h i) 4 (Nat.le_refl _)
theorem outR_eq (h : List UInt32) : outR h 32 = outAll h 8 := outR_all h 8
/-- The reference's Sum. -/
theorem hash_parts (p : List UInt8) (pad : List UInt8) (hpad : pad = padding (UInt64.ofNat p.length)) (k j : Nat) (hk : k = p.length / 64) (hj : (p.drop (64 * k) ++ pad).length = 64 * j) :
    outR (blocks (blocks H0 p k) (p.drop (64 * k) ++ pad) j) 32 = shaOf p := by
  rw [hpad] at hj ⊢
  rw [outR_eq, shaOf]
  refine congrArg (fun x => outAll x 8) ?_
  have e : p ++ padding (UInt64.ofNat p.length) = p.take (64 * k) ++ (p.drop (64 * k) ++ padding (UInt64.ofNat p.length)) := by
    rw [← List.append_assoc, List.take_append_drop]
  have hl : (p.take (64 * k)).length = 64 * k := by rw [List.length_take]; omega
  have h1 : blocks H0 p k = blocks H0 (p.take (64 * k)) k := by
    have := blocks_append H0 (p.take (64 * k)) (p.drop (64 * k)) k hl 0
    rw [List.take_append_drop] at this
    exact this
  rw [h1, ← blocks_append H0 (p.take (64 * k)) _ k hl j]
  rw [← e]
  refine congrArg (blocks H0 _) ?_
  rw [e, List.length_append, hl, hj]; omega
end Go.Ps

namespace Go.Sx
open Go.Ps

def shCells (s : Sh) : List Value := s.h.map vU32 ++ (.bool s.bg :: (s.bl.map vU8 ++ [vU64 s.n]))

section
variable {s : Sh}
theorem sh_len (hs : s.ok) : (shCells s).length = 74 := by simp [shCells, hs.h, hs.bl]
theorem sh_bg (hs : s.ok) : (shCells s)[8]? = some (.bool s.bg) := by
  have := get_skip (xs := s.h.map vU32) (ys := .bool s.bg :: (s.bl.map vU8 ++ [vU64 s.n])) (k := 0) (m := 8) (v := .bool s.bg) (by simp [hs.h]) rfl
  simpa [shCells] using this
theorem sh_n (hs : s.ok) : (shCells s)[73]? = some (vU64 s.n) := by
  have h1 : (s.bl.map vU8 ++ [vU64 s.n])[64]? = some (vU64 s.n) := by
    have := get_skip (xs := s.bl.map vU8) (ys := [vU64 s.n]) (k := 0) (m := 64) (v := vU64 s.n) (by simp [hs.bl]) rfl
    simpa using this
  have := get_skip (xs := s.h.map vU32) (ys := .bool s.bg :: (s.bl.map vU8 ++ [vU64 s.n])) (k := 65) (m := 8) (v := vU64 s.n) (by simp [hs.h]) (by simpa using h1)
  simpa [shCells] using this
theorem sh_h (hs : s.ok) : ((shCells s).drop 0).take 8 = s.h.map vU32 := by
  simp only [shCells, List.drop_zero]
  exact List.take_left' (by simp [hs.h])
theorem sh_drop9 (hs : s.ok) : (shCells s).drop 9 = s.bl.map vU8 ++ [vU64 s.n] := by
  have e : shCells s = (s.h.map vU32 ++ [.bool s.bg]) ++ (s.bl.map vU8 ++ [vU64 s.n]) := by simp [shCells]
  rw [e]; exact List.drop_left' (by simp [hs.h])
theorem sh_bl (hs : s.ok) : ((shCells s).drop 9).take 64 = s.bl.map vU8 := by
  rw [sh_drop9 hs]; exact List.take_left' (by simp [hs.bl])
/-- Its fields written. -/
theorem sh_set_bg (hs : s.ok) (b : Bool) : (shCells s).set 8 (.bool b) = shCells { s with bg := b } := by
  simp only [shCells]
  rw [List.set_append_right _ _ (by simp [hs.h])]
  simp [hs.h]
theorem sh_set_n (hs : s.ok) (n : UInt64) : (shCells s).set 73 (vU64 n) = shCells { s with n := n } := by
  have e : ∀ m, shCells { s with n := m } = (s.h.map vU32 ++ (.bool s.bg :: s.bl.map vU8)) ++ [vU64 m] := fun m => by simp [shCells]
  have e1 : shCells s = (s.h.map vU32 ++ (.bool s.bg :: s.bl.map vU8)) ++ [vU64 s.n] := e s.n
  have hl : (s.h.map vU32 ++ (.bool s.bg :: s.bl.map vU8)).length = 73 := by simp [hs.h, hs.bl]
  refine Eq.trans ?_ (e n).symm
  rw [e1, List.set_append_right _ _ (by rw [hl]; omega), hl]
  rfl
theorem sh_set_h (hs : s.ok) (h : List UInt32) : (shCells s).take 0 ++ h.map vU32 ++ (shCells s).drop (0 + 8) = shCells { s with h := h } := by
  have : (shCells s).drop 8 = .bool s.bg :: (s.bl.map vU8 ++ [vU64 s.n]) := List.drop_left' (by simp [hs.h])
  simp only [List.take_zero, List.nil_append, Nat.zero_add, this]
  rfl
theorem sh_set_bl (hs : s.ok) (i : Nat) (c : List UInt8) (hi : i + c.length ≤ 64) : (shCells s).take (9 + i) ++ c.map vU8 ++ (shCells s).drop (9 + i + c.length) = shCells { s with bl := s.bl.take i ++ c ++ s.bl.drop (i + c.length) } := by
  have e : ∀ b : List UInt8, shCells { s with bl := b } = (s.h.map vU32 ++ [.bool s.bg]) ++ (b.map vU8 ++ [vU64 s.n]) := fun b => by simp [shCells]
  have e1 : shCells s = (s.h.map vU32 ++ [.bool s.bg]) ++ (s.bl.map vU8 ++ [vU64 s.n]) := e s.bl
  have hl : (s.h.map vU32 ++ [Value.bool s.bg]).length = 9 := by simp [hs.h]
  have h1 : (shCells s).take (9 + i) = (s.h.map vU32 ++ [.bool s.bg]) ++ (s.bl.take i).map vU8 := by
    rw [e1, ← hl, List.take_length_add_append, List.take_append_of_le_length (by simp [hs.bl]; omega), List.map_take]
  have h2 : (shCells s).drop (9 + i + c.length) = (s.bl.drop (i + c.length)).map vU8 ++ [vU64 s.n] := by
    rw [Nat.add_assoc, ← List.drop_drop, sh_drop9 hs, List.drop_append_of_le_length (by simp [hs.bl]; omega), List.map_drop]
  refine Eq.trans ?_ (e _).symm
  rw [h1, h2]
  simp
theorem sh_one (s : Sh) : ∀ v ∈ shCells s, v.oneCell' = true := by
  intro v hv
  simp only [shCells, List.mem_append, List.mem_cons, List.mem_map, List.not_mem_nil, or_false] at hv
  rcases hv with ⟨a, _, rfl⟩ | rfl | ⟨a, _, rfl⟩ | rfl <;> rfl
end

/-- The table in memory. -/
def KW (w : World) : Prop := ∀ i, i < 64 → w.cell? ⟨0, i, none⟩ = some (vU32 (gw KT i))
theorem KW.mem {w0 w : World} {olds : List Nat} {l : List Ent} (h : KW w0) (hm : Mem w0 olds l w) (h0 : 0 ∉ olds) : KW w := fun i hi => by
  have hc := h i hi
  rw [hm.cell (World.block_lt_of_cell? _ _ hc) h0]; exact hc
theorem KW.mem0 {w0 w : World} {l : List Ent} (h : KW w0) (hm : Mem w0 [] l w) : KW w := h.mem hm (by simp)
theorem KW.pos {w : World} (h : KW w) : 0 < w.heap.size := World.block_lt_of_cell? _ _ (h 0 (by omega))
end Go.Sx

namespace Go.Ps

def wd (w : Int) : Bool := decide (1 ≤ w) && decide (w ≤ 32)
theorem wd_iff {w : Int} : wd w = true ↔ 1 ≤ w ∧ w ≤ 32 := by simp [wd]
/-- The first w bytes, then noughts. -/
def cutw (w : Nat) (d : List UInt8) : List UInt8 := d.take w ++ List.replicate (32 - w) 0
theorem cutw_len {w : Nat} {d : List UInt8} (hd : d.length = 32) (hw : w ≤ 32) : (cutw w d).length = 32 := by
  simp [cutw, hd]; omega
def zeros32 : List UInt8 := List.replicate 32 0
theorem zeros32_len : zeros32.length = 32 := rfl
def fm (w : Int) (d : List UInt8) : Bool := wd w && decide (cutw w.toNat d = d)
def chk (w : Int) (l : List (List UInt8)) : Nat := if wd w = true then (if l.all (fm w) = true then 0 else 3) else 1
/-- n bytes of v, the highest first. -/
def be (v : UInt64) (n : Nat) : List UInt8 := (List.range n).map fun j => (v >>> UInt64.ofNat (8 * (n - 1 - j))).toUInt8
theorem be_len (v : UInt64) (n : Nat) : (be v n).length = n := by simp [be]
theorem be_take_succ (v : UInt64) (n j : Nat) (h : j < n) : (be v n).take (j + 1) = (be v n).take j ++ [(v >>> UInt64.ofNat (8 * (n - 1 - j))).toUInt8] := by
  rw [List.take_succ_eq_append_getElem (by simp [be]; exact h)]
  simp [be]

theorem shr7_lt (v : UInt64) (h : ¬ v < 128) : (v >>> 7).toNat < v.toNat := by
  have h1 : 128 ≤ v.toNat := by
    have : ¬ v.toNat < (128 : UInt64).toNat := fun h2 => h (UInt64.lt_iff_toNat_lt.2 h2)
    simpa using this
  rw [UInt64.toNat_shiftRight]
  have : (7 : UInt64).toNat % 64 = 7 := rfl
  rw [this, Nat.shiftRight_eq_div_pow]
  omega
/-- A number in groups of seven bits, the lowest first. -/
def uvar (v : UInt64) : List UInt8 := if h : v < 128 then [v.toUInt8] else (v.toUInt8 ||| 128) :: uvar (v >>> 7)
termination_by v.toNat
decreasing_by exact shr7_lt v h
theorem uvar_lt {v : UInt64} (h : v < 128) : uvar v = [v.toUInt8] := by rw [uvar, dif_pos h]
theorem uvar_ge {v : UInt64} (h : ¬ v < 128) : uvar v = (v.toUInt8 ||| 128) :: uvar (v >>> 7) := by rw [uvar, dif_neg h]
theorem uvar_len_aux : ∀ (n : Nat) (v : UInt64), v.toNat < 128 ^ (n + 1) → (uvar v).length ≤ n + 1
  | 0, v, h => by rw [uvar_lt (UInt64.lt_iff_toNat_lt.2 (by simpa using h))]; simp
  | n + 1, v, h => by
    by_cases h1 : v < 128
    · rw [uvar_lt h1]; simp
    · rw [uvar_ge h1, List.length_cons]
      have h2 : (v >>> 7).toNat < 128 ^ (n + 1) := by
        rw [UInt64.toNat_shiftRight, show (7 : UInt64).toNat % 64 = 7 from rfl, Nat.shiftRight_eq_div_pow]
        rw [Nat.pow_succ] at h
        exact Nat.div_lt_of_lt_mul (by rw [Nat.mul_comm]; exact h)
      have := uvar_len_aux n (v >>> 7) h2
      omega
theorem uvar_len (v : UInt64) : (uvar v).length ≤ 10 := uvar_len_aux 9 v (by have := v.toNat_lt; omega)
def blob (p : List UInt8) : List UInt8 := uvar (UInt64.ofNat p.length) ++ p
theorem blob_len (p : List UInt8) : (blob p).length ≤ p.length + 10 := by have := uvar_len (UInt64.ofNat p.length); simp [blob]; omega

def leafI (p : List UInt8) : List UInt8 := [0] ++ p
def keyI (p : List UInt8) : List UInt8 := [2] ++ p
def nodeI (w : Nat) (l r : List UInt8) : List UInt8 := [1] ++ l.take w ++ r.take w
def pairsB (ps : List (List UInt8 × List UInt8)) : List UInt8 := ps.flatMap fun x => blob x.1 ++ blob x.2
def bucketI (ps : List (List UInt8 × List UInt8)) : List UInt8 := [3] ++ uvar (UInt64.ofNat ps.length) ++ pairsB ps
def kidsB (w : Nat) (ks : List (List UInt8)) : List UInt8 := ks.flatMap fun k => k.take w
def branchI (w : Nat) (bm : UInt16) (ks : List (List UInt8)) : List UInt8 := [4] ++ be bm.toUInt64 2 ++ kidsB w ks
def rootI (w : Nat) (size : UInt64) (log map : List UInt8) : List UInt8 := [6] ++ be size 8 ++ log.take w ++ map.take w
def dig (w : Nat) (p : List UInt8) : List UInt8 := cutw w (shaOf p)

/-- How many ones. -/
def onesF : Nat → Nat → Nat
  | 0, _ => 0
  | f + 1, n => n % 2 + onesF f (n / 2)
def ones (bm : UInt16) : Nat := onesF 16 bm.toNat
theorem onesF_zero : ∀ f, onesF f 0 = 0
  | 0 => rfl
  | f + 1 => by simp [onesF, onesF_zero f]
theorem onesF_split (f g : Nat) : ∀ (b a : Nat), b < 2 ^ f → onesF (f + g) (a * 2 ^ f + b) = onesF f b + onesF g a := by
  induction f with
  | zero => intro b a hb; have : b = 0 := by simpa using hb
            subst this; simp [onesF]
  | succ f ih =>
    intro b a hb
    have h1 : f + 1 + g = (f + g) + 1 := by omega
    rw [h1, onesF, onesF]
    have h0 : a * 2 ^ (f + 1) = 2 * (a * 2 ^ f) := by rw [Nat.pow_succ, ← Nat.mul_assoc, Nat.mul_comm]
    have h2 : (a * 2 ^ (f + 1) + b) / 2 = a * 2 ^ f + b / 2 := by rw [h0]; omega
    have h3 : (a * 2 ^ (f + 1) + b) % 2 = b % 2 := by rw [h0]; omega
    rw [h2, h3, ih _ _ (by rw [Nat.pow_succ] at hb; omega)]
    omega
theorem onesF_le : ∀ f n, onesF f n ≤ f
  | 0, _ => Nat.le_refl _
  | f + 1, n => by have := onesF_le f (n / 2); have := Nat.mod_lt n (show 0 < 2 by omega); simp only [onesF]; omega

/-! The reference's ways to the same bytes. -/
theorem shr_div (x : UInt64) (j : Nat) (hj : 8 * j < 64) : (x >>> UInt64.ofNat (8 * j)).toNat = x.toNat / 256 ^ j := by
  rw [UInt64.toNat_shiftRight, UInt64.toNat_ofNat', Nat.shiftRight_eq_div_pow]
  have h1 : 8 * j % 2 ^ 64 % 64 = 8 * j := by omega
  rw [h1, Nat.pow_mul]
theorem byte_div (x v : UInt64) (j : Nat) (hj : 8 * j < 64) (hv : v.toNat = x.toNat / 256 ^ j) : (v % 256).toUInt8 = (x >>> UInt64.ofNat (8 * j)).toUInt8 := by
  apply UInt8.toNat.inj
  rw [UInt64.toNat_toUInt8, UInt64.toNat_toUInt8, shr_div x j hj, UInt64.toNat_mod, hv]
  show x.toNat / 256 ^ j % 256 % 2 ^ 8 = _
  omega
/-- Filled from behind. -/
def wfill (x : UInt64) (n j : Nat) : List UInt8 := List.replicate (n - j) 0 ++ (be x n).drop (n - j)
theorem wfill_len (x : UInt64) (n j : Nat) (hj : j ≤ n) : (wfill x n j).length = n := by simp only [wfill, List.length_append, List.length_replicate, List.length_drop, be_len]; omega
theorem wfill_all (x : UInt64) (n : Nat) : wfill x n n = be x n := by simp [wfill]
theorem wfill_zero (x : UInt64) (n : Nat) : wfill x n 0 = List.replicate n 0 := by simp [wfill, be_len]
theorem wfill_succ (x : UInt64) (n j : Nat) (hj : j < n) : (wfill x n j).set (n - 1 - j) (x >>> UInt64.ofNat (8 * j)).toUInt8 = wfill x n (j + 1) := by
  apply List.ext_getElem?
  intro i
  rw [List.getElem?_set, wfill_len x n j (by omega)]
  have hb : ∀ k, k < n → (be x n)[k]? = some (x >>> UInt64.ofNat (8 * (n - 1 - k))).toUInt8 := fun k hk => by simp [be, hk]
  by_cases h1 : n - 1 - j = i
  · subst h1
    rw [if_pos rfl, if_pos (by omega), wfill, List.getElem?_append_right (by simp; omega), List.getElem?_drop, List.length_replicate, show n - (j + 1) + (n - 1 - j - (n - (j + 1))) = n - 1 - j by omega, hb _ (by omega), show n - 1 - (n - 1 - j) = j by omega]
  · rw [if_neg h1, wfill, wfill]
    rcases Nat.lt_or_ge i (n - 1 - j) with h | h
    · rw [List.getElem?_append_left (by simp; omega), List.getElem?_append_left (by simp; omega)]
      rw [List.getElem?_replicate, List.getElem?_replicate, if_pos (by omega), if_pos (by omega)]
    · rw [List.getElem?_append_right (by simp; omega), List.getElem?_append_right (by simp; omega), List.getElem?_drop, List.getElem?_drop]
      congr 1; simp; omega
theorem group_or : ∀ x : Fin 256, (UInt8.ofNat x.val % 128) + 128 = UInt8.ofNat x.val ||| 128 := by decide +kernel
theorem group_eq (v : UInt64) : (v % 128).toUInt8 + 128 = v.toUInt8 ||| 128 := by
  have h := group_or ⟨v.toNat % 256, Nat.mod_lt _ (by decide)⟩
  have h1 : v.toUInt8 = UInt8.ofNat (v.toNat % 256) := by
    apply UInt8.toNat.inj; rw [UInt64.toNat_toUInt8, UInt8.toNat_ofNat']; show _ % 256 = _ % 256 % 256; omega
  have h2 : (v % 128).toUInt8 = UInt8.ofNat (v.toNat % 256) % 128 := by
    apply UInt8.toNat.inj; rw [UInt64.toNat_toUInt8, UInt64.toNat_mod, UInt8.toNat_mod, UInt8.toNat_ofNat']; show _ % 128 % 256 = _ % 256 % 256 % 128; omega
  rw [h2, h1]; exact h
theorem div128 (v : UInt64) : v / (128 : UInt64) = v >>> (7 : UInt64) := by
  apply UInt64.toNat.inj
  rw [UInt64.toNat_div, UInt64.toNat_shiftRight, Nat.shiftRight_eq_div_pow]; rfl
/-- The digest, by noughts from the width on. -/
def cutFrom (d : List UInt8) (i : Nat) : Nat → List UInt8
  | 0 => d
  | j + 1 => (cutFrom d i j).set (i + j) 0
theorem cutFrom_len (d : List UInt8) (i j : Nat) : (cutFrom d i j).length = d.length := by
  induction j with
  | zero => rfl
  | succ j ih => rw [cutFrom, List.length_set, ih]
theorem cutFrom_get (d : List UInt8) (i j k : Nat) (hd : d.length = 32) (hk : k < 32) : (cutFrom d i j)[k]? = if i ≤ k ∧ k < i + j then some 0 else d[k]? := by
  induction j with
  | zero => rw [cutFrom, if_neg (by omega)]
  | succ j ih =>
    rw [cutFrom, List.getElem?_set, cutFrom_len, ih]
    by_cases h : i + j = k
    · rw [if_pos h, if_pos (by omega), if_pos (by omega)]
    · rw [if_neg h]
      by_cases h2 : i ≤ k ∧ k < i + j
      · rw [if_pos h2, if_pos (by omega)]
      · rw [if_neg h2, if_neg (by omega)]
theorem cutFrom_all (d : List UInt8) (w : Nat) (hd : d.length = 32) (hw : w ≤ 32) : cutFrom d w (32 - w) = cutw w d := by
  apply List.ext_getElem?
  intro k
  rcases Nat.lt_or_ge k 32 with hk | hk
  · rw [cutFrom_get d w _ k hd hk, cutw]
    by_cases h : k < w
    · rw [if_neg (by omega), List.getElem?_append_left (by simp; omega), List.getElem?_take, if_pos h]
    · rw [if_pos (by omega), List.getElem?_append_right (by simp; omega), List.getElem?_replicate, if_pos (by simp; omega)]
  · rw [List.getElem?_eq_none (by rw [cutFrom_len]; omega), List.getElem?_eq_none (by rw [cutw_len hd hw]; omega)]
theorem cutw_get (d : List UInt8) (w : Nat) (hd : d.length = 32) (hw : w ≤ 32) : cutw w d = d ↔ ∀ k, w ≤ k → k < 32 → d.getD k default = 0 := by
  rw [← cutFrom_all d w hd hw]
  constructor
  · intro h k h1 h2
    have := cutFrom_get d w (32 - w) k hd h2
    rw [if_pos (by omega), h] at this
    rw [List.getD_eq_getElem?_getD, this]; rfl
  · intro h
    apply List.ext_getElem?
    intro k
    rcases Nat.lt_or_ge k 32 with hk | hk
    · rw [cutFrom_get d w _ k hd hk]
      by_cases h2 : w ≤ k ∧ k < w + (32 - w)
      · rw [if_pos h2]
        have h3 := h k h2.1 hk
        rw [List.getD_eq_getElem?_getD] at h3
        have h4 : d[k]? = some d[k] := by simp
        rw [h4] at h3 ⊢; simp at h3; rw [h3]
      · rw [if_neg h2]
    · rw [List.getElem?_eq_none (by rw [cutFrom_len]; omega), List.getElem?_eq_none (by omega)]
theorem onesF_step (f : Nat) (x : Nat) : onesF (f + 1) x = x % 2 + onesF f (x / 2) := rfl
theorem onesF_more : ∀ (f g n : Nat), n < 2 ^ f → onesF (f + g) n = onesF f n
  | 0, g, n, h => by have : n = 0 := by simpa using h
                     subst this; simp [onesF_zero, onesF]
  | f + 1, g, n, h => by
    rw [show f + 1 + g = (f + g) + 1 by omega, onesF_step, onesF_step, onesF_more f g (n / 2) (by rw [Nat.pow_succ] at h; omega)]
theorem wd_nat {w : Int} (h : wd w = true) : ∃ k : Nat, w = (k : Int) ∧ 1 ≤ k ∧ k ≤ 32 := by
  have := wd_iff.1 h
  exact ⟨w.toNat, by omega, by omega, by omega⟩
theorem wd_of {k : Nat} (h1 : 1 ≤ k) (h2 : k ≤ 32) : wd (k : Int) = true := wd_iff.2 (by omega)
theorem dig_len {k : Nat} (p : List UInt8) (h : k ≤ 32) : (dig k p).length = 32 := cutw_len (outAll_len _ _) h
/-- What is answered of an input that was made, or not. -/
def digO (w : Int) (p : List UInt8) (e : Nat) : List UInt8 × Nat := if e ≠ 0 then (zeros32, e) else if wd w = true then (dig w.toNat p, 0) else (zeros32, 1)
theorem digO_len (w : Int) (p : List UInt8) (e : Nat) : (digO w p e).1.length = 32 := by
  unfold digO
  by_cases h : e ≠ 0
  · rw [if_pos h]; rfl
  · rw [if_neg h]
    by_cases h1 : wd w = true
    · rw [if_pos h1]; exact dig_len _ (by have := wd_iff.1 h1; omega)
    · rw [if_neg h1]; rfl
theorem digO_err {w : Int} {p : List UInt8} {e : Nat} (h : e ≠ 0) : digO w p e = (zeros32, e) := by rw [digO, if_pos h]
theorem digO_no {w : Int} {p : List UInt8} (h : wd w = false) : digO w p 0 = (zeros32, 1) := by simp [digO, h]
theorem digO_yes {k : Nat} {p : List UInt8} (h1 : 1 ≤ k) (h2 : k ≤ 32) : digO (k : Int) p 0 = (dig k p, 0) := by
  simp [digO, wd_of h1 h2]
theorem digO_eq {w : Int} {k : Nat} (h : w = (k : Int)) {p : List UInt8} (h1 : 1 ≤ k) (h2 : k ≤ 32) : digO w p 0 = (dig k p, 0) := by subst h; exact digO_yes h1 h2
def nodeP (w : Int) (l r : List UInt8) : List UInt8 := if chk w [l, r] = 0 then nodeI w.toNat l r else []
def chkB (w : Int) (bm : UInt16) (ks : List (List UInt8)) : Nat := if chk w ks ≠ 0 then chk w ks else if bm = 0 ∨ ones bm ≠ ks.length then 3 else 0
def branchP (w : Int) (bm : UInt16) (ks : List (List UInt8)) : List UInt8 := if chkB w bm ks = 0 then branchI w.toNat bm ks else []
def rootP (w : Int) (size : UInt64) (log map : List UInt8) : List UInt8 := if chk w [log, map] = 0 then rootI w.toNat size log map else []
theorem chk_wd {w : Int} {l : List (List UInt8)} (h : chk w l = 0) : wd w = true := by
  cases hw : wd w with
  | true => rfl
  | false => simp [chk, hw] at h
theorem chk_no {w : Int} {l : List (List UInt8)} (h : wd w = false) : chk w l = 1 := by simp [chk, h]
theorem chk_all {w : Int} {l : List (List UInt8)} (hw : wd w = true) (h : ∀ d ∈ l, fm w d = true) : chk w l = 0 := by
  rw [chk, if_pos hw, if_pos (List.all_eq_true.2 h)]
theorem chk_bad {w : Int} {l : List (List UInt8)} (hw : wd w = true) {d : List UInt8} (hd : d ∈ l) (h : fm w d = false) : chk w l = 3 := by
  rw [chk, if_pos hw, if_neg]
  intro h1
  have := List.all_eq_true.1 h1 d hd
  rw [h] at this; cases this
theorem getD_mem {α : Type} [Inhabited α] {l : List α} {i : Nat} (h : i < l.length) : l.getD i default ∈ l := by
  simp [List.getD_eq_getElem?_getD, h]
theorem take_getD {α : Type} [Inhabited α] {l : List α} {i : Nat} (h : i < l.length) : l.take (i + 1) = l.take i ++ [l.getD i default] := by
  rw [List.take_succ_eq_append_getElem h]; simp [List.getD_eq_getElem?_getD, h]
end Go.Ps

namespace Go.Sx
open Go.Ps

def SlOk (w : World) (s : Sl UInt8) : Prop := Rd w s.a (s.xs.map vU8) ∧ s.xs.length ≤ s.c ∧ s.xs.length < 9223372036854775808
def prs (ps : List (Sl UInt8 × Sl UInt8)) : List (List UInt8 × List UInt8) := ps.map fun x => (x.1.xs, x.2.xs)
structure Cop where
  kind : Int
  w : Int
  P : Sl UInt8
  L : List UInt8
  R : List UInt8
  pairs : Sl (Sl UInt8 × Sl UInt8)
  bm : UInt16
  kids : Sl (List UInt8)
  size : UInt64
  log : List UInt8
  map : List UInt8
instance : Inhabited Cop := ⟨⟨0, 0, default, [], [], default, 0, default, 0, [], []⟩⟩
abbrev rootC (size : UInt64) (l r : List UInt8) : List Value := vU64 size :: (l.map vU8 ++ r.map vU8)
def Cop.cells (o : Cop) : List Value := vInt o.kind :: vInt o.w :: o.P.v :: (o.L.map vU8 ++ (o.R.map vU8 ++ (o.pairs.v :: vU16 o.bm :: o.kids.v :: rootC o.size o.log o.map)))
structure Cop.ok (W : World) (o : Cop) : Prop where
  k : -9223372036854775808 ≤ o.kind ∧ o.kind ≤ 9223372036854775807
  iw : -9223372036854775808 ≤ o.w ∧ o.w ≤ 9223372036854775807
  p : SlOk W o.P
  ll : o.L.length = 32
  rl : o.R.length = 32
  pr : Rd W o.pairs.a (o.pairs.xs.flatMap fun x => [x.1.v, x.2.v])
  pl : o.pairs.xs.length ≤ o.pairs.c
  pm : o.pairs.xs.length < 9223372036854775808
  pe : ∀ s ∈ o.pairs.xs, SlOk W s.1 ∧ SlOk W s.2
  kr : Rd W o.kids.a (o.kids.xs.flatMap fun d => d.map vU8)
  kl : o.kids.xs.length ≤ o.kids.c
  km : o.kids.xs.length ≤ 4398046511000
  ke : ∀ d ∈ o.kids.xs, d.length = 32
  gl : o.log.length = 32
  ml : o.map.length = 32
theorem SlOk.mem {w0 w : World} {l : List Ent} {s : Sl UInt8} (h : SlOk w0 s) (hm : Mem w0 [] l w) : SlOk w s := ⟨h.1.mem hm, h.2⟩
theorem Cop.ok.mem {w0 w : World} {l : List Ent} {o : Cop} (h : o.ok w0) (hm : Mem w0 [] l w) : o.ok w :=
  ⟨h.k, h.iw, h.p.mem hm, h.ll, h.rl, h.pr.mem hm, h.pl, h.pm, fun s hs => ⟨(h.pe s hs).1.mem hm, (h.pe s hs).2.mem hm⟩, h.kr.mem hm, h.kl, h.km, h.ke, h.gl, h.ml⟩
section
variable {W : World} {o : Cop}
theorem Cop.cells_len (h : o.ok W) : o.cells.length = 135 := by simp [Cop.cells, rootC, h.ll, h.rl, h.gl, h.ml]
theorem Cop.cells_L (h : o.ok W) : (o.cells.drop 3).take 32 = o.L.map vU8 := by
  simp only [Cop.cells, List.drop_succ_cons, List.drop_zero]
  rw [List.take_left' (by rw [List.length_map]; exact h.ll)]
theorem Cop.drop35 (h : o.ok W) : o.cells.drop 35 = o.R.map vU8 ++ (o.pairs.v :: vU16 o.bm :: o.kids.v :: rootC o.size o.log o.map) := by
  simp only [Cop.cells, List.drop_succ_cons]
  rw [List.drop_left' (by rw [List.length_map]; exact h.ll)]
theorem Cop.cells_R (h : o.ok W) : (o.cells.drop 35).take 32 = o.R.map vU8 := by
  rw [Cop.drop35 h, List.take_left' (by rw [List.length_map]; exact h.rl)]
theorem Cop.drop67 (h : o.ok W) : o.cells.drop 67 = o.pairs.v :: vU16 o.bm :: o.kids.v :: rootC o.size o.log o.map := by
  have := congrArg (List.drop 32) (Cop.drop35 h)
  rw [List.drop_drop, List.drop_left' (by rw [List.length_map]; exact h.rl)] at this
  exact this
theorem Cop.get67 (h : o.ok W) (j : Nat) : o.cells[67 + j]? = (o.pairs.v :: vU16 o.bm :: o.kids.v :: rootC o.size o.log o.map)[j]? := by
  rw [← Cop.drop67 h, List.getElem?_drop]
theorem Cop.c67 (h : o.ok W) : o.cells[67]? = some o.pairs.v := Cop.get67 h 0
theorem Cop.c68 (h : o.ok W) : o.cells[68]? = some (vU16 o.bm) := Cop.get67 h 1
theorem Cop.c69 (h : o.ok W) : o.cells[69]? = some o.kids.v := Cop.get67 h 2
theorem Cop.cells_root (h : o.ok W) : (o.cells.drop 70).take 65 = rootC o.size o.log o.map := by
  have := congrArg (List.drop 3) (Cop.drop67 h)
  rw [List.drop_drop] at this
  rw [show (67 + 3 : Nat) = 70 from rfl] at this
  rw [this, List.drop_succ_cons, List.drop_succ_cons, List.drop_succ_cons, List.drop_zero, List.take_of_length_le (by simp [rootC, h.gl, h.ml])]
theorem rootC_len {size : UInt64} {l r : List UInt8} (hl : l.length = 32) (hr : r.length = 32) : (rootC size l r).length = 65 := by simp [rootC, hl, hr]
theorem Cop.one : ∀ v ∈ o.cells, v.oneCell' = true := by
  intro v hv
  have h8 : ∀ (l : List UInt8), v ∈ l.map vU8 → v.oneCell' = true := fun l h => one_u8s l v h
  simp only [Cop.cells, rootC, List.mem_cons, List.mem_append] at hv
  rcases hv with rfl | rfl | rfl | h | h | rfl | rfl | rfl | rfl | h | h <;> first | rfl | exact h8 _ h
end
/-- The bytes that a call asks for, and the error. -/
def opIn (o : Cop) : List UInt8 × Nat :=
  if o.kind = 1 then (leafI o.P.xs, 0) else if o.kind = 2 then (nodeP o.w o.L o.R, chk o.w [o.L, o.R]) else if o.kind = 3 then (keyI o.P.xs, 0)
  else if o.kind = 4 then (bucketI (prs o.pairs.xs), 0) else if o.kind = 5 then (branchP o.w o.bm o.kids.xs, chkB o.w o.bm o.kids.xs) else (rootP o.w o.size o.log o.map, chk o.w [o.log, o.map])
def known (o : Cop) : Bool := decide (1 ≤ o.kind) && decide (o.kind ≤ 6)
/-- Not too much of it. -/
def Cop.small (o : Cop) : Prop := o.P.xs.length ≤ 1048576 ∧ (pairsB (prs o.pairs.xs)).length ≤ 140737488300000 ∧ o.kids.xs.length ≤ 1048576
theorem opIn_no {o : Cop} (h : wd o.w = false) : (opIn o).2 = 0 ∨ (opIn o).2 = 1 := by
  unfold opIn
  split
  · exact .inl rfl
  split
  · exact .inr (chk_no h)
  split
  · exact .inl rfl
  split
  · exact .inl rfl
  split
  · right; simp [chkB, chk_no h]
  · exact .inr (chk_no h)
theorem digO_opIn_no {o : Cop} (h : wd o.w = false) : digO o.w (opIn o).1 (opIn o).2 = (zeros32, 1) := by
  rcases opIn_no h with h1 | h1
  · rw [h1, digO_no h]
  · rw [h1, digO_err (by decide)]
end Go.Sx
