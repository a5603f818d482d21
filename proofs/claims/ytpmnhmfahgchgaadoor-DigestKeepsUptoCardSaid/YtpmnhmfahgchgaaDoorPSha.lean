set_option linter.unusedVariables false
set_option linter.unusedSimpArgs false
/- SHA-256 in plain Lean: what the program's package and the reference compute. -/
namespace Go.Ps

/-- Turned right by k places. -/
def ror (x : UInt32) (k : Nat) : UInt32 := x <<< (UInt32.ofNat (32 - k)) ||| x >>> (UInt32.ofNat k)
def gb (W : List UInt8) (k : Nat) : UInt8 := W.getD k default
def gw (W : List UInt32) (k : Nat) : UInt32 := W.getD k default

/-- The table. -/
def KT : List UInt32 := [
  0x428a2f98, 0x71374491, 0xb5c0fbcf, 0xe9b5dba5, 0x3956c25b, 0x59f111f1, 0x923f82a4, 0xab1c5ed5,
  0xd807aa98, 0x12835b01, 0x243185be, 0x550c7dc3, 0x72be5d74, 0x80deb1fe, 0x9bdc06a7, 0xc19bf174,
  0xe49b69c1, 0xefbe4786, 0x0fc19dc6, 0x240ca1cc, 0x2de92c6f, 0x4a7484aa, 0x5cb0a9dc, 0x76f988da,
  0x983e5152, 0xa831c66d, 0xb00327c8, 0xbf597fc7, 0xc6e00bf3, 0xd5a79147, 0x06ca6351, 0x14292967,
  0x27b70a85, 0x2e1b2138, 0x4d2c6dfc, 0x53380d13, 0x650a7354, 0x766a0abb, 0x81c2c92e, 0x92722c85,
  0xa2bfe8a1, 0xa81a664b, 0xc24b8b70, 0xc76c51a3, 0xd192e819, 0xd6990624, 0xf40e3585, 0x106aa070,
  0x19a4c116, 0x1e376c08, 0x2748774c, 0x34b0bcb5, 0x391c0cb3, 0x4ed8aa4a, 0x5b9cca4f, 0x682e6ff3,
  0x748f82ee, 0x78a5636f, 0x84c87814, 0x8cc70208, 0x90befffa, 0xa4506ceb, 0xbef9a3f7, 0xc67178f2]
def H0 : List UInt32 := [0x6a09e667, 0xbb67ae85, 0x3c6ef372, 0xa54ff53a, 0x510e527f, 0x9b05688c, 0x1f83d9ab, 0x5be0cd19]

def ldw (bl : List UInt8) (k : Nat) : UInt32 :=
  (gb bl (4 * k)).toUInt32 <<< UInt32.ofNat 24 ||| (gb bl (4 * k + 1)).toUInt32 <<< UInt32.ofNat 16 ||| (gb bl (4 * k + 2)).toUInt32 <<< UInt32.ofNat 8 ||| (gb bl (4 * k + 3)).toUInt32
def fill1 (bl : List UInt8) : Nat → List UInt32
  | 0 => List.replicate 64 0
  | k + 1 => (fill1 bl k).set k (ldw bl k)
def sig0 (x : UInt32) : UInt32 := ror x 7 ^^^ ror x 18 ^^^ x >>> UInt32.ofNat 3
def sig1 (x : UInt32) : UInt32 := ror x 17 ^^^ ror x 19 ^^^ x >>> UInt32.ofNat 10
def fill2 (bl : List UInt8) : Nat → List UInt32
  | 0 => fill1 bl 16
  | j + 1 => (fill2 bl j).set (16 + j) (gw (fill2 bl j) ((16 + j) - 16) + sig0 (gw (fill2 bl j) ((16 + j) - 15)) + gw (fill2 bl j) ((16 + j) - 7) + sig1 (gw (fill2 bl j) ((16 + j) - 2)))
theorem fill1_len (bl : List UInt8) : ∀ k, (fill1 bl k).length = 64
  | 0 => by simp [fill1]
  | k + 1 => by simp [fill1, fill1_len bl k]
theorem fill2_len (bl : List UInt8) : ∀ j, (fill2 bl j).length = 64
  | 0 => fill1_len bl 16
  | j + 1 => by simp [fill2, fill2_len bl j]
structure St where
  a : UInt32
  b : UInt32
  c : UInt32
  d : UInt32
  e : UInt32
  f : UInt32
  g : UInt32
  h : UInt32
def big1 (e : UInt32) : UInt32 := ror e 6 ^^^ ror e 11 ^^^ ror e 25
def big0 (a : UInt32) : UInt32 := ror a 2 ^^^ ror a 13 ^^^ ror a 22
def rnd (K W : List UInt32) (i : Nat) (s : St) : St :=
  let t := s.h + big1 s.e + (s.e &&& s.f ^^^ ~~~ s.e &&& s.g) + gw K i + gw W i
  let u := big0 s.a + (s.a &&& s.b ^^^ s.a &&& s.c ^^^ s.b &&& s.c)
  ⟨t + u, s.a, s.b, s.c, s.d + t, s.e, s.f, s.g⟩
def rnds (K W : List UInt32) (s : St) : Nat → St
  | 0 => s
  | i + 1 => rnd K W i (rnds K W s i)
def St.list (s : St) : List UInt32 := [s.a, s.b, s.c, s.d, s.e, s.f, s.g, s.h]
def addUp (h : List UInt32) (v : List UInt32) : Nat → List UInt32
  | 0 => h
  | i + 1 => (addUp h v i).set i (gw (addUp h v i) i + gw v i)
theorem addUp_len (h v : List UInt32) : ∀ i, (addUp h v i).length = h.length
  | 0 => rfl
  | i + 1 => by simp [addUp, addUp_len h v i]
/-- The program's Compress. -/
def compress (h : List UInt32) (bl : List UInt8) : List UInt32 :=
  addUp h (rnds KT (fill2 bl 48) ⟨gw h 0, gw h 1, gw h 2, gw h 3, gw h 4, gw h 5, gw h 6, gw h 7⟩ 64).list 8
theorem compress_len (h : List UInt32) (bl : List UInt8) : (compress h bl).length = h.length := addUp_len _ _ _

/-- The program's state. -/
structure Sh where
  h : List UInt32
  bg : Bool
  bl : List UInt8
  n : UInt64
/-- Its lists have their lengths. -/
structure Sh.ok (s : Sh) : Prop where
  h : s.h.length = 8
  bl : s.bl.length = 64
def Sh.zero : Sh := ⟨List.replicate 8 0, false, List.replicate 64 0, 0⟩
theorem Sh.zero_ok : Sh.zero.ok := ⟨by simp [Sh.zero], by simp [Sh.zero]⟩
def Sh.begin (s : Sh) : Sh := if s.bg then s else { s with h := H0, bg := true }
theorem Sh.begin_ok {s : Sh} (h : s.ok) : s.begin.ok := by
  unfold Sh.begin; split
  · exact h
  · exact ⟨rfl, h.bl⟩
/-- One byte goes in. -/
def Sh.feed (s : Sh) (x : UInt8) : Sh :=
  let i := (s.n % 64).toNat
  let bl := s.bl.set i x
  { s with h := if i = 63 then compress s.h bl else s.h, bl := bl, n := s.n + 1 }
theorem Sh.feed_ok {s : Sh} (h : s.ok) (x : UInt8) : (s.feed x).ok := by
  refine ⟨?_, by simp [Sh.feed, h.bl]⟩
  simp only [Sh.feed]; split
  · rw [compress_len]; exact h.h
  · exact h.h
theorem Sh.feeds_ok {s : Sh} (h : s.ok) : ∀ (p : List UInt8), (p.foldl Sh.feed s).ok := by
  intro p; induction p generalizing s with
  | nil => exact h
  | cons x r ih => exact ih (Sh.feed_ok h x)
/-- The program's Write. -/
def Sh.write (s : Sh) (p : List UInt8) : Sh := p.foldl Sh.feed s.begin
theorem Sh.write_ok {s : Sh} (h : s.ok) (p : List UInt8) : (s.write p).ok := Sh.feeds_ok (Sh.begin_ok h) p

/-- A piece goes into the block: how the program lays it. -/
def Sh.chunk (s : Sh) (c : List UInt8) : Sh :=
  let i := (s.n % 64).toNat
  let bl := s.bl.take i ++ c ++ s.bl.drop (i + c.length)
  { s with h := if i + c.length = 64 then compress s.h bl else s.h, bl := bl, n := s.n + UInt64.ofNat c.length }

theorem mod64 (n : UInt64) : (n % 64).toNat = n.toNat % 64 := by
  rw [UInt64.toNat_mod]; rfl

theorem chunk_eq : ∀ (c : List UInt8) (s : Sh), s.ok → 0 < c.length → (s.n % 64).toNat + c.length ≤ 64 → c.foldl Sh.feed s = s.chunk c := by
  intro c
  induction c with
  | nil => intro s _ h; simp at h
  | cons x r ih =>
    intro s hs _ hl
    simp only [List.length_cons] at hl
    have hn := s.n.toNat_lt
    simp only [List.foldl_cons]
    have hi : (s.n % 64).toNat < 64 := by rw [mod64]; omega
    by_cases hr : r.length = 0
    · have hr' : r = [] := List.length_eq_zero_iff.1 hr
      subst hr'
      have h1 : s.bl.set (s.n % 64).toNat x = s.bl.take (s.n % 64).toNat ++ [x] ++ s.bl.drop ((s.n % 64).toNat + 1) := by
        rw [List.set_eq_take_append_cons_drop, if_pos (by rw [hs.bl]; exact hi)]
        simp
      simp only [List.foldl_nil, Sh.feed, Sh.chunk, h1, List.length_cons, List.length_nil, Nat.zero_add]
      congr 1
      by_cases h2 : (s.n % 64).toNat = 63
      · rw [if_pos h2, if_pos (by omega)]
      · rw [if_neg h2, if_neg (by omega)]
    · have h63 : (s.n % 64).toNat ≠ 63 := by omega
      have hm : ((s.feed x).n % 64).toNat = (s.n % 64).toNat + 1 := by
        simp only [Sh.feed, mod64, UInt64.toNat_add] at *
        simp only [show (1 : UInt64).toNat = 1 from rfl] at *
        omega
      rw [ih (s.feed x) (Sh.feed_ok hs x) (by omega) (by rw [hm]; omega)]
      simp only [Sh.chunk, hm]
      simp only [Sh.feed, h63, if_false]
      have h1 : (s.bl.set (s.n % 64).toNat x).take ((s.n % 64).toNat + 1) = s.bl.take (s.n % 64).toNat ++ [x] := by
        rw [List.take_succ_eq_append_getElem (by simp [hs.bl]; omega), List.take_set_of_le (Nat.le_refl _)]
        simp
      have h2 : (s.bl.set (s.n % 64).toNat x).drop ((s.n % 64).toNat + 1 + r.length) = s.bl.drop ((s.n % 64).toNat + (r.length + 1)) := by
        apply List.ext_getElem?
        intro j
        simp only [List.getElem?_drop]
        rw [List.getElem?_set_ne (by omega)]
        congr 1; omega
      have h3 : s.bl.take (s.n % 64).toNat ++ [x] ++ r ++ s.bl.drop ((s.n % 64).toNat + (r.length + 1)) = s.bl.take (s.n % 64).toNat ++ (x :: r) ++ s.bl.drop ((s.n % 64).toNat + (r.length + 1)) := by simp
      rw [h1, h2, h3]
      simp only [List.length_cons]
      have h4 : s.n + 1 + UInt64.ofNat r.length = s.n + UInt64.ofNat (r.length + 1) := by
        rw [← UInt64.toNat_inj]; simp only [UInt64.toNat_add, UInt64.toNat_ofNat']; simp only [show (1 : UInt64).toNat = 1 from rfl]; omega
      rw [h4, show (s.n % 64).toNat + 1 + r.length = (s.n % 64).toNat + (r.length + 1) by omega]

/-- The loop of Write: a piece as great as the block has room for, again and again. -/
theorem write_step (s : Sh) (hs : s.ok) (p : List UInt8) (hp : 0 < p.length) :
    p.foldl Sh.feed s = (p.drop (min p.length (64 - (s.n % 64).toNat))).foldl Sh.feed (s.chunk (p.take (min p.length (64 - (s.n % 64).toNat)))) := by
  have hi : (s.n % 64).toNat < 64 := by rw [mod64]; omega
  conv => lhs; rw [← List.take_append_drop (min p.length (64 - (s.n % 64).toNat)) p]
  rw [List.foldl_append, chunk_eq _ s hs (by rw [List.length_take]; omega) (by rw [List.length_take]; omega)]
theorem chunk_ok {s : Sh} (hs : s.ok) (c : List UInt8) (hl : (s.n % 64).toNat + c.length ≤ 64) : (s.chunk c).ok := by
  refine ⟨?_, ?_⟩
  · simp only [Sh.chunk]; split
    · rw [compress_len]; exact hs.h
    · exact hs.h
  · simp only [Sh.chunk, List.length_append, List.length_take, List.length_drop, hs.bl]; omega

/-- Padding. -/
def padZeros (n : UInt64) : UInt64 := (119 - n % 64) % 64
def padFill (n : UInt64) (L : List UInt8) : Nat → List UInt8
  | 0 => L
  | i + 1 => (padFill n L i).set (L.length - 1 - i) ((8 * n) >>> UInt64.ofNat (8 * i)).toUInt8
def padding (n : UInt64) : List UInt8 :=
  padFill n ((List.replicate (1 + padZeros n + 8).toNat 0).set 0 0x80) 8
theorem padFill_len (n : UInt64) (L : List UInt8) : ∀ i, (padFill n L i).length = L.length
  | 0 => rfl
  | i + 1 => by simp [padFill, padFill_len n L i]

/-- The bytes of the words, the highest first. -/
def outFill (h : List UInt32) : Nat → Nat → List UInt8 → List UInt8
  | _, 0, o => o
  | i, j + 1, o => (outFill h i j o).set (4 * i + j) (gw h i >>> UInt32.ofNat (24 - 8 * j)).toUInt8
def outAll (h : List UInt32) : Nat → List UInt8
  | 0 => List.replicate 32 0
  | i + 1 => outFill h i 4 (outAll h i)
theorem outFill_len (h : List UInt32) (i : Nat) (o : List UInt8) : ∀ j, (outFill h i j o).length = o.length
  | 0 => rfl
  | j + 1 => by simp [outFill, outFill_len h i o j]
theorem outAll_len (h : List UInt32) : ∀ i, (outAll h i).length = 32
  | 0 => by simp [outAll]
  | i + 1 => by rw [outAll, outFill_len, outAll_len h i]
/-- The program's Sum. -/
def Sh.sum (s : Sh) : List UInt8 := outAll (s.write (padding s.n)).h 8
theorem Sh.sum_len (s : Sh) : s.sum.length = 32 := outAll_len _ _
/-- The program's Sum256. -/
def sum256 (p : List UInt8) : List UInt8 := (Sh.zero.write p).sum

end Go.Ps
