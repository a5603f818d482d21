import Derived.Test.YtpmnhmfahgchgaaDoorPSha
set_option linter.unusedVariables false
set_option linter.unusedSimpArgs false
namespace Go.Ps

/-! Bits. -/
theorem or_of_add32 (a b : UInt32) (i : Nat) (ha : ∃ k, a.toNat = k <<< i) (hb : b.toNat < 2 ^ i) : a + b = a ||| b := by
  obtain ⟨k, ha⟩ := ha
  have h1 : a.toNat + b.toNat = a.toNat ||| b.toNat := by rw [ha, Nat.shiftLeft_add_eq_or_of_lt hb]
  have h2 : a.toNat ||| b.toNat < 2 ^ 32 := Nat.or_lt_two_pow a.toNat_lt b.toNat_lt
  apply UInt32.toNat_inj.1
  rw [UInt32.toNat_add, UInt32.toNat_or, h1, Nat.mod_eq_of_lt h2]
theorem turn_eq (x : UInt32) (k : Nat) (hk : 0 < k) (hk2 : k < 32) : x >>> UInt32.ofNat k + x <<< UInt32.ofNat (32 - k) = ror x k := by
  have e1 : (UInt32.ofNat k).toNat % 32 = k := by rw [UInt32.toNat_ofNat']; omega
  have e2 : (UInt32.ofNat (32 - k)).toNat % 32 = 32 - k := by rw [UInt32.toNat_ofNat']; omega
  rw [UInt32.add_comm, ror]
  refine or_of_add32 _ _ (32 - k) ⟨x.toNat % 2 ^ k, ?_⟩ ?_
  · rw [UInt32.toNat_shiftLeft, e2, Nat.shiftLeft_eq, Nat.shiftLeft_eq]
    have : 2 ^ 32 = 2 ^ k * 2 ^ (32 - k) := by rw [← Nat.pow_add]; congr 1; omega
    rw [this, Nat.mul_mod_mul_right]
  · rw [UInt32.toNat_shiftRight, e1, Nat.shiftRight_eq_div_pow]
    have h := x.toNat_lt
    apply (Nat.div_lt_iff_lt_mul (Nat.two_pow_pos k)).2
    rw [← Nat.pow_add, show 32 - k + k = 32 by omega]
    exact h

/-- Four bytes, the highest first, added up. -/
def ldr (bl : List UInt8) (k : Nat) : UInt32 :=
  (gb bl (4 * k)).toUInt32 <<< UInt32.ofNat 24 + (gb bl (4 * k + 1)).toUInt32 <<< UInt32.ofNat 16 + (gb bl (4 * k + 2)).toUInt32 <<< UInt32.ofNat 8 + (gb bl (4 * k + 3)).toUInt32
theorem shl8 (a : UInt8) (i : Nat) (hi : i ≤ 24) : ((a.toUInt32) <<< UInt32.ofNat i).toNat = a.toNat <<< i := by
  have e2 : (UInt32.ofNat i).toNat % 32 = i := by rw [UInt32.toNat_ofNat']; omega
  rw [UInt32.toNat_shiftLeft, e2, UInt8.toNat_toUInt32, Nat.mod_eq_of_lt]
  rw [Nat.shiftLeft_eq]
  have h := a.toNat_lt
  calc a.toNat * 2 ^ i < 2 ^ 8 * 2 ^ i := Nat.mul_lt_mul_of_pos_right h (Nat.two_pow_pos i)
    _ = 2 ^ (8 + i) := (Nat.pow_add 2 8 i).symm
    _ ≤ 2 ^ 32 := Nat.pow_le_pow_right (by decide) (by omega)
theorem bytes_or (a b c d : UInt8) : a.toUInt32 <<< UInt32.ofNat 24 + b.toUInt32 <<< UInt32.ofNat 16 + c.toUInt32 <<< UInt32.ofNat 8 + d.toUInt32 = a.toUInt32 <<< UInt32.ofNat 24 ||| b.toUInt32 <<< UInt32.ofNat 16 ||| c.toUInt32 <<< UInt32.ofNat 8 ||| d.toUInt32 := by
  have ha := a.toNat_lt; have hb := b.toNat_lt; have hc := c.toNat_lt; have hd := d.toNat_lt
  have s1 : a.toUInt32 <<< UInt32.ofNat 24 + b.toUInt32 <<< UInt32.ofNat 16 = a.toUInt32 <<< UInt32.ofNat 24 ||| b.toUInt32 <<< UInt32.ofNat 16 :=
    or_of_add32 _ _ 24 ⟨a.toNat, shl8 a 24 (by omega)⟩ (by rw [shl8 b 16 (by omega), Nat.shiftLeft_eq]; omega)
  have t1 : (a.toUInt32 <<< UInt32.ofNat 24 + b.toUInt32 <<< UInt32.ofNat 16).toNat = a.toNat * 2 ^ 24 + b.toNat * 2 ^ 16 := by
    rw [UInt32.toNat_add, shl8 a 24 (by omega), shl8 b 16 (by omega), Nat.shiftLeft_eq, Nat.shiftLeft_eq]; omega
  have s2 := or_of_add32 (a.toUInt32 <<< UInt32.ofNat 24 + b.toUInt32 <<< UInt32.ofNat 16) (c.toUInt32 <<< UInt32.ofNat 8) 16 ⟨a.toNat * 2 ^ 8 + b.toNat, by rw [t1, Nat.shiftLeft_eq]; omega⟩ (by rw [shl8 c 8 (by omega), Nat.shiftLeft_eq]; omega)
  have t2 : (a.toUInt32 <<< UInt32.ofNat 24 + b.toUInt32 <<< UInt32.ofNat 16 + c.toUInt32 <<< UInt32.ofNat 8).toNat = a.toNat * 2 ^ 24 + b.toNat * 2 ^ 16 + c.toNat * 2 ^ 8 := by
    rw [UInt32.toNat_add, t1, shl8 c 8 (by omega), Nat.shiftLeft_eq]; omega
  have s3 := or_of_add32 (a.toUInt32 <<< UInt32.ofNat 24 + b.toUInt32 <<< UInt32.ofNat 16 + c.toUInt32 <<< UInt32.ofNat 8) d.toUInt32 8 ⟨a.toNat * 2 ^ 16 + b.toNat * 2 ^ 8 + c.toNat, by rw [t2, Nat.shiftLeft_eq]; omega⟩ (by rw [UInt8.toNat_toUInt32]; omega)
  rw [s3, s2, s1]
theorem ldr_eq (bl : List UInt8) (k : Nat) : ldr bl k = ldw bl k := bytes_or _ _ _ _
theorem choice_eq (e f g : UInt32) : g ^^^ e &&& (f ^^^ g) = e &&& f ^^^ ~~~ e &&& g := by
  apply UInt32.eq_of_toBitVec_eq
  apply BitVec.eq_of_getLsbD_eq
  intro i hi
  simp only [UInt32.toBitVec_xor, UInt32.toBitVec_and, UInt32.toBitVec_not, BitVec.getLsbD_xor, BitVec.getLsbD_and, BitVec.getLsbD_not, hi, decide_true, Bool.true_and]
  cases e.toBitVec.getLsbD i <;> cases f.toBitVec.getLsbD i <;> cases g.toBitVec.getLsbD i <;> rfl
theorem most_eq (a b c : UInt32) : a &&& b ||| c &&& (a ||| b) = a &&& b ^^^ a &&& c ^^^ b &&& c := by
  apply UInt32.eq_of_toBitVec_eq
  apply BitVec.eq_of_getLsbD_eq
  intro i hi
  simp only [UInt32.toBitVec_xor, UInt32.toBitVec_and, UInt32.toBitVec_or, BitVec.getLsbD_xor, BitVec.getLsbD_and, BitVec.getLsbD_or]
  cases a.toBitVec.getLsbD i <;> cases b.toBitVec.getLsbD i <;> cases c.toBitVec.getLsbD i <;> rfl

/-! The words of a block. -/
def spr (bl : List UInt8) : Nat → List UInt32
  | 0 => List.replicate 64 0
  | i + 1 => if i < 16 then (spr bl i).set i (ldr bl i)
    else (spr bl i).set i (gw (spr bl i) (i - 16) + gw (spr bl i) (i - 7) + (ror (gw (spr bl i) (i - 15)) 7 ^^^ ror (gw (spr bl i) (i - 15)) 18 ^^^ gw (spr bl i) (i - 15) >>> UInt32.ofNat 3) + (ror (gw (spr bl i) (i - 2)) 17 ^^^ ror (gw (spr bl i) (i - 2)) 19 ^^^ gw (spr bl i) (i - 2) >>> UInt32.ofNat 10))
theorem spr_len (bl : List UInt8) : ∀ i, (spr bl i).length = 64
  | 0 => by simp [spr]
  | i + 1 => by simp only [spr]; split <;> simp [spr_len bl i]
theorem spr_fill1 (bl : List UInt8) : ∀ i, i ≤ 16 → spr bl i = fill1 bl i
  | 0, _ => rfl
  | i + 1, h => by simp only [spr, fill1, if_pos (show i < 16 by omega), ldr_eq, spr_fill1 bl i (by omega)]
theorem spr_fill2 (bl : List UInt8) : ∀ j, spr bl (16 + j) = fill2 bl j
  | 0 => spr_fill1 bl 16 (Nat.le_refl _)
  | j + 1 => by
    rw [← Nat.add_assoc]
    simp only [spr, fill2, if_neg (show ¬ 16 + j < 16 by omega), spr_fill2 bl j, sig0, sig1]
    congr 1
    ac_rfl
theorem spr_eq (bl : List UInt8) : spr bl 64 = fill2 bl 48 := spr_fill2 bl 48

/-! The rounds: no register is moved. -/
def rtm (K W r : List UInt32) (i : Nat) : UInt32 :=
  gw r ((64 - i + 7) % 8) + (ror (gw r ((64 - i + 4) % 8)) 6 ^^^ ror (gw r ((64 - i + 4) % 8)) 11 ^^^ ror (gw r ((64 - i + 4) % 8)) 25) + (gw r ((64 - i + 6) % 8) ^^^ gw r ((64 - i + 4) % 8) &&& (gw r ((64 - i + 5) % 8) ^^^ gw r ((64 - i + 6) % 8))) + gw K i + gw W i
def rtop (t : UInt32) (r : List UInt32) (i : Nat) : UInt32 :=
  t + (ror (gw r ((64 - i) % 8)) 2 ^^^ ror (gw r ((64 - i) % 8)) 13 ^^^ ror (gw r ((64 - i) % 8)) 22) + (gw r ((64 - i) % 8) &&& gw r ((64 - i + 1) % 8) ||| gw r ((64 - i + 2) % 8) &&& (gw r ((64 - i) % 8) ||| gw r ((64 - i + 1) % 8)))
def rr (K W r : List UInt32) (i : Nat) : List UInt32 :=
  (r.set ((64 - i + 3) % 8) (gw r ((64 - i + 3) % 8) + rtm K W r i)).set ((64 - i + 7) % 8) (rtop (rtm K W r i) r i)
def rrs (K W h : List UInt32) : Nat → List UInt32
  | 0 => h
  | i + 1 => rr K W (rrs K W h i) i
theorem rr_len (K W r : List UInt32) (i : Nat) : (rr K W r i).length = r.length := by simp [rr]
theorem rrs_len (K W h : List UInt32) : ∀ i, (rrs K W h i).length = h.length
  | 0 => rfl
  | i + 1 => by rw [rrs, rr_len, rrs_len K W h i]
def regs (r : List UInt32) (o : Nat) : St := ⟨gw r (o % 8), gw r ((o + 1) % 8), gw r ((o + 2) % 8), gw r ((o + 3) % 8), gw r ((o + 4) % 8), gw r ((o + 5) % 8), gw r ((o + 6) % 8), gw r ((o + 7) % 8)⟩
theorem gw_set (r : List UInt32) (k j : Nat) (x : UInt32) (hk : k < r.length) : gw (r.set k x) j = if k = j then x else gw r j := by
  unfold gw
  by_cases h : k = j
  · subst h; simp [hk, List.getD_eq_getElem?_getD]
  · simp [h, List.getD_eq_getElem?_getD, List.getElem?_set_ne]
theorem rr_regs (K W r : List UInt32) (hr : r.length = 8) (i : Nat) (hi : i < 64) : regs (rr K W r i) (64 - (i + 1)) = rnd K W i (regs r (64 - i)) := by
  have h3 : (64 - i + 3) % 8 < r.length := by omega
  have h7 : (64 - i + 7) % 8 < (r.set ((64 - i + 3) % 8) (gw r ((64 - i + 3) % 8) + rtm K W r i)).length := by rw [List.length_set]; omega
  have hg : ∀ j, gw (rr K W r i) j = if (64 - i + 7) % 8 = j then rtop (rtm K W r i) r i else if (64 - i + 3) % 8 = j then gw r ((64 - i + 3) % 8) + rtm K W r i else gw r j := by
    intro j
    rw [rr, gw_set _ _ _ _ h7, gw_set _ _ _ _ h3]
  have ht : rtm K W r i = gw r ((64 - i + 7) % 8) + big1 (gw r ((64 - i + 4) % 8)) + (gw r ((64 - i + 4) % 8) &&& gw r ((64 - i + 5) % 8) ^^^ ~~~ (gw r ((64 - i + 4) % 8)) &&& gw r ((64 - i + 6) % 8)) + gw K i + gw W i := by
    simp only [rtm, big1, choice_eq]
  have hu : ∀ t, rtop t r i = t + (big0 (gw r ((64 - i) % 8)) + (gw r ((64 - i) % 8) &&& gw r ((64 - i + 1) % 8) ^^^ gw r ((64 - i) % 8) &&& gw r ((64 - i + 2) % 8) ^^^ gw r ((64 - i + 1) % 8) &&& gw r ((64 - i + 2) % 8))) := by
    intro t
    simp only [rtop, big0, most_eq, UInt32.add_assoc]
  have e0 : (64 - (i + 1)) % 8 = (64 - i + 7) % 8 := by omega
  have e1 : (64 - (i + 1) + 1) % 8 = (64 - i) % 8 := by omega
  have e2 : (64 - (i + 1) + 2) % 8 = (64 - i + 1) % 8 := by omega
  have e3 : (64 - (i + 1) + 3) % 8 = (64 - i + 2) % 8 := by omega
  have e4 : (64 - (i + 1) + 4) % 8 = (64 - i + 3) % 8 := by omega
  have e5 : (64 - (i + 1) + 5) % 8 = (64 - i + 4) % 8 := by omega
  have e6 : (64 - (i + 1) + 6) % 8 = (64 - i + 5) % 8 := by omega
  have e7 : (64 - (i + 1) + 7) % 8 = (64 - i + 6) % 8 := by omega
  simp only [regs, rnd, hg, e0, e1, e2, e3, e4, e5, e6, e7]
  simp only [if_true]
  rw [if_neg (by omega), if_neg (by omega), if_neg (by omega), if_neg (by omega), if_neg (by omega), if_neg (by omega), if_neg (by omega),
    if_neg (by omega), if_neg (by omega), if_neg (by omega), if_neg (by omega), if_neg (by omega), if_neg (by omega), hu, ht]
theorem rrs_regs (K W h : List UInt32) (hh : h.length = 8) : ∀ i, i ≤ 64 → regs (rrs K W h i) (64 - i) = rnds K W (regs h 64) i
  | 0, _ => rfl
  | i + 1, hi => by
    have h1 := rr_regs K W (rrs K W h i) (by rw [rrs_len]; exact hh) i (by omega)
    rw [rrs_regs K W h hh i (by omega)] at h1
    exact h1
/-- The reference's compression. -/
def compressR (h : List UInt32) (bl : List UInt8) : List UInt32 := addUp h (rrs KT (spr bl 64) h 64) 8
theorem list8 {r : List UInt32} (hr : r.length = 8) : r = [gw r 0, gw r 1, gw r 2, gw r 3, gw r 4, gw r 5, gw r 6, gw r 7] := by
  match r, hr with
  | [a, b, c, d, e, f, g, h], _ => rfl
theorem compressR_eq (h : List UInt32) (hh : h.length = 8) (bl : List UInt8) : compressR h bl = compress h bl := by
  have h1 := rrs_regs KT (spr bl 64) h hh 64 (Nat.le_refl _)
  have h3 : ∀ r : List UInt32, r.length = 8 → r = (regs r (64 - 64)).list := fun r hr => list8 hr
  have h2 := h3 (rrs KT (spr bl 64) h 64) (by rw [rrs_len]; exact hh)
  have h4 : regs h 64 = ⟨gw h 0, gw h 1, gw h 2, gw h 3, gw h 4, gw h 5, gw h 6, gw h 7⟩ := rfl
  rw [h1, h4, spr_eq] at h2
  unfold compressR compress
  rw [spr_eq, h2]

/-! Padding. -/
def padTail (n : UInt64) (j : Nat) : List UInt8 := (List.range j).map fun t => ((8 * n) >>> UInt64.ofNat (8 * (7 - t))).toUInt8
def padHead (k : Nat) : List UInt8 := 0x80 :: List.replicate k 0
def docPad (n : UInt64) : List UInt8 := padHead (padZeros n).toNat ++ padTail n 8
theorem padHead_len (k : Nat) : (padHead k).length = 1 + k := by simp [padHead]; omega
theorem padTail_len (n : UInt64) (j : Nat) : (padTail n j).length = j := by simp [padTail]
theorem padZeros_toNat (n : UInt64) : (padZeros n).toNat = (119 - n.toNat % 64) % 64 := by
  unfold padZeros
  rw [UInt64.toNat_mod, UInt64.toNat_sub_of_le]
  · rw [UInt64.toNat_mod]; rfl
  · rw [UInt64.le_iff_toNat_le, UInt64.toNat_mod]
    have : n.toNat % 64 < 64 := Nat.mod_lt _ (by decide)
    show n.toNat % 64 ≤ 119
    omega
theorem padLen' (n : UInt64) : (1 + padZeros n + 8).toNat = 9 + (padZeros n).toNat := by
  have := padZeros_toNat n
  simp only [UInt64.toNat_add, show (1 : UInt64).toNat = 1 from rfl, show (8 : UInt64).toNat = 8 from rfl]; omega
theorem docPad_eq (n : UInt64) : docPad n = padding n := by
  have h1 : (List.replicate (1 + padZeros n + 8).toNat (0 : UInt8)).set 0 0x80 = padHead (padZeros n).toNat ++ [0, 0, 0, 0, 0, 0, 0, 0] := by
    rw [padLen', show 9 + (padZeros n).toNat = (padZeros n).toNat + 8 + 1 by omega, List.replicate_succ, List.set_cons_zero, ← List.replicate_append_replicate]
    rfl
  unfold padding docPad
  rw [h1]
  generalize padHead (padZeros n).toNat = A
  have hs : ∀ (B : List UInt8) k x, (A ++ B).set (A.length + k) x = A ++ B.set k x := fun B k x => by
    rw [List.set_append_right _ _ (by omega)]; congr 2; omega
  have hi : ∀ i, i < 8 → (A ++ [0, 0, 0, 0, 0, 0, 0, (0 : UInt8)]).length - 1 - i = A.length + (7 - i) := fun i hi => by
    rw [List.length_append]; simp only [List.length_cons, List.length_nil]; omega
  simp only [padFill]
  rw [hi 0 (by decide), hi 1 (by decide), hi 2 (by decide), hi 3 (by decide), hi 4 (by decide), hi 5 (by decide), hi 6 (by decide), hi 7 (by decide)]
  simp only [hs]
  rfl

/-! The whole text, block by block. -/
def blocks (h : List UInt32) (p : List UInt8) : Nat → List UInt32
  | 0 => h
  | k + 1 => compress (blocks h p k) ((p.drop (64 * k)).take 64)
theorem blocks_len (h : List UInt32) (p : List UInt8) : ∀ k, (blocks h p k).length = h.length
  | 0 => rfl
  | k + 1 => by rw [blocks, compress_len, blocks_len h p k]
theorem blocks_append (h : List UInt32) (p q : List UInt8) (k : Nat) (hp : p.length = 64 * k) : ∀ j, blocks h (p ++ q) (k + j) = blocks (blocks h p k) q j
  | 0 => by
    have : ∀ i, i ≤ k → blocks h (p ++ q) i = blocks h p i := by
      intro i
      induction i with
      | zero => intro _; rfl
      | succ i ih =>
        intro hi
        rw [blocks, blocks, ih (by omega)]
        congr 1
        rw [List.drop_append_of_le_length (by omega), List.take_append_of_le_length (by rw [List.length_drop]; omega)]
    exact this k (Nat.le_refl _)
  | j + 1 => by
    rw [← Nat.add_assoc, blocks, blocks, blocks_append h p q k hp j]
    congr 1
    rw [show 64 * (k + j) = p.length + 64 * j by omega, List.drop_length_add_append]
theorem feed_block (s : Sh) (hs : s.ok) (hn : s.n % 64 = 0) (p : List UInt8) (hp : p.length = 64) : p.foldl Sh.feed s = { s with h := compress s.h p, bl := p, n := s.n + 64 } := by
  have h0 : (s.n % 64).toNat = 0 := by rw [hn]; rfl
  rw [chunk_eq p s hs (by omega) (by omega)]
  simp only [Sh.chunk, h0, hp, Nat.zero_add, List.take_zero, List.nil_append, if_true]
  have : s.bl.drop 64 = [] := List.drop_eq_nil_of_le (by rw [hs.bl]; exact Nat.le_refl _)
  rw [this, List.append_nil]
  rfl
theorem feed_blocks (s : Sh) (hs : s.ok) (hn : s.n % 64 = 0) : ∀ (k : Nat) (p : List UInt8), p.length = 64 * k → (p.foldl Sh.feed s).h = blocks s.h p k := by
  intro k
  have key : ∀ (k : Nat) (s : Sh), s.ok → s.n % 64 = 0 → ∀ p : List UInt8, p.length = 64 * k → (p.foldl Sh.feed s).h = blocks s.h p k := by
    intro k
    induction k with
    | zero =>
      intro s _ _ p hp
      have : p = [] := List.length_eq_zero_iff.1 (by omega)
      subst this; rfl
    | succ k ih =>
      intro s hs hn p hp
      have e : p = p.take 64 ++ p.drop 64 := (List.take_append_drop 64 p).symm
      have ht : (p.take 64).length = 64 := by rw [List.length_take]; omega
      rw [e, List.foldl_append, feed_block s hs hn _ ht]
      have hn' : (s.n + 64) % 64 = 0 := by
        rw [← UInt64.toNat_inj] at hn ⊢
        simp only [UInt64.toNat_mod, UInt64.toNat_add, show (64 : UInt64).toNat = 64 from rfl, show (0 : UInt64).toNat = 0 from rfl] at hn ⊢
        omega
      rw [ih { s with h := compress s.h (p.take 64), bl := p.take 64, n := s.n + 64 } ⟨by rw [compress_len]; exact hs.h, ht⟩ hn' _ (by rw [List.length_drop]; omega)]
      rw [show k + 1 = 1 + k by omega, blocks_append s.h (p.take 64) (p.drop 64) 1 (by omega) k]
      simp only [blocks, Nat.mul_zero, List.drop_zero]
      rw [List.take_of_length_le (Nat.le_of_eq ht)]
  exact key k s hs hn
theorem feeds_n (s : Sh) : ∀ p : List UInt8, (p.foldl Sh.feed s).n = s.n + UInt64.ofNat p.length := by
  intro p
  induction p generalizing s with
  | nil => simp
  | cons x r ih =>
    simp only [List.foldl_cons, ih, Sh.feed, List.length_cons]
    rw [← UInt64.toNat_inj]; simp only [UInt64.toNat_add, UInt64.toNat_ofNat']; simp only [show (1 : UInt64).toNat = 1 from rfl]; omega
theorem write_bg (s : Sh) (p : List UInt8) : (s.write p).bg = true := by
  have h1 : ∀ (p : List UInt8) (s : Sh), s.bg = true → (p.foldl Sh.feed s).bg = true := by
    intro p
    induction p with
    | nil => intro s h; exact h
    | cons x r ih => intro s h; exact ih _ h
  apply h1
  unfold Sh.begin
  cases h : s.bg <;> simp [h]
theorem write_write (s : Sh) (p q : List UInt8) : (s.write p).write q = s.write (p ++ q) := by
  have : (s.write p).begin = s.write p := by simp [Sh.begin, write_bg]
  rw [Sh.write, this, Sh.write, Sh.write, List.foldl_append]
theorem whole_len (p : List UInt8) : (p ++ padding (UInt64.ofNat p.length)).length % 64 = 0 := by
  rw [List.length_append, ← docPad_eq, docPad, List.length_append, padHead_len, padTail_len, padZeros_toNat, UInt64.toNat_ofNat']; omega
/-- The shaOf: the blocks of the text and its padding. -/
def shaOf (p : List UInt8) : List UInt8 := outAll (blocks H0 (p ++ padding (UInt64.ofNat p.length)) ((p ++ padding (UInt64.ofNat p.length)).length / 64)) 8
theorem sum_hash (s : Sh) (p : List UInt8) (hs : s = Sh.zero.write p) : s.sum = shaOf p := by
  subst hs
  have hn : (Sh.zero.write p).n = UInt64.ofNat p.length := by
    rw [Sh.write, feeds_n]; simp [Sh.begin, Sh.zero]
  unfold Sh.sum shaOf
  rw [hn, write_write]
  refine congrArg (fun x => outAll x 8) ?_
  have := whole_len p
  exact feed_blocks Sh.zero.begin (Sh.begin_ok Sh.zero_ok) rfl _ _ (by omega)
theorem sum256_hash (p : List UInt8) : sum256 p = shaOf p := sum_hash _ p rfl
/-- The reference's last loop. -/
def outR (h : List UInt32) : Nat → List UInt8
  | 0 => List.replicate 32 0
  | i + 1 => (outR h i).set i (gw h (i / 4) >>> UInt32.ofNat (24 - 8 * (i % 4))).toUInt8
theorem outR_len (h : List UInt32) : ∀ i, (outR h i).length = 32
  | 0 => by simp [outR]
  | i + 1 => by simp [outR, outR_len h i]
theorem outR_fill (h : List UInt32) (i : Nat) (hi : outR h (4 * i) = outAll h i) : ∀ j, j ≤ 4 → outR h (4 * i + j) = outFill h i j (outAll h i)
  | 0, _ => hi
  | j + 1, hj => by
    rw [← Nat.add_assoc, outR, outFill, outR_fill h i hi j (by omega), show (4 * i + j) / 4 = i by omega, show (4 * i + j) % 4 = j by omega]
theorem outR_all (h : List UInt32) : ∀ i, outR h (4 * i) = outAll h i
  | 0 => rfl
  | i + 1 => outR_fill h i (outR_all h i) 4 (Nat.le_refl _)
theorem outR_eq (h : List UInt32) : outR h 32 = outAll h 8 := outR_all h 8
/-- The reference's Sum. -/
theorem hash_parts (p : List UInt8) (pad : List UInt8) (hpad : pad = padding (UInt64.ofNat p.length)) (k j : Nat) (hk : k = p.length / 64) (hj : (p.drop (64 * k) ++ pad).length = 64 * j) :
    outR (blocks (blocks H0 p k) (p.drop (64 * k) ++ pad) j) 32 = shaOf p := by
  rw [hpad] at hj ⊢
  rw [outR_eq, shaOf]
  refine congrArg (fun x => outAll x 8) ?_
  have e : p ++ padding (UInt64.ofNat p.length) = p.take (64 * k) ++ (p.drop (64 * k) ++ padding (UInt64.ofNat p.length)) := by
    rw [← List.append_assoc, List.take_append_drop]
  have hl : (p.take (64 * k)).length = 64 * k := by rw [List.length_take]; omega
  have h1 : blocks H0 p k = blocks H0 (p.take (64 * k)) k := by
    have := blocks_append H0 (p.take (64 * k)) (p.drop (64 * k)) k hl 0
    rw [List.take_append_drop] at this
    exact this
  rw [h1, ← blocks_append H0 (p.take (64 * k)) _ k hl j]
  rw [← e]
  refine congrArg (blocks H0 _) ?_
  rw [e, List.length_append, hl, hj]; omega
end Go.Ps
