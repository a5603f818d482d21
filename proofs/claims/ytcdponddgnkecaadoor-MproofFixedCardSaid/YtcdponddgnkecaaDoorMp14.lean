import Derived.Test.YtcdponddgnkecaaDoorMp6
import Derived.Test.YtcdponddgnkecaaDoorProg
set_option linter.unusedVariables false
set_option linter.unusedSimpArgs false
namespace Go.Proofs.YtcdponddgnkecaaDoor
open Go.Sx Go.Ps
theorem s7N : splitN 7 = 4 := by decide +kernel
theorem s4N : splitN 4 = 2 := by decide +kernel
theorem inc7a (k : Nat) (x0 x1 x2 x3 x4 x5 x6 : List UInt8) : incL k [x0, x1, x2, x3, x4, x5, x6] 0 = [lg k [x1], lg k [x2, x3], lg k [x4, x5, x6]] := by
  rw [incL_left (l := [x0, x1, x2, x3, x4, x5, x6]) (by simp) (s := 4) s7N (by omega), show ([x0, x1, x2, x3, x4, x5, x6] : List (List UInt8)).take 4 = [x0, x1, x2, x3] from rfl, show ([x0, x1, x2, x3, x4, x5, x6] : List (List UInt8)).drop 4 = [x4, x5, x6] from rfl,
    incL_left (l := [x0, x1, x2, x3]) (by simp) (s := 2) s4N (by omega), show ([x0, x1, x2, x3] : List (List UInt8)).take 2 = [x0, x1] from rfl, show ([x0, x1, x2, x3] : List (List UInt8)).drop 2 = [x2, x3] from rfl,
    incL_left (l := [x0, x1]) (by simp) (s := 1) s2N (by omega), show ([x0, x1] : List (List UInt8)).take 1 = [x0] from rfl, show ([x0, x1] : List (List UInt8)).drop 1 = [x1] from rfl, incL_one (by simp)]; rfl
theorem inc7b (k : Nat) (x0 x1 x2 x3 x4 x5 x6 : List UInt8) : incL k [x0, x1, x2, x3, x4, x5, x6] 6 = [lg k [x4, x5], lg k [x0, x1, x2, x3]] := by
  rw [incL_right (l := [x0, x1, x2, x3, x4, x5, x6]) (by simp) (s := 4) s7N (by omega), show ([x0, x1, x2, x3, x4, x5, x6] : List (List UInt8)).take 4 = [x0, x1, x2, x3] from rfl, show ([x0, x1, x2, x3, x4, x5, x6] : List (List UInt8)).drop 4 = [x4, x5, x6] from rfl,
    incL_right (l := [x4, x5, x6]) (by simp) (s := 2) s3N (by omega), show ([x4, x5, x6] : List (List UInt8)).take 2 = [x4, x5] from rfl, show ([x4, x5, x6] : List (List UInt8)).drop 2 = [x6] from rfl, incL_one (by simp)]; rfl
theorem con7a (k : Nat) (x0 x1 x2 x3 x4 x5 x6 : List UInt8) : conL k [x0, x1, x2, x3, x4, x5, x6] 3 true = [lg k [x2], lg k [x3], lg k [x0, x1], lg k [x4, x5, x6]] := by
  rw [conL_left (l := [x0, x1, x2, x3, x4, x5, x6]) (by simp) (by simp) (s := 4) s7N (by omega), show ([x0, x1, x2, x3, x4, x5, x6] : List (List UInt8)).take 4 = [x0, x1, x2, x3] from rfl, show ([x0, x1, x2, x3, x4, x5, x6] : List (List UInt8)).drop 4 = [x4, x5, x6] from rfl,
    conL_right (l := [x0, x1, x2, x3]) (by simp) (by simp) (s := 2) s4N (by omega), show ([x0, x1, x2, x3] : List (List UInt8)).take 2 = [x0, x1] from rfl, show ([x0, x1, x2, x3] : List (List UInt8)).drop 2 = [x2, x3] from rfl,
    conL_left (l := [x2, x3]) (by simp) (by simp) (s := 1) s2N (by omega), show ([x2, x3] : List (List UInt8)).take 1 = [x2] from rfl, show ([x2, x3] : List (List UInt8)).drop 1 = [x3] from rfl, conL_end (m := 3 - 2) (l := [x2]) rfl]; rfl
theorem con7b (k : Nat) (x0 x1 x2 x3 x4 x5 x6 : List UInt8) : conL k [x0, x1, x2, x3, x4, x5, x6] 6 true = [lg k [x4, x5], lg k [x6], lg k [x0, x1, x2, x3]] := by
  rw [conL_right (l := [x0, x1, x2, x3, x4, x5, x6]) (by simp) (by simp) (s := 4) s7N (by omega), show ([x0, x1, x2, x3, x4, x5, x6] : List (List UInt8)).take 4 = [x0, x1, x2, x3] from rfl, show ([x0, x1, x2, x3, x4, x5, x6] : List (List UInt8)).drop 4 = [x4, x5, x6] from rfl,
    conL_left (l := [x4, x5, x6]) (by simp) (by simp) (s := 2) s3N (by omega), show ([x4, x5, x6] : List (List UInt8)).take 2 = [x4, x5] from rfl, show ([x4, x5, x6] : List (List UInt8)).drop 2 = [x6] from rfl, conL_end (m := 6 - 4) (l := [x4, x5]) rfl]; rfl
theorem stN_ends : ∀ j, stN (2 ^ (j + 1) - 2) (2 ^ (j + 1) - 1) = j
  | 0 => stN_one (by decide)
  | j + 1 => by
    have ih := stN_ends j
    have hp : 1 ≤ 2 ^ j := Nat.one_le_two_pow
    have e1 : 2 ^ (j + 1) = 2 * 2 ^ j := by rw [Nat.pow_succ, Nat.mul_comm]
    have e2 : 2 ^ (j + 1 + 1) = 2 * 2 ^ (j + 1) := by rw [Nat.pow_succ, Nat.mul_comm]
    have hs : splitN (2 ^ (j + 1 + 1) - 1) = 2 ^ (j + 1) := splitN_eq rfl (by omega) (by omega)
    rw [stN, dif_pos (by omega), hs, if_neg (by omega), show 2 ^ (j + 1 + 1) - 2 - 2 ^ (j + 1) = 2 ^ (j + 1) - 2 by omega, show 2 ^ (j + 1 + 1) - 1 - 2 ^ (j + 1) = 2 ^ (j + 1) - 1 by omega, ih]
theorem stN_left : ∀ j, stN 0 (2 ^ j) = j
  | 0 => stN_one (by decide)
  | j + 1 => by
    have ih := stN_left j
    have hp : 1 ≤ 2 ^ j := Nat.one_le_two_pow
    have e1 : 2 ^ (j + 1) = 2 * 2 ^ j := by rw [Nat.pow_succ, Nat.mul_comm]
    have hs : splitN (2 ^ (j + 1)) = 2 ^ j := splitN_eq rfl (by omega) (by omega)
    rw [stN, dif_pos (by omega), hs, if_pos (by omega), ih]
theorem splitU_nat {n : UInt64} {s : Nat} (hs : splitN n.toNat = s) (h : s < 2 ^ 64) : (splitU n).toNat = s := by
  rw [splitU, hs, UInt64.toNat_ofNat', Nat.mod_eq_of_lt h]
theorem cntL_ends : ∀ (j : Nat) (m n : UInt64), m.toNat = 2 ^ (j + 2) - 2 → n.toNat = 2 ^ (j + 2) - 1 → j + 2 ≤ 64 → cntL m n false = j + 2
  | 0, m, n, hm, hn, _ => by
    have hs : (splitU n).toNat = 2 := splitU_nat (by rw [hn]; exact s3N) (by decide)
    have e : m = splitU n := UInt64.toNat.inj (by rw [hm, hs])
    rw [cntL_left (fun h => by rw [h, hn] at hm; simp at hm) (by rw [hn]; decide) (UInt64.le_iff_toNat_le.2 (by rw [hm, hs] <;> decide)), ← e, cntL_end] <;> rfl
  | j + 1, m, n, hm, hn, hj => by
    have hp : 1 ≤ 2 ^ j := Nat.one_le_two_pow
    have e1 : 2 ^ (j + 2) = 4 * 2 ^ j := by rw [Nat.pow_add]; omega
    have e2 : 2 ^ (j + 1 + 2) = 8 * 2 ^ j := by rw [show j + 1 + 2 = j + 3 by omega, Nat.pow_add]; omega
    have hl : 2 ^ (j + 2) < 2 ^ 64 := Nat.pow_lt_pow_right (by decide) (by omega)
    have hs : (splitU n).toNat = 2 ^ (j + 2) := splitU_nat (splitN_eq rfl (by omega) (by omega)) hl
    have hle : splitU n ≤ m := UInt64.le_iff_toNat_le.2 (by omega)
    have hle2 : splitU n ≤ n := UInt64.le_iff_toNat_le.2 (by omega)
    rw [cntL_right (fun h => by rw [h, hn] at hm; omega) (by omega) (fun h => by have := UInt64.le_iff_toNat_le.1 h; omega),
      cntL_ends j (m - splitU n) (n - splitU n) (by rw [UInt64.toNat_sub_of_le _ _ hle]; omega) (by rw [UInt64.toNat_sub_of_le _ _ hle2]; omega) (by omega)]
theorem cntL_one : ∀ (j : Nat) (m n : UInt64), m.toNat = 1 → n.toNat = 2 ^ j → j ≤ 63 → cntL m n true = j
  | 0, m, n, hm, hn, _ => by
    have e : m = n := UInt64.toNat.inj (by rw [hm, hn] <;> rfl)
    rw [e, cntL_end] <;> rfl
  | j + 1, m, n, hm, hn, hj => by
    have hp : 1 ≤ 2 ^ j := Nat.one_le_two_pow
    have e1 : 2 ^ (j + 1) = 2 * 2 ^ j := by rw [Nat.pow_succ, Nat.mul_comm]
    have hl : 2 ^ j < 2 ^ 64 := Nat.pow_lt_pow_right (by decide) (by omega)
    have hs : (splitU n).toNat = 2 ^ j := splitU_nat (splitN_eq rfl (by omega) (by omega)) hl
    rw [cntL_left (fun h => by rw [h, hn] at hm; omega) (by omega) (UInt64.le_iff_toNat_le.2 (by omega)), cntL_one j m (splitU n) hm hs (by omega)]
theorem cntA : cntO 18446744073709551614 18446744073709551614 18446744073709551615 = ((63, 64), 0) := by
  have ha : (18446744073709551614 : UInt64).toNat = 18446744073709551614 := by decide
  have hb : (18446744073709551615 : UInt64).toNat = 18446744073709551615 := by decide
  have hs : (splitU 18446744073709551615).toNat = 2 ^ 63 := splitU_nat (splitN_eq (j := 63) rfl (by decide) (by decide)) (by decide)
  have hle : splitU 18446744073709551615 ≤ 18446744073709551614 := UInt64.le_iff_toNat_le.2 (by rw [hs]; decide)
  have hle2 : splitU 18446744073709551615 ≤ 18446744073709551615 := UInt64.le_iff_toNat_le.2 (by rw [hs]; decide)
  have h1 : (splitsL 18446744073709551614 18446744073709551615).length = 63 := by
    rw [splitsL_st _ 18446744073709551614 18446744073709551615 (Nat.le_refl _) (by decide)]; exact stN_ends 63
  have h2 : cntL 18446744073709551614 18446744073709551615 true = 64 := by
    rw [cntL_right (by decide) (by decide) (fun h => by have := UInt64.le_iff_toNat_le.1 h; rw [hs] at this; revert this; decide),
      cntL_ends 61 _ _ (by rw [UInt64.toNat_sub_of_le _ _ hle, hs]; decide) (by rw [UInt64.toNat_sub_of_le _ _ hle2, hs]; decide) (by decide)]
  rw [cntO, if_neg (by decide), h1, cntZ, if_neg (by decide), h2]
theorem cntB : cntO 0 1 9223372036854775808 = ((63, 63), 0) := by
  have h1 : (splitsL 0 9223372036854775808).length = 63 := by
    rw [splitsL_st _ 0 9223372036854775808 (Nat.le_refl _) (by decide)]; exact stN_left 63
  have h2 : cntL 1 9223372036854775808 true = 63 := cntL_one 63 1 9223372036854775808 rfl (by decide) (by decide)
  rw [cntO, if_neg (by decide), h1, cntZ, if_neg (by decide), h2]
def fixD (i : Nat) : List UInt8 := ([UInt8.ofNat (10 + i), 9] : List UInt8) ++ List.replicate 30 0
def fixL (j : Nat) : List (List UInt8) := (List.range j).map fixD
theorem fixD_len (i : Nat) : (fixD i).length = 32 := rfl
theorem fixL_succ (j : Nat) : fixL (j + 1) = fixL j ++ [fixD j] := by rw [fixL, fixL, List.range_succ, List.map_append]; rfl
theorem fixL_len (j : Nat) : (fixL j).length = j := by rw [fixL, List.length_map, List.length_range]
theorem fixL_mem {j : Nat} : ∀ d ∈ fixL j, d.length = 32 := fun d hd => by obtain ⟨i, _, rfl⟩ := List.mem_map.1 hd; rfl

theorem fixd_any (L : List (List UInt8)) (hdl : ∀ d ∈ L, d.length = 32) (hfl : ∀ d ∈ L, fm ((2 : Nat) : Int) d = true) (hl : L.length ≤ 1048576) (a : Option Addr) (c : Nat) (hc : L.length ≤ c) (b4 : Nat) (lo hi : Nat) (hlo : lo ≤ hi) (hhi : hi ≤ L.length) (w : World) (h4 : w.heap[b4]? = some (blk [.slice a L.length c] 22)) (hr : Rd w a (L.flatMap fun d => d.map vU8)) : Calls Tryd.prog 23 #[vInt (lo : Int), vInt (hi : Int), vPtr b4] w fun e w' => ∃ v, e = .returned v ∧ v = .agg ((lg 2 (seg L lo hi)).map vU8).toArray ∧ Mem w [] [] w' := by
  have h1 : 1 ≤ 2 := by omega
  have h2 : 2 ≤ 32 := by omega
  refine calls_of_sw (vs := [vInt (lo : Int), vInt (hi : Int), vPtr b4]) Tryd.func23 rfl Tryd.ntmps23 rfl (SW.begin ?_)
  refine sw_seq ?_
  refine sw_region ?_
  refine ow_new (acts_alloc zD) rfl (fun b5 hb5 => ?_)
  refine ow_nil (into ?_)
  refine sw_seq ?_
  refine sw_region ?_
  refine ow_val (val_load_old h4 (List.not_mem_nil) rfl Tryd.isAgg22 rfl) rfl ?_
  refine ow_val (val_move rfl) rfl ?_
  refine ow_val (val_move rfl) rfl ?_
  refine ow_val (val_slice_cut lo hi rfl rfl rfl Tryd.underlying22 Tryd.sizeOf41 rfl rfl (by omega) (by omega)) rfl ?_
  refine ow_call_pure (v := .agg ((lg 2 (seg L lo hi)).map vU8).toArray) (callsTo Tryd.func24 rfl (by kernel_rfl) rfl) rfl (fun w hm => rlog_any 2 h1 h2 _ (Sx.cut a c lo 32) (hi - lo) (c - lo) (seg L lo hi) w (Nat.le_refl _) (by rw [seg, List.length_take, List.length_drop]; omega) (seg_all hdl) (seg_all hfl) (rdTakeD (rdCutD (hr.mem hm) hdl hc) _) (by omega) (by omega)) ?_
  refine ow_do_eq (does_store_all 0 rfl rfl rfl (one_u8s _) Tryd.sizeOf41 (by show (List.map vU8 (lg 2 (seg L lo hi))).length = _; rw [List.length_map]; exact (lg_len h2 _ rfl (seg_all hdl))) (by show (List.map vU8 zeros32).length = _; rw [List.length_map]; exact zeros32_len)) ?_
  refine ow_nil (into ?_)
  exact sw_ret (fun w hm => ret_cell 0 rfl rfl hm rfl Tryd.isAgg41 Tryd.sizeOf41 (by rw [List.length_map]; exact lg_len h2 _ rfl (seg_all hdl)) ⟨rfl, hm.forgetAll⟩)

theorem mproofFixed_any (w : World) (hK : KW w) : Calls Tryd.prog 6 #[] w fun e w' => ∃ v, e = .returned v ∧ v = .bool true ∧ Mem w [] [] w' := by
  obtain ⟨tiD, hDi, hDz, hDsz, hDby⟩ := info_parts iDg
  have h1 : 1 ≤ 2 := by omega
  have h2 : 2 ≤ 32 := by omega
  obtain ⟨tu, htu⟩ : ∃ z : Nat, z = 0 := ⟨_, rfl⟩
  obtain ⟨x0, hx0⟩ : ∃ z, cutw 2 (fixD 0) = z := ⟨_, rfl⟩
  obtain ⟨x1, hx1⟩ : ∃ z, cutw 2 (fixD 1) = z := ⟨_, rfl⟩
  obtain ⟨x2, hx2⟩ : ∃ z, cutw 2 (fixD 2) = z := ⟨_, rfl⟩
  obtain ⟨x3, hx3⟩ : ∃ z, cutw 2 (fixD 3) = z := ⟨_, rfl⟩
  obtain ⟨x4, hx4⟩ : ∃ z, cutw 2 (fixD 4) = z := ⟨_, rfl⟩
  obtain ⟨x5, hx5⟩ : ∃ z, cutw 2 (fixD 5) = z := ⟨_, rfl⟩
  obtain ⟨x6, hx6⟩ : ∃ z, cutw 2 (fixD 6) = z := ⟨_, rfl⟩
  obtain ⟨LL, hLL⟩ : ∃ L, [x0, x1, x2, x3, x4, x5, x6] = L := ⟨_, rfl⟩
  have hL : cutL 2 (fixL 7) = LL := by rw [← hLL, ← hx0, ← hx1, ← hx2, ← hx3, ← hx4, ← hx5, ← hx6]; rfl
  have hLd : ∀ d ∈ LL, d.length = 32 := by rw [← hL]; exact (cutL_ok h1 h2 fixL_mem).1
  have hLf : ∀ d ∈ LL, fm ((2 : Nat) : Int) d = true := by rw [← hL]; exact (cutL_ok h1 h2 fixL_mem).2
  have hLn : LL.length = 7 := by rw [← hLL]; rfl
  have hs7 : seg [x0, x1, x2, x3, x4, x5, x6] 0 7 = [x0, x1, x2, x3, x4, x5, x6] := rfl
  have hsg12 : ∀ d ∈ seg LL 1 2, d.length = 32 := seg_all hLd
  have hsg24 : ∀ d ∈ seg LL 2 4, d.length = 32 := seg_all hLd
  have hsg47 : ∀ d ∈ seg LL 4 7, d.length = 32 := seg_all hLd
  have hsg46 : ∀ d ∈ seg LL 4 6, d.length = 32 := seg_all hLd
  have hsg04 : ∀ d ∈ seg LL 0 4, d.length = 32 := seg_all hLd
  have hsg23 : ∀ d ∈ seg LL 2 3, d.length = 32 := seg_all hLd
  have hsg34 : ∀ d ∈ seg LL 3 4, d.length = 32 := seg_all hLd
  have hsg02 : ∀ d ∈ seg LL 0 2, d.length = 32 := seg_all hLd
  have hsg67 : ∀ d ∈ seg LL 6 7, d.length = 32 := seg_all hLd
  obtain ⟨IPa, hIPa⟩ : ∃ P, [lg 2 (seg LL 1 2), lg 2 (seg LL 2 4), lg 2 (seg LL 4 7)] = P := ⟨_, rfl⟩
  have hkIPa : (0 : UInt64).toNat < (7 : UInt64).toNat ∧ (7 : UInt64).toNat ≤ LL.length := ⟨by decide, by rw [hLn]; decide⟩
  have heIPa : incL 2 (seg LL 0 (7 : UInt64).toNat) (0 : UInt64).toNat = IPa := by
    rw [← hIPa, ← hLL, show (7 : UInt64).toNat = 7 from rfl, show (0 : UInt64).toNat = 0 from rfl, hs7]; exact inc7a 2 x0 x1 x2 x3 x4 x5 x6
  have hdIPa : ∀ d ∈ IPa, d.length = 32 := by rw [← hIPa]; simp only [List.forall_mem_cons]; exact ⟨lg_len h2 _ rfl (seg_all hLd), lg_len h2 _ rfl (seg_all hLd), lg_len h2 _ rfl (seg_all hLd), fun _ h => by cases h⟩
  have hnIPa : IPa.length = 3 := by rw [← hIPa]; rfl
  obtain ⟨IPb, hIPb⟩ : ∃ P, [lg 2 (seg LL 4 6), lg 2 (seg LL 0 4)] = P := ⟨_, rfl⟩
  have hkIPb : (6 : UInt64).toNat < (7 : UInt64).toNat ∧ (7 : UInt64).toNat ≤ LL.length := ⟨by decide, by rw [hLn]; decide⟩
  have heIPb : incL 2 (seg LL 0 (7 : UInt64).toNat) (6 : UInt64).toNat = IPb := by
    rw [← hIPb, ← hLL, show (7 : UInt64).toNat = 7 from rfl, show (6 : UInt64).toNat = 6 from rfl, hs7]; exact inc7b 2 x0 x1 x2 x3 x4 x5 x6
  have hdIPb : ∀ d ∈ IPb, d.length = 32 := by rw [← hIPb]; simp only [List.forall_mem_cons]; exact ⟨lg_len h2 _ rfl (seg_all hLd), lg_len h2 _ rfl (seg_all hLd), fun _ h => by cases h⟩
  have hnIPb : IPb.length = 2 := by rw [← hIPb]; rfl
  obtain ⟨JQa, hJQa⟩ : ∃ P, [lg 2 (seg LL 2 3), lg 2 (seg LL 3 4), lg 2 (seg LL 0 2), lg 2 (seg LL 4 7)] = P := ⟨_, rfl⟩
  have hkJQa : (3 : UInt64).toNat ≤ (7 : UInt64).toNat ∧ (7 : UInt64).toNat ≤ LL.length := ⟨by decide, by rw [hLn]; decide⟩
  have heJQa : conO 2 LL (3 : UInt64).toNat (7 : UInt64).toNat = JQa := by
    rw [← hJQa, ← hLL, show (7 : UInt64).toNat = 7 from rfl, show (3 : UInt64).toNat = 3 from rfl, conO, if_neg (by decide), hs7]; exact con7a 2 x0 x1 x2 x3 x4 x5 x6
  have hdJQa : ∀ d ∈ JQa, d.length = 32 := by rw [← hJQa]; simp only [List.forall_mem_cons]; exact ⟨lg_len h2 _ rfl (seg_all hLd), lg_len h2 _ rfl (seg_all hLd), lg_len h2 _ rfl (seg_all hLd), lg_len h2 _ rfl (seg_all hLd), fun _ h => by cases h⟩
  have hnJQa : JQa.length = 4 := by rw [← hJQa]; rfl
  obtain ⟨JQb, hJQb⟩ : ∃ P, [lg 2 (seg LL 4 6), lg 2 (seg LL 6 7), lg 2 (seg LL 0 4)] = P := ⟨_, rfl⟩
  have hkJQb : (6 : UInt64).toNat ≤ (7 : UInt64).toNat ∧ (7 : UInt64).toNat ≤ LL.length := ⟨by decide, by rw [hLn]; decide⟩
  have heJQb : conO 2 LL (6 : UInt64).toNat (7 : UInt64).toNat = JQb := by
    rw [← hJQb, ← hLL, show (7 : UInt64).toNat = 7 from rfl, show (6 : UInt64).toNat = 6 from rfl, conO, if_neg (by decide), hs7]; exact con7b 2 x0 x1 x2 x3 x4 x5 x6
  have hdJQb : ∀ d ∈ JQb, d.length = 32 := by rw [← hJQb]; simp only [List.forall_mem_cons]; exact ⟨lg_len h2 _ rfl (seg_all hLd), lg_len h2 _ rfl (seg_all hLd), lg_len h2 _ rfl (seg_all hLd), fun _ h => by cases h⟩
  have hnJQb : JQb.length = 3 := by rw [← hJQb]; rfl
  have hz0 : (0 : UInt64).toNat ≤ (0 : UInt64).toNat ∧ (0 : UInt64).toNat ≤ LL.length := ⟨by decide, by rw [hLn]; decide⟩
  have hez : conO 2 LL (0 : UInt64).toNat (0 : UInt64).toNat = [] := by rw [conO, if_pos (show (0 : UInt64).toNat = 0 from rfl)]
  refine calls_of_sw (vs := []) Tryd.func6 rfl Tryd.ntmps6 rfl (SW.begin ?_)
  refine sw_seq ?_
  refine sw_region ?_
  refine ow_val (val_assign rfl) rfl ?_
  refine ow_nil (into ?_)
  refine sw_seq ?_
  refine sw_seq ?_
  refine sw_region ?_
  refine ow_call_pure (v := .bool true) (callsTo Tryd.func14 rfl (by kernel_rfl) rfl) rfl (fun w hm => awake_any w (hK.mem0 hm)) ?_
  refine ow_val (val_not rfl) rfl ?_
  refine ow_nil (into ?_)
  refine sw_false rfl rfl ?_
  refine sw_skip (into ?_)
  refine sw_seq ?_
  refine sw_region ?_
  refine ow_val (val_assign rfl) rfl ?_
  refine ow_nil (into ?_)
  refine sw_seq ?_
  refine sw_seq ?_
  refine sw_region ?_
  refine ow_val (val_assign rfl) rfl ?_
  refine ow_nil (into ?_)
  refine sw_block ?_
  refine sw_loop (σ := Nat × Option Addr × Nat × Ent) (fun t => t.1 ≤ 7 ∧ RowE (.slice t.2.1 t.1 t.2.2.1) 41 32 t.1 ((fixL t.1).flatMap fun d => d.map vU8) t.2.2.2) (fun t => [(2, vInt (t.1 : Int)), (1, .slice t.2.1 t.1 t.2.2.1)]) (fun t => Mem w [] [t.2.2.2]) (fun t => 7 - t.1) (0, none, 0, none) ⟨Nat.zero_le _, RowE.nil _ _⟩ ⟨rfl, rfl, trivial⟩ (fun w hm => hm.place) ?_
  rintro ⟨j, a1, c1, e1⟩ ⟨hj, hrow⟩
  simp only at hj hrow ⊢
  refine sw_seq ?_
  refine sw_seq ?_
  refine sw_region ?_
  refine ow_val (val_move rfl) rfl ?_
  refine ow_val (val_lss_int rfl rfl) rfl ?_
  refine ow_nil (into ?_)
  refine sw_if rfl (fun h0 => ?_) (fun h0 => ?_)
  · -- then
    refine sw_skip (into ?_)
    refine sw_seq ?_
    refine sw_block ?_
    refine sw_region ?_
    refine ow_val (val_move rfl) rfl ?_
    refine ow_val (val_move rfl) rfl ?_
    refine ow_val (val_add_int ((10 + j : Nat) : Int) rfl rfl (by omega) (by omega)) rfl ?_
    refine ow_val (val_conv_n_u8 (10 + j) Tryd.underlying3 Tryd.underlying5 rfl rfl) rfl ?_
    refine ow_val (val_build' (cs := (([(UInt8.ofNat (10 + j)), 9] : List UInt8) ++ List.replicate 30 0).map vU8) rfl (by kernel_rfl)) rfl ?_
    refine ow_make (acts_buildSlice (cs := [((([(UInt8.ofNat (10 + j)), 9] : List UInt8) ++ List.replicate 30 0)).map vU8].flatten) Tryd.underlying22 Tryd.sizeOf41 zD rfl rfl (fill_aggs [((([(UInt8.ofNat (10 + j)), 9] : List UInt8) ++ List.replicate 30 0)).map vU8] (by decide) rfl (by simp only [List.forall_mem_cons, List.length_map]; exact ⟨rfl, fun _ h => by cases h⟩))) rfl (fun b32 hb32 => ?_)
    refine ow_append' (k := j + 1) (acts_append (size := 32) (bytes := 32) 1 rfl rfl rfl hrow rfl Tryd.underlying22 hDi hDz hDsz hDby rfl (by decide) (fun w hm => Rd.blk (hm.at (i := 0) rfl)) rfl (fun u hu => by simp only [List.flatten_cons, List.flatten_nil, List.append_nil] at hu; exact one_u8s _ u hu) (by omega) (by omega)) rfl (fun a33 c33 e33 hr33 => ?_)
    refine ow_val (val_assign rfl) rfl ?_
    refine ow_nil (into ?_)
    refine sw_region ?_
    refine ow_val (val_move rfl) rfl ?_
    refine ow_val (val_add_int ((j + 1 : Nat) : Int) rfl rfl (by omega) (by omega)) rfl ?_
    refine ow_val (val_assign rfl) rfl ?_
    exact ow_nil (fun w hm => ⟨(j + 1, a33, c33, e33), ⟨by dsimp only; omega, hr33.cong rfl rfl (by rw [fixL_succ, List.flatMap_append]; rfl)⟩, by dsimp only; omega, ⟨rfl, rfl, trivial⟩, hm.only (.cons _ (.cons_cons _ (List.nil_sublist _)))⟩)
  · -- else
    obtain rfl : j = 7 := by omega
    refine sw_exit (into ?_)
    refine sw_seq ?_
    refine sw_region ?_
    refine ow_val (val_move rfl) rfl ?_
    refine ow_call_tail (σ := Nat × Option Addr × Nat × List Ent) (fun q9 => .tuple #[vPtr q9.1, .slice q9.2.1 LL.length q9.2.2.1, .bool true]) (fun q9 => q9.2.2.2) (fun q9 => TrOn 110 79 2 q9.2.2.2 q9.1 LL ∧ RdOn q9.2.2.2 q9.2.1 (List.flatMap (fun d : List UInt8 => List.map vU8 d) LL) ∧ LL.length ≤ q9.2.2.1 ∧ (0 < LL.length → ∃ b o, q9.2.1 = some ⟨b, o, none⟩)) (callsTo Tryd.func15 rfl (by kernel_rfl) rfl) rfl (fun w hm => tree_is 2 h1 h2 w (hK.mem0 hm) a1 7 c1 (fixL 7) (fixL_len 7) fixL_mem (hrow.rdAt hm (i := 0) rfl) hrow.le (by omega) (by omega) hL) ?_
    rintro ⟨b36, a36, c36, es36⟩ ⟨htr36, hrd36, hle36, hla36⟩
    simp only at htr36 hrd36 hle36 hla36 ⊢
    refine ow_val (val_move rfl) rfl ?_
    refine ow_val (val_extract rfl rfl) rfl ?_
    refine ow_val (val_extract rfl rfl) rfl ?_
    refine ow_val (val_extract rfl rfl) rfl ?_
    refine ow_new (acts_alloc Tryd.zeroValue22) rfl (fun b4 hb4 => ?_)
    refine ow_val (val_assign rfl) rfl ?_
    refine ow_do (does_store 0 rfl rfl rfl rfl Tryd.sizeOf22 (by decide)) (fun _ _ => ?_)
    refine ow_val (val_assign rfl) rfl ?_
    refine ow_nil (into ?_)
    refine sw_seq ?_
    refine sw_region ?_
    refine ow_val (val_makeFunc (vs := #[vPtr b4]) (fun a hf => by have h := evs_eval (xs := [.tmp 4]) (vs := [vPtr b4]) hf rfl; simpa using h)) rfl ?_
    refine ow_val (val_assign rfl) rfl ?_
    refine ow_nil (into ?_)
    refine sw_seq ?_
    refine sw_region ?_
    refine ow_val (val_move rfl) rfl ?_
    refine ow_call_row2 (E := 41) (size := 32) (k := IPa.length) (xs := List.flatMap (fun d : List UInt8 => List.map vU8 d) IPa) (x := vInt ((0 : Nat) : Int)) (callsTo Tryd.func16 rfl (by kernel_rfl) rfl) rfl (fun w hm => incl_okU 2 h1 h2 b36 LL (by assumption) (by assumption) (by omega) 0 7 w (hK.mem0 hm) (htr36.is (hm.heldSub (.cons _ (.cons _ (List.Sublist.refl _))))) hkIPa _ heIPa) (fun a43 c43 e43 hr43 => ?_)
    refine ow_val (val_move rfl) rfl ?_
    refine ow_val (val_extract rfl rfl) rfl ?_
    refine ow_val (val_extract rfl rfl) rfl ?_
    refine ow_val (val_assign rfl) rfl ?_
    refine ow_val (val_assign rfl) rfl ?_
    refine ow_nil (into ?_)
    refine sw_seq ?_
    refine sw_region ?_
    refine ow_val (val_move rfl) rfl ?_
    refine ow_call_row2 (E := 41) (size := 32) (k := IPb.length) (xs := List.flatMap (fun d : List UInt8 => List.map vU8 d) IPb) (x := vInt ((0 : Nat) : Int)) (callsTo Tryd.func16 rfl (by kernel_rfl) rfl) rfl (fun w hm => incl_okU 2 h1 h2 b36 LL (by assumption) (by assumption) (by omega) 6 7 w (hK.mem0 hm) (htr36.is (hm.heldSub (.cons _ (.cons _ (.cons _ (List.Sublist.refl _)))))) hkIPb _ heIPb) (fun a48 c48 e48 hr48 => ?_)
    refine ow_val (val_move rfl) rfl ?_
    refine ow_val (val_extract rfl rfl) rfl ?_
    refine ow_val (val_extract rfl rfl) rfl ?_
    refine ow_val (val_assign rfl) rfl ?_
    refine ow_val (val_assign rfl) rfl ?_
    refine ow_nil (into ?_)
    refine sw_seq ?_
    refine sw_region ?_
    refine ow_val (val_move rfl) rfl ?_
    refine ow_call_row2 (E := 41) (size := 32) (k := JQa.length) (xs := List.flatMap (fun d : List UInt8 => List.map vU8 d) JQa) (x := vInt ((0 : Nat) : Int)) (callsTo Tryd.func19 rfl (by kernel_rfl) rfl) rfl (fun w hm => cons_okU 2 h1 h2 b36 LL (by assumption) (by assumption) (by omega) 3 7 w (hK.mem0 hm) (htr36.is (hm.heldSub (.cons _ (.cons _ (.cons _ (.cons _ (List.Sublist.refl _))))))) hkJQa _ heJQa) (fun a53 c53 e53 hr53 => ?_)
    refine ow_val (val_move rfl) rfl ?_
    refine ow_val (val_extract rfl rfl) rfl ?_
    refine ow_val (val_extract rfl rfl) rfl ?_
    refine ow_val (val_assign rfl) rfl ?_
    refine ow_val (val_assign rfl) rfl ?_
    refine ow_nil (into ?_)
    refine sw_seq ?_
    refine sw_region ?_
    refine ow_val (val_move rfl) rfl ?_
    refine ow_call_row2 (E := 41) (size := 32) (k := JQb.length) (xs := List.flatMap (fun d : List UInt8 => List.map vU8 d) JQb) (x := vInt ((0 : Nat) : Int)) (callsTo Tryd.func19 rfl (by kernel_rfl) rfl) rfl (fun w hm => cons_okU 2 h1 h2 b36 LL (by assumption) (by assumption) (by omega) 6 7 w (hK.mem0 hm) (htr36.is (hm.heldSub (.cons _ (.cons _ (.cons _ (.cons _ (.cons _ (List.Sublist.refl _)))))))) hkJQb _ heJQb) (fun a58 c58 e58 hr58 => ?_)
    refine ow_val (val_move rfl) rfl ?_
    refine ow_val (val_extract rfl rfl) rfl ?_
    refine ow_val (val_extract rfl rfl) rfl ?_
    refine ow_val (val_assign rfl) rfl ?_
    refine ow_val (val_assign rfl) rfl ?_
    refine ow_nil (into ?_)
    refine sw_seq ?_
    refine sw_seq ?_
    refine sw_region ?_
    refine ow_val (val_move rfl) rfl ?_
    refine ow_val ((val_neq_int rfl rfl).to (v' := .bool false) (congrArg Value.bool (decide_eq_false (fun h => h (by simp))))) rfl ?_
    refine ow_val (val_move rfl) rfl ?_
    refine ow_guard_yes rfl rfl rfl ?_
    refine ow_val (val_move rfl) rfl ?_
    refine ow_guard_yes rfl rfl rfl ?_
    refine ow_val ((val_neq_int rfl rfl).to (v' := .bool false) (congrArg Value.bool (decide_eq_false (fun h => h (by simp))))) rfl ?_
    refine ow_val (val_pick_false rfl rfl) rfl ?_
    refine ow_val (val_move rfl) rfl ?_
    refine ow_guard_yes rfl rfl rfl ?_
    refine ow_val (val_move rfl) rfl ?_
    refine ow_guard_yes rfl rfl rfl ?_
    refine ow_val ((val_neq_int rfl rfl).to (v' := .bool false) (congrArg Value.bool (decide_eq_false (fun h => h (by simp))))) rfl ?_
    refine ow_val (val_pick_false rfl rfl) rfl ?_
    refine ow_val (val_move rfl) rfl ?_
    refine ow_guard_yes rfl rfl rfl ?_
    refine ow_val (val_move rfl) rfl ?_
    refine ow_guard_yes rfl rfl rfl ?_
    refine ow_val ((val_neq_int rfl rfl).to (v' := .bool false) (congrArg Value.bool (decide_eq_false (fun h => h (by simp))))) rfl ?_
    refine ow_val (val_pick_false rfl rfl) rfl ?_
    refine ow_nil (into ?_)
    refine sw_false rfl rfl ?_
    refine sw_skip (into ?_)
    refine sw_seq ?_
    refine sw_seq ?_
    refine sw_region ?_
    refine ow_val (val_move rfl) rfl ?_
    refine ow_val (val_move rfl) rfl ?_
    refine ow_call_pure (v := .agg ((lg 2 (seg LL 1 2)).map vU8).toArray) (callsToVal (cap := [vPtr b4]) rfl Tryd.func23 rfl (by kernel_rfl) rfl) rfl (fun w hm => fixd_any LL hLd hLf (by omega) a36 c36 hle36 b4 1 2 (by decide) (by rw [hLn]; decide) w (hm.at (i := 4) rfl) (hrd36 _ (hm.heldSub (.cons _ (.cons _ (.cons _ (.cons _ (.cons _ (.cons _ (List.Sublist.refl _)))))))))) ?_
    refine ow_val (val_move rfl) rfl ?_
    refine ow_call_pure (v := .agg ((lg 2 (seg LL 2 4)).map vU8).toArray) (callsToVal (cap := [vPtr b4]) rfl Tryd.func23 rfl (by kernel_rfl) rfl) rfl (fun w hm => fixd_any LL hLd hLf (by omega) a36 c36 hle36 b4 2 4 (by decide) (by rw [hLn]; decide) w (hm.at (i := 4) rfl) (hrd36 _ (hm.heldSub (.cons _ (.cons _ (.cons _ (.cons _ (.cons _ (.cons _ (List.Sublist.refl _)))))))))) ?_
    refine ow_val (val_move rfl) rfl ?_
    refine ow_call_pure (v := .agg ((lg 2 (seg LL 4 7)).map vU8).toArray) (callsToVal (cap := [vPtr b4]) rfl Tryd.func23 rfl (by kernel_rfl) rfl) rfl (fun w hm => fixd_any LL hLd hLf (by omega) a36 c36 hle36 b4 4 7 (by decide) (by rw [hLn]; decide) w (hm.at (i := 4) rfl) (hrd36 _ (hm.heldSub (.cons _ (.cons _ (.cons _ (.cons _ (.cons _ (.cons _ (List.Sublist.refl _)))))))))) ?_
    refine ow_make (acts_buildSlice (cs := [((lg 2 (seg LL 1 2))).map vU8, ((lg 2 (seg LL 2 4))).map vU8, ((lg 2 (seg LL 4 7))).map vU8].flatten) Tryd.underlying22 Tryd.sizeOf41 zD rfl rfl (fill_aggs [((lg 2 (seg LL 1 2))).map vU8, ((lg 2 (seg LL 2 4))).map vU8, ((lg 2 (seg LL 4 7))).map vU8] (by decide) rfl (by simp only [List.forall_mem_cons, List.length_map]; exact ⟨(lg_len h2 _ rfl (by assumption)), (lg_len h2 _ rfl (by assumption)), (lg_len h2 _ rfl (by assumption)), fun _ h => by cases h⟩))) rfl (fun b82 hb82 => ?_)
    refine ow_call_pure (v := .bool true) (callsTo Tryd.func18 rfl (by kernel_rfl) rfl) rfl (fun w hm => same_is w a43 IPa.length c43 IPa rfl hdIPa (hr43.rdAt hm (i := 4) rfl) hr43.le (by omega) (some ⟨b82, 0, none⟩) 3 3 [(lg 2 (seg LL 1 2)), (lg 2 (seg LL 2 4)), (lg 2 (seg LL 4 7))] rfl (by simp only [List.forall_mem_cons]; exact ⟨(lg_len h2 _ rfl (by assumption)), (lg_len h2 _ rfl (by assumption)), (lg_len h2 _ rfl (by assumption)), fun _ h => by cases h⟩) (Rd.blk (hm.at (i := 0) rfl)) (Nat.le_refl _) (by decide) (decide_eq_true hIPa.symm)) ?_
    refine ow_val (val_not rfl) rfl ?_
    refine ow_val (val_move rfl) rfl ?_
    refine ow_guard_yes rfl rfl rfl ?_
    refine ow_val (val_move rfl) rfl ?_
    refine ow_guard_yes rfl rfl rfl ?_
    refine ow_val (val_move rfl) rfl ?_
    refine ow_guard_yes rfl rfl rfl ?_
    refine ow_call_pure (v := .agg ((lg 2 (seg LL 4 6)).map vU8).toArray) (callsToVal (cap := [vPtr b4]) rfl Tryd.func23 rfl (by kernel_rfl) rfl) rfl (fun w hm => fixd_any LL hLd hLf (by omega) a36 c36 hle36 b4 4 6 (by decide) (by rw [hLn]; decide) w (hm.at (i := 5) rfl) (hrd36 _ (hm.heldSub (.cons _ (.cons _ (.cons _ (.cons _ (.cons _ (.cons _ (.cons _ (List.Sublist.refl _))))))))))) ?_
    refine ow_guard_yes rfl rfl rfl ?_
    refine ow_val (val_move rfl) rfl ?_
    refine ow_guard_yes rfl rfl rfl ?_
    refine ow_call_pure (v := .agg ((lg 2 (seg LL 0 4)).map vU8).toArray) (callsToVal (cap := [vPtr b4]) rfl Tryd.func23 rfl (by kernel_rfl) rfl) rfl (fun w hm => fixd_any LL hLd hLf (by omega) a36 c36 hle36 b4 0 4 (by decide) (by rw [hLn]; decide) w (hm.at (i := 5) rfl) (hrd36 _ (hm.heldSub (.cons _ (.cons _ (.cons _ (.cons _ (.cons _ (.cons _ (.cons _ (List.Sublist.refl _))))))))))) ?_
    refine ow_guard_yes rfl rfl rfl ?_
    refine ow_make (acts_buildSlice (cs := [((lg 2 (seg LL 4 6))).map vU8, ((lg 2 (seg LL 0 4))).map vU8].flatten) Tryd.underlying22 Tryd.sizeOf41 zD rfl rfl (fill_aggs [((lg 2 (seg LL 4 6))).map vU8, ((lg 2 (seg LL 0 4))).map vU8] (by decide) rfl (by simp only [List.forall_mem_cons, List.length_map]; exact ⟨(lg_len h2 _ rfl (by assumption)), (lg_len h2 _ rfl (by assumption)), fun _ h => by cases h⟩))) rfl (fun b91 hb91 => ?_)
    refine ow_guard_yes rfl rfl rfl ?_
    refine ow_call_pure (v := .bool true) (callsTo Tryd.func18 rfl (by kernel_rfl) rfl) rfl (fun w hm => same_is w a48 IPb.length c48 IPb rfl hdIPb (hr48.rdAt hm (i := 4) rfl) hr48.le (by omega) (some ⟨b91, 0, none⟩) 2 2 [(lg 2 (seg LL 4 6)), (lg 2 (seg LL 0 4))] rfl (by simp only [List.forall_mem_cons]; exact ⟨(lg_len h2 _ rfl (by assumption)), (lg_len h2 _ rfl (by assumption)), fun _ h => by cases h⟩) (Rd.blk (hm.at (i := 0) rfl)) (Nat.le_refl _) (by decide) (decide_eq_true hIPb.symm)) ?_
    refine ow_guard_yes rfl rfl rfl ?_
    refine ow_val (val_not rfl) rfl ?_
    refine ow_val (val_pick_false rfl rfl) rfl ?_
    refine ow_nil (into ?_)
    refine sw_false rfl rfl ?_
    refine sw_skip (into ?_)
    refine sw_seq ?_
    refine sw_seq ?_
    refine sw_region ?_
    refine ow_val (val_move rfl) rfl ?_
    refine ow_val (val_move rfl) rfl ?_
    refine ow_call_pure (v := .agg ((lg 2 (seg LL 2 3)).map vU8).toArray) (callsToVal (cap := [vPtr b4]) rfl Tryd.func23 rfl (by kernel_rfl) rfl) rfl (fun w hm => fixd_any LL hLd hLf (by omega) a36 c36 hle36 b4 2 3 (by decide) (by rw [hLn]; decide) w (hm.at (i := 6) rfl) (hrd36 _ (hm.heldSub (.cons _ (.cons _ (.cons _ (.cons _ (.cons _ (.cons _ (.cons _ (.cons _ (List.Sublist.refl _)))))))))))) ?_
    refine ow_val (val_move rfl) rfl ?_
    refine ow_call_pure (v := .agg ((lg 2 (seg LL 3 4)).map vU8).toArray) (callsToVal (cap := [vPtr b4]) rfl Tryd.func23 rfl (by kernel_rfl) rfl) rfl (fun w hm => fixd_any LL hLd hLf (by omega) a36 c36 hle36 b4 3 4 (by decide) (by rw [hLn]; decide) w (hm.at (i := 6) rfl) (hrd36 _ (hm.heldSub (.cons _ (.cons _ (.cons _ (.cons _ (.cons _ (.cons _ (.cons _ (.cons _ (List.Sublist.refl _)))))))))))) ?_
    refine ow_val (val_move rfl) rfl ?_
    refine ow_call_pure (v := .agg ((lg 2 (seg LL 0 2)).map vU8).toArray) (callsToVal (cap := [vPtr b4]) rfl Tryd.func23 rfl (by kernel_rfl) rfl) rfl (fun w hm => fixd_any LL hLd hLf (by omega) a36 c36 hle36 b4 0 2 (by decide) (by rw [hLn]; decide) w (hm.at (i := 6) rfl) (hrd36 _ (hm.heldSub (.cons _ (.cons _ (.cons _ (.cons _ (.cons _ (.cons _ (.cons _ (.cons _ (List.Sublist.refl _)))))))))))) ?_
    refine ow_val (val_move rfl) rfl ?_
    refine ow_call_pure (v := .agg ((lg 2 (seg LL 4 7)).map vU8).toArray) (callsToVal (cap := [vPtr b4]) rfl Tryd.func23 rfl (by kernel_rfl) rfl) rfl (fun w hm => fixd_any LL hLd hLf (by omega) a36 c36 hle36 b4 4 7 (by decide) (by rw [hLn]; decide) w (hm.at (i := 6) rfl) (hrd36 _ (hm.heldSub (.cons _ (.cons _ (.cons _ (.cons _ (.cons _ (.cons _ (.cons _ (.cons _ (List.Sublist.refl _)))))))))))) ?_
    refine ow_make (acts_buildSlice (cs := [((lg 2 (seg LL 2 3))).map vU8, ((lg 2 (seg LL 3 4))).map vU8, ((lg 2 (seg LL 0 2))).map vU8, ((lg 2 (seg LL 4 7))).map vU8].flatten) Tryd.underlying22 Tryd.sizeOf41 zD rfl rfl (fill_aggs [((lg 2 (seg LL 2 3))).map vU8, ((lg 2 (seg LL 3 4))).map vU8, ((lg 2 (seg LL 0 2))).map vU8, ((lg 2 (seg LL 4 7))).map vU8] (by decide) rfl (by simp only [List.forall_mem_cons, List.length_map]; exact ⟨(lg_len h2 _ rfl (by assumption)), (lg_len h2 _ rfl (by assumption)), (lg_len h2 _ rfl (by assumption)), (lg_len h2 _ rfl (by assumption)), fun _ h => by cases h⟩))) rfl (fun b104 hb104 => ?_)
    refine ow_call_pure (v := .bool true) (callsTo Tryd.func18 rfl (by kernel_rfl) rfl) rfl (fun w hm => same_is w a53 JQa.length c53 JQa rfl hdJQa (hr53.rdAt hm (i := 4) rfl) hr53.le (by omega) (some ⟨b104, 0, none⟩) 4 4 [(lg 2 (seg LL 2 3)), (lg 2 (seg LL 3 4)), (lg 2 (seg LL 0 2)), (lg 2 (seg LL 4 7))] rfl (by simp only [List.forall_mem_cons]; exact ⟨(lg_len h2 _ rfl (by assumption)), (lg_len h2 _ rfl (by assumption)), (lg_len h2 _ rfl (by assumption)), (lg_len h2 _ rfl (by assumption)), fun _ h => by cases h⟩) (Rd.blk (hm.at (i := 0) rfl)) (Nat.le_refl _) (by decide) (decide_eq_true hJQa.symm)) ?_
    refine ow_val (val_not rfl) rfl ?_
    refine ow_val (val_move rfl) rfl ?_
    refine ow_guard_yes rfl rfl rfl ?_
    refine ow_val (val_move rfl) rfl ?_
    refine ow_guard_yes rfl rfl rfl ?_
    refine ow_val (val_move rfl) rfl ?_
    refine ow_guard_yes rfl rfl rfl ?_
    refine ow_call_pure (v := .agg ((lg 2 (seg LL 4 6)).map vU8).toArray) (callsToVal (cap := [vPtr b4]) rfl Tryd.func23 rfl (by kernel_rfl) rfl) rfl (fun w hm => fixd_any LL hLd hLf (by omega) a36 c36 hle36 b4 4 6 (by decide) (by rw [hLn]; decide) w (hm.at (i := 7) rfl) (hrd36 _ (hm.heldSub (.cons _ (.cons _ (.cons _ (.cons _ (.cons _ (.cons _ (.cons _ (.cons _ (.cons _ (List.Sublist.refl _))))))))))))) ?_
    refine ow_guard_yes rfl rfl rfl ?_
    refine ow_val (val_move rfl) rfl ?_
    refine ow_guard_yes rfl rfl rfl ?_
    refine ow_call_pure (v := .agg ((lg 2 (seg LL 6 7)).map vU8).toArray) (callsToVal (cap := [vPtr b4]) rfl Tryd.func23 rfl (by kernel_rfl) rfl) rfl (fun w hm => fixd_any LL hLd hLf (by omega) a36 c36 hle36 b4 6 7 (by decide) (by rw [hLn]; decide) w (hm.at (i := 7) rfl) (hrd36 _ (hm.heldSub (.cons _ (.cons _ (.cons _ (.cons _ (.cons _ (.cons _ (.cons _ (.cons _ (.cons _ (List.Sublist.refl _))))))))))))) ?_
    refine ow_guard_yes rfl rfl rfl ?_
    refine ow_val (val_move rfl) rfl ?_
    refine ow_guard_yes rfl rfl rfl ?_
    refine ow_call_pure (v := .agg ((lg 2 (seg LL 0 4)).map vU8).toArray) (callsToVal (cap := [vPtr b4]) rfl Tryd.func23 rfl (by kernel_rfl) rfl) rfl (fun w hm => fixd_any LL hLd hLf (by omega) a36 c36 hle36 b4 0 4 (by decide) (by rw [hLn]; decide) w (hm.at (i := 7) rfl) (hrd36 _ (hm.heldSub (.cons _ (.cons _ (.cons _ (.cons _ (.cons _ (.cons _ (.cons _ (.cons _ (.cons _ (List.Sublist.refl _))))))))))))) ?_
    refine ow_guard_yes rfl rfl rfl ?_
    refine ow_make (acts_buildSlice (cs := [((lg 2 (seg LL 4 6))).map vU8, ((lg 2 (seg LL 6 7))).map vU8, ((lg 2 (seg LL 0 4))).map vU8].flatten) Tryd.underlying22 Tryd.sizeOf41 zD rfl rfl (fill_aggs [((lg 2 (seg LL 4 6))).map vU8, ((lg 2 (seg LL 6 7))).map vU8, ((lg 2 (seg LL 0 4))).map vU8] (by decide) rfl (by simp only [List.forall_mem_cons, List.length_map]; exact ⟨(lg_len h2 _ rfl (by assumption)), (lg_len h2 _ rfl (by assumption)), (lg_len h2 _ rfl (by assumption)), fun _ h => by cases h⟩))) rfl (fun b115 hb115 => ?_)
    refine ow_guard_yes rfl rfl rfl ?_
    refine ow_call_pure (v := .bool true) (callsTo Tryd.func18 rfl (by kernel_rfl) rfl) rfl (fun w hm => same_is w a58 JQb.length c58 JQb rfl hdJQb (hr58.rdAt hm (i := 4) rfl) hr58.le (by omega) (some ⟨b115, 0, none⟩) 3 3 [(lg 2 (seg LL 4 6)), (lg 2 (seg LL 6 7)), (lg 2 (seg LL 0 4))] rfl (by simp only [List.forall_mem_cons]; exact ⟨(lg_len h2 _ rfl (by assumption)), (lg_len h2 _ rfl (by assumption)), (lg_len h2 _ rfl (by assumption)), fun _ h => by cases h⟩) (Rd.blk (hm.at (i := 0) rfl)) (Nat.le_refl _) (by decide) (decide_eq_true hJQb.symm)) ?_
    refine ow_guard_yes rfl rfl rfl ?_
    refine ow_val (val_not rfl) rfl ?_
    refine ow_val (val_pick_false rfl rfl) rfl ?_
    refine ow_nil (into ?_)
    refine sw_false rfl rfl ?_
    refine sw_skip (into ?_)
    refine sw_seq ?_
    refine sw_region ?_
    refine ow_call_pure (v := .tuple #[.slice none 0 0, vInt ((5 : Nat) : Int)]) (callsTo Tryd.func16 rfl (by kernel_rfl) rfl) rfl (fun w hm => incl_nil_ok 0 1 w (by decide)) ?_
    refine ow_val (val_move rfl) rfl ?_
    refine ow_val (val_extract rfl rfl) rfl ?_
    refine ow_val (val_extract rfl rfl) rfl ?_
    refine ow_val (val_assign rfl) rfl ?_
    refine ow_nil (into ?_)
    refine sw_seq ?_
    refine sw_region ?_
    refine ow_call_pure (v := .tuple #[.slice none 0 0, vInt ((4 : Nat) : Int)]) (callsTo Tryd.func16 rfl (by kernel_rfl) rfl) rfl (fun w hm => incl_nil_no 1 1 w (by decide)) ?_
    refine ow_val (val_move rfl) rfl ?_
    refine ow_val (val_extract rfl rfl) rfl ?_
    refine ow_val (val_extract rfl rfl) rfl ?_
    refine ow_val (val_assign rfl) rfl ?_
    refine ow_nil (into ?_)
    refine sw_seq ?_
    refine sw_region ?_
    refine ow_call_pure (v := .tuple #[.slice none 0 0, vInt ((5 : Nat) : Int)]) (callsTo Tryd.func19 rfl (by kernel_rfl) rfl) rfl (fun w hm => cons_nil_ok 1 1 w (by decide)) ?_
    refine ow_val (val_move rfl) rfl ?_
    refine ow_val (val_extract rfl rfl) rfl ?_
    refine ow_val (val_extract rfl rfl) rfl ?_
    refine ow_val (val_assign rfl) rfl ?_
    refine ow_nil (into ?_)
    refine sw_seq ?_
    refine sw_region ?_
    refine ow_call_pure (v := .tuple #[.slice none 0 0, vInt ((4 : Nat) : Int)]) (callsTo Tryd.func19 rfl (by kernel_rfl) rfl) rfl (fun w hm => cons_nil_no 2 1 w (by decide)) ?_
    refine ow_val (val_move rfl) rfl ?_
    refine ow_val (val_extract rfl rfl) rfl ?_
    refine ow_val (val_extract rfl rfl) rfl ?_
    refine ow_val (val_assign rfl) rfl ?_
    refine ow_nil (into ?_)
    refine sw_seq ?_
    refine sw_seq ?_
    refine sw_region ?_
    refine ow_val (val_move rfl) rfl ?_
    refine ow_val ((val_neq_int rfl rfl).to (v' := .bool false) (congrArg Value.bool (decide_eq_false (fun h => h (by simp))))) rfl ?_
    refine ow_val (val_move rfl) rfl ?_
    refine ow_guard_yes rfl rfl rfl ?_
    refine ow_val (val_move rfl) rfl ?_
    refine ow_guard_yes rfl rfl rfl ?_
    refine ow_val ((val_neq_int rfl rfl).to (v' := .bool false) (congrArg Value.bool (decide_eq_false (fun h => h (by simp))))) rfl ?_
    refine ow_val (val_pick_false rfl rfl) rfl ?_
    refine ow_val (val_move rfl) rfl ?_
    refine ow_guard_yes rfl rfl rfl ?_
    refine ow_val (val_move rfl) rfl ?_
    refine ow_guard_yes rfl rfl rfl ?_
    refine ow_val ((val_neq_int rfl rfl).to (v' := .bool false) (congrArg Value.bool (decide_eq_false (fun h => h (by simp))))) rfl ?_
    refine ow_val (val_pick_false rfl rfl) rfl ?_
    refine ow_val (val_move rfl) rfl ?_
    refine ow_guard_yes rfl rfl rfl ?_
    refine ow_val (val_move rfl) rfl ?_
    refine ow_guard_yes rfl rfl rfl ?_
    refine ow_val ((val_neq_int rfl rfl).to (v' := .bool false) (congrArg Value.bool (decide_eq_false (fun h => h (by simp))))) rfl ?_
    refine ow_val (val_pick_false rfl rfl) rfl ?_
    refine ow_nil (into ?_)
    refine sw_false rfl rfl ?_
    refine sw_skip (into ?_)
    refine sw_seq ?_
    refine sw_region ?_
    refine ow_val (val_move rfl) rfl ?_
    refine ow_call_pure (v := .tuple #[.slice none 0 0, vInt ((4 : Nat) : Int)]) (callsTo Tryd.func16 rfl (by kernel_rfl) rfl) rfl (fun w hm => incl_noU 2 b36 LL 0 8 w (htr36.is (hm.heldSub (.cons _ (.cons _ (.cons _ (.cons _ (.cons _ (.cons _ (.cons _ (.cons _ (.cons _ (.cons _ (List.Sublist.refl _))))))))))))) (by omega) (by rw [hLn]; decide)) ?_
    refine ow_val (val_move rfl) rfl ?_
    refine ow_val (val_extract rfl rfl) rfl ?_
    refine ow_val (val_extract rfl rfl) rfl ?_
    refine ow_val (val_assign rfl) rfl ?_
    refine ow_nil (into ?_)
    refine sw_seq ?_
    refine sw_region ?_
    refine ow_val (val_move rfl) rfl ?_
    refine ow_call_pure (v := .tuple #[.slice none 0 0, vInt ((4 : Nat) : Int)]) (callsTo Tryd.func19 rfl (by kernel_rfl) rfl) rfl (fun w hm => cons_noU 2 b36 LL 0 8 w (htr36.is (hm.heldSub (.cons _ (.cons _ (.cons _ (.cons _ (.cons _ (.cons _ (.cons _ (.cons _ (.cons _ (.cons _ (List.Sublist.refl _))))))))))))) (by omega) (by rw [hLn]; decide)) ?_
    refine ow_val (val_move rfl) rfl ?_
    refine ow_val (val_extract rfl rfl) rfl ?_
    refine ow_val (val_extract rfl rfl) rfl ?_
    refine ow_val (val_assign rfl) rfl ?_
    refine ow_nil (into ?_)
    refine sw_seq ?_
    refine sw_region ?_
    refine ow_val (val_move rfl) rfl ?_
    refine ow_call_pure (v := .tuple #[.slice none 0 0, vInt ((4 : Nat) : Int)]) (callsTo Tryd.func16 rfl (by kernel_rfl) rfl) rfl (fun w hm => incl_noU 2 b36 LL 0 0 w (htr36.is (hm.heldSub (.cons _ (.cons _ (.cons _ (.cons _ (.cons _ (.cons _ (.cons _ (.cons _ (.cons _ (.cons _ (List.Sublist.refl _))))))))))))) (by omega) (fun h => absurd h.1 (by decide))) ?_
    refine ow_val (val_move rfl) rfl ?_
    refine ow_val (val_extract rfl rfl) rfl ?_
    refine ow_val (val_extract rfl rfl) rfl ?_
    refine ow_val (val_assign rfl) rfl ?_
    refine ow_nil (into ?_)
    refine sw_seq ?_
    refine sw_region ?_
    refine ow_val (val_move rfl) rfl ?_
    refine ow_call_row2 (E := 41) (size := 32) (k := (([] : List (List UInt8))).length) (xs := List.flatMap (fun d : List UInt8 => List.map vU8 d) (([] : List (List UInt8)))) (x := vInt ((0 : Nat) : Int)) (callsTo Tryd.func19 rfl (by kernel_rfl) rfl) rfl (fun w hm => cons_okU 2 h1 h2 b36 LL (by assumption) (by assumption) (by omega) 0 0 w (hK.mem0 hm) (htr36.is (hm.heldSub (.cons _ (.cons _ (.cons _ (.cons _ (.cons _ (.cons _ (.cons _ (.cons _ (.cons _ (.cons _ (List.Sublist.refl _))))))))))))) hz0 _ hez) (fun a166 c166 e166 hr166 => ?_)
    refine ow_val (val_move rfl) rfl ?_
    refine ow_val (val_extract rfl rfl) rfl ?_
    refine ow_val (val_extract rfl rfl) rfl ?_
    refine ow_val (val_assign rfl) rfl ?_
    refine ow_val (val_assign rfl) rfl ?_
    refine ow_nil (into ?_)
    refine sw_seq ?_
    refine sw_region ?_
    refine ow_call_pure (v := .tuple #[vInt ((63 : Nat) : Int), vInt ((64 : Nat) : Int), vInt ((0 : Nat) : Int)]) (callsTo Tryd.func21 rfl (by kernel_rfl) rfl) rfl (fun w hm => (by have h := counts_any 18446744073709551614 18446744073709551614 18446744073709551615 w; rw [cntA] at h; exact h)) ?_
    refine ow_val (val_move rfl) rfl ?_
    refine ow_val (val_extract rfl rfl) rfl ?_
    refine ow_val (val_extract rfl rfl) rfl ?_
    refine ow_val (val_extract rfl rfl) rfl ?_
    refine ow_val (val_assign rfl) rfl ?_
    refine ow_val (val_assign rfl) rfl ?_
    refine ow_val (val_assign rfl) rfl ?_
    refine ow_nil (into ?_)
    refine sw_seq ?_
    refine sw_region ?_
    refine ow_call_pure (v := .tuple #[vInt ((63 : Nat) : Int), vInt ((63 : Nat) : Int), vInt ((0 : Nat) : Int)]) (callsTo Tryd.func21 rfl (by kernel_rfl) rfl) rfl (fun w hm => (by have h := counts_any 0 1 9223372036854775808 w; rw [cntB] at h; exact h)) ?_
    refine ow_val (val_move rfl) rfl ?_
    refine ow_val (val_extract rfl rfl) rfl ?_
    refine ow_val (val_extract rfl rfl) rfl ?_
    refine ow_val (val_extract rfl rfl) rfl ?_
    refine ow_val (val_assign rfl) rfl ?_
    refine ow_val (val_assign rfl) rfl ?_
    refine ow_val (val_assign rfl) rfl ?_
    refine ow_nil (into ?_)
    refine sw_seq ?_
    refine sw_region ?_
    refine ow_val (val_move rfl) rfl ?_
    refine ow_val ((val_eql_int rfl rfl).to (v' := .bool true) (congrArg Value.bool (decide_eq_true (by simp)))) rfl ?_
    refine ow_val (val_move rfl) rfl ?_
    refine ow_guard_yes rfl rfl rfl ?_
    refine ow_val (val_move rfl) rfl ?_
    refine ow_guard_yes rfl rfl rfl ?_
    refine ow_val ((val_eql_int rfl rfl).to (v' := .bool true) (congrArg Value.bool (decide_eq_true (by simp)))) rfl ?_
    refine ow_val (val_pick_true rfl rfl) rfl ?_
    refine ow_val (val_move rfl) rfl ?_
    refine ow_guard_yes rfl rfl rfl ?_
    refine ow_val (val_move rfl) rfl ?_
    refine ow_guard_yes rfl rfl rfl ?_
    refine ow_val ((val_eql_int rfl rfl).to (v' := .bool true) (congrArg Value.bool (decide_eq_true (by simp)))) rfl ?_
    refine ow_val (val_pick_true rfl rfl) rfl ?_
    refine ow_val (val_move rfl) rfl ?_
    refine ow_guard_yes rfl rfl rfl ?_
    refine ow_val (val_move rfl) rfl ?_
    refine ow_guard_yes rfl rfl rfl ?_
    refine ow_val ((val_eql_int rfl rfl).to (v' := .bool true) (congrArg Value.bool (decide_eq_true (by simp)))) rfl ?_
    refine ow_val (val_pick_true rfl rfl) rfl ?_
    refine ow_val (val_move rfl) rfl ?_
    refine ow_guard_yes rfl rfl rfl ?_
    refine ow_val (val_move rfl) rfl ?_
    refine ow_guard_yes rfl rfl rfl ?_
    refine ow_val (val_len rfl Tryd.underlying22) rfl ?_
    refine ow_guard_yes rfl rfl rfl ?_
    refine ow_val ((val_eql_int rfl rfl).to (congrArg Value.bool (decide_eq_true (rfl)))) rfl ?_
    refine ow_val (val_pick_true rfl rfl) rfl ?_
    refine ow_val (val_move rfl) rfl ?_
    refine ow_guard_yes rfl rfl rfl ?_
    refine ow_val (val_move rfl) rfl ?_
    refine ow_guard_yes rfl rfl rfl ?_
    refine ow_val ((val_eql_int rfl rfl).to (v' := .bool true) (congrArg Value.bool (decide_eq_true (by simp)))) rfl ?_
    refine ow_val (val_pick_true rfl rfl) rfl ?_
    refine ow_val (val_move rfl) rfl ?_
    refine ow_guard_yes rfl rfl rfl ?_
    refine ow_val (val_move rfl) rfl ?_
    refine ow_guard_yes rfl rfl rfl ?_
    refine ow_val ((val_eql_int rfl rfl).to (v' := .bool true) (congrArg Value.bool (decide_eq_true rfl))) rfl ?_
    refine ow_val (val_pick_true rfl rfl) rfl ?_
    refine ow_val (val_move rfl) rfl ?_
    refine ow_guard_yes rfl rfl rfl ?_
    refine ow_val (val_move rfl) rfl ?_
    refine ow_guard_yes rfl rfl rfl ?_
    refine ow_val ((val_eql_int rfl rfl).to (v' := .bool true) (congrArg Value.bool (decide_eq_true rfl))) rfl ?_
    refine ow_val (val_pick_true rfl rfl) rfl ?_
    refine ow_val (val_move rfl) rfl ?_
    refine ow_guard_yes rfl rfl rfl ?_
    refine ow_val (val_move rfl) rfl ?_
    refine ow_guard_yes rfl rfl rfl ?_
    refine ow_val ((val_eql_int rfl rfl).to (v' := .bool true) (congrArg Value.bool (decide_eq_true (by simp)))) rfl ?_
    refine ow_val (val_pick_true rfl rfl) rfl ?_
    refine ow_val (val_move rfl) rfl ?_
    refine ow_guard_yes rfl rfl rfl ?_
    refine ow_val (val_move rfl) rfl ?_
    refine ow_guard_yes rfl rfl rfl ?_
    refine ow_val ((val_eql_int rfl rfl).to (v' := .bool true) (congrArg Value.bool (decide_eq_true rfl))) rfl ?_
    refine ow_val (val_pick_true rfl rfl) rfl ?_
    refine ow_val (val_move rfl) rfl ?_
    refine ow_guard_yes rfl rfl rfl ?_
    refine ow_val (val_move rfl) rfl ?_
    refine ow_guard_yes rfl rfl rfl ?_
    refine ow_val ((val_eql_int rfl rfl).to (v' := .bool true) (congrArg Value.bool (decide_eq_true rfl))) rfl ?_
    refine ow_val (val_pick_true rfl rfl) rfl ?_
    refine ow_val (val_assign rfl) rfl ?_
    refine ow_nil (into ?_)
    exact sw_ret (fun w hm => ret_one _ rfl rfl ⟨rfl, hm.forgetAll⟩)
end Go.Proofs.YtcdponddgnkecaaDoor
