import Derived.Test.YtcdponddgnkecaaDoorSxL
import Derived.Test.YtcdponddgnkecaaDoorPMck
import Derived.Test.YtcdponddgnkecaaDoorProg
set_option linter.unusedVariables false
set_option linter.unusedSimpArgs false
namespace Go.Proofs.YtcdponddgnkecaaDoor
open Go.Sx Go.Ps
def len8S : ByteArray := ⟨#[0, 1, 2, 2, 3, 3, 3, 3, 4, 4, 4, 4, 4, 4, 4, 4, 5, 5, 5, 5, 5, 5, 5, 5, 5, 5, 5, 5, 5, 5, 5, 5, 6, 6, 6, 6, 6, 6, 6, 6, 6, 6, 6, 6, 6, 6, 6, 6, 6, 6, 6, 6, 6, 6, 6, 6, 6, 6, 6, 6, 6, 6, 6, 6, 7, 7, 7, 7, 7, 7, 7, 7, 7, 7, 7, 7, 7, 7, 7, 7, 7, 7, 7, 7, 7, 7, 7, 7, 7, 7, 7, 7, 7, 7, 7, 7, 7, 7, 7, 7, 7, 7, 7, 7, 7, 7, 7, 7, 7, 7, 7, 7, 7, 7, 7, 7, 7, 7, 7, 7, 7, 7, 7, 7, 7, 7, 7, 7, 8, 8, 8, 8, 8, 8, 8, 8, 8, 8, 8, 8, 8, 8, 8, 8, 8, 8, 8, 8, 8, 8, 8, 8, 8, 8, 8, 8, 8, 8, 8, 8, 8, 8, 8, 8, 8, 8, 8, 8, 8, 8, 8, 8, 8, 8, 8, 8, 8, 8, 8, 8, 8, 8, 8, 8, 8, 8, 8, 8, 8, 8, 8, 8, 8, 8, 8, 8, 8, 8, 8, 8, 8, 8, 8, 8, 8, 8, 8, 8, 8, 8, 8, 8, 8, 8, 8, 8, 8, 8, 8, 8, 8, 8, 8, 8, 8, 8, 8, 8, 8, 8, 8, 8, 8, 8, 8, 8, 8, 8, 8, 8, 8, 8, 8, 8, 8, 8, 8, 8, 8, 8, 8, 8, 8, 8, 8, 8]⟩
theorem len8_get : ∀ j, j < 256 → len8S.data[j]? = some (UInt8.ofNat (len64 j)) := by decide +kernel
theorem len8_is {y : UInt64} (h : y.toNat < 256) : len8S.data[y.toUInt8.toNat]? = some (UInt8.ofNat (len64 y.toNat)) := by
  have h1 : y.toUInt8.toNat = y.toNat := by rw [UInt64.toNat_toUInt8]; omega
  rw [h1]; exact len8_get _ h
theorem len8_val {y : UInt64} (h : y.toNat < 256) : (UInt8.ofNat (len64 y.toNat)).toNat = len64 y.toNat := by
  have h1 := len64_le y
  rw [UInt8.toNat_ofNat']; omega

theorem len64_any (x : UInt64) (w : World) : Calls Tryd.prog 76 #[vU64 x] w fun e w' => ∃ v, e = .returned v ∧ v = vInt ((len64 x.toNat : Nat) : Int) ∧ Mem w [] [] w' := by
  have hx := x.toNat_lt
  refine calls_of_sw (vs := [vU64 x]) Tryd.func76 rfl Tryd.ntmps76 rfl (SW.begin ?_)
  refine sw_seq ?_
  refine sw_region ?_
  refine ow_val (val_assign rfl) rfl ?_
  refine ow_nil (into ?_)
  refine sw_seq ?_
  refine sw_seq ?_
  refine sw_region ?_
  refine ow_val (val_move rfl) rfl ?_
  refine ow_val (val_geq_u64 rfl rfl) rfl ?_
  refine ow_nil (into ?_)
  refine sw_if rfl (fun ha => ?_) (fun ha => ?_)
  · -- then
    have hLa := len64_step (x := UInt64.toNat x) (s := 32) (UInt64.le_iff_toNat_le.1 ha)
    rw [← shr_nat (x := x) (s := 32) (by decide)] at hLa
    have hBa : UInt64.toNat (x >>> UInt64.ofNat 32) < 2 ^ 32 := by rw [shr_nat (by decide)]; omega
    refine sw_seq ?_
    refine sw_region ?_
    refine ow_val (val_move rfl) rfl ?_
    refine ow_val (val_shr_u64 (32) rfl rfl (by first | rfl | omega) (by omega)) rfl ?_
    refine ow_val (val_assign rfl) rfl ?_
    refine ow_nil (into ?_)
    refine sw_region ?_
    refine ow_val (val_assign rfl) rfl ?_
    refine ow_nil (into ?_)
    refine sw_seq ?_
    refine sw_seq ?_
    refine sw_region ?_
    refine ow_val (val_move rfl) rfl ?_
    refine ow_val (val_geq_u64 rfl rfl) rfl ?_
    refine ow_nil (into ?_)
    refine sw_if rfl (fun hb => ?_) (fun hb => ?_)
    · -- then
      have hLb := len64_step (x := UInt64.toNat (x >>> UInt64.ofNat 32)) (s := 16) (UInt64.le_iff_toNat_le.1 hb)
      rw [← shr_nat (x := (x >>> UInt64.ofNat 32)) (s := 16) (by decide)] at hLb
      have hBb : UInt64.toNat ((x >>> UInt64.ofNat 32) >>> UInt64.ofNat 16) < 2 ^ 16 := by rw [shr_nat (by decide)]; omega
      refine sw_seq ?_
      refine sw_region ?_
      refine ow_val (val_move rfl) rfl ?_
      refine ow_val (val_shr_u64 (16) rfl rfl (by first | rfl | omega) (by omega)) rfl ?_
      refine ow_val (val_assign rfl) rfl ?_
      refine ow_nil (into ?_)
      refine sw_region ?_
      refine ow_val (val_move rfl) rfl ?_
      refine ow_val (val_add_int ((48 : Nat) : Int) rfl rfl (by omega) (by omega)) rfl ?_
      refine ow_val (val_assign rfl) rfl ?_
      refine ow_nil (into ?_)
      refine sw_seq ?_
      refine sw_seq ?_
      refine sw_region ?_
      refine ow_val (val_move rfl) rfl ?_
      refine ow_val (val_geq_u64 rfl rfl) rfl ?_
      refine ow_nil (into ?_)
      refine sw_if rfl (fun hc => ?_) (fun hc => ?_)
      · -- then
        have hLc := len64_step (x := UInt64.toNat ((x >>> UInt64.ofNat 32) >>> UInt64.ofNat 16)) (s := 8) (UInt64.le_iff_toNat_le.1 hc)
        rw [← shr_nat (x := ((x >>> UInt64.ofNat 32) >>> UInt64.ofNat 16)) (s := 8) (by decide)] at hLc
        have hBc : UInt64.toNat (((x >>> UInt64.ofNat 32) >>> UInt64.ofNat 16) >>> UInt64.ofNat 8) < 2 ^ 8 := by rw [shr_nat (by decide)]; omega
        refine sw_seq ?_
        refine sw_region ?_
        refine ow_val (val_move rfl) rfl ?_
        refine ow_val (val_shr_u64 (8) rfl rfl (by first | rfl | omega) (by omega)) rfl ?_
        refine ow_val (val_assign rfl) rfl ?_
        refine ow_nil (into ?_)
        refine sw_region ?_
        refine ow_val (val_move rfl) rfl ?_
        refine ow_val (val_add_int ((56 : Nat) : Int) rfl rfl (by omega) (by omega)) rfl ?_
        refine ow_val (val_assign rfl) rfl ?_
        refine ow_nil (into ?_)
        refine sw_seq ?_
        refine sw_region ?_
        refine ow_val (val_move rfl) rfl ?_
        refine ow_val (val_move rfl) rfl ?_
        refine ow_val (val_conv_u64_u8 Tryd.underlying23 Tryd.underlying5 rfl) rfl ?_
        have h8 := (UInt8.ofNat (len64 (UInt64.toNat (((x >>> UInt64.ofNat 32) >>> UInt64.ofNat 16) >>> UInt64.ofNat 8)))).toNat_lt
        refine ow_val (val_index_string (s := len8S) (UInt64.toUInt8 (((x >>> UInt64.ofNat 32) >>> UInt64.ofNat 16) >>> UInt64.ofNat 8)).toNat rfl rfl Tryd.underlying9 rfl (len8_is (by omega))) rfl ?_
        refine ow_val (val_conv_u8_i64 Tryd.underlying5 Tryd.underlying3 rfl) rfl ?_
        refine ow_val (val_add_int ((56 + (UInt8.ofNat (len64 (UInt64.toNat (((x >>> UInt64.ofNat 32) >>> UInt64.ofNat 16) >>> UInt64.ofNat 8)))).toNat : Nat) : Int) rfl rfl (by omega) (by omega)) rfl ?_
        refine ow_val (val_assign rfl) rfl ?_
        refine ow_nil (into ?_)
        refine sw_ret (fun w hm => ?_)
        try dsimp only [thenP, blockP, Nat.beq, cond]
        exact ret_one _ rfl rfl ⟨congrArg vInt (by rw [len8_val (y := (((x >>> UInt64.ofNat 32) >>> UInt64.ofNat 16) >>> UInt64.ofNat 8)) (by omega)] <;> omega), hm⟩
      · -- else
        have hBc : UInt64.toNat ((x >>> UInt64.ofNat 32) >>> UInt64.ofNat 16) < 2 ^ 8 := Nat.lt_of_not_le fun h => hc (UInt64.le_iff_toNat_le.2 h)
        refine sw_skip (into ?_)
        refine sw_seq ?_
        refine sw_region ?_
        refine ow_val (val_move rfl) rfl ?_
        refine ow_val (val_move rfl) rfl ?_
        refine ow_val (val_conv_u64_u8 Tryd.underlying23 Tryd.underlying5 rfl) rfl ?_
        have h8 := (UInt8.ofNat (len64 (UInt64.toNat ((x >>> UInt64.ofNat 32) >>> UInt64.ofNat 16)))).toNat_lt
        refine ow_val (val_index_string (s := len8S) (UInt64.toUInt8 ((x >>> UInt64.ofNat 32) >>> UInt64.ofNat 16)).toNat rfl rfl Tryd.underlying9 rfl (len8_is (by omega))) rfl ?_
        refine ow_val (val_conv_u8_i64 Tryd.underlying5 Tryd.underlying3 rfl) rfl ?_
        refine ow_val (val_add_int ((48 + (UInt8.ofNat (len64 (UInt64.toNat ((x >>> UInt64.ofNat 32) >>> UInt64.ofNat 16)))).toNat : Nat) : Int) rfl rfl (by omega) (by omega)) rfl ?_
        refine ow_val (val_assign rfl) rfl ?_
        refine ow_nil (into ?_)
        refine sw_ret (fun w hm => ?_)
        try dsimp only [thenP, blockP, Nat.beq, cond]
        exact ret_one _ rfl rfl ⟨congrArg vInt (by rw [len8_val (y := ((x >>> UInt64.ofNat 32) >>> UInt64.ofNat 16)) (by omega)] <;> omega), hm⟩
    · -- else
      have hBb : UInt64.toNat (x >>> UInt64.ofNat 32) < 2 ^ 16 := Nat.lt_of_not_le fun h => hb (UInt64.le_iff_toNat_le.2 h)
      refine sw_skip (into ?_)
      refine sw_seq ?_
      refine sw_seq ?_
      refine sw_region ?_
      refine ow_val (val_move rfl) rfl ?_
      refine ow_val (val_geq_u64 rfl rfl) rfl ?_
      refine ow_nil (into ?_)
      refine sw_if rfl (fun hc => ?_) (fun hc => ?_)
      · -- then
        have hLc := len64_step (x := UInt64.toNat (x >>> UInt64.ofNat 32)) (s := 8) (UInt64.le_iff_toNat_le.1 hc)
        rw [← shr_nat (x := (x >>> UInt64.ofNat 32)) (s := 8) (by decide)] at hLc
        have hBc : UInt64.toNat ((x >>> UInt64.ofNat 32) >>> UInt64.ofNat 8) < 2 ^ 8 := by rw [shr_nat (by decide)]; omega
        refine sw_seq ?_
        refine sw_region ?_
        refine ow_val (val_move rfl) rfl ?_
        refine ow_val (val_shr_u64 (8) rfl rfl (by first | rfl | omega) (by omega)) rfl ?_
        refine ow_val (val_assign rfl) rfl ?_
        refine ow_nil (into ?_)
        refine sw_region ?_
        refine ow_val (val_move rfl) rfl ?_
        refine ow_val (val_add_int ((40 : Nat) : Int) rfl rfl (by omega) (by omega)) rfl ?_
        refine ow_val (val_assign rfl) rfl ?_
        refine ow_nil (into ?_)
        refine sw_seq ?_
        refine sw_region ?_
        refine ow_val (val_move rfl) rfl ?_
        refine ow_val (val_move rfl) rfl ?_
        refine ow_val (val_conv_u64_u8 Tryd.underlying23 Tryd.underlying5 rfl) rfl ?_
        have h8 := (UInt8.ofNat (len64 (UInt64.toNat ((x >>> UInt64.ofNat 32) >>> UInt64.ofNat 8)))).toNat_lt
        refine ow_val (val_index_string (s := len8S) (UInt64.toUInt8 ((x >>> UInt64.ofNat 32) >>> UInt64.ofNat 8)).toNat rfl rfl Tryd.underlying9 rfl (len8_is (by omega))) rfl ?_
        refine ow_val (val_conv_u8_i64 Tryd.underlying5 Tryd.underlying3 rfl) rfl ?_
        refine ow_val (val_add_int ((40 + (UInt8.ofNat (len64 (UInt64.toNat ((x >>> UInt64.ofNat 32) >>> UInt64.ofNat 8)))).toNat : Nat) : Int) rfl rfl (by omega) (by omega)) rfl ?_
        refine ow_val (val_assign rfl) rfl ?_
        refine ow_nil (into ?_)
        refine sw_ret (fun w hm => ?_)
        try dsimp only [thenP, blockP, Nat.beq, cond]
        exact ret_one _ rfl rfl ⟨congrArg vInt (by rw [len8_val (y := ((x >>> UInt64.ofNat 32) >>> UInt64.ofNat 8)) (by omega)] <;> omega), hm⟩
      · -- else
        have hBc : UInt64.toNat (x >>> UInt64.ofNat 32) < 2 ^ 8 := Nat.lt_of_not_le fun h => hc (UInt64.le_iff_toNat_le.2 h)
        refine sw_skip (into ?_)
        refine sw_seq ?_
        refine sw_region ?_
        refine ow_val (val_move rfl) rfl ?_
        refine ow_val (val_move rfl) rfl ?_
        refine ow_val (val_conv_u64_u8 Tryd.underlying23 Tryd.underlying5 rfl) rfl ?_
        have h8 := (UInt8.ofNat (len64 (UInt64.toNat (x >>> UInt64.ofNat 32)))).toNat_lt
        refine ow_val (val_index_string (s := len8S) (UInt64.toUInt8 (x >>> UInt64.ofNat 32)).toNat rfl rfl Tryd.underlying9 rfl (len8_is (by omega))) rfl ?_
        refine ow_val (val_conv_u8_i64 Tryd.underlying5 Tryd.underlying3 rfl) rfl ?_
        refine ow_val (val_add_int ((32 + (UInt8.ofNat (len64 (UInt64.toNat (x >>> UInt64.ofNat 32)))).toNat : Nat) : Int) rfl rfl (by omega) (by omega)) rfl ?_
        refine ow_val (val_assign rfl) rfl ?_
        refine ow_nil (into ?_)
        refine sw_ret (fun w hm => ?_)
        try dsimp only [thenP, blockP, Nat.beq, cond]
        exact ret_one _ rfl rfl ⟨congrArg vInt (by rw [len8_val (y := (x >>> UInt64.ofNat 32)) (by omega)] <;> omega), hm⟩
  · -- else
    have hBa : UInt64.toNat x < 2 ^ 32 := Nat.lt_of_not_le fun h => ha (UInt64.le_iff_toNat_le.2 h)
    refine sw_skip (into ?_)
    refine sw_seq ?_
    refine sw_seq ?_
    refine sw_region ?_
    refine ow_val (val_move rfl) rfl ?_
    refine ow_val (val_geq_u64 rfl rfl) rfl ?_
    refine ow_nil (into ?_)
    refine sw_if rfl (fun hb => ?_) (fun hb => ?_)
    · -- then
      have hLb := len64_step (x := UInt64.toNat x) (s := 16) (UInt64.le_iff_toNat_le.1 hb)
      rw [← shr_nat (x := x) (s := 16) (by decide)] at hLb
      have hBb : UInt64.toNat (x >>> UInt64.ofNat 16) < 2 ^ 16 := by rw [shr_nat (by decide)]; omega
      refine sw_seq ?_
      refine sw_region ?_
      refine ow_val (val_move rfl) rfl ?_
      refine ow_val (val_shr_u64 (16) rfl rfl (by first | rfl | omega) (by omega)) rfl ?_
      refine ow_val (val_assign rfl) rfl ?_
      refine ow_nil (into ?_)
      refine sw_region ?_
      refine ow_val (val_move rfl) rfl ?_
      refine ow_val (val_add_int ((16 : Nat) : Int) rfl rfl (by omega) (by omega)) rfl ?_
      refine ow_val (val_assign rfl) rfl ?_
      refine ow_nil (into ?_)
      refine sw_seq ?_
      refine sw_seq ?_
      refine sw_region ?_
      refine ow_val (val_move rfl) rfl ?_
      refine ow_val (val_geq_u64 rfl rfl) rfl ?_
      refine ow_nil (into ?_)
      refine sw_if rfl (fun hc => ?_) (fun hc => ?_)
      · -- then
        have hLc := len64_step (x := UInt64.toNat (x >>> UInt64.ofNat 16)) (s := 8) (UInt64.le_iff_toNat_le.1 hc)
        rw [← shr_nat (x := (x >>> UInt64.ofNat 16)) (s := 8) (by decide)] at hLc
        have hBc : UInt64.toNat ((x >>> UInt64.ofNat 16) >>> UInt64.ofNat 8) < 2 ^ 8 := by rw [shr_nat (by decide)]; omega
        refine sw_seq ?_
        refine sw_region ?_
        refine ow_val (val_move rfl) rfl ?_
        refine ow_val (val_shr_u64 (8) rfl rfl (by first | rfl | omega) (by omega)) rfl ?_
        refine ow_val (val_assign rfl) rfl ?_
        refine ow_nil (into ?_)
        refine sw_region ?_
        refine ow_val (val_move rfl) rfl ?_
        refine ow_val (val_add_int ((24 : Nat) : Int) rfl rfl (by omega) (by omega)) rfl ?_
        refine ow_val (val_assign rfl) rfl ?_
        refine ow_nil (into ?_)
        refine sw_seq ?_
        refine sw_region ?_
        refine ow_val (val_move rfl) rfl ?_
        refine ow_val (val_move rfl) rfl ?_
        refine ow_val (val_conv_u64_u8 Tryd.underlying23 Tryd.underlying5 rfl) rfl ?_
        have h8 := (UInt8.ofNat (len64 (UInt64.toNat ((x >>> UInt64.ofNat 16) >>> UInt64.ofNat 8)))).toNat_lt
        refine ow_val (val_index_string (s := len8S) (UInt64.toUInt8 ((x >>> UInt64.ofNat 16) >>> UInt64.ofNat 8)).toNat rfl rfl Tryd.underlying9 rfl (len8_is (by omega))) rfl ?_
        refine ow_val (val_conv_u8_i64 Tryd.underlying5 Tryd.underlying3 rfl) rfl ?_
        refine ow_val (val_add_int ((24 + (UInt8.ofNat (len64 (UInt64.toNat ((x >>> UInt64.ofNat 16) >>> UInt64.ofNat 8)))).toNat : Nat) : Int) rfl rfl (by omega) (by omega)) rfl ?_
        refine ow_val (val_assign rfl) rfl ?_
        refine ow_nil (into ?_)
        refine sw_ret (fun w hm => ?_)
        try dsimp only [thenP, blockP, Nat.beq, cond]
        exact ret_one _ rfl rfl ⟨congrArg vInt (by rw [len8_val (y := ((x >>> UInt64.ofNat 16) >>> UInt64.ofNat 8)) (by omega)] <;> omega), hm⟩
      · -- else
        have hBc : UInt64.toNat (x >>> UInt64.ofNat 16) < 2 ^ 8 := Nat.lt_of_not_le fun h => hc (UInt64.le_iff_toNat_le.2 h)
        refine sw_skip (into ?_)
        refine sw_seq ?_
        refine sw_region ?_
        refine ow_val (val_move rfl) rfl ?_
        refine ow_val (val_move rfl) rfl ?_
        refine ow_val (val_conv_u64_u8 Tryd.underlying23 Tryd.underlying5 rfl) rfl ?_
        have h8 := (UInt8.ofNat (len64 (UInt64.toNat (x >>> UInt64.ofNat 16)))).toNat_lt
        refine ow_val (val_index_string (s := len8S) (UInt64.toUInt8 (x >>> UInt64.ofNat 16)).toNat rfl rfl Tryd.underlying9 rfl (len8_is (by omega))) rfl ?_
        refine ow_val (val_conv_u8_i64 Tryd.underlying5 Tryd.underlying3 rfl) rfl ?_
        refine ow_val (val_add_int ((16 + (UInt8.ofNat (len64 (UInt64.toNat (x >>> UInt64.ofNat 16)))).toNat : Nat) : Int) rfl rfl (by omega) (by omega)) rfl ?_
        refine ow_val (val_assign rfl) rfl ?_
        refine ow_nil (into ?_)
        refine sw_ret (fun w hm => ?_)
        try dsimp only [thenP, blockP, Nat.beq, cond]
        exact ret_one _ rfl rfl ⟨congrArg vInt (by rw [len8_val (y := (x >>> UInt64.ofNat 16)) (by omega)] <;> omega), hm⟩
    · -- else
      have hBb : UInt64.toNat x < 2 ^ 16 := Nat.lt_of_not_le fun h => hb (UInt64.le_iff_toNat_le.2 h)
      refine sw_skip (into ?_)
      refine sw_seq ?_
      refine sw_seq ?_
      refine sw_region ?_
      refine ow_val (val_move rfl) rfl ?_
      refine ow_val (val_geq_u64 rfl rfl) rfl ?_
      refine ow_nil (into ?_)
      refine sw_if rfl (fun hc => ?_) (fun hc => ?_)
      · -- then
        have hLc := len64_step (x := UInt64.toNat x) (s := 8) (UInt64.le_iff_toNat_le.1 hc)
        rw [← shr_nat (x := x) (s := 8) (by decide)] at hLc
        have hBc : UInt64.toNat (x >>> UInt64.ofNat 8) < 2 ^ 8 := by rw [shr_nat (by decide)]; omega
        refine sw_seq ?_
        refine sw_region ?_
        refine ow_val (val_move rfl) rfl ?_
        refine ow_val (val_shr_u64 (8) rfl rfl (by first | rfl | omega) (by omega)) rfl ?_
        refine ow_val (val_assign rfl) rfl ?_
        refine ow_nil (into ?_)
        refine sw_region ?_
        refine ow_val (val_move rfl) rfl ?_
        refine ow_val (val_add_int ((8 : Nat) : Int) rfl rfl (by omega) (by omega)) rfl ?_
        refine ow_val (val_assign rfl) rfl ?_
        refine ow_nil (into ?_)
        refine sw_seq ?_
        refine sw_region ?_
        refine ow_val (val_move rfl) rfl ?_
        refine ow_val (val_move rfl) rfl ?_
        refine ow_val (val_conv_u64_u8 Tryd.underlying23 Tryd.underlying5 rfl) rfl ?_
        have h8 := (UInt8.ofNat (len64 (UInt64.toNat (x >>> UInt64.ofNat 8)))).toNat_lt
        refine ow_val (val_index_string (s := len8S) (UInt64.toUInt8 (x >>> UInt64.ofNat 8)).toNat rfl rfl Tryd.underlying9 rfl (len8_is (by omega))) rfl ?_
        refine ow_val (val_conv_u8_i64 Tryd.underlying5 Tryd.underlying3 rfl) rfl ?_
        refine ow_val (val_add_int ((8 + (UInt8.ofNat (len64 (UInt64.toNat (x >>> UInt64.ofNat 8)))).toNat : Nat) : Int) rfl rfl (by omega) (by omega)) rfl ?_
        refine ow_val (val_assign rfl) rfl ?_
        refine ow_nil (into ?_)
        refine sw_ret (fun w hm => ?_)
        try dsimp only [thenP, blockP, Nat.beq, cond]
        exact ret_one _ rfl rfl ⟨congrArg vInt (by rw [len8_val (y := (x >>> UInt64.ofNat 8)) (by omega)] <;> omega), hm⟩
      · -- else
        have hBc : UInt64.toNat x < 2 ^ 8 := Nat.lt_of_not_le fun h => hc (UInt64.le_iff_toNat_le.2 h)
        refine sw_skip (into ?_)
        refine sw_seq ?_
        refine sw_region ?_
        refine ow_val (val_move rfl) rfl ?_
        refine ow_val (val_move rfl) rfl ?_
        refine ow_val (val_conv_u64_u8 Tryd.underlying23 Tryd.underlying5 rfl) rfl ?_
        have h8 := (UInt8.ofNat (len64 (UInt64.toNat x))).toNat_lt
        refine ow_val (val_index_string (s := len8S) (UInt64.toUInt8 x).toNat rfl rfl Tryd.underlying9 rfl (len8_is (by omega))) rfl ?_
        refine ow_val (val_conv_u8_i64 Tryd.underlying5 Tryd.underlying3 rfl) rfl ?_
        refine ow_val (val_add_int (((UInt8.ofNat (len64 (UInt64.toNat x))).toNat : Nat) : Int) rfl rfl (by omega) (by omega)) rfl ?_
        refine ow_val (val_assign rfl) rfl ?_
        refine ow_nil (into ?_)
        exact sw_ret (fun w hm => ret_one _ rfl rfl ⟨congrArg vInt (by rw [len8_val (y := x) (by omega)] <;> omega), hm⟩)

theorem pbelow_any (n : UInt64) (hn2 : 2 ≤ n.toNat) (w : World) : Calls Tryd.prog 45 #[vU64 n] w fun e w' => ∃ v, e = .returned v ∧ v = vU64 (splitU n) ∧ Mem w [] [] w' := by
  have hle := len64_le (n - UInt64.ofNat (Int.toNat 1))
  have hge : 1 ≤ len64 (n - UInt64.ofNat (Int.toNat 1)).toNat := by
    have h1 : (n - UInt64.ofNat (Int.toNat 1)).toNat = n.toNat - 1 := UInt64.toNat_sub_of_le _ _ (UInt64.le_iff_toNat_le.2 (show 1 ≤ n.toNat by omega))
    unfold len64; rw [if_neg (by omega)]; omega
  refine calls_of_sw (vs := [vU64 n]) Tryd.func45 rfl Tryd.ntmps45 rfl (SW.begin ?_)
  refine sw_seq ?_
  refine sw_region ?_
  refine ow_val (val_assign rfl) rfl ?_
  refine ow_nil (into ?_)
  refine sw_seq ?_
  refine sw_region ?_
  refine ow_val (val_move rfl) rfl ?_
  refine ow_val (val_sub_u64 rfl rfl) rfl ?_
  refine ow_call_pure (callsTo Tryd.func76 rfl (by kernel_rfl) rfl) rfl (fun w hm => len64_any (n - UInt64.ofNat (Int.toNat 1)) w) ?_
  refine ow_val (val_sub_int ((len64 (n - UInt64.ofNat (Int.toNat 1)).toNat - 1 : Nat) : Int) rfl rfl (by omega) (by omega)) rfl ?_
  refine ow_val ((val_shl_u64 (len64 (n - UInt64.ofNat (Int.toNat 1)).toNat - 1) rfl rfl rfl (by omega)).to (congrArg vU64 (below_eq hn2))) rfl ?_
  refine ow_val (val_assign rfl) rfl ?_
  refine ow_nil (into ?_)
  exact sw_ret (fun w hm => ret_one _ rfl rfl ⟨rfl, hm⟩)

theorem steps_any (i n : UInt64) (w : World) : Calls Tryd.prog 50 #[vU64 i, vU64 n] w fun e w' => ∃ v, e = .returned v ∧ v = vInt (((splitsL i n).length : Nat) : Int) ∧ Mem w [] [] w' := by
  refine calls_of_sw (vs := [vU64 i, vU64 n]) Tryd.func50 rfl Tryd.ntmps50 rfl (SW.begin ?_)
  refine sw_seq ?_
  refine sw_region ?_
  refine ow_val (val_assign rfl) rfl ?_
  refine ow_nil (into ?_)
  refine sw_seq ?_
  refine sw_region ?_
  refine ow_val (val_assign rfl) rfl ?_
  refine ow_nil (into ?_)
  refine sw_seq ?_
  refine sw_block ?_
  refine sw_loop (σ := UInt64 × UInt64 × Nat) (fun t => t.2.2 + (splitsL t.1 t.2.1).length = (splitsL i n).length) (fun t => [(5, vInt (t.2.2 : Int)), (1, vU64 t.2.1), (0, vU64 t.1)]) (fun _ => Mem w [] []) (fun t => t.2.1.toNat) (i, n, 0) (Nat.zero_add _) ⟨rfl, rfl, rfl, trivial⟩ (fun w hm => hm) ?_
  rintro ⟨x, y, c⟩ hsum
  simp only at hsum ⊢
  have hyl := y.toNat_lt
  refine sw_seq ?_
  refine sw_seq ?_
  refine sw_region ?_
  refine ow_val (val_move rfl) rfl ?_
  refine ow_val (val_gtr_u64 rfl rfl) rfl ?_
  refine ow_nil (into ?_)
  refine sw_if rfl (fun h0 => ?_) (fun h0 => ?_)
  · -- then
    have hy2 : 2 ≤ y.toNat := UInt64.lt_iff_toNat_lt.1 h0
    obtain ⟨v, hsv⟩ : ∃ v, splitU y = v := ⟨_, rfl⟩
    have hsl := split_lt hy2
    rw [hsv] at hsl
    have hcl := splitsL_len 64 i n (Nat.le_of_lt n.toNat_lt)
    refine sw_skip (into ?_)
    refine sw_block ?_
    refine sw_seq ?_
    refine sw_region ?_
    refine ow_val (val_move rfl) rfl ?_
    refine ow_call_pure (v := vU64 v) (callsTo Tryd.func45 rfl (by kernel_rfl) rfl) rfl (fun w hm => (by have h := pbelow_any y hy2 w; rw [hsv] at h; exact h)) ?_
    refine ow_val (val_assign rfl) rfl ?_
    refine ow_nil (into ?_)
    refine sw_seq ?_
    refine sw_seq ?_
    refine sw_region ?_
    refine ow_val (val_move rfl) rfl ?_
    refine ow_val (val_move rfl) rfl ?_
    refine ow_val (val_lss_u64 rfl rfl) rfl ?_
    refine ow_nil (into ?_)
    refine sw_if rfl (fun hlt => ?_) (fun hlt => ?_)
    · -- then
      skip
      refine sw_region ?_
      refine ow_val (val_move rfl) rfl ?_
      refine ow_val (val_assign rfl) rfl ?_
      refine ow_nil (into ?_)
      refine sw_region ?_
      refine ow_val (val_move rfl) rfl ?_
      refine ow_val (val_add_int ((c + 1 : Nat) : Int) rfl rfl (by omega) (by omega)) rfl ?_
      refine ow_val (val_assign rfl) rfl ?_
      exact ow_nil (fun w hm => ⟨(x, v, c + 1), by dsimp only; rw [← hsum, splitsL_left hy2 (by rw [hsv]; exact hlt), hsv, List.length_cons]; omega, by dsimp only; omega, ⟨rfl, rfl, rfl, trivial⟩, hm⟩)
    · -- else
      skip
      refine sw_region ?_
      refine ow_val (val_move rfl) rfl ?_
      refine ow_val (val_move rfl) rfl ?_
      refine ow_val (val_sub_u64 rfl rfl) rfl ?_
      refine ow_val (val_move rfl) rfl ?_
      refine ow_val (val_move rfl) rfl ?_
      refine ow_val (val_sub_u64 rfl rfl) rfl ?_
      refine ow_val (val_assign rfl) rfl ?_
      refine ow_val (val_assign rfl) rfl ?_
      refine ow_nil (into ?_)
      refine sw_region ?_
      refine ow_val (val_move rfl) rfl ?_
      refine ow_val (val_add_int ((c + 1 : Nat) : Int) rfl rfl (by omega) (by omega)) rfl ?_
      refine ow_val (val_assign rfl) rfl ?_
      exact ow_nil (fun w hm => ⟨(x - v, y - v, c + 1), by dsimp only; rw [← hsum, splitsL_right hy2 (by rw [hsv]; exact hlt), hsv, List.length_cons]; omega, by dsimp only; omega, ⟨rfl, rfl, rfl, trivial⟩, hm⟩)
  · -- else
    have hy3 : ¬ 2 ≤ y.toNat := fun h => h0 (UInt64.lt_iff_toNat_lt.2 h)
    rw [splitsL_end hy3, List.length_nil, Nat.add_zero] at hsum
    refine sw_exit (into ?_)
    refine sw_seq ?_
    refine sw_region ?_
    refine ow_val (val_move rfl) rfl ?_
    refine ow_val (val_assign rfl) rfl ?_
    refine ow_nil (into ?_)
    exact sw_ret (fun w hm => ret_one _ rfl rfl ⟨by rw [← hsum], hm⟩)

/-- The digests of a consistency proof. -/
def cntZ (m n : UInt64) : Nat := if m = 0 then 0 else cntL m n true

theorem since_z (m n : UInt64) (w : World) (hz : m = 0) : Calls Tryd.prog 51 #[vU64 m, vU64 n] w fun e w' => ∃ v, e = .returned v ∧ v = vInt ((cntZ m n : Nat) : Int) ∧ Mem w [] [] w' := by
  refine calls_of_sw (vs := [vU64 m, vU64 n]) Tryd.func51 rfl Tryd.ntmps51 rfl (SW.begin ?_)
  refine sw_seq ?_
  refine sw_region ?_
  refine ow_val (val_assign rfl) rfl ?_
  refine ow_nil (into ?_)
  refine sw_seq ?_
  refine sw_seq ?_
  refine sw_region ?_
  refine ow_val (val_move rfl) rfl ?_
  refine ow_val ((val_eql_u64 rfl rfl).to (v' := .bool true) (congrArg Value.bool (decide_eq_true hz))) rfl ?_
  refine ow_val (val_move rfl) rfl ?_
  first | refine ow_guard_no rfl rfl rfl rfl rfl ?_ | refine ow_guard_none rfl rfl rfl rfl rfl ?_
  first | refine ow_guard_no rfl rfl rfl rfl rfl ?_ | refine ow_guard_none rfl rfl rfl rfl rfl ?_
  first | refine ow_guard_no rfl rfl rfl rfl rfl ?_ | refine ow_guard_none rfl rfl rfl rfl rfl ?_
  refine ow_val (val_pick_true rfl rfl) rfl ?_
  refine ow_nil (into ?_)
  refine sw_true rfl rfl ?_
  refine sw_seq ?_
  refine sw_region ?_
  refine ow_val (val_assign rfl) rfl ?_
  refine ow_nil (into ?_)
  refine sw_ret (fun w hm => ?_)
  try dsimp only [thenP, blockP, Nat.beq, cond]
  exact ret_one _ rfl rfl ⟨by rw [cntZ, if_pos hz] <;> rfl, hm⟩

theorem since_e (m n : UInt64) (w : World) (hz : ¬ m = 0) (he : m = n) : Calls Tryd.prog 51 #[vU64 m, vU64 n] w fun e w' => ∃ v, e = .returned v ∧ v = vInt ((cntZ m n : Nat) : Int) ∧ Mem w [] [] w' := by
  refine calls_of_sw (vs := [vU64 m, vU64 n]) Tryd.func51 rfl Tryd.ntmps51 rfl (SW.begin ?_)
  refine sw_seq ?_
  refine sw_region ?_
  refine ow_val (val_assign rfl) rfl ?_
  refine ow_nil (into ?_)
  refine sw_seq ?_
  refine sw_seq ?_
  refine sw_region ?_
  refine ow_val (val_move rfl) rfl ?_
  refine ow_val ((val_eql_u64 rfl rfl).to (v' := .bool false) (congrArg Value.bool (decide_eq_false hz))) rfl ?_
  refine ow_val (val_move rfl) rfl ?_
  refine ow_guard_yes rfl rfl rfl ?_
  refine ow_val (val_move rfl) rfl ?_
  refine ow_guard_yes rfl rfl rfl ?_
  refine ow_val (val_move rfl) rfl ?_
  refine ow_guard_yes rfl rfl rfl ?_
  refine ow_val ((val_eql_u64 rfl rfl).to (v' := .bool true) (congrArg Value.bool (decide_eq_true he))) rfl ?_
  refine ow_val (val_pick_false rfl rfl) rfl ?_
  refine ow_nil (into ?_)
  refine sw_true rfl rfl ?_
  refine sw_seq ?_
  refine sw_region ?_
  refine ow_val (val_assign rfl) rfl ?_
  refine ow_nil (into ?_)
  refine sw_ret (fun w hm => ?_)
  try dsimp only [thenP, blockP, Nat.beq, cond]
  exact ret_one _ rfl rfl ⟨by rw [cntZ, if_neg hz, he, cntL_end] <;> rfl, hm⟩

theorem since_w (m n : UInt64) (w : World) (hz : ¬ m = 0) (he : ¬ m = n) (hle : m ≤ n) : Calls Tryd.prog 51 #[vU64 m, vU64 n] w fun e w' => ∃ v, e = .returned v ∧ v = vInt ((cntZ m n : Nat) : Int) ∧ Mem w [] [] w' := by
  refine calls_of_sw (vs := [vU64 m, vU64 n]) Tryd.func51 rfl Tryd.ntmps51 rfl (SW.begin ?_)
  refine sw_seq ?_
  refine sw_region ?_
  refine ow_val (val_assign rfl) rfl ?_
  refine ow_nil (into ?_)
  refine sw_seq ?_
  refine sw_seq ?_
  refine sw_region ?_
  refine ow_val (val_move rfl) rfl ?_
  refine ow_val ((val_eql_u64 rfl rfl).to (v' := .bool false) (congrArg Value.bool (decide_eq_false hz))) rfl ?_
  refine ow_val (val_move rfl) rfl ?_
  refine ow_guard_yes rfl rfl rfl ?_
  refine ow_val (val_move rfl) rfl ?_
  refine ow_guard_yes rfl rfl rfl ?_
  refine ow_val (val_move rfl) rfl ?_
  refine ow_guard_yes rfl rfl rfl ?_
  refine ow_val ((val_eql_u64 rfl rfl).to (v' := .bool false) (congrArg Value.bool (decide_eq_false he))) rfl ?_
  refine ow_val (val_pick_false rfl rfl) rfl ?_
  refine ow_nil (into ?_)
  refine sw_false rfl rfl ?_
  refine sw_skip (into ?_)
  refine sw_seq ?_
  refine sw_region ?_
  refine ow_val (val_assign rfl) rfl ?_
  refine ow_val (val_assign rfl) rfl ?_
  refine ow_nil (into ?_)
  refine sw_seq ?_
  refine sw_block ?_
  refine sw_loop (σ := UInt64 × UInt64 × Nat × Bool) (fun t => t.2.2.1 + cntL t.1 t.2.1 t.2.2.2 = cntL m n true ∧ t.1 ≠ 0 ∧ t.1 ≤ t.2.1) (fun t => [(6, .bool t.2.2.2), (5, vInt (t.2.2.1 : Int)), (1, vU64 t.2.1), (0, vU64 t.1)]) (fun _ => Mem w [] []) (fun t => t.2.1.toNat) (m, n, 0, true) ⟨Nat.zero_add _, hz, hle⟩ ⟨rfl, rfl, rfl, rfl, trivial⟩ (fun w hm => hm) ?_
  rintro ⟨x, y, c, kn⟩ ⟨hsum, hx0, hxy⟩
  simp only at hsum hx0 hxy ⊢
  have hyl := y.toNat_lt
  have hxn : x.toNat ≠ 0 := fun h => hx0 (UInt64.toNat.inj h)
  have hxy' := UInt64.le_iff_toNat_le.1 hxy
  have h9 : (0 : UInt64).toNat = 0 := rfl
  refine sw_seq ?_
  refine sw_seq ?_
  refine sw_region ?_
  refine ow_val (val_move rfl) rfl ?_
  refine ow_val (val_move rfl) rfl ?_
  refine ow_val (val_neq_u64 rfl rfl) rfl ?_
  refine ow_nil (into ?_)
  refine sw_if rfl (fun h0 => ?_) (fun h0 => ?_)
  · -- then
    have hne : x.toNat ≠ y.toNat := fun h => h0 (UInt64.toNat.inj h)
    have hy2 : 2 ≤ y.toNat := by omega
    obtain ⟨v, hsv⟩ : ∃ v, splitU y = v := ⟨_, rfl⟩
    have hsl := split_lt hy2
    rw [hsv] at hsl
    have hcl := cntL_le 64 m n true hz hle (Nat.le_of_lt n.toNat_lt)
    refine sw_skip (into ?_)
    refine sw_block ?_
    refine sw_seq ?_
    refine sw_region ?_
    refine ow_val (val_move rfl) rfl ?_
    refine ow_call_pure (v := vU64 v) (callsTo Tryd.func45 rfl (by kernel_rfl) rfl) rfl (fun w hm => (by have h := pbelow_any y hy2 w; rw [hsv] at h; exact h)) ?_
    refine ow_val (val_assign rfl) rfl ?_
    refine ow_nil (into ?_)
    refine sw_seq ?_
    refine sw_seq ?_
    refine sw_region ?_
    refine ow_val (val_move rfl) rfl ?_
    refine ow_val (val_move rfl) rfl ?_
    refine ow_val (val_leq_u64 rfl rfl) rfl ?_
    refine ow_nil (into ?_)
    refine sw_if rfl (fun hlt => ?_) (fun hlt => ?_)
    · -- then
      skip
      refine sw_region ?_
      refine ow_val (val_move rfl) rfl ?_
      refine ow_val (val_assign rfl) rfl ?_
      refine ow_nil (into ?_)
      refine sw_region ?_
      refine ow_val (val_move rfl) rfl ?_
      refine ow_val (val_add_int ((c + 1 : Nat) : Int) rfl rfl (by omega) (by omega)) rfl ?_
      refine ow_val (val_assign rfl) rfl ?_
      exact ow_nil (fun w hm => ⟨(x, v, c + 1, kn), ⟨by dsimp only; rw [← hsum, cntL_left h0 hy2 (by rw [hsv]; exact hlt), hsv]; omega, hx0, hlt⟩, by dsimp only; omega, ⟨rfl, rfl, rfl, rfl, trivial⟩, hm⟩)
    · -- else
      have hgt : v.toNat < x.toNat := Nat.lt_of_not_le fun h => hlt (UInt64.le_iff_toNat_le.2 h)
      have hms : (x - v).toNat = x.toNat - v.toNat := UInt64.toNat_sub_of_le _ _ (UInt64.le_iff_toNat_le.2 (by omega))
      refine sw_region ?_
      refine ow_val (val_move rfl) rfl ?_
      refine ow_val (val_move rfl) rfl ?_
      refine ow_val (val_sub_u64 rfl rfl) rfl ?_
      refine ow_val (val_move rfl) rfl ?_
      refine ow_val (val_move rfl) rfl ?_
      refine ow_val (val_sub_u64 rfl rfl) rfl ?_
      refine ow_val (val_assign rfl) rfl ?_
      refine ow_val (val_assign rfl) rfl ?_
      refine ow_val (val_assign rfl) rfl ?_
      refine ow_nil (into ?_)
      refine sw_region ?_
      refine ow_val (val_move rfl) rfl ?_
      refine ow_val (val_add_int ((c + 1 : Nat) : Int) rfl rfl (by omega) (by omega)) rfl ?_
      refine ow_val (val_assign rfl) rfl ?_
      exact ow_nil (fun w hm => ⟨(x - v, y - v, c + 1, false), ⟨by dsimp only; rw [← hsum, cntL_right h0 hy2 (by rw [hsv]; exact hlt), hsv]; omega, fun h => by dsimp only at h; rw [h] at hms; omega, UInt64.le_iff_toNat_le.2 (by dsimp only; omega)⟩, by dsimp only; omega, ⟨rfl, rfl, rfl, rfl, trivial⟩, hm⟩)
  · -- else
    obtain rfl : x = y := Decidable.not_not.1 h0
    rw [cntL_end] at hsum
    have hcl := cntL_le 64 m n true hz hle (Nat.le_of_lt n.toNat_lt)
    refine sw_exit (into ?_)
    refine sw_seq ?_
    refine sw_seq ?_
    refine sw_region ?_
    refine ow_val (val_move rfl) rfl ?_
    by_cases hkn : kn = false
    · -- yes
      rw [hkn, if_neg (by decide)] at hsum
      refine ow_val ((val_not rfl).to (congrArg Value.bool (show (!_) = true by rw [hkn]; rfl))) rfl ?_
      refine ow_nil (into ?_)
      refine sw_true rfl rfl ?_
      refine sw_region ?_
      refine ow_val (val_move rfl) rfl ?_
      refine ow_val (val_add_int ((c + 1 : Nat) : Int) rfl rfl (by omega) (by omega)) rfl ?_
      refine ow_val (val_assign rfl) rfl ?_
      refine ow_nil (into ?_)
      refine sw_seq ?_
      refine sw_region ?_
      refine ow_val (val_move rfl) rfl ?_
      refine ow_val (val_assign rfl) rfl ?_
      refine ow_nil (into ?_)
      refine sw_ret (fun w hm => ?_)
      try dsimp only [thenP, blockP, Nat.beq, cond]
      exact ret_one _ rfl rfl ⟨by rw [cntZ, if_neg hz, ← hsum] <;> rfl, hm⟩
    · -- no
      rw [(Bool.not_eq_false _).mp hkn, if_pos rfl, Nat.add_zero] at hsum
      refine ow_val ((val_not rfl).to (congrArg Value.bool (show (!_) = false by rw [(Bool.not_eq_false _).mp hkn]; rfl))) rfl ?_
      refine ow_nil (into ?_)
      refine sw_false rfl rfl ?_
      refine sw_skip (into ?_)
      refine sw_seq ?_
      refine sw_region ?_
      refine ow_val (val_move rfl) rfl ?_
      refine ow_val (val_assign rfl) rfl ?_
      refine ow_nil (into ?_)
      refine sw_ret (fun w hm => ?_)
      try dsimp only [thenP, blockP, Nat.beq, cond]
      exact ret_one _ rfl rfl ⟨by rw [cntZ, if_neg hz, ← hsum] <;> rfl, hm⟩

theorem since_any (m n : UInt64) (w : World) (hle : m ≤ n) : Calls Tryd.prog 51 #[vU64 m, vU64 n] w fun e w' => ∃ v, e = .returned v ∧ v = vInt ((cntZ m n : Nat) : Int) ∧ Mem w [] [] w' := by
  by_cases hz : m = 0
  · exact since_z m n w hz
  · by_cases he : m = n
    · exact since_e m n w hz he
    · exact since_w m n w hz he hle
/-- What Counts answers. -/
def cntO (i m n : UInt64) : (Nat × Nat) × Nat := if n ≤ i ∨ n < m then ((0, 0), 4) else (((splitsL i n).length, cntZ m n), 0)

theorem counts_a (i m n : UInt64) (w : World) (hi : n ≤ i) : Calls Tryd.prog 21 #[vU64 i, vU64 m, vU64 n] w fun e w' => ∃ v, e = .returned v ∧ v = .tuple #[vInt (((cntO i m n).1.1 : Nat) : Int), vInt (((cntO i m n).1.2 : Nat) : Int), vInt (((cntO i m n).2 : Nat) : Int)] ∧ Mem w [] [] w' := by
  refine calls_of_sw (vs := [vU64 i, vU64 m, vU64 n]) Tryd.func21 rfl Tryd.ntmps21 rfl (SW.begin ?_)
  refine sw_seq ?_
  refine sw_region ?_
  refine ow_val (val_assign rfl) rfl ?_
  refine ow_val (val_assign rfl) rfl ?_
  refine ow_val (val_assign rfl) rfl ?_
  refine ow_nil (into ?_)
  refine sw_seq ?_
  refine sw_seq ?_
  refine sw_region ?_
  refine ow_val (val_move rfl) rfl ?_
  refine ow_val (val_move rfl) rfl ?_
  refine ow_val ((val_geq_u64 rfl rfl).to (v' := .bool true) (congrArg Value.bool (decide_eq_true hi))) rfl ?_
  refine ow_val (val_move rfl) rfl ?_
  first | refine ow_guard_no rfl rfl rfl rfl rfl ?_ | refine ow_guard_none rfl rfl rfl rfl rfl ?_
  first | refine ow_guard_no rfl rfl rfl rfl rfl ?_ | refine ow_guard_none rfl rfl rfl rfl rfl ?_
  first | refine ow_guard_no rfl rfl rfl rfl rfl ?_ | refine ow_guard_none rfl rfl rfl rfl rfl ?_
  refine ow_val (val_pick_true rfl rfl) rfl ?_
  refine ow_nil (into ?_)
  refine sw_true rfl rfl ?_
  refine sw_seq ?_
  refine sw_region ?_
  refine ow_val (val_assign rfl) rfl ?_
  refine ow_val (val_assign rfl) rfl ?_
  refine ow_val (val_assign rfl) rfl ?_
  refine ow_nil (into ?_)
  refine sw_ret (fun w hm => ?_)
  try dsimp only [thenP, blockP, Nat.beq, cond]
  exact ret_ttt rfl rfl rfl rfl ⟨by rw [cntO, if_pos (.inl hi)] <;> rfl, hm⟩

theorem counts_b (i m n : UInt64) (w : World) (hi : ¬ n ≤ i) (hmg : n < m) : Calls Tryd.prog 21 #[vU64 i, vU64 m, vU64 n] w fun e w' => ∃ v, e = .returned v ∧ v = .tuple #[vInt (((cntO i m n).1.1 : Nat) : Int), vInt (((cntO i m n).1.2 : Nat) : Int), vInt (((cntO i m n).2 : Nat) : Int)] ∧ Mem w [] [] w' := by
  refine calls_of_sw (vs := [vU64 i, vU64 m, vU64 n]) Tryd.func21 rfl Tryd.ntmps21 rfl (SW.begin ?_)
  refine sw_seq ?_
  refine sw_region ?_
  refine ow_val (val_assign rfl) rfl ?_
  refine ow_val (val_assign rfl) rfl ?_
  refine ow_val (val_assign rfl) rfl ?_
  refine ow_nil (into ?_)
  refine sw_seq ?_
  refine sw_seq ?_
  refine sw_region ?_
  refine ow_val (val_move rfl) rfl ?_
  refine ow_val (val_move rfl) rfl ?_
  refine ow_val ((val_geq_u64 rfl rfl).to (v' := .bool false) (congrArg Value.bool (decide_eq_false hi))) rfl ?_
  refine ow_val (val_move rfl) rfl ?_
  refine ow_guard_yes rfl rfl rfl ?_
  refine ow_val (val_move rfl) rfl ?_
  refine ow_guard_yes rfl rfl rfl ?_
  refine ow_val (val_move rfl) rfl ?_
  refine ow_guard_yes rfl rfl rfl ?_
  refine ow_val ((val_gtr_u64 rfl rfl).to (v' := .bool true) (congrArg Value.bool (decide_eq_true hmg))) rfl ?_
  refine ow_val (val_pick_false rfl rfl) rfl ?_
  refine ow_nil (into ?_)
  refine sw_true rfl rfl ?_
  refine sw_seq ?_
  refine sw_region ?_
  refine ow_val (val_assign rfl) rfl ?_
  refine ow_val (val_assign rfl) rfl ?_
  refine ow_val (val_assign rfl) rfl ?_
  refine ow_nil (into ?_)
  refine sw_ret (fun w hm => ?_)
  try dsimp only [thenP, blockP, Nat.beq, cond]
  exact ret_ttt rfl rfl rfl rfl ⟨by rw [cntO, if_pos (.inr hmg)] <;> rfl, hm⟩

theorem counts_c (i m n : UInt64) (w : World) (hi : ¬ n ≤ i) (hmg : ¬ n < m) (hmn : m ≤ n) : Calls Tryd.prog 21 #[vU64 i, vU64 m, vU64 n] w fun e w' => ∃ v, e = .returned v ∧ v = .tuple #[vInt (((cntO i m n).1.1 : Nat) : Int), vInt (((cntO i m n).1.2 : Nat) : Int), vInt (((cntO i m n).2 : Nat) : Int)] ∧ Mem w [] [] w' := by
  refine calls_of_sw (vs := [vU64 i, vU64 m, vU64 n]) Tryd.func21 rfl Tryd.ntmps21 rfl (SW.begin ?_)
  refine sw_seq ?_
  refine sw_region ?_
  refine ow_val (val_assign rfl) rfl ?_
  refine ow_val (val_assign rfl) rfl ?_
  refine ow_val (val_assign rfl) rfl ?_
  refine ow_nil (into ?_)
  refine sw_seq ?_
  refine sw_seq ?_
  refine sw_region ?_
  refine ow_val (val_move rfl) rfl ?_
  refine ow_val (val_move rfl) rfl ?_
  refine ow_val ((val_geq_u64 rfl rfl).to (v' := .bool false) (congrArg Value.bool (decide_eq_false hi))) rfl ?_
  refine ow_val (val_move rfl) rfl ?_
  refine ow_guard_yes rfl rfl rfl ?_
  refine ow_val (val_move rfl) rfl ?_
  refine ow_guard_yes rfl rfl rfl ?_
  refine ow_val (val_move rfl) rfl ?_
  refine ow_guard_yes rfl rfl rfl ?_
  refine ow_val ((val_gtr_u64 rfl rfl).to (v' := .bool false) (congrArg Value.bool (decide_eq_false hmg))) rfl ?_
  refine ow_val (val_pick_false rfl rfl) rfl ?_
  refine ow_nil (into ?_)
  refine sw_false rfl rfl ?_
  refine sw_skip (into ?_)
  refine sw_seq ?_
  refine sw_region ?_
  refine ow_val (val_move rfl) rfl ?_
  refine ow_val (val_move rfl) rfl ?_
  refine ow_call_pure (callsTo Tryd.func50 rfl (by kernel_rfl) rfl) rfl (fun w hm => steps_any i n w) ?_
  refine ow_val (val_move rfl) rfl ?_
  refine ow_val (val_move rfl) rfl ?_
  refine ow_call_pure (callsTo Tryd.func51 rfl (by kernel_rfl) rfl) rfl (fun w hm => since_any m n w hmn) ?_
  refine ow_val (val_assign rfl) rfl ?_
  refine ow_val (val_assign rfl) rfl ?_
  refine ow_val (val_assign rfl) rfl ?_
  refine ow_nil (into ?_)
  exact sw_ret (fun w hm => ret_ttt rfl rfl rfl rfl ⟨by rw [cntO, if_neg (fun h => h.elim hi hmg)] <;> rfl, hm⟩)

theorem counts_any (i m n : UInt64) (w : World) : Calls Tryd.prog 21 #[vU64 i, vU64 m, vU64 n] w fun e w' => ∃ v, e = .returned v ∧ v = .tuple #[vInt (((cntO i m n).1.1 : Nat) : Int), vInt (((cntO i m n).1.2 : Nat) : Int), vInt (((cntO i m n).2 : Nat) : Int)] ∧ Mem w [] [] w' := by
  by_cases hi : n ≤ i
  · exact counts_a i m n w hi
  · by_cases hm : n < m
    · exact counts_b i m n w hi hm
    · exact counts_c i m n w hi hm (UInt64.le_iff_toNat_le.2 (Nat.le_of_not_lt fun h => hm (UInt64.lt_iff_toNat_lt.2 h)))
end Go.Proofs.YtcdponddgnkecaaDoor
