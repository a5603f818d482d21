import Derived.Test.YtpmnhmfahgchgaaDoorSha4
import Derived.Test.YtpmnhmfahgchgaaDoorProg
set_option linter.unusedVariables false
set_option linter.unusedSimpArgs false
namespace Go.Proofs.YtpmnhmfahgchgaaDoor
open Go.Sx Go.Ps

/-- What has gone in: nothing yet, or this text. -/
def stc : Option (List UInt8) → Sh
  | none => Sh.zero
  | some q => Sh.zero.write q
def txt : Option (List UInt8) → List UInt8
  | none => []
  | some q => q
theorem stc_ok (o : Option (List UInt8)) : (stc o).ok := by
  cases o with
  | none => exact Sh.zero_ok
  | some q => exact Sh.write_ok Sh.zero_ok q
theorem stc_write (o : Option (List UInt8)) (p : List UInt8) : (stc o).write p = stc (some (txt o ++ p)) := by
  cases o with
  | none => rfl
  | some q => exact write_write _ _ _
theorem stc_sum (o : Option (List UInt8)) : (stc o).sum = shaOf (txt o) := by
  cases o with
  | none =>
    have h1 : (Sh.zero.write []).sum = shaOf [] := sum_hash _ [] rfl
    have h2 : Sh.zero.sum = (Sh.zero.write []).sum := by
      have hn : (Sh.zero.write []).n = Sh.zero.n := rfl
      unfold Sh.sum
      rw [hn, write_write, List.nil_append]
    exact h2.trans h1
  | some q => exact sum_hash _ q rfl
theorem hash_len (p : List UInt8) : (shaOf p).length = 32 := outAll_len _ _
theorem newS_any (w : World) : Calls Tryd.prog 47 #[] w fun e w' => ∃ v, e = .returned v ∧ ∃ b, v = .pointer (some ⟨b, 0, none⟩) ∧ Mem w [] [some (b, blk (shCells (stc none)) 117)] w' := new_any w
theorem writeS_any (b : Nat) (o : Option (List UInt8)) (a : Option Addr) (m c : Nat) (p : List UInt8) (hpm : p.length = m) (w : World) (hb : w.heap[b]? = some (blk (shCells (stc o)) 117)) (hK : KW w) (hz : 0 ∉ [b]) (hr : Rd w a (p.map vU8)) (hne : 0 < p.length → ∀ b' o', a = some ⟨b', o', none⟩ → b' ∉ [b]) (hc : m ≤ c) (hl : m < 9223372036854775808) :
    Calls Tryd.prog 48 #[.pointer (some ⟨b, 0, none⟩), .slice a m c] w fun e w' => ∃ v, e = .returned v ∧ v = .tuple #[] ∧ Mem w [b] [some (b, blk (shCells (stc (some (txt o ++ p)))) 117)] w' := by
  rw [← stc_write]
  exact write_any b (stc o) (stc_ok o) a m c p hpm w hb hK hz hr hne hc hl
theorem sumS_any (b : Nat) (o : Option (List UInt8)) (w : World) (hb : w.heap[b]? = some (blk (shCells (stc o)) 117)) (hK : KW w) : Calls Tryd.prog 49 #[.pointer (some ⟨b, 0, none⟩)] w fun e w' => ∃ v, e = .returned v ∧ v = .agg ((shaOf (txt o)).map vU8).toArray ∧ Mem w [] [] w' := by
  rw [← stc_sum]
  exact sum_any b (stc o) (stc_ok o) w hb hK

theorem sum256h_any (a : Option Addr) (m c : Nat) (p : List UInt8) (hpm : p.length = m) (w : World) (hK : KW w) (hr : Rd w a (p.map vU8)) (hc : m ≤ c) (hl : m < 9223372036854775808) : Calls Tryd.prog 24 #[.slice a m c] w fun e w' => ∃ v, e = .returned v ∧ v = .agg ((shaOf p).map vU8).toArray ∧ Mem w [] [] w' := by
  rw [← sum256_hash]
  exact sum256_any a m c p hpm w hK hr hc hl

theorem refSum_any (a : Option Addr) (m c : Nat) (p : List UInt8) (hpm : p.length = m) (hc : m ≤ c) (hl : m < 9223372036854775808) (w : World) (hr : Rd w a (p.map vU8)) : Calls Tryd.prog 90 #[.slice a m c] w fun e w' => ∃ v, e = .returned v ∧ v = .agg ((shaOf p).map vU8).toArray ∧ Mem w [] [] w' := by
  obtain ⟨ti, hi, hz, hsz, hby⟩ := info_parts iu8
  obtain ⟨L, hL⟩ : ∃ L, (padding (UInt64.ofNat m)).length = L := ⟨_, rfl⟩
  have hL0 := padding_len (UInt64.ofNat m)
  have hL1 := padZeros_lt (UInt64.ofNat m)
  rw [hL] at hL0
  have hpc : p.length ≤ c := by omega
  have hdp : ∀ w, Calls Tryd.prog 110 #[vU64 (UInt64.ofNat m)] w fun e w' => ∃ v, e = .returned v ∧ ∃ e', RowE v 5 1 L ((padding (UInt64.ofNat m)).map vU8) e' ∧ Mem w [] [e'] w' := fun w => by rw [← hL]; exact docPadding_any _ w
  obtain ⟨K, hK⟩ : ∃ K, m / 64 = K := ⟨_, rfl⟩
  refine calls_of_sw (vs := [.slice a m c]) Tryd.func90 rfl Tryd.ntmps90 rfl (SW.begin ?_)
  refine sw_seq ?_
  refine sw_region ?_
  refine ow_new (acts_alloc z26) rfl (fun b2 hb2 => ?_)   -- 2
  refine ow_nil (into ?_)
  refine sw_seq ?_
  refine sw_region ?_
  refine ow_call_pure (callsTo Tryd.func108 rfl (by kernel_rfl) rfl) rfl (fun w hm => refFirst_any w) ?_   -- 10
  refine ow_new (acts_alloc z114) rfl (fun b3 hb3 => ?_)   -- 3
  refine ow_do_eq (does_store_all 0 rfl rfl rfl (one_u32s _) Tryd.sizeOf114 rfl (by first | rfl | simp)) ?_
  refine ow_nil (into ?_)
  refine sw_seq ?_
  refine sw_region ?_
  refine ow_val (val_move rfl) rfl ?_   -- 11
  refine ow_val (val_len rfl Tryd.underlying25) rfl ?_   -- 12
  refine ow_val (val_quo_int ((m / 64 : Nat) : Int) rfl rfl (by omega) (by omega) (by omega)) rfl ?_   -- 13
  refine ow_val (val_mul_int ((64 * K : Nat) : Int) rfl rfl (by omega) (by omega)) rfl ?_   -- 14
  refine ow_val (val_assign rfl) rfl ?_   -- 4
  refine ow_nil (into ?_)
  refine sw_seq ?_
  refine sw_seq ?_
  refine sw_region ?_
  refine ow_val (val_assign rfl) rfl ?_   -- 5
  refine ow_nil (into ?_)
  refine sw_block ?_
  refine sw_loop (σ := Nat) (fun k => k ≤ K) (fun k => [(5, vInt ((64 * k : Nat) : Int)), (4, vInt ((64 * K : Nat) : Int)), (0, .slice a m c), (2, .pointer (some ⟨b2, 0, none⟩)), (3, .pointer (some ⟨b3, 0, none⟩))]) (fun k => Mem w [] [some (b3, blk ((blocks H0 p k).map vU32) 114), some (b2, blk ((List.replicate 32 (0 : UInt8)).map vU8) 26)]) (fun k => K - k) 0 (by omega) ⟨rfl, rfl, rfl, rfl, rfl, trivial⟩ (fun w hm => hm) (fun k hk => ?_)
  refine sw_seq ?_
  refine sw_seq ?_
  refine sw_region ?_
  refine ow_val (val_move rfl) rfl ?_   -- 15
  refine ow_val (val_move rfl) rfl ?_   -- 16
  refine ow_val (val_lss_int rfl rfl) rfl ?_   -- 17
  refine ow_nil (into ?_)
  refine sw_if rfl (fun h0 => ?_) (fun h0 => ?_)
  · -- then
    refine sw_skip (into ?_)
    refine sw_seq ?_
    refine sw_block ?_
    refine sw_region_lex _ [7] [(1, 0), (2, 0), (3, 0), (4, 0), (5, 0), (0, 1), (6, 2), (7, 2)] (by kernel_rfl) (by kernel_rfl) (fun _ _ _ h => h) (fun _ h => h) (fun _ h => h.drawn _) ?_
    refine lw_pure rfl (val_move rfl) rfl ?_   -- 21
    refine lw_pure rfl (val_move rfl) rfl ?_   -- 22
    refine lw_pure rfl (val_move rfl) rfl ?_   -- 23
    refine lw_pure rfl (val_add_int ((64 * k + 64 : Nat) : Int) rfl rfl (by omega) (by omega)) rfl ?_   -- 24
    refine lw_pure rfl (val_slice_cut (64 * k) (64 * k + 64) rfl rfl rfl Tryd.underlying25 Tryd.sizeOf5 rfl rfl (by omega) (by omega)) rfl ?_   -- 25
    refine lw_held rfl (val_load_all 0 rfl rfl Tryd.isAgg114 Tryd.sizeOf114 (by rw [List.length_map, blocks_len]; rfl)) rfl ?_   -- 20
    refine lw_call_pure rfl (callsTo Tryd.func109 rfl (by kernel_rfl) rfl) rfl (fun w hm => compR_any (blocks H0 p k) (by rw [blocks_len]; rfl) _ _ _ ((p.drop (64 * k)).take 64) (by simp; omega) (by omega) (by omega) w (((hr.mem hm).cut (by omega)).take1 64)) ?_   -- 26
    refine lw_do rfl (does_store_all 0 rfl rfl rfl (one_u32s _) Tryd.sizeOf114 (by rw [List.length_map, compress_len, blocks_len]; rfl) (by rw [List.length_map, blocks_len]; rfl)) (fun h => nomatch h) (fun _ _ => ?_)
    refine lw_nil (into ?_)
    refine sw_region ?_
    refine ow_val (val_move rfl) rfl ?_   -- 18
    refine ow_val (val_add_int ((64 * k + 64 : Nat) : Int) rfl rfl (by omega) (by omega)) rfl ?_   -- 19
    refine ow_val (val_assign rfl) rfl ?_   -- 5
    exact ow_nil (fun w hm => ⟨k + 1, by omega, by omega, ⟨rfl, rfl, rfl, rfl, rfl, trivial⟩, hm⟩)
  · -- else
    obtain rfl : K = k := by omega
    refine sw_exit (into ?_)
    refine sw_seq ?_
    refine sw_region ?_
    refine ow_make (o := blk ((List.replicate 136 (0 : UInt8)).map vU8) 5) (acts_make_to (vs := (List.replicate 136 (0 : UInt8)).map vU8) 0 136 rfl rfl rfl rfl Tryd.underlying25 hi hz (by decide) (by rw [hby]; decide) (by decide) (by rw [hsz, Nat.mul_one]; exact made_u8 136)) rfl (fun b27 hb27 => ?_)
    have hrow0 : RowE (.slice (some ⟨b27, 0, none⟩) 0 136) 5 1 0 [] (some (b27, blk ((List.replicate 136 (0 : UInt8)).map vU8) 5)) := ⟨rfl, .inr ⟨b27, 136, (List.replicate 136 (0 : UInt8)).map vU8, rfl, by decide, by decide, by simp, rfl⟩⟩
    refine ow_val (val_assign rfl) rfl ?_   -- 6
    refine ow_nil (into ?_)
    refine sw_seq ?_
    refine sw_region ?_
    refine ow_val (val_move rfl) rfl ?_   -- 28
    refine ow_val (val_move rfl) rfl ?_   -- 29
    refine ow_val (val_move rfl) rfl ?_   -- 30
    refine ow_val (val_slice_from (64 * K) rfl rfl Tryd.underlying25 Tryd.sizeOf5 rfl (by omega) hc) rfl ?_   -- 31
    obtain ⟨r, hr0⟩ : ∃ r, r = m - 64 * K := ⟨_, rfl⟩
    refine ow_append' (k := 0 + (m - 64 * K)) (acts_append (size := 1) (bytes := 1) 0 rfl rfl rfl hrow0 rfl Tryd.underlying25 hi hz hsz hby rfl (by decide) (fun w hm => (hr.mem hm).cut hpc) (by simp [hpm]) (one_u8s _) (by omega) (by omega)) rfl (fun a1 c1 e1 hrow1 => ?_)   -- 32
    refine ow_val (val_assign rfl) rfl ?_   -- 6
    refine ow_nil (into ?_)
    refine sw_seq ?_
    refine sw_region ?_
    refine ow_val (val_move rfl) rfl ?_   -- 33
    refine ow_val (val_move rfl) rfl ?_   -- 34
    refine ow_val (val_len rfl Tryd.underlying25) rfl ?_   -- 35
    refine ow_val (val_conv_n_u64 m Tryd.underlying3 Tryd.underlying46 rfl rfl) rfl ?_   -- 36
    refine ow_call_row (E := 5) (size := 1) (k := L) (xs := (padding (UInt64.ofNat m)).map vU8) (callsTo Tryd.func110 rfl (by kernel_rfl) rfl) rfl (fun w hm => hdp w) (fun ap cp ep hrp => ?_)   -- 37
    refine ow_append' (k := 0 + (m - 64 * K) + L) (acts_append (size := 1) (bytes := 1) 1 rfl rfl rfl hrow1 rfl Tryd.underlying25 hi hz hsz hby rfl (by decide) (fun w hm => hrp.rdAt hm (i := 0) rfl) (by simp [hL]) (one_u8s _) (by omega) (by omega)) rfl (fun a2 c2 e2 hrow2 => ?_)   -- 38
    obtain ⟨R, hR⟩ : ∃ R, 0 + (m - 64 * K) + L = R := ⟨_, rfl⟩
    rw [hR] at hrow2 ⊢
    obtain ⟨rest, hrest⟩ : ∃ rest, rest = p.drop (64 * K) ++ padding (UInt64.ofNat m) := ⟨_, rfl⟩
    have hrow : RowE (.slice a2 R c2) 5 1 R (rest.map vU8) e2 := hrow2.cong rfl rfl (by rw [hrest, List.map_append]; rfl)
    have hrl : rest.length = R := by rw [hrest, List.length_append, List.length_drop, hL, hpm, ← hR]; omega
    have hRc : R ≤ c2 := hrow.le
    obtain ⟨j, hj⟩ : ∃ j, R = 64 * j := ⟨R / 64, by have hw := whole_len p; rw [List.length_append, hpm, hL] at hw; omega⟩
    refine ow_val (val_assign rfl) rfl ?_   -- 6
    refine ow_nil (into ?_)
    refine sw_seq ?_
    refine sw_seq ?_
    refine sw_region ?_
    refine ow_val (val_assign rfl) rfl ?_   -- 7
    refine ow_nil (into ?_)
    refine sw_block ?_
    clear h0
    refine sw_loop (σ := Nat) (fun k => k ≤ j) (fun k => [(7, vInt ((64 * k : Nat) : Int)), (6, .slice a2 R c2), (2, .pointer (some ⟨b2, 0, none⟩)), (3, .pointer (some ⟨b3, 0, none⟩))]) (fun k => Mem w [] [ep, e2, some (b3, blk ((blocks (blocks H0 p K) rest k).map vU32) 114), some (b2, blk ((List.replicate 32 (0 : UInt8)).map vU8) 26)]) (fun k => j - k) 0 (by omega) ⟨rfl, rfl, rfl, rfl, trivial⟩ (fun w hm => hm) (fun k hk => ?_)
    refine sw_seq ?_
    refine sw_seq ?_
    refine sw_region ?_
    refine ow_val (val_move rfl) rfl ?_   -- 39
    refine ow_val (val_move rfl) rfl ?_   -- 40
    refine ow_val (val_len rfl Tryd.underlying25) rfl ?_   -- 41
    refine ow_val (val_lss_int rfl rfl) rfl ?_   -- 42
    refine ow_nil (into ?_)
    refine sw_if rfl (fun h1 => ?_) (fun h1 => ?_)
    · -- then
      refine sw_skip (into ?_)
      refine sw_seq ?_
      refine sw_block ?_
      refine sw_region_lex _ [7] [(1, 0), (2, 0), (3, 0), (4, 0), (5, 0), (0, 1), (6, 2), (7, 2)] (by kernel_rfl) (by kernel_rfl) (fun _ _ _ h => h) (fun _ h => h) (fun _ h => h.drawn _) ?_
      refine lw_pure rfl (val_move rfl) rfl ?_   -- 46
      refine lw_pure rfl (val_move rfl) rfl ?_   -- 47
      refine lw_pure rfl (val_move rfl) rfl ?_   -- 48
      refine lw_pure rfl (val_add_int ((64 * k + 64 : Nat) : Int) rfl rfl (by omega) (by omega)) rfl ?_   -- 49
      refine lw_pure rfl (val_slice_cut (64 * k) (64 * k + 64) rfl rfl rfl Tryd.underlying25 Tryd.sizeOf5 rfl rfl (by omega) (by omega)) rfl ?_   -- 50
      refine lw_held rfl (val_load_all 2 rfl rfl Tryd.isAgg114 Tryd.sizeOf114 (by rw [List.length_map, blocks_len, blocks_len]; rfl)) rfl ?_   -- 45
      refine lw_call_pure rfl (callsTo Tryd.func109 rfl (by kernel_rfl) rfl) rfl (fun w hm => compR_any (blocks (blocks H0 p K) rest k) (by rw [blocks_len, blocks_len]; rfl) _ _ _ ((rest.drop (64 * k)).take 64) (by simp; omega) (by omega) (by omega) w (((hrow.rdAt hm (i := 1) rfl).cut (by omega)).take1 64)) ?_   -- 51
      refine lw_do rfl (does_store_all 2 rfl rfl rfl (one_u32s _) Tryd.sizeOf114 (by rw [List.length_map, compress_len, blocks_len, blocks_len]; rfl) (by rw [List.length_map, blocks_len, blocks_len]; rfl)) (fun h => nomatch h) (fun _ _ => ?_)
      refine lw_nil (into ?_)
      refine sw_region ?_
      refine ow_val (val_move rfl) rfl ?_   -- 43
      refine ow_val (val_add_int ((64 * k + 64 : Nat) : Int) rfl rfl (by omega) (by omega)) rfl ?_   -- 44
      refine ow_val (val_assign rfl) rfl ?_   -- 7
      exact ow_nil (fun w hm => ⟨k + 1, by omega, by omega, ⟨rfl, rfl, rfl, rfl, trivial⟩, hm⟩)
    · -- else
      obtain rfl : j = k := by omega
      refine sw_exit (into ?_)
      refine sw_seq ?_
      refine sw_region ?_
      refine ow_new (acts_alloc z26) rfl (fun b8 hb8 => ?_)   -- 8
      refine ow_nil (into ?_)
      refine sw_seq ?_
      refine sw_seq ?_
      refine sw_region ?_
      refine ow_val (val_assign rfl) rfl ?_   -- 9
      refine ow_nil (into ?_)
      refine sw_block ?_
      clear h1
      obtain ⟨hB, hhB⟩ : ∃ hB, hB = blocks (blocks H0 p K) rest j := ⟨_, rfl⟩
      have hBl : hB.length = 8 := by rw [hhB, blocks_len, blocks_len]; rfl
      rw [← hhB]
      refine sw_loop (σ := Nat) (fun i => i ≤ 32) (fun i => [(9, vInt (i : Int)), (8, .pointer (some ⟨b8, 0, none⟩)), (2, .pointer (some ⟨b2, 0, none⟩)), (3, .pointer (some ⟨b3, 0, none⟩))]) (fun i => Mem w [] [some (b8, blk ((outR hB i).map vU8) 26), ep, e2, some (b3, blk ((hB).map vU32) 114), some (b2, blk ((List.replicate 32 (0 : UInt8)).map vU8) 26)]) (fun i => 32 - i) 0 (by omega) ⟨rfl, rfl, rfl, rfl, trivial⟩ (fun w hm => hm) (fun i hi => ?_)
      have hO := outR_len hB i
      refine sw_seq ?_
      refine sw_seq ?_
      refine sw_region ?_
      refine ow_val (val_move rfl) rfl ?_   -- 52
      refine ow_val (val_lss_int rfl rfl) rfl ?_   -- 53
      refine ow_nil (into ?_)
      refine sw_if rfl (fun h2 => ?_) (fun h2 => ?_)
      · -- then
        refine sw_skip (into ?_)
        refine sw_seq ?_
        refine sw_block ?_
        refine sw_region ?_
        refine ow_val (val_move rfl) rfl ?_   -- 56
        refine ow_val (val_move rfl) rfl ?_   -- 57
        refine ow_val (val_quo_int ((i / 4 : Nat) : Int) rfl rfl (by omega) (by omega) (by omega)) rfl ?_   -- 58
        refine ow_val (val_indexAddr (i / 4) (i / 4) rfl rfl Tryd.underlying114 Tryd.sizeOf113 (by omega) (by omega) (by omega)) rfl ?_   -- 59
        refine ow_val (val_load_at 3 rfl rfl Tryd.isAgg113 (get_map _ _ _ (by omega))) rfl ?_   -- 60
        refine ow_val (val_move rfl) rfl ?_   -- 61
        refine ow_val (val_rem_nn ((i % 4 : Nat) : Int) rfl rfl (by omega) (by omega) (by omega)) rfl ?_   -- 62
        refine ow_val (val_mul_int ((8 * (i % 4) : Nat) : Int) rfl rfl (by omega) (by omega)) rfl ?_   -- 63
        refine ow_val (val_sub_int ((24 - (8 * (i % 4)) : Nat) : Int) rfl rfl (by omega) (by omega)) rfl ?_   -- 64
        refine ow_val (val_shr_u32 (24 - (8 * (i % 4))) rfl rfl (by first | rfl | omega) (by omega)) rfl ?_   -- 65
        refine ow_val (val_conv_u32_u8 Tryd.underlying113 Tryd.underlying5 rfl) rfl ?_   -- 66
        refine ow_val (val_indexAddr (i) (i) rfl rfl Tryd.underlying26 Tryd.sizeOf5 (by omega) (by omega) (by omega)) rfl ?_   -- 67
        refine ow_do (does_store_map (V := vU8) 0 rfl rfl rfl rfl Tryd.sizeOf5 (by omega)) (fun _ _ => ?_)
        refine ow_nil (into ?_)
        refine sw_region ?_
        refine ow_val (val_move rfl) rfl ?_   -- 54
        refine ow_val (val_add_int ((i + 1 : Nat) : Int) rfl rfl (by omega) (by omega)) rfl ?_   -- 55
        refine ow_val (val_assign rfl) rfl ?_   -- 9
        exact ow_nil (fun w hm => ⟨i + 1, by omega, by omega, ⟨rfl, rfl, rfl, rfl, trivial⟩, hm⟩)
      · -- else
        obtain rfl : i = 32 := by omega
        refine sw_exit (into ?_)
        refine sw_seq ?_
        refine sw_region ?_
        refine ow_val (val_load_all 0 rfl rfl Tryd.isAgg26 Tryd.sizeOf26 (by simp [outR_len])) rfl ?_   -- 68
        refine ow_do_eq (does_store_all 4 rfl rfl rfl (one_u8s _) Tryd.sizeOf26 (by simp [outR_len]) (by first | rfl | simp)) ?_
        refine ow_nil (into ?_)
        exact sw_ret (fun w hm => ret_cell 4 rfl rfl hm rfl Tryd.isAgg26 Tryd.sizeOf26 (by simp [outR_len]) ⟨by rw [hhB, hrest, hash_parts p _ (by rw [hpm]) _ _ (by omega) (by rw [← hrest, hrl]; exact hj)], hm.forgetAll⟩)
end Go.Proofs.YtpmnhmfahgchgaaDoor
