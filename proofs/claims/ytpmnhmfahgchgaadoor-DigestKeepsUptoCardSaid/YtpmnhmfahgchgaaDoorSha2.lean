import Derived.Test.YtpmnhmfahgchgaaDoorSha1
import Derived.Test.YtpmnhmfahgchgaaDoorProg
set_option linter.unusedVariables false
set_option linter.unusedSimpArgs false
namespace Go.Proofs.YtpmnhmfahgchgaaDoor
open Go.Sx Go.Ps

theorem iu8 : (Tryd.prog.info? 5).map (fun i => (i.zero, i.size, i.bytes)) = some (some (.int .u8 0), 1, 1) := by kernel_rfl
theorem padZeros_lt (n : UInt64) : (padZeros n).toNat < 64 := by
  unfold padZeros; rw [UInt64.toNat_mod]; exact Nat.mod_lt _ (by decide)
theorem padLen (n : UInt64) : (1 + padZeros n + 8).toNat = 9 + (padZeros n).toNat := by
  have := padZeros_lt n
  simp only [UInt64.toNat_add, show (1 : UInt64).toNat = 1 from rfl, show (8 : UInt64).toNat = 8 from rfl]; omega
theorem padding_len (n : UInt64) : (padding n).length = 9 + (padZeros n).toNat := by
  unfold padding; rw [padFill_len]; simp [padLen n]

theorem made_u8 (L : Nat) : (madeCells (Value.int .u8 0).cells L).toList = (List.replicate L (0 : UInt8)).map vU8 := by
  rw [show (Value.int .u8 0).cells = #[Value.int .u8 0] from rfl, made_one, List.map_replicate]; rfl

theorem padding_any (n : UInt64) (w : World) : Calls Tryd.prog 89 #[vU64 n] w fun e w' => ∃ v, e = .returned v ∧ ∃ b, v = .slice (some ⟨b, 0, none⟩) (padding n).length (padding n).length ∧ Mem w [] [some (b, blk ((padding n).map vU8) 5)] w' := by
  obtain ⟨ti, hi, hz, hsz, hby⟩ := info_parts iu8
  obtain ⟨L, hLd⟩ : ∃ L, (1 + padZeros n + 8).toNat = L := ⟨_, rfl⟩
  have hL := hLd
  have hL0 : L = 9 + (padZeros n).toNat := by rw [← hLd, padLen]
  have hL1 := padZeros_lt n
  have hPP : (padding n).length = L := by rw [padding_len, hL0]
  refine calls_of_sw (vs := [vU64 n]) Tryd.func89 rfl Tryd.ntmps89 rfl (SW.begin ?_)
  refine sw_seq ?_
  refine sw_region ?_
  refine ow_val (val_assign rfl) rfl ?_   -- 2
  refine ow_nil (into ?_)
  refine sw_seq ?_
  refine sw_region ?_
  refine ow_val (val_move rfl) rfl ?_   -- 6
  refine ow_val (val_rem_u64 rfl rfl (by decide)) rfl ?_   -- 7
  refine ow_val (val_sub_u64 rfl rfl) rfl ?_   -- 8
  refine ow_val (val_rem_u64 rfl rfl (by decide)) rfl ?_   -- 9
  refine ow_val (val_assign rfl) rfl ?_   -- 3
  refine ow_nil (into ?_)
  refine sw_seq ?_
  refine sw_region ?_
  refine ow_val (val_move rfl) rfl ?_   -- 10
  refine ow_val (val_add_u64 rfl rfl) rfl ?_   -- 11
  refine ow_val (val_add_u64 rfl rfl) rfl ?_   -- 12
  refine ow_make (o := blk ((List.replicate L (0 : UInt8)).map vU8) 5) (acts_make_to (vs := (List.replicate L (0 : UInt8)).map vU8) L L rfl rfl (by show ((1 + padZeros n + 8).toNat : Int) = L; rw [hL]) (by show ((1 + padZeros n + 8).toNat : Int) = L; rw [hL]) Tryd.underlying25 hi hz (Nat.le_refl _) (by rw [hby]; omega) (by omega) (by rw [hsz, Nat.mul_one]; exact made_u8 L)) rfl (fun b13 hb13 => ?_)
  refine ow_val (val_assign rfl) rfl ?_   -- 4
  refine ow_nil (into ?_)
  refine sw_seq ?_
  refine sw_region ?_
  refine ow_val (val_move rfl) rfl ?_   -- 14
  refine ow_val (val_indexAddr_slice (0) (0) rfl rfl Tryd.underlying25 Tryd.sizeOf5 (by omega) (by omega) (by omega)) rfl ?_   -- 15
  refine ow_do (does_store_map (V := vU8) 0 rfl rfl rfl rfl Tryd.sizeOf5 (by simp; omega)) (fun _ _ => ?_)
  refine ow_nil (into ?_)
  refine sw_seq ?_
  refine sw_seq ?_
  refine sw_region ?_
  refine ow_val (val_move rfl) rfl ?_   -- 16
  refine ow_nil (into ?_)
  refine sw_block ?_
  refine sw_loop (σ := Nat) (fun i => i ≤ 8) (fun i => [(16, vInt (i : Int)), (0, vU64 n), (4, .slice (some ⟨b13, 0, none⟩) L L)]) (fun i => Mem w [] [some (b13, blk ((padFill n ((List.replicate L (0 : UInt8)).set 0 0x80) i).map vU8) 5)]) (fun i => 8 - i) 0 (by omega) ⟨rfl, rfl, rfl, trivial⟩ (fun w hm => hm) (fun i hi8 => ?_)
  have hPL : (padFill n ((List.replicate L (0 : UInt8)).set 0 0x80) i).length = L := by rw [padFill_len]; simp
  refine sw_seq ?_
  refine sw_region ?_
  refine ow_val (val_lss_int rfl rfl) rfl ?_   -- 17
  refine ow_nil (into ?_)
  refine sw_seq ?_
  refine sw_if rfl (fun h0 => ?_) (fun h0 => ?_)
  · -- then
    refine sw_skip (into ?_)
    refine sw_seq ?_
    refine sw_block ?_
    refine sw_seq ?_
    refine sw_region ?_
    refine ow_val (val_move rfl) rfl ?_   -- 18
    refine ow_val (val_assign rfl) rfl ?_   -- 5
    refine ow_nil (into ?_)
    refine sw_region ?_
    refine ow_val (val_move rfl) rfl ?_   -- 19
    refine ow_val (val_move rfl) rfl ?_   -- 20
    refine ow_val (val_len rfl Tryd.underlying25) rfl ?_   -- 21
    refine ow_val (val_sub_int ((L - 1 : Nat) : Int) rfl rfl (by omega) (by omega)) rfl ?_   -- 22
    refine ow_val (val_move rfl) rfl ?_   -- 23
    refine ow_val (val_sub_int (((L - 1) - i : Nat) : Int) rfl rfl (by omega) (by omega)) rfl ?_   -- 24
    refine ow_val (val_move rfl) rfl ?_   -- 25
    refine ow_val (val_mul_u64 rfl rfl) rfl ?_   -- 26
    refine ow_val (val_move rfl) rfl ?_   -- 27
    refine ow_val (val_mul_int ((8 * i : Nat) : Int) rfl rfl (by omega) (by omega)) rfl ?_   -- 28
    refine ow_val (val_shr_u64 (8 * i) rfl rfl (by first | rfl | omega) (by omega)) rfl ?_   -- 29
    refine ow_val (val_conv_u64_u8 Tryd.underlying46 Tryd.underlying5 rfl) rfl ?_   -- 30
    refine ow_val (val_indexAddr_slice ((L - 1) - i) ((L - 1) - i) rfl rfl Tryd.underlying25 Tryd.sizeOf5 (by omega) (by omega) (by omega)) rfl ?_   -- 31
    refine ow_do (does_store_map (V := vU8) 0 rfl rfl rfl rfl Tryd.sizeOf5 (by omega)) (fun _ _ => ?_)
    refine ow_nil (into ?_)
    refine sw_region ?_
    refine ow_val (val_add_int ((i + 1 : Nat) : Int) rfl rfl (by omega) (by omega)) rfl ?_   -- 32
    refine ow_val (val_move rfl) rfl ?_   -- 16
    exact ow_nil (fun w hm => ⟨i + 1, by omega, by omega, ⟨rfl, rfl, rfl, trivial⟩, (by rw [show (padFill n ((List.replicate L (0 : UInt8)).set 0 0x80) (i + 1)) = (padFill n ((List.replicate L (0 : UInt8)).set 0 0x80) i).set (L - 1 - i) ((8 * n) >>> UInt64.ofNat (8 * i)).toUInt8 from by simp [padFill]]; exact hm)⟩)
  · -- else
    obtain rfl : i = 8 := by omega
    refine sw_exit (into ?_)
    refine sw_seq ?_
    refine sw_region ?_
    refine ow_val (val_move rfl) rfl ?_   -- 33
    refine ow_val (val_assign rfl) rfl ?_   -- 2
    refine ow_nil (into ?_)
    exact sw_ret (fun w hm => ret_one _ rfl rfl ⟨b13, by rw [hPP], by rw [show padding n = padFill n ((List.replicate L (0 : UInt8)).set 0 0x80) 8 by simp only [padding, hLd]]; exact hm⟩)

theorem sum_any (b : Nat) (s : Sh) (hs : s.ok) (w : World) (hb : w.heap[b]? = some (blk (shCells s) 117)) (hK : KW w) : Calls Tryd.prog 49 #[.pointer (some ⟨b, 0, none⟩)] w fun e w' => ∃ v, e = .returned v ∧ v = .agg (s.sum.map vU8).toArray ∧ Mem w [] [] w' := by
  have hs' := Sh.write_ok hs (padding s.n)
  refine calls_of_sw (vs := [.pointer (some ⟨b, 0, none⟩)]) Tryd.func49 rfl Tryd.ntmps49 rfl (SW.begin ?_)
  refine sw_seq ?_
  refine sw_region ?_
  refine ow_new (acts_alloc z26) rfl (fun b2 hb2 => ?_)   -- 2
  refine ow_nil (into ?_)
  refine sw_seq ?_
  refine sw_region ?_
  refine ow_new (acts_alloc z26) rfl (fun b3 hb3 => ?_)   -- 3
  refine ow_nil (into ?_)
  refine sw_seq ?_
  refine sw_seq ?_
  refine sw_region ?_
  refine ow_val (val_move rfl) rfl ?_   -- 8
  refine ow_val (val_eql_nilptr Tryd.underlying79 rfl rfl) rfl ?_   -- 9
  refine ow_nil (into ?_)
  refine sw_false rfl rfl ?_
  refine sw_skip (into ?_)
  refine sw_seq ?_
  refine sw_region ?_
  refine ow_val (val_move rfl) rfl ?_   -- 11
  refine ow_val (val_nilCheck rfl) rfl ?_   -- 12
  refine ow_val (val_load_old_all hb (by simp) rfl Tryd.isAgg117 Tryd.sizeOf117 (sh_len hs)) rfl ?_   -- 13
  refine ow_new (acts_alloc z117) rfl (fun b4 hb4 => ?_)   -- 4
  refine ow_do_eq (does_store_all 0 rfl rfl rfl (sh_one s) Tryd.sizeOf117 (sh_len hs) (sh_len Sh.zero_ok)) ?_
  refine ow_nil (into ?_)
  refine sw_seq ?_
  refine sw_region ?_
  refine ow_val (val_move rfl) rfl ?_   -- 14
  refine ow_val (val_nilCheck rfl) rfl ?_   -- 15
  refine ow_val (val_fieldAddr (m := 0) (e := 73) rfl Tryd.underlying117 rfl rfl Tryd.sizeOf46 rfl) rfl ?_   -- 16
  refine ow_val (val_load_old hb (by simp) rfl Tryd.isAgg46 (sh_n hs)) rfl ?_   -- 17
  refine ow_call_blk (fun b => .slice (some ⟨b, 0, none⟩) (padding s.n).length (padding s.n).length) (callsTo Tryd.func89 rfl (by kernel_rfl) rfl) rfl (fun w hm => padding_any s.n w) (fun bp hbp => ?_)   -- 18
  refine ow_call_turn 1 rfl (callsTo Tryd.func48 rfl (by kernel_rfl) rfl) rfl (fun w hm => write_any b4 s hs _ _ _ (padding s.n) rfl w (hm.at (i := 1) rfl) (hK.mem0 hm) (by have := hK.pos; simp; omega) (Rd.blk (hm.at (i := 0) rfl)) (fun _ b' o' e => by simp only [Option.some.injEq, Addr.mk.injEq, and_true] at e; rw [← e.1]; simpa using hm.ne (i := 0) (j := 1) rfl rfl (by omega)) (Nat.le_refl _) (by rw [padding_len]; have := padZeros_lt s.n; omega)) ?_   -- 19
  refine ow_nil (into ?_)
  refine sw_seq ?_
  refine sw_seq ?_
  refine sw_region ?_
  refine ow_val (val_fieldAddr (m := 7) (e := 0) rfl Tryd.underlying117 rfl rfl Tryd.sizeOf114 rfl) rfl ?_   -- 20
  refine ow_val (val_load_part 1 rfl rfl Tryd.isAgg114 Tryd.sizeOf114 (by simp [hs'.h]) (sh_h hs')) rfl ?_   -- 21
  refine ow_val (val_move rfl) rfl ?_   -- 22
  refine ow_nil (into ?_)
  refine sw_block ?_
  have hh8 : (s.write (padding s.n)).h.length = 8 := hs'.h
  refine sw_loop (σ := Nat) (fun i => i ≤ 8) (fun i => [(22, vInt (i : Int)), (21, .agg ((s.write (padding s.n)).h.map vU32).toArray), (2, .pointer (some ⟨b2, 0, none⟩)), (3, .pointer (some ⟨b3, 0, none⟩))]) (fun i => Mem w [] [some (bp, blk ((padding s.n).map vU8) 5), some (b4, blk (shCells (s.write (padding s.n))) 117), some (b3, blk ((outAll (s.write (padding s.n)).h i).map vU8) 26), some (b2, blk ((List.replicate 32 (0 : UInt8)).map vU8) 26)]) (fun i => 8 - i) 0 (by omega) ⟨rfl, rfl, rfl, rfl, trivial⟩ (fun w hm => hm) (fun i hi => ?_)
  have hO := outAll_len (s.write (padding s.n)).h i
  refine sw_seq ?_
  refine sw_region ?_
  refine ow_val (val_lss_int rfl rfl) rfl ?_   -- 23
  refine ow_nil (into ?_)
  refine sw_seq ?_
  refine sw_if rfl (fun h0 => ?_) (fun h0 => ?_)
  · -- then
    refine sw_skip (into ?_)
    refine sw_seq ?_
    refine sw_block ?_
    refine sw_seq ?_
    refine sw_region ?_
    refine ow_val (val_move rfl) rfl ?_   -- 24
    refine ow_val (val_index (i) rfl rfl Tryd.underlying114 Tryd.isAgg113 Tryd.sizeOf113 (by omega) (by omega) (get_map _ _ _ (by omega))) rfl ?_   -- 25
    refine ow_val (val_assign rfl) rfl ?_   -- 5
    refine ow_val (val_assign rfl) rfl ?_   -- 6
    refine ow_nil (into ?_)
    refine sw_seq ?_
    refine sw_region ?_
    refine ow_val (val_move rfl) rfl ?_   -- 26
    refine ow_nil (into ?_)
    refine sw_block ?_
    refine sw_loop (σ := Nat) (fun j => j ≤ 4) (fun j => [(26, vInt (j : Int)), (5, vInt (i : Int)), (6, vU32 (gw (s.write (padding s.n)).h i)), (22, vInt (i : Int)), (21, .agg ((s.write (padding s.n)).h.map vU32).toArray), (2, .pointer (some ⟨b2, 0, none⟩)), (3, .pointer (some ⟨b3, 0, none⟩))]) (fun j => Mem w [] [some (bp, blk ((padding s.n).map vU8) 5), some (b4, blk (shCells (s.write (padding s.n))) 117), some (b3, blk ((outFill (s.write (padding s.n)).h i j (outAll (s.write (padding s.n)).h i)).map vU8) 26), some (b2, blk ((List.replicate 32 (0 : UInt8)).map vU8) 26)]) (fun j => 4 - j) 0 (by omega) ⟨rfl, rfl, rfl, rfl, rfl, rfl, rfl, trivial⟩ (fun w hm => hm) (fun j hj => ?_)
    have hOF := outFill_len (s.write (padding s.n)).h i (outAll (s.write (padding s.n)).h i) j
    refine sw_seq ?_
    refine sw_region ?_
    refine ow_val (val_lss_int rfl rfl) rfl ?_   -- 27
    refine ow_nil (into ?_)
    refine sw_seq ?_
    refine sw_if rfl (fun h1 => ?_) (fun h1 => ?_)
    · -- then
      refine sw_skip (into ?_)
      refine sw_seq ?_
      refine sw_block ?_
      refine sw_seq ?_
      refine sw_region ?_
      refine ow_val (val_move rfl) rfl ?_   -- 28
      refine ow_val (val_assign rfl) rfl ?_   -- 7
      refine ow_nil (into ?_)
      refine sw_region ?_
      refine ow_val (val_move rfl) rfl ?_   -- 29
      refine ow_val (val_mul_int ((4 * i : Nat) : Int) rfl rfl (by omega) (by omega)) rfl ?_   -- 30
      refine ow_val (val_move rfl) rfl ?_   -- 31
      refine ow_val (val_add_int ((4 * i + j : Nat) : Int) rfl rfl (by omega) (by omega)) rfl ?_   -- 32
      refine ow_val (val_move rfl) rfl ?_   -- 33
      refine ow_val (val_move rfl) rfl ?_   -- 34
      refine ow_val (val_mul_int ((8 * j : Nat) : Int) rfl rfl (by omega) (by omega)) rfl ?_   -- 35
      refine ow_val (val_sub_int ((24 - (8 * j) : Nat) : Int) rfl rfl (by omega) (by omega)) rfl ?_   -- 36
      refine ow_val (val_shr_u32 (24 - (8 * j)) rfl rfl (by first | rfl | omega) (by omega)) rfl ?_   -- 37
      refine ow_val (val_conv_u32_u8 Tryd.underlying113 Tryd.underlying5 rfl) rfl ?_   -- 38
      refine ow_val (val_indexAddr (4 * i + j) (4 * i + j) rfl rfl Tryd.underlying26 Tryd.sizeOf5 (by omega) (by omega) (by omega)) rfl ?_   -- 39
      refine ow_do (does_store_map (V := vU8) 2 rfl rfl rfl rfl Tryd.sizeOf5 (by omega)) (fun _ _ => ?_)
      refine ow_nil (into ?_)
      refine sw_region ?_
      refine ow_val (val_add_int ((j + 1 : Nat) : Int) rfl rfl (by omega) (by omega)) rfl ?_   -- 40
      refine ow_val (val_move rfl) rfl ?_   -- 26
      exact ow_nil (fun w hm => ⟨j + 1, by omega, by omega, ⟨rfl, rfl, rfl, rfl, rfl, rfl, rfl, trivial⟩, hm⟩)
    · -- else
      obtain rfl : j = 4 := by omega
      refine sw_exit (into ?_)
      refine sw_region ?_
      refine ow_val (val_add_int ((i + 1 : Nat) : Int) rfl rfl (by omega) (by omega)) rfl ?_   -- 41
      refine ow_val (val_move rfl) rfl ?_   -- 22
      exact ow_nil (fun w hm => ⟨i + 1, by omega, by omega, ⟨rfl, rfl, rfl, rfl, trivial⟩, hm⟩)
  · -- else
    obtain rfl : i = 8 := by omega
    refine sw_exit (into ?_)
    refine sw_seq ?_
    refine sw_region ?_
    refine ow_val (val_load_all 2 rfl rfl Tryd.isAgg26 Tryd.sizeOf26 (by simp [hO])) rfl ?_   -- 42
    refine ow_do_eq (does_store_all 3 rfl rfl rfl (one_u8s _) Tryd.sizeOf26 (by simp [hO]) (by first | rfl | simp)) ?_
    refine ow_nil (into ?_)
    exact sw_ret (fun w hm => ret_cell 3 rfl rfl hm rfl Tryd.isAgg26 Tryd.sizeOf26 (by simp [hO]) ⟨rfl, hm.forgetAll⟩)

theorem sum256_any (a : Option Addr) (m c : Nat) (p : List UInt8) (hpm : p.length = m) (w : World) (hK : KW w) (hr : Rd w a (p.map vU8)) (hc : m ≤ c) (hl : m < 9223372036854775808) : Calls Tryd.prog 24 #[.slice a m c] w fun e w' => ∃ v, e = .returned v ∧ v = .agg ((sum256 p).map vU8).toArray ∧ Mem w [] [] w' := by
  subst hpm
  refine calls_of_sw (vs := [.slice a p.length c]) Tryd.func24 rfl Tryd.ntmps24 rfl (SW.begin ?_)
  refine sw_seq ?_
  refine sw_region ?_
  refine ow_new (acts_alloc z26) rfl (fun b2 hb2 => ?_)   -- 2
  refine ow_nil (into ?_)
  refine sw_seq ?_
  refine sw_region ?_
  refine ow_call_blk (fun b => .pointer (some ⟨b, 0, none⟩)) (callsTo Tryd.func47 rfl (by kernel_rfl) rfl) rfl (fun w hm => new_any w) (fun bs hbs => ?_)   -- 4
  refine ow_val (val_assign rfl) rfl ?_   -- 3
  refine ow_nil (into ?_)
  refine sw_seq ?_
  refine sw_region ?_
  refine ow_val (val_move rfl) rfl ?_   -- 5
  refine ow_val (val_move rfl) rfl ?_   -- 6
  refine ow_call_turn 0 rfl (callsTo Tryd.func48 rfl (by kernel_rfl) rfl) rfl (fun w hm => write_any bs Sh.zero Sh.zero_ok a p.length c p rfl w (hm.at (i := 0) rfl) (hK.mem0 hm) (by have := hK.pos; simp; omega) (hr.mem hm) (fun h b' o' e hbb => by simp only [List.mem_singleton] at hbb; have h2 := hr.lt e (by simpa using h); omega) hc hl) ?_   -- 7
  refine ow_nil (into ?_)
  refine sw_seq ?_
  refine sw_region ?_
  refine ow_val (val_move rfl) rfl ?_   -- 8
  refine ow_call_pure (callsTo Tryd.func49 rfl (by kernel_rfl) rfl) rfl (fun w hm => sum_any bs _ (Sh.write_ok Sh.zero_ok p) w (hm.at (i := 0) rfl) (hK.mem0 hm)) ?_   -- 9
  refine ow_do_eq (does_store_all 1 rfl rfl rfl (one_u8s _) Tryd.sizeOf26 (by simp [Sh.sum_len]) (by first | rfl | simp)) ?_
  refine ow_nil (into ?_)
  exact sw_ret (fun w hm => ret_cell 1 rfl rfl hm rfl Tryd.isAgg26 Tryd.sizeOf26 (by simp [Sh.sum_len]) ⟨rfl, hm.forgetAll⟩)
end Go.Proofs.YtpmnhmfahgchgaaDoor
