import Derived.Test.YtpmnhmfahgchgaaDoorDig2
import Derived.Test.YtpmnhmfahgchgaaDoorProg
set_option linter.unusedVariables false
set_option linter.unusedSimpArgs false
namespace Go.Proofs.YtpmnhmfahgchgaaDoor
open Go.Sx Go.Ps
theorem joinlen {p q : List UInt8} {m n : Nat} (hp : p.length = m) (hq : q.length = n) : (p ++ q).length = m + n := by rw [List.length_append, hp, hq]
theorem made8 (L : Nat) : (madeCells (Value.int .u8 0).cells L).toList = (List.replicate L (0 : UInt8)).map vU8 := by
  rw [show (Value.int .u8 0).cells = #[Value.int .u8 0] from rfl, made_one, List.map_replicate]; rfl
theorem rowMade {b n : Nat} {T : TypeId} (h : n ≤ 9223372036854775807) : RowE (.slice (some ⟨b, 0, none⟩) 0 n) T 1 0 (([] : List UInt8).map vU8) (some (b, Sx.blk ((List.replicate n (0 : UInt8)).map vU8) T)) :=
  ⟨rfl, .inr ⟨b, n, (List.replicate n (0 : UInt8)).map vU8, rfl, Nat.zero_le _, h, by simp, rfl⟩⟩

theorem rjoin_any (w : World) (a1 : Option Addr) (m1 c1 : Nat) (p : List UInt8) (hp : p.length = m1) (hr1 : Rd w a1 (p.map vU8)) (a2 : Option Addr) (m2 c2 : Nat) (q : List UInt8) (hq : q.length = m2) (hr2 : Rd w a2 (q.map vU8)) (hb : m1 + m2 ≤ 140737488355328) : Calls Tryd.prog 96 #[.slice a1 m1 c1, .slice a2 m2 c2] w fun en w' => ∃ v, en = .returned v ∧ ∃ e', RowE v 5 1 (m1 + m2) ((p ++ q).map vU8) e' ∧ Mem w [] [e'] w' := by
  obtain ⟨ti, hti, htz, htsz, htby⟩ := info_parts iu8'
  refine calls_of_sw (vs := [.slice a1 m1 c1, .slice a2 m2 c2]) Tryd.func96 rfl Tryd.ntmps96 rfl (SW.begin ?_)
  refine sw_seq ?_
  refine sw_region ?_
  refine ow_val (val_assign rfl) rfl ?_   -- 4
  refine ow_nil (into ?_)
  refine sw_seq ?_
  refine sw_region ?_
  refine ow_val (val_move rfl) rfl ?_   -- 6
  refine ow_val (val_len rfl Tryd.underlying25) rfl ?_   -- 7
  refine ow_val (val_move rfl) rfl ?_   -- 8
  refine ow_val (val_len rfl Tryd.underlying25) rfl ?_   -- 9
  refine ow_val (val_add_int ((m1 + m2 : Nat) : Int) rfl rfl (by omega) (by omega)) rfl ?_   -- 10
  refine ow_make (o := blk ((List.replicate (m1 + m2) (0 : UInt8)).map vU8) 5) (acts_make_to (vs := (List.replicate (m1 + m2) (0 : UInt8)).map vU8) (0) (m1 + m2) rfl rfl (by simp) (by simp) Tryd.underlying25 hti htz (by omega) (by rw [htby]; omega) (by omega) (by rw [htsz, Nat.mul_one]; exact made8 _)) rfl (fun b11 hb11 => ?_)   -- 11
  refine ow_val (val_assign rfl) rfl ?_   -- 5
  refine ow_nil (into ?_)
  refine sw_seq ?_
  refine sw_region ?_
  refine ow_val (val_move rfl) rfl ?_   -- 12
  refine ow_val (val_move rfl) rfl ?_   -- 13
  refine ow_append' (k := 0 + m1) (acts_append (size := 1) (bytes := 1) 0 rfl rfl rfl (rowMade (by omega)) rfl Tryd.underlying25 hti htz htsz htby rfl (by decide) (fun w hm => hr1.mem hm) (by rw [List.length_map, Nat.mul_one]; exact hp) (one_u8s _) (by omega) (by omega)) rfl (fun a14 c14 e14 hr14 => ?_)   -- 14
  refine ow_val (val_assign rfl) rfl ?_   -- 5
  refine ow_nil (into ?_)
  refine sw_seq ?_
  refine sw_region ?_
  refine ow_val (val_move rfl) rfl ?_   -- 15
  refine ow_val (val_move rfl) rfl ?_   -- 16
  refine ow_append' (k := 0 + m1 + m2) (acts_append (size := 1) (bytes := 1) 0 rfl rfl rfl hr14 rfl Tryd.underlying25 hti htz htsz htby rfl (by decide) (fun w hm => hr2.mem hm) (by rw [List.length_map, Nat.mul_one]; exact hq) (one_u8s _) (by omega) (by omega)) rfl (fun a17 c17 e17 hr17 => ?_)   -- 17
  refine ow_val (val_assign rfl) rfl ?_   -- 5
  refine ow_nil (into ?_)
  refine sw_seq ?_
  refine sw_region ?_
  refine ow_val (val_move rfl) rfl ?_   -- 18
  refine ow_val (val_assign rfl) rfl ?_   -- 4
  refine ow_nil (into ?_)
  exact sw_ret (fun w hm => ret_one _ rfl rfl ⟨e17, hr17.cong (by rw [Nat.zero_add]) (by omega) (by simp), hm⟩)

theorem rwide_any (w : World) (x : UInt64) (n : Nat) (hn : n ≤ 8) : Calls Tryd.prog 100 #[vU64 x, vInt (n : Int)] w fun en w' => ∃ v, en = .returned v ∧ ∃ b, v = .slice (some ⟨b, 0, none⟩) n n ∧ Mem w [] [some (b, blk ((be x n).map vU8) 5)] w' := by
  obtain ⟨ti, hti, htz, htsz, htby⟩ := info_parts iu8'
  refine calls_of_sw (vs := [vU64 x, vInt (n : Int)]) Tryd.func100 rfl Tryd.ntmps100 rfl (SW.begin ?_)
  refine sw_seq ?_
  refine sw_region ?_
  refine ow_val (val_assign rfl) rfl ?_   -- 4
  refine ow_nil (into ?_)
  refine sw_seq ?_
  refine sw_region ?_
  refine ow_val (val_move rfl) rfl ?_   -- 7
  refine ow_make (o := blk ((List.replicate (n) (0 : UInt8)).map vU8) 5) (acts_make_to (vs := (List.replicate (n) (0 : UInt8)).map vU8) (n) (n) rfl rfl (by simp) (by simp) Tryd.underlying25 hti htz (by omega) (by rw [htby]; omega) (by omega) (by rw [htsz, Nat.mul_one]; exact made8 _)) rfl (fun b8 hb8 => ?_)   -- 8
  refine ow_val (val_assign rfl) rfl ?_   -- 5
  refine ow_nil (into ?_)
  refine sw_seq ?_
  refine sw_seq ?_
  refine sw_region ?_
  refine ow_val (val_move rfl) rfl ?_   -- 9
  refine ow_val (val_sub_int ((n : Int) - 1) rfl rfl rfl (by omega)) rfl ?_   -- 10
  refine ow_val (val_assign rfl) rfl ?_   -- 6
  refine ow_nil (into ?_)
  refine sw_block ?_
  refine sw_loop (σ := Nat × UInt64) (fun x' => x'.1 ≤ n ∧ x'.2.toNat = x.toNat / 256 ^ x'.1) (fun x' => [(6, vInt ((n : Int) - 1 - (x'.1 : Int))), (5, .slice (some ⟨b8, 0, none⟩) n n), (0, vU64 x'.2)]) (fun x' => Mem w [] [some (b8, blk ((wfill x n x'.1).map vU8) 5)]) (fun x' => n - x'.1) (0, x) ⟨Nat.zero_le _, by simp⟩ ⟨(by show some _ = some _; simp), rfl, rfl, trivial⟩ (fun w hm => by dsimp only; rw [wfill_zero]; exact hm) ?_
  rintro ⟨j, v⟩ ⟨hj, hv⟩
  simp only at hj hv ⊢
  refine sw_seq ?_
  refine sw_seq ?_
  refine sw_region ?_
  refine ow_val (val_move rfl) rfl ?_   -- 11
  refine ow_val ((val_geq_int rfl rfl)) rfl ?_   -- 12
  refine ow_nil (into ?_)
  refine sw_if rfl (fun h0 => ?_) (fun h0 => ?_)
  · -- then
    have hjn : j < n := by omega
    have h15 : (n : Int) - 1 - (j : Int) = ((n - 1 - j : Nat) : Int) := by omega
    rw [h15]
    refine sw_skip (into ?_)
    refine sw_seq ?_
    refine sw_block ?_
    refine sw_seq ?_
    refine sw_region ?_
    refine ow_val (val_move rfl) rfl ?_   -- 15
    refine ow_val (val_move rfl) rfl ?_   -- 16
    refine ow_val (val_move rfl) rfl ?_   -- 17
    refine ow_val (val_rem_u64 rfl rfl (by decide)) rfl ?_   -- 18
    refine ow_val (val_conv_u64_u8 Tryd.underlying46 Tryd.underlying5 rfl) rfl ?_   -- 19
    refine ow_val (val_indexAddr_slice (n - 1 - j) (n - 1 - j) rfl rfl Tryd.underlying25 Tryd.sizeOf5 (by omega) (by omega) (by omega)) rfl ?_   -- 20
    refine ow_do (does_store_map (V := vU8) 0 rfl rfl rfl rfl Tryd.sizeOf5 (by rw [wfill_len x n j (by omega)]; omega)) (fun _ _ => ?_)
    refine ow_nil (into ?_)
    refine sw_region ?_
    refine ow_val (val_move rfl) rfl ?_   -- 21
    refine ow_val (val_quo_u64 rfl rfl (by decide)) rfl ?_   -- 22
    refine ow_val (val_assign rfl) rfl ?_   -- 0
    refine ow_nil (into ?_)
    refine sw_region ?_
    refine ow_val (val_move rfl) rfl ?_   -- 13
    refine ow_val (val_sub_int ((n : Int) - 1 - ((j + 1 : Nat) : Int)) rfl rfl (by omega) (by omega)) rfl ?_   -- 14
    refine ow_val (val_assign rfl) rfl ?_   -- 6
    exact ow_nil (fun w hm => ⟨(j + 1, v / 256), ⟨by dsimp only; omega, (by dsimp only; rw [UInt64.toNat_div, hv, Nat.pow_succ, Nat.div_div_eq_div_mul]; rfl)⟩, by dsimp only; omega, ⟨rfl, rfl, rfl, trivial⟩, by dsimp only; rw [← wfill_succ x n j (by omega), ← byte_div x v j (by omega) hv]; exact hm⟩)
  · -- else
    obtain rfl : j = n := by omega
    refine sw_exit (into ?_)
    refine sw_seq ?_
    refine sw_region ?_
    refine ow_val (val_move rfl) rfl ?_   -- 23
    refine ow_val (val_assign rfl) rfl ?_   -- 4
    refine ow_nil (into ?_)
    exact sw_ret (fun w hm => ret_one _ rfl rfl ⟨b8, rfl, by rw [← wfill_all]; exact hm⟩)

theorem ruvar_any (w : World) (x : UInt64) : Calls Tryd.prog 97 #[vU64 x] w fun en w' => ∃ v, en = .returned v ∧ ∃ e', RowE v 5 1 (uvar x).length ((uvar x).map vU8) e' ∧ Mem w [] [e'] w' := by
  obtain ⟨ti, hti, htz, htsz, htby⟩ := info_parts iu8'
  refine calls_of_sw (vs := [vU64 x]) Tryd.func97 rfl Tryd.ntmps97 rfl (SW.begin ?_)
  refine sw_seq ?_
  refine sw_region ?_
  refine ow_val (val_assign rfl) rfl ?_   -- 2
  refine ow_nil (into ?_)
  refine sw_seq ?_
  refine sw_region ?_
  refine ow_val (val_assign rfl) rfl ?_   -- 3
  refine ow_nil (into ?_)
  refine sw_seq ?_
  refine sw_block ?_
  refine sw_loop (σ := Option Addr × Nat × Nat × Ent × List UInt8 × UInt64) (fun t => RowE (.slice t.1 t.2.1 t.2.2.1) 5 1 t.2.1 (t.2.2.2.2.1.map vU8) t.2.2.2.1 ∧ t.2.2.2.2.1 ++ uvar t.2.2.2.2.2 = uvar x ∧ t.2.2.2.2.1.length = t.2.1) (fun t => [(3, .slice t.1 t.2.1 t.2.2.1), (0, vU64 t.2.2.2.2.2)]) (fun t => Mem w [] [t.2.2.2.1]) (fun t => t.2.2.2.2.2.toNat) (none, 0, 0, none, [], x) ⟨RowE.nil _ _, rfl, rfl⟩ ⟨rfl, rfl, trivial⟩ (fun w hm => hm.place) ?_
  rintro ⟨a1, k1, c1, e1, ys, v⟩ ⟨hrow1, hys, hyl⟩
  simp only at hrow1 hys hyl ⊢
  have hlen := congrArg List.length hys
  simp only [List.length_append] at hlen
  have hul := uvar_len x
  have hul2 : 0 < (uvar v).length := by by_cases h : v < 128 <;> first | (rw [uvar_lt h]; simp) | (rw [uvar_ge h]; simp)
  refine sw_seq ?_
  refine sw_seq ?_
  refine sw_region ?_
  refine ow_val (val_move rfl) rfl ?_   -- 4
  refine ow_val (val_geq_u64 rfl rfl) rfl ?_   -- 5
  refine ow_nil (into ?_)
  refine sw_if rfl (fun h0 => ?_) (fun h0 => ?_)
  · -- then
    have hge : ¬ v < 128 := fun h => by have h1 := UInt64.lt_iff_toNat_lt.1 h; have h2 := UInt64.le_iff_toNat_le.1 h0; have h3 : (UInt64.ofNat (Int.toNat 128)).toNat = 128 := rfl; have h4 : (128 : UInt64).toNat = 128 := rfl; omega
    refine sw_skip (into ?_)
    refine sw_block ?_
    refine sw_seq ?_
    refine sw_region ?_
    refine ow_val (val_move rfl) rfl ?_   -- 6
    refine ow_val (val_move rfl) rfl ?_   -- 7
    refine ow_val (val_rem_u64 rfl rfl (by decide)) rfl ?_   -- 8
    refine ow_val (val_conv_u64_u8 Tryd.underlying46 Tryd.underlying5 rfl) rfl ?_   -- 9
    refine ow_val (val_add_u8 rfl rfl) rfl ?_   -- 10
    refine ow_make (acts_buildSlice (cs := ([((v % 128).toUInt8 + 128)] : List UInt8).map vU8) Tryd.underlying25 Tryd.sizeOf5 Tryd.zeroValue5 rfl rfl (by kernel_rfl)) rfl (fun b11 hb11 => ?_)   -- 11
    refine ow_append' (k := k1 + 1) (acts_append (size := 1) (bytes := 1) 1 rfl rfl rfl hrow1 rfl Tryd.underlying25 hti htz htsz htby rfl (by decide) (fun w hm => (Rd.blk (hm.at (i := 0) rfl))) rfl (one_u8s _) (by omega) (by omega)) rfl (fun a12 c12 e12 hr12 => ?_)   -- 12
    refine ow_val (val_assign rfl) rfl ?_   -- 3
    refine ow_nil (into ?_)
    refine sw_region ?_
    refine ow_val (val_move rfl) rfl ?_   -- 13
    refine ow_val (val_quo_u64 rfl rfl (by decide)) rfl ?_   -- 14
    refine ow_val (val_assign rfl) rfl ?_   -- 0
    exact ow_nil (fun w hm => ⟨(a12, k1 + 1, c12, e12, ys ++ [(v % 128).toUInt8 + 128], v / 128), ⟨hr12.cong rfl rfl (by rw [List.map_append]), by dsimp only; rw [← hys, uvar_ge hge, List.append_assoc, group_eq, div128]; rfl, by simp [hyl]⟩, (by dsimp only; rw [div128]; exact shr7_lt v hge), ⟨rfl, rfl, trivial⟩, hm.only (.cons _ (.cons_cons _ (List.nil_sublist _)))⟩)
  · -- else
    have hlt : v < 128 := by have h3 : (UInt64.ofNat (Int.toNat 128)) = 128 := rfl; rw [h3] at h0; rw [UInt64.lt_iff_toNat_lt]; rw [UInt64.le_iff_toNat_le] at h0; omega
    rw [uvar_lt hlt] at hys hlen hul2
    refine sw_exit (into ?_)
    refine sw_seq ?_
    refine sw_region ?_
    refine ow_val (val_move rfl) rfl ?_   -- 15
    refine ow_val (val_move rfl) rfl ?_   -- 16
    refine ow_val (val_conv_u64_u8 Tryd.underlying46 Tryd.underlying5 rfl) rfl ?_   -- 17
    refine ow_make (acts_buildSlice (cs := ([v.toUInt8] : List UInt8).map vU8) Tryd.underlying25 Tryd.sizeOf5 Tryd.zeroValue5 rfl rfl (by kernel_rfl)) rfl (fun b18 hb18 => ?_)   -- 18
    refine ow_append' (k := k1 + 1) (acts_append (size := 1) (bytes := 1) 1 rfl rfl rfl hrow1 rfl Tryd.underlying25 hti htz htsz htby rfl (by decide) (fun w hm => (Rd.blk (hm.at (i := 0) rfl))) rfl (one_u8s _) (by omega) (by omega)) rfl (fun a19 c19 e19 hr19 => ?_)   -- 19
    refine ow_val (val_assign rfl) rfl ?_   -- 3
    refine ow_nil (into ?_)
    refine sw_seq ?_
    refine sw_region ?_
    refine ow_val (val_move rfl) rfl ?_   -- 20
    refine ow_val (val_assign rfl) rfl ?_   -- 2
    refine ow_nil (into ?_)
    exact sw_ret (fun w hm => ret_one _ rfl rfl ⟨e19, hr19.cong (by rw [show k1 + 1 = (uvar x).length by simp at hlen; omega]) (by simp at hlen; omega) (by rw [← hys, List.map_append]), hm.only (.cons _ (.cons_cons _ (List.nil_sublist _)))⟩)

theorem rblob_any (w : World) (ap : Option Addr) (m cp : Nat) (p : List UInt8) (hpm : p.length = m) (hr : Rd w ap (p.map vU8)) (hb : (blob p).length ≤ 140737488355328) : Calls Tryd.prog 98 #[.slice ap m cp] w fun en w' => ∃ v, en = .returned v ∧ ∃ e', RowE v 5 1 (blob p).length ((blob p).map vU8) e' ∧ Mem w [] [e'] w' := by
  have hbl : (blob p).length = (uvar (UInt64.ofNat m)).length + m := by rw [blob, List.length_append, hpm]
  refine calls_of_sw (vs := [.slice ap m cp]) Tryd.func98 rfl Tryd.ntmps98 rfl (SW.begin ?_)
  refine sw_seq ?_
  refine sw_region ?_
  refine ow_val (val_assign rfl) rfl ?_   -- 2
  refine ow_nil (into ?_)
  refine sw_seq ?_
  refine sw_region ?_
  refine ow_val (val_move rfl) rfl ?_   -- 3
  refine ow_val (val_len rfl Tryd.underlying25) rfl ?_   -- 4
  refine ow_val (val_conv_n_u64 m Tryd.underlying3 Tryd.underlying46 rfl rfl) rfl ?_   -- 5
  refine ow_call_row (E := 5) (size := 1) (k := (uvar (UInt64.ofNat m)).length) (xs := (uvar (UInt64.ofNat m)).map vU8) (callsTo Tryd.func97 rfl (by kernel_rfl) rfl) rfl (fun w hm => ruvar_any w (UInt64.ofNat m)) (fun a6 c6 e6 hr6 => ?_)   -- 6
  refine ow_val (val_move rfl) rfl ?_   -- 7
  refine ow_call_row (E := 5) (size := 1) (k := (uvar (UInt64.ofNat m)).length + m) (xs := (((uvar (UInt64.ofNat m))) ++ p).map vU8) (callsTo Tryd.func96 rfl (by kernel_rfl) rfl) rfl (fun w hm => rjoin_any w a6 ((uvar (UInt64.ofNat m)).length) _ ((uvar (UInt64.ofNat m))) rfl (hr6.rdAt hm (i := 0) rfl) ap m _ p hpm (hr.mem hm) (by omega)) (fun a8 c8 e8 hr8 => ?_)   -- 8
  refine ow_val (val_assign rfl) rfl ?_   -- 2
  refine ow_nil (into ?_)
  exact sw_ret (fun w hm => ret_one _ rfl rfl ⟨e8, hr8.cong rfl (by rw [blob, List.length_append, hpm]) (by rw [blob, hpm]), hm.only (.cons_cons _ (List.nil_sublist _))⟩)

theorem rsame_any (w : World) (a1 : Option Addr) (m1 c1 : Nat) (p : List UInt8) (hp : p.length = m1) (hr1 : Rd w a1 (p.map vU8)) (a2 : Option Addr) (m2 c2 : Nat) (q : List UInt8) (hq : q.length = m2) (hr2 : Rd w a2 (q.map vU8)) (hl : m1 < 9223372036854775808) : Calls Tryd.prog 28 #[.slice a1 m1 c1, .slice a2 m2 c2] w fun e w' => ∃ v, e = .returned v ∧ v = .bool (decide (p = q)) ∧ Mem w [] [] w' := by
  refine calls_of_sw (vs := [.slice a1 m1 c1, .slice a2 m2 c2]) Tryd.func28 rfl Tryd.ntmps28 rfl (SW.begin ?_)
  refine sw_seq ?_
  refine sw_region ?_
  refine ow_val (val_assign rfl) rfl ?_   -- 4
  refine ow_nil (into ?_)
  refine sw_seq ?_
  refine sw_seq ?_
  refine sw_region ?_
  refine ow_val (val_move rfl) rfl ?_   -- 6
  refine ow_val (val_len rfl Tryd.underlying25) rfl ?_   -- 7
  refine ow_val (val_move rfl) rfl ?_   -- 8
  refine ow_val (val_len rfl Tryd.underlying25) rfl ?_   -- 9
  by_cases hne : m1 ≠ m2
  · -- yes
    refine ow_val ((val_neq_int rfl rfl).to (congrArg Value.bool (decide_eq_true (by omega)))) rfl ?_   -- 10
    refine ow_nil (into ?_)
    refine sw_true rfl rfl ?_
    refine sw_seq ?_
    refine sw_region ?_
    refine ow_val (val_assign rfl) rfl ?_   -- 4
    refine ow_nil (into ?_)
    refine sw_ret (fun w hm => ?_)
    try dsimp only [thenP, blockP, Nat.beq, cond]
    exact ret_one _ rfl rfl ⟨by rw [decide_eq_false (fun h => hne (by rw [← hp, ← hq, h]))]; rfl, hm⟩
  · -- no
    refine ow_val ((val_neq_int rfl rfl).to (congrArg Value.bool (decide_eq_false (by omega)))) rfl ?_   -- 10
    refine ow_nil (into ?_)
    refine sw_false rfl rfl ?_
    refine sw_skip (into ?_)
    refine sw_seq ?_
    refine sw_seq ?_
    refine sw_region ?_
    refine ow_val (val_move rfl) rfl ?_   -- 11
    refine ow_val (val_len rfl Tryd.underlying25) rfl ?_   -- 12
    refine ow_val (val_move rfl) rfl ?_   -- 13
    refine ow_nil (into ?_)
    refine sw_block ?_
    obtain rfl : m1 = m2 := by omega
    refine sw_loop (σ := Nat) (fun i => i ≤ m1 ∧ p.take i = q.take i) (fun i => [(13, vInt (i : Int)), (12, vInt (m1 : Int)), (1, .slice a2 m1 c2), (0, .slice a1 m1 c1)]) (fun _ => Mem w [] []) (fun i => m1 - i) 0 ⟨Nat.zero_le _, by simp⟩ ⟨rfl, rfl, rfl, rfl, trivial⟩ (fun w hm => hm) ?_
    rintro i ⟨hi, he⟩
    refine sw_seq ?_
    refine sw_region ?_
    refine ow_val (val_lss_int rfl rfl) rfl ?_   -- 14
    refine ow_nil (into ?_)
    refine sw_seq ?_
    refine sw_if rfl (fun h0 => ?_) (fun h0 => ?_)
    · -- then
      obtain ⟨b1, o1, rfl⟩ := hr1.addr (by rw [List.length_map]; omega)
      obtain ⟨b2, o2, rfl⟩ := hr2.addr (by rw [List.length_map]; omega)
      refine sw_skip (into ?_)
      refine sw_seq ?_
      refine sw_block ?_
      refine sw_seq ?_
      refine sw_region ?_
      refine ow_val (val_move rfl) rfl ?_   -- 15
      refine ow_val (val_assign rfl) rfl ?_   -- 5
      refine ow_nil (into ?_)
      refine sw_seq ?_
      refine sw_region_lex _ [] [(0, 0), (1, 0), (2, 0), (4, 0), (5, 0), (6, 0), (3, 1), (7, 1), (8, 0)] (by kernel_rfl) (by kernel_rfl) (fun _ _ _ h => h) (fun _ h => h) (fun _ h => h.drawn _) ?_
      refine lw_pure rfl (val_move rfl) rfl ?_   -- 16
      refine lw_pure rfl (val_move rfl) rfl ?_   -- 17
      refine lw_pure rfl (val_indexAddr_slice (i) (o1 + i) rfl rfl Tryd.underlying25 Tryd.sizeOf5 (by omega) (by omega) (by omega)) rfl ?_   -- 18
      refine lw_pure rfl (val_move rfl) rfl ?_   -- 20
      refine lw_pure rfl (val_move rfl) rfl ?_   -- 21
      refine lw_pure rfl (val_indexAddr_slice (i) (o2 + i) rfl rfl Tryd.underlying25 Tryd.sizeOf5 (by omega) (by omega) (by omega)) rfl ?_   -- 22
      refine lw_held rfl (val_load rfl Tryd.isAgg5 (fun w' hm => Rd.get (p := p) (k := i) (hr1.mem hm) (by omega) (by omega))) rfl ?_   -- 19
      refine lw_held rfl (val_load rfl Tryd.isAgg5 (fun w' hm => Rd.get (p := q) (k := i) (hr2.mem hm) (by omega) (by omega))) rfl ?_   -- 23
      refine lw_pure rfl (val_neq_u8 rfl rfl) rfl ?_   -- 24
      refine lw_nil (into ?_)
      refine sw_if rfl (fun hb => ?_) (fun hb => ?_)
      · -- then
        refine sw_seq ?_
        refine sw_region ?_
        refine ow_val (val_assign rfl) rfl ?_   -- 4
        refine ow_nil (into ?_)
        refine sw_ret (fun w hm => ?_)
        try dsimp only [thenP, blockP, Nat.beq, cond]
        exact ret_one _ rfl rfl ⟨by rw [decide_eq_false (getD_ne hb)]; rfl, hm⟩
      · -- else
        have hbb : p.getD i default = q.getD i default := Classical.byContradiction fun h => hb h
        refine sw_skip (into ?_)
        refine sw_region ?_
        refine ow_val (val_add_int ((i + 1 : Nat) : Int) rfl rfl (by omega) (by omega)) rfl ?_   -- 25
        refine ow_val (val_move rfl) rfl ?_   -- 13
        exact ow_nil (fun w hm => ⟨i + 1, ⟨by omega, by rw [take_getD (by omega), take_getD (by omega), he, hbb]⟩, by omega, ⟨rfl, rfl, rfl, rfl, trivial⟩, hm⟩)
    · -- else
      obtain rfl : i = m1 := by omega
      rw [List.take_of_length_le (by omega), List.take_of_length_le (by omega)] at he
      refine sw_exit (into ?_)
      refine sw_seq ?_
      refine sw_region ?_
      refine ow_val (val_assign rfl) rfl ?_   -- 4
      refine ow_nil (into ?_)
      refine sw_ret (fun w hm => ?_)
      try dsimp only [thenP, blockP, Nat.beq, cond]
      exact ret_one _ rfl rfl ⟨by rw [decide_eq_true he]; rfl, hm⟩

theorem rsame_is (w : World) (a1 : Option Addr) (m1 c1 : Nat) (p : List UInt8) (hp : p.length = m1) (hr1 : Rd w a1 (p.map vU8)) (a2 : Option Addr) (m2 c2 : Nat) (q : List UInt8) (hq : q.length = m2) (hr2 : Rd w a2 (q.map vU8)) (hl : m1 < 9223372036854775808) {b : Bool} (h : decide (p = q) = b) : Calls Tryd.prog 28 #[.slice a1 m1 c1, .slice a2 m2 c2] w fun e w' => ∃ v, e = .returned v ∧ v = .bool b ∧ Mem w [] [] w' := by rw [← h]; exact rsame_any w a1 m1 c1 p hp hr1 a2 m2 c2 q hq hr2 hl

theorem rtwin_any (w : World) (ap : Option Addr) (m cp : Nat) (p : List UInt8) (hpm : p.length = m) (hr : Rd w ap (p.map vU8)) (hb : m ≤ 140737488355328) : Calls Tryd.prog 50 #[.slice ap m cp] w fun en w' => ∃ v, en = .returned v ∧ ∃ b, v = .slice (some ⟨b, 0, none⟩) m m ∧ Mem w [] [some (b, blk (p.map vU8) 5)] w' := by
  obtain ⟨ti, hti, htz, htsz, htby⟩ := info_parts iu8'
  refine calls_of_sw (vs := [.slice ap m cp]) Tryd.func50 rfl Tryd.ntmps50 rfl (SW.begin ?_)
  refine sw_seq ?_
  refine sw_region ?_
  refine ow_val (val_assign rfl) rfl ?_   -- 2
  refine ow_nil (into ?_)
  refine sw_seq ?_
  refine sw_region ?_
  refine ow_val (val_move rfl) rfl ?_   -- 4
  refine ow_val (val_len rfl Tryd.underlying25) rfl ?_   -- 5
  refine ow_make (o := blk ((List.replicate (m) (0 : UInt8)).map vU8) 5) (acts_make_to (vs := (List.replicate (m) (0 : UInt8)).map vU8) (m) (m) rfl rfl (by simp) (by simp) Tryd.underlying25 hti htz (by omega) (by rw [htby]; omega) (by omega) (by rw [htsz, Nat.mul_one]; exact made8 _)) rfl (fun b6 hb6 => ?_)   -- 6
  refine ow_val (val_assign rfl) rfl ?_   -- 3
  refine ow_nil (into ?_)
  refine sw_seq ?_
  refine sw_region ?_
  refine ow_val (val_move rfl) rfl ?_   -- 7
  refine ow_val (val_move rfl) rfl ?_   -- 8
  refine ow_act_eq (acts_copy_to (size := 1) m (p.map vU8) 0 rfl rfl rfl Tryd.underlying25 Tryd.sizeOf5 (fun w hm => hr.mem hm) (by rw [List.length_map, Nat.mul_one]; exact hpm) (one_u8s _) (by simp) (by omega) (by rw [List.take_zero, Nat.mul_one, List.take_of_length_le (by rw [List.length_map]; omega), List.drop_of_length_le (by simp), List.nil_append, List.append_nil])) rfl ?_
  refine ow_nil (into ?_)
  refine sw_seq ?_
  refine sw_region ?_
  refine ow_val (val_move rfl) rfl ?_   -- 10
  refine ow_val (val_assign rfl) rfl ?_   -- 2
  refine ow_nil (into ?_)
  exact sw_ret (fun w hm => ret_one _ rfl rfl ⟨b6, rfl, hm⟩)

theorem zD32 (w : World) : (zeroValue 26).run Tryd.prog w = .ok (.agg (zeros32.map vU8).toArray) w := by kernel_rfl

theorem rwidth_any (v0 : Int) (w : World) : Calls Tryd.prog 46 #[vInt v0] w fun e w' => ∃ v, e = .returned v ∧ v = .bool (wd v0) ∧ Mem w [] [] w' := by
  refine calls_of_sw (vs := [vInt v0]) Tryd.func46 rfl Tryd.ntmps46 rfl (SW.begin ?_)
  refine sw_seq ?_
  refine sw_region ?_
  refine ow_val (val_assign rfl) rfl ?_   -- 2
  refine ow_nil (into ?_)
  refine sw_seq ?_
  refine sw_region ?_
  refine ow_val (val_move rfl) rfl ?_   -- 3
  by_cases h1 : 1 ≤ v0
  · -- yes
    refine ow_val ((val_geq_int rfl rfl).to (congrArg Value.bool (decide_eq_true (by omega)))) rfl ?_   -- 4
    refine ow_val (val_move rfl) rfl ?_   -- 5
    refine ow_guard_yes rfl rfl rfl ?_
    refine ow_val (val_move rfl) rfl ?_   -- 6
    refine ow_guard_yes rfl rfl rfl ?_
    refine ow_val (val_leq_int rfl rfl) rfl ?_   -- 7
    refine ow_val (val_pick_true rfl rfl) rfl ?_   -- 8
    refine ow_val (val_assign rfl) rfl ?_   -- 2
    refine ow_nil (into ?_)
    exact sw_ret (fun w hm => ret_one _ rfl rfl ⟨by simp [wd, h1] <;> rfl, hm⟩)
  · -- no
    refine ow_val ((val_geq_int rfl rfl).to (congrArg Value.bool (decide_eq_false (by omega)))) rfl ?_   -- 4
    refine ow_val (val_move rfl) rfl ?_   -- 5
    first | refine ow_guard_no rfl rfl rfl rfl rfl ?_ | refine ow_guard_none rfl rfl rfl rfl rfl ?_
    first | refine ow_guard_no rfl rfl rfl rfl rfl ?_ | refine ow_guard_none rfl rfl rfl rfl rfl ?_
    refine ow_val (val_pick_false rfl rfl) rfl ?_   -- 8
    refine ow_val (val_assign rfl) rfl ?_   -- 2
    refine ow_nil (into ?_)
    exact sw_ret (fun w hm => ret_one _ rfl rfl ⟨by simp [wd, h1] <;> rfl, hm⟩)

theorem rwidth_is {v0 : Int} {b : Bool} (h : wd v0 = b) (w : World) : Calls Tryd.prog 46 #[vInt v0] w fun e w' => ∃ v, e = .returned v ∧ v = .bool b ∧ Mem w [] [] w' := by rw [← h]; exact rwidth_any v0 w

theorem docForm_no (v0 : Int) (hw : wd v0 = false) (d : List UInt8) (hd : d.length = 32) (w : World) : Calls Tryd.prog 16 #[vInt v0, .agg ((d).map vU8).toArray] w fun e w' => ∃ v, e = .returned v ∧ v = .bool (fm v0 d) ∧ Mem w [] [] w' := by
  refine calls_of_sw (vs := [vInt v0, .agg ((d).map vU8).toArray]) Tryd.func16 rfl Tryd.ntmps16 rfl (SW.begin ?_)
  refine sw_seq ?_
  refine sw_region ?_
  refine ow_new (acts_box rfl) rfl (fun b3 hb3 => ?_)   -- 3
  refine ow_val (val_assign rfl) rfl ?_   -- 4
  refine ow_nil (into ?_)
  refine sw_seq ?_
  refine sw_seq ?_
  refine sw_region ?_
  refine ow_val (val_move rfl) rfl ?_   -- 6
  refine ow_call_pure (v := .bool false) (callsTo Tryd.func46 rfl (by kernel_rfl) rfl) rfl (fun w hm => rwidth_is hw w) ?_   -- 7
  refine ow_val (val_not rfl) rfl ?_   -- 8
  refine ow_nil (into ?_)
  refine sw_true rfl rfl ?_
  refine sw_seq ?_
  refine sw_region ?_
  refine ow_val (val_assign rfl) rfl ?_   -- 4
  refine ow_nil (into ?_)
  refine sw_ret (fun w hm => ?_)
  try dsimp only [thenP, blockP, Nat.beq, cond]
  exact ret_one _ rfl rfl ⟨by simp [fm, hw] <;> rfl, hm.forgetAll⟩

theorem docForm_yes (k : Nat) (hw : wd (k : Int) = true) (h1 : 1 ≤ k) (h2 : k ≤ 32) (d : List UInt8) (hd : d.length = 32) (w : World) : Calls Tryd.prog 16 #[vInt (k : Int), .agg ((d).map vU8).toArray] w fun e w' => ∃ v, e = .returned v ∧ v = .bool (fm (k : Int) d) ∧ Mem w [] [] w' := by
  refine calls_of_sw (vs := [vInt (k : Int), .agg ((d).map vU8).toArray]) Tryd.func16 rfl Tryd.ntmps16 rfl (SW.begin ?_)
  refine sw_seq ?_
  refine sw_region ?_
  refine ow_new (acts_box rfl) rfl (fun b3 hb3 => ?_)   -- 3
  refine ow_val (val_assign rfl) rfl ?_   -- 4
  refine ow_nil (into ?_)
  refine sw_seq ?_
  refine sw_seq ?_
  refine sw_region ?_
  refine ow_val (val_move rfl) rfl ?_   -- 6
  refine ow_call_pure (v := .bool true) (callsTo Tryd.func46 rfl (by kernel_rfl) rfl) rfl (fun w hm => rwidth_is hw w) ?_   -- 7
  refine ow_val (val_not rfl) rfl ?_   -- 8
  refine ow_nil (into ?_)
  refine sw_false rfl rfl ?_
  refine sw_skip (into ?_)
  refine sw_seq ?_
  refine sw_seq ?_
  refine sw_region ?_
  refine ow_val (val_move rfl) rfl ?_   -- 9
  refine ow_val (val_assign rfl) rfl ?_   -- 5
  refine ow_nil (into ?_)
  refine sw_block ?_
  refine sw_loop (σ := Nat) (fun j => k + j ≤ 32 ∧ ∀ x, k ≤ x → x < k + j → d.getD x default = 0) (fun j => [(5, vInt ((k + j : Nat) : Int)), (3, .pointer (some ⟨b3, 0, none⟩))]) (fun _ => Mem w [] [some (b3, blk (d.map vU8) 27)]) (fun j => 32 - j) 0 ⟨by omega, fun x h1 h2 => absurd h2 (by omega)⟩ ⟨rfl, rfl, trivial⟩ (fun w hm => hm) ?_
  rintro j ⟨hj, hall⟩
  refine sw_seq ?_
  refine sw_seq ?_
  refine sw_region ?_
  refine ow_val (val_move rfl) rfl ?_   -- 10
  refine ow_val (val_lss_int rfl rfl) rfl ?_   -- 11
  refine ow_nil (into ?_)
  refine sw_if rfl (fun h0 => ?_) (fun h0 => ?_)
  · -- then
    refine sw_skip (into ?_)
    refine sw_seq ?_
    refine sw_block ?_
    refine sw_seq ?_
    refine sw_region ?_
    refine ow_val (val_move rfl) rfl ?_   -- 14
    refine ow_val (val_indexAddr (k + j) (k + j) rfl rfl Tryd.underlying27 Tryd.sizeOf5 (by omega) (by omega) (by omega)) rfl ?_   -- 15
    refine ow_val (val_load_at 0 rfl rfl Tryd.isAgg5 (get_map vU8 d _ (by rw [hd]; omega))) rfl ?_   -- 16
    refine ow_val (val_neq_u8 rfl rfl) rfl ?_   -- 17
    refine ow_nil (into ?_)
    refine sw_if rfl (fun hb => ?_) (fun hb => ?_)
    · -- then
      refine sw_seq ?_
      refine sw_region ?_
      refine ow_val (val_assign rfl) rfl ?_   -- 4
      refine ow_nil (into ?_)
      refine sw_ret (fun w hm => ?_)
      try dsimp only [thenP, blockP, Nat.beq, cond]
      exact ret_one _ rfl rfl ⟨by rw [show fm (k : Int) d = false by simp only [fm, wd_of h1 h2, Bool.true_and, Int.toNat_natCast]; exact decide_eq_false (fun h => hb ((cutw_get d k hd h2).1 h _ (by omega) (by omega)))]; rfl, hm.forgetAll⟩
    · -- else
      have hz0 : d.getD (k + j) default = 0 := Classical.byContradiction fun h => hb h
      refine sw_skip (into ?_)
      refine sw_region ?_
      refine ow_val (val_move rfl) rfl ?_   -- 12
      refine ow_val (val_add_int ((k + j + 1 : Nat) : Int) rfl rfl (by omega) (by omega)) rfl ?_   -- 13
      refine ow_val (val_assign rfl) rfl ?_   -- 5
      exact ow_nil (fun w hm => ⟨j + 1, ⟨by omega, fun x hx1 hx2 => (Nat.lt_or_ge x (k + j)).elim (hall x hx1) (fun h => (show k + j = x by omega) ▸ hz0)⟩, by omega, ⟨rfl, rfl, trivial⟩, hm⟩)
  · -- else
    obtain hj32 : k + j = 32 := by omega
    refine sw_exit (into ?_)
    refine sw_seq ?_
    refine sw_region ?_
    refine ow_val (val_assign rfl) rfl ?_   -- 4
    refine ow_nil (into ?_)
    exact sw_ret (fun w hm => ret_one _ rfl rfl ⟨by rw [show fm (k : Int) d = true by simp only [fm, wd_of h1 h2, Bool.true_and, Int.toNat_natCast]; exact decide_eq_true ((cutw_get d k hd h2).2 (fun x hx1 hx2 => hall x hx1 (by omega)))]; rfl, hm.forgetAll⟩)

theorem docForm_any (v0 : Int) (d : List UInt8) (hd : d.length = 32) (w : World) : Calls Tryd.prog 16 #[vInt v0, .agg ((d).map vU8).toArray] w fun e w' => ∃ v, e = .returned v ∧ v = .bool (fm v0 d) ∧ Mem w [] [] w' := by
  cases hw : wd v0 with
  | true => obtain ⟨k, rfl, h1, h2⟩ := wd_nat hw; exact docForm_yes k hw h1 h2 d hd w
  | false => exact docForm_no v0 hw d hd w

theorem rcut_any (k : Nat) (h2 : k ≤ 32) (w : World) (ap : Option Addr) (m cp : Nat) (p : List UInt8) (hpm : p.length = m) (hr : Rd w ap (p.map vU8)) (hcp : m ≤ cp) (hl : m < 9223372036854775808) : Calls Tryd.prog 51 #[vInt (k : Int), .slice ap m cp] w fun e w' => ∃ v, e = .returned v ∧ v = .agg ((dig k p).map vU8).toArray ∧ Mem w [] [] w' := by
  refine calls_of_sw (vs := [vInt (k : Int), .slice ap m cp]) Tryd.func51 rfl Tryd.ntmps51 rfl (SW.begin ?_)
  refine sw_seq ?_
  refine sw_region ?_
  refine ow_new (acts_alloc zD) rfl (fun b4 hb4 => ?_)   -- 4
  refine ow_nil (into ?_)
  refine sw_seq ?_
  refine sw_region ?_
  refine ow_val (val_move rfl) rfl ?_   -- 7
  refine ow_call_pure (callsTo Tryd.func90 rfl (by kernel_rfl) rfl) rfl (fun w hm => refSum_any _ _ _ p hpm (by omega) (by omega) w (hr.mem hm)) ?_   -- 8
  refine ow_new (acts_alloc zD32) rfl (fun b5 hb5 => ?_)   -- 5
  refine ow_do_eq (does_store_all 0 rfl rfl rfl (one_u8s _) Tryd.sizeOf26 (by show (List.map vU8 (shaOf p)).length = _; rw [List.length_map]; exact (hash_len _)) (by show (List.map vU8 zeros32).length = _; rw [List.length_map]; exact zeros32_len)) ?_
  refine ow_nil (into ?_)
  refine sw_seq ?_
  refine sw_seq ?_
  refine sw_region ?_
  refine ow_val (val_move rfl) rfl ?_   -- 9
  refine ow_val (val_assign rfl) rfl ?_   -- 6
  refine ow_nil (into ?_)
  refine sw_block ?_
  refine sw_loop (σ := Nat) (fun j => k + j ≤ 32) (fun j => [(6, vInt ((k + j : Nat) : Int)), (5, .pointer (some ⟨b5, 0, none⟩)), (4, .pointer (some ⟨b4, 0, none⟩))]) (fun j => Mem w [] [some (b5, blk ((cutFrom (shaOf p) k j).map vU8) 26), some (b4, blk (zeros32.map vU8) 27)]) (fun j => 32 - j) 0 (by omega) ⟨rfl, rfl, rfl, trivial⟩ (fun w hm => hm) ?_
  intro j hj
  refine sw_seq ?_
  refine sw_seq ?_
  refine sw_region ?_
  refine ow_val (val_move rfl) rfl ?_   -- 10
  refine ow_val (val_lss_int rfl rfl) rfl ?_   -- 11
  refine ow_nil (into ?_)
  refine sw_if rfl (fun h0 => ?_) (fun h0 => ?_)
  · -- then
    refine sw_skip (into ?_)
    refine sw_seq ?_
    refine sw_block ?_
    refine sw_region ?_
    refine ow_val (val_move rfl) rfl ?_   -- 14
    refine ow_val (val_indexAddr (k + j) (k + j) rfl rfl Tryd.underlying26 Tryd.sizeOf5 (by omega) (by omega) (by omega)) rfl ?_   -- 15
    refine ow_do (does_store_map (V := vU8) 0 rfl rfl rfl rfl Tryd.sizeOf5 (by rw [cutFrom_len, hash_len]; omega)) (fun _ _ => ?_)
    refine ow_nil (into ?_)
    refine sw_region ?_
    refine ow_val (val_move rfl) rfl ?_   -- 12
    refine ow_val (val_add_int ((k + j + 1 : Nat) : Int) rfl rfl (by omega) (by omega)) rfl ?_   -- 13
    refine ow_val (val_assign rfl) rfl ?_   -- 6
    exact ow_nil (fun w hm => ⟨j + 1, by omega, by omega, ⟨rfl, rfl, rfl, trivial⟩, hm⟩)
  · -- else
    obtain rfl : j = 32 - k := by omega
    rw [cutFrom_all _ k (hash_len _) h2]
    refine sw_exit (into ?_)
    refine sw_seq ?_
    refine sw_region ?_
    refine ow_val (val_load_all 0 rfl rfl Tryd.isAgg26 Tryd.sizeOf26 (by show (List.map vU8 (cutw k (shaOf p))).length = _; rw [List.length_map]; exact (cutw_len (hash_len _) (by omega)))) rfl ?_   -- 16
    refine ow_do_eq (does_store_all 1 rfl rfl rfl (one_u8s _) Tryd.sizeOf27 (by show (List.map vU8 (cutw k (shaOf p))).length = _; rw [List.length_map]; exact (cutw_len (hash_len _) (by omega))) (by show (List.map vU8 zeros32).length = _; rw [List.length_map]; exact zeros32_len)) ?_
    refine ow_nil (into ?_)
    exact sw_ret (fun w hm => ret_cell 1 rfl rfl hm rfl Tryd.isAgg27 Tryd.sizeOf27 (by rw [List.length_map]; exact dig_len _ h2) ⟨rfl, hm.forgetAll⟩)

theorem rcheck_no (v0 : Int) (hw : wd v0 = false) (w : World) (a : Option Addr) (c : Nat) (ks : List (List UInt8)) : Calls Tryd.prog 60 #[vInt v0, .slice a ks.length c] w fun e w' => ∃ v, e = .returned v ∧ v = vInt ((chk v0 ks : Nat) : Int) ∧ Mem w [] [] w' := by
  refine calls_of_sw (vs := [vInt v0, .slice a ks.length c]) Tryd.func60 rfl Tryd.ntmps60 rfl (SW.begin ?_)
  refine sw_seq ?_
  refine sw_region ?_
  refine ow_val (val_assign rfl) rfl ?_   -- 4
  refine ow_nil (into ?_)
  refine sw_seq ?_
  refine sw_seq ?_
  refine sw_region ?_
  refine ow_val (val_move rfl) rfl ?_   -- 7
  refine ow_call_pure (v := .bool false) (callsTo Tryd.func46 rfl (by kernel_rfl) rfl) rfl (fun w hm => rwidth_is hw w) ?_   -- 8
  refine ow_val (val_not rfl) rfl ?_   -- 9
  refine ow_nil (into ?_)
  refine sw_true rfl rfl ?_
  refine sw_seq ?_
  refine sw_region ?_
  refine ow_val (val_assign rfl) rfl ?_   -- 4
  refine ow_nil (into ?_)
  refine sw_ret (fun w hm => ?_)
  try dsimp only [thenP, blockP, Nat.beq, cond]
  exact ret_one _ rfl rfl ⟨by rw [chk_no hw]; rfl, hm.forgetAll⟩

theorem rcheck_yes (v0 : Int) (hw : wd v0 = true) (w : World) (a : Option Addr) (c : Nat) (ks : List (List UInt8)) (hks : ∀ d ∈ ks, d.length = 32) (hr : Rd w a (ks.flatMap fun d => d.map vU8)) (hc : ks.length ≤ c) (hl : ks.length < 9223372036854775808) : Calls Tryd.prog 60 #[vInt v0, .slice a ks.length c] w fun e w' => ∃ v, e = .returned v ∧ v = vInt ((chk v0 ks : Nat) : Int) ∧ Mem w [] [] w' := by
  refine calls_of_sw (vs := [vInt v0, .slice a ks.length c]) Tryd.func60 rfl Tryd.ntmps60 rfl (SW.begin ?_)
  refine sw_seq ?_
  refine sw_region ?_
  refine ow_val (val_assign rfl) rfl ?_   -- 4
  refine ow_nil (into ?_)
  refine sw_seq ?_
  refine sw_seq ?_
  refine sw_region ?_
  refine ow_val (val_move rfl) rfl ?_   -- 7
  refine ow_call_pure (v := .bool true) (callsTo Tryd.func46 rfl (by kernel_rfl) rfl) rfl (fun w hm => rwidth_is hw w) ?_   -- 8
  refine ow_val (val_not rfl) rfl ?_   -- 9
  refine ow_nil (into ?_)
  refine sw_false rfl rfl ?_
  refine sw_skip (into ?_)
  refine sw_seq ?_
  refine sw_seq ?_
  refine sw_region ?_
  refine ow_val (val_move rfl) rfl ?_   -- 10
  refine ow_val (val_len rfl Tryd.underlying45) rfl ?_   -- 11
  refine ow_val (val_move rfl) rfl ?_   -- 12
  refine ow_nil (into ?_)
  refine sw_block ?_
  refine sw_loop (σ := Nat) (fun i => i ≤ ks.length ∧ ∀ j, j < i → fm v0 (ks.getD j default) = true) (fun i => [(12, vInt (i : Int)), (11, vInt (ks.length : Int)), (10, .slice a ks.length c), (0, vInt v0)]) (fun _ => Mem w [] []) (fun i => ks.length - i) 0 ⟨Nat.zero_le _, fun j h => absurd h (Nat.not_lt_zero j)⟩ ⟨rfl, rfl, rfl, rfl, trivial⟩ (fun w hm => hm.forgetAll) ?_
  rintro i ⟨hi, hall⟩
  refine sw_seq ?_
  refine sw_region ?_
  refine ow_val (val_lss_int rfl rfl) rfl ?_   -- 13
  refine ow_nil (into ?_)
  refine sw_seq ?_
  refine sw_if rfl (fun h0 => ?_) (fun h0 => ?_)
  · -- then
    obtain ⟨ba, oa, rfl⟩ := hr.addr (by rw [flatMap_size ks (fun x hx => by rw [List.length_map]; exact hks x hx)]; omega)
    refine sw_skip (into ?_)
    refine sw_seq ?_
    refine sw_block ?_
    refine sw_seq ?_
    refine sw_region ?_
    refine ow_val (val_indexAddr_slice (i) (oa + i * 32) rfl rfl Tryd.underlying45 Tryd.sizeOf27 (by omega) (by omega) (by omega)) rfl ?_   -- 14
    refine ow_val (val_load_elem (cells := fun d => d.map vU8) (l := ks) (o := oa) (i := i) rfl Tryd.isAgg27 Tryd.sizeOf27 (fun x hx => by rw [List.length_map]; exact hks x hx) (by omega) (by omega) (fun w' hm => hr.mem hm)) rfl ?_   -- 15
    refine ow_new (acts_alloc zD) rfl (fun b6 hb6 => ?_)   -- 6
    refine ow_do_eq (does_store_all 0 rfl rfl rfl (one_u8s _) Tryd.sizeOf27 (by show (List.map vU8 (ks.getD i default)).length = _; rw [List.length_map]; exact (hks _ (getD_mem (by omega)))) (by show (List.map vU8 zeros32).length = _; rw [List.length_map]; exact zeros32_len)) ?_
    refine ow_nil (into ?_)
    refine sw_seq ?_
    refine sw_region ?_
    refine ow_val (val_move rfl) rfl ?_   -- 16
    refine ow_val (val_load_all 0 rfl rfl Tryd.isAgg27 Tryd.sizeOf27 (by show (List.map vU8 (ks.getD i default)).length = _; rw [List.length_map]; exact (hks _ (getD_mem (by omega))))) rfl ?_   -- 17
    refine ow_call_pure (callsTo Tryd.func16 rfl (by kernel_rfl) rfl) rfl (fun w hm => docForm_any v0 (ks.getD i default) (hks _ (getD_mem (by omega))) w) ?_   -- 18
    refine ow_val (val_not rfl) rfl ?_   -- 19
    refine ow_nil (into ?_)
    refine sw_cond rfl (fun hf0 => ?_) (fun hf0 => ?_)
    · -- then
      have hf : fm v0 (ks.getD i default) = false := by simpa using hf0
      refine sw_seq ?_
      refine sw_region ?_
      refine ow_val (val_assign rfl) rfl ?_   -- 4
      refine ow_nil (into ?_)
      refine sw_ret (fun w hm => ?_)
      try dsimp only [thenP, blockP, Nat.beq, cond]
      exact ret_one _ rfl rfl ⟨by rw [chk_bad hw (getD_mem (i := i) (by omega)) (by simpa using hf)]; rfl, hm.forgetAll⟩
    · -- else
      have hf : fm v0 (ks.getD i default) = true := by simpa using hf0
      refine sw_skip (into ?_)
      refine sw_region ?_
      refine ow_val (val_add_int ((i + 1 : Nat) : Int) rfl rfl (by omega) (by omega)) rfl ?_   -- 20
      refine ow_val (val_move rfl) rfl ?_   -- 12
      exact ow_nil (fun w hm => ⟨i + 1, ⟨by omega, fun j hj => (Nat.lt_or_ge j i).elim (hall j) (fun h => (show i = j by omega) ▸ hf)⟩, by omega, ⟨rfl, rfl, rfl, rfl, trivial⟩, hm.forgetAll⟩)
  · -- else
    refine sw_exit (into ?_)
    refine sw_seq ?_
    refine sw_region ?_
    refine ow_val (val_assign rfl) rfl ?_   -- 4
    refine ow_nil (into ?_)
    exact sw_ret (fun w hm => ret_one _ rfl rfl ⟨by rw [chk_all hw (fun d hd => by obtain ⟨j, hj⟩ := List.mem_iff_getElem?.1 hd; have hj2 := (List.getElem?_eq_some_iff.1 hj).1; have h9 := hall j (by omega); simpa [List.getD_eq_getElem?_getD, hj] using h9)]; rfl, hm⟩)

theorem rcheck_any (v0 : Int) (w : World) (a : Option Addr) (c : Nat) (ks : List (List UInt8)) (hks : ∀ d ∈ ks, d.length = 32) (hr : Rd w a (ks.flatMap fun d => d.map vU8)) (hc : ks.length ≤ c) (hl : ks.length < 9223372036854775808) : Calls Tryd.prog 60 #[vInt v0, .slice a ks.length c] w fun e w' => ∃ v, e = .returned v ∧ v = vInt ((chk v0 ks : Nat) : Int) ∧ Mem w [] [] w' := by
  cases hw : wd v0 with
  | true => exact rcheck_yes v0 hw w a c ks hks hr hc hl
  | false => exact rcheck_no v0 hw w a c ks

theorem rones_any (x : UInt16) (w : World) : Calls Tryd.prog 99 #[vU16 x] w fun e w' => ∃ v, e = .returned v ∧ v = vInt ((ones x : Nat) : Int) ∧ Mem w [] [] w' := by
  refine calls_of_sw (vs := [vU16 x]) Tryd.func99 rfl Tryd.ntmps99 rfl (SW.begin ?_)
  refine sw_seq ?_
  refine sw_region ?_
  refine ow_val (val_assign rfl) rfl ?_   -- 2
  refine ow_nil (into ?_)
  refine sw_seq ?_
  refine sw_region ?_
  refine ow_val (val_assign rfl) rfl ?_   -- 3
  refine ow_nil (into ?_)
  refine sw_seq ?_
  refine sw_block ?_
  refine sw_loop (σ := Nat × UInt16) (fun t => t.1 + onesF 16 t.2.toNat = ones x) (fun t => [(3, vInt (t.1 : Int)), (0, vU16 t.2)]) (fun _ => Mem w [] []) (fun t => t.2.toNat) (0, x) (by simp [ones]) ⟨rfl, rfl, trivial⟩ (fun w hm => hm) ?_
  rintro ⟨c, v⟩ hc
  simp only at hc ⊢
  have ho16 := onesF_le 16 x.toNat
  have hm2 : (v % 2).toNat = v.toNat % 2 := UInt16.toNat_mod v 2
  have hd2 : (v / 2).toNat = v.toNat / 2 := UInt16.toNat_div v 2
  have hco : ones x ≤ 16 := ho16
  have hvl := v.toNat_lt
  have hst : onesF 16 v.toNat = v.toNat % 2 + onesF 16 (v.toNat / 2) := by rw [onesF_step 15, ← onesF_more 15 1 (v.toNat / 2) (by omega)]
  refine sw_seq ?_
  refine sw_seq ?_
  refine sw_region ?_
  refine ow_val (val_move rfl) rfl ?_   -- 4
  refine ow_val (val_gtr_u16 rfl rfl) rfl ?_   -- 5
  refine ow_nil (into ?_)
  refine sw_if rfl (fun h0 => ?_) (fun h0 => ?_)
  · -- then
    have hv0 : 0 < v.toNat := by have h3 : (UInt16.ofNat (Int.toNat 0)) = 0 := rfl; rw [h3, UInt16.lt_iff_toNat_lt] at h0; simpa using h0
    refine sw_skip (into ?_)
    refine sw_seq ?_
    refine sw_block ?_
    refine sw_region ?_
    refine ow_val (val_move rfl) rfl ?_   -- 8
    refine ow_val (val_move rfl) rfl ?_   -- 9
    refine ow_val (val_rem_u16 rfl rfl (by decide)) rfl ?_   -- 10
    refine ow_val (val_conv_u16_i64 Tryd.underlying44 Tryd.underlying3 rfl) rfl ?_   -- 11
    refine ow_val (val_add_int (((c + (v % 2).toNat : Nat)) : Int) rfl rfl (by have h9 : (v % UInt16.ofNat (Int.toNat 2)).toNat = v.toNat % 2 := hm2; omega) (by have h9 : (v % UInt16.ofNat (Int.toNat 2)).toNat = v.toNat % 2 := hm2; omega)) rfl ?_   -- 12
    refine ow_val (val_assign rfl) rfl ?_   -- 3
    refine ow_nil (into ?_)
    refine sw_region ?_
    refine ow_val (val_move rfl) rfl ?_   -- 6
    refine ow_val (val_quo_u16 rfl rfl (by decide)) rfl ?_   -- 7
    refine ow_val (val_assign rfl) rfl ?_   -- 0
    exact ow_nil (fun w hm => ⟨(c + (v % 2).toNat, v / 2), by dsimp only; rw [hm2, hd2]; omega, by dsimp only; rw [hd2]; omega, ⟨rfl, rfl, trivial⟩, hm⟩)
  · -- else
    have hv0 : v.toNat = 0 := by have h3 : (UInt16.ofNat (Int.toNat 0)) = 0 := rfl; rw [h3, UInt16.lt_iff_toNat_lt] at h0; have h4 : (0 : UInt16).toNat = 0 := rfl; omega
    rw [hv0, onesF_zero] at hc
    refine sw_exit (into ?_)
    refine sw_seq ?_
    refine sw_region ?_
    refine ow_val (val_move rfl) rfl ?_   -- 13
    refine ow_val (val_assign rfl) rfl ?_   -- 2
    refine ow_nil (into ?_)
    exact sw_ret (fun w hm => ret_one _ rfl rfl ⟨by rw [← hc]; rfl, hm⟩)

theorem rleafI_any (w : World) (ap : Option Addr) (m cp : Nat) (p : List UInt8) (hpm : p.length = m) (hr : Rd w ap (p.map vU8)) (hb : m < 140737488355328) : Calls Tryd.prog 57 #[.slice ap m cp] w fun en w' => ∃ v, en = .returned v ∧ ∃ e', RowE v 5 1 (1 + m) ((leafI p).map vU8) e' ∧ Mem w [] [e'] w' := by
  refine calls_of_sw (vs := [.slice ap m cp]) Tryd.func57 rfl Tryd.ntmps57 rfl (SW.begin ?_)
  refine sw_seq ?_
  refine sw_region ?_
  refine ow_val (val_assign rfl) rfl ?_   -- 2
  refine ow_nil (into ?_)
  refine sw_seq ?_
  refine sw_region ?_
  refine ow_make (acts_buildSlice (cs := ([0] : List UInt8).map vU8) Tryd.underlying25 Tryd.sizeOf5 Tryd.zeroValue5 rfl rfl (by kernel_rfl)) rfl (fun b3 hb3 => ?_)   -- 3
  refine ow_val (val_move rfl) rfl ?_   -- 4
  refine ow_call_row (E := 5) (size := 1) (k := 1 + m) (xs := (([0] : List UInt8) ++ p).map vU8) (callsTo Tryd.func96 rfl (by kernel_rfl) rfl) rfl (fun w hm => rjoin_any w (some ⟨b3, 0, none⟩) 1 _ ([0] : List UInt8) rfl (Rd.blk (hm.at (i := 0) rfl)) ap m _ p hpm (hr.mem hm) (by omega)) (fun a5 c5 e5 hr5 => ?_)   -- 5
  refine ow_val (val_assign rfl) rfl ?_   -- 2
  refine ow_nil (into ?_)
  exact sw_ret (fun w hm => ret_one _ rfl rfl ⟨e5, hr5, hm.only (.cons_cons _ (List.nil_sublist _))⟩)

theorem rkeyI_any (w : World) (ap : Option Addr) (m cp : Nat) (p : List UInt8) (hpm : p.length = m) (hr : Rd w ap (p.map vU8)) (hb : m < 140737488355328) : Calls Tryd.prog 58 #[.slice ap m cp] w fun en w' => ∃ v, en = .returned v ∧ ∃ e', RowE v 5 1 (1 + m) ((keyI p).map vU8) e' ∧ Mem w [] [e'] w' := by
  refine calls_of_sw (vs := [.slice ap m cp]) Tryd.func58 rfl Tryd.ntmps58 rfl (SW.begin ?_)
  refine sw_seq ?_
  refine sw_region ?_
  refine ow_val (val_assign rfl) rfl ?_   -- 2
  refine ow_nil (into ?_)
  refine sw_seq ?_
  refine sw_region ?_
  refine ow_make (acts_buildSlice (cs := ([2] : List UInt8).map vU8) Tryd.underlying25 Tryd.sizeOf5 Tryd.zeroValue5 rfl rfl (by kernel_rfl)) rfl (fun b3 hb3 => ?_)   -- 3
  refine ow_val (val_move rfl) rfl ?_   -- 4
  refine ow_call_row (E := 5) (size := 1) (k := 1 + m) (xs := (([2] : List UInt8) ++ p).map vU8) (callsTo Tryd.func96 rfl (by kernel_rfl) rfl) rfl (fun w hm => rjoin_any w (some ⟨b3, 0, none⟩) 1 _ ([2] : List UInt8) rfl (Rd.blk (hm.at (i := 0) rfl)) ap m _ p hpm (hr.mem hm) (by omega)) (fun a5 c5 e5 hr5 => ?_)   -- 5
  refine ow_val (val_assign rfl) rfl ?_   -- 2
  refine ow_nil (into ?_)
  exact sw_ret (fun w hm => ret_one _ rfl rfl ⟨e5, hr5, hm.only (.cons_cons _ (List.nil_sublist _))⟩)

theorem rnodeI_any (w : World) (k : Nat) (h1 : 1 ≤ k) (h2 : k ≤ 32) (l r : List UInt8) (hll : l.length = 32) (hrl : r.length = 32) : Calls Tryd.prog 62 #[vInt (k : Int), .agg ((l).map vU8).toArray, .agg ((r).map vU8).toArray] w fun en w' => ∃ v, en = .returned v ∧ ∃ e', RowE v 5 1 (nodeI k l r).length ((nodeI k l r).map vU8) e' ∧ Mem w [] [e'] w' := by
  refine calls_of_sw (vs := [vInt (k : Int), .agg ((l).map vU8).toArray, .agg ((r).map vU8).toArray]) Tryd.func62 rfl Tryd.ntmps62 rfl (SW.begin ?_)
  refine sw_seq ?_
  refine sw_region ?_
  refine ow_new (acts_box rfl) rfl (fun b4 hb4 => ?_)   -- 4
  refine ow_new (acts_box rfl) rfl (fun b5 hb5 => ?_)   -- 5
  refine ow_val (val_assign rfl) rfl ?_   -- 6
  refine ow_nil (into ?_)
  refine sw_seq ?_
  refine sw_region_tree _ [0, 5, 6] (.one 1 0 (.one 2 0 (.one 3 0 (.one 4 0 (.alt 0 (.one 5 2 (.one 6 2 (.one 7 0 .done))) (.alt 5 (.one 0 2 (.one 6 2 (.one 7 0 .done))) .stop)))))) (by kernel_rfl) (by kernel_rfl) (fun _ _ _ h => h) (fun _ h => h) (fun _ h => h.drawn _) ?_
  refine lt_pure rfl trivial (val_move rfl) rfl ?_   -- 8
  refine lt_pure rfl trivial (val_slice_array_hi' k 0 rfl rfl Tryd.underlying27 Tryd.sizeOf5 rfl (by omega) rfl) rfl ?_   -- 9
  refine lt_pure rfl trivial (val_move rfl) rfl ?_   -- 10
  refine lt_pure rfl trivial (val_slice_array_hi' k 0 rfl rfl Tryd.underlying27 Tryd.sizeOf5 rfl (by omega) rfl) rfl ?_   -- 11
  refine lt_alt ?_ ?_
  · -- first 0
    refine lt_make (fun b => .slice (some ⟨b, 0, none⟩) 1 1) rfl trivial (acts_buildSlice (cs := ([1] : List UInt8).map vU8) Tryd.underlying25 Tryd.sizeOf5 Tryd.zeroValue5 rfl rfl (by kernel_rfl)) rfl (fun h => nomatch h) (fun b7 hb7 => ?_)   -- 7
    refine lt_call_row (E := 5) (size := 1) (k := k + k) (xs := ((l.take k) ++ (r.take k)).map vU8) rfl trivial (callsTo Tryd.func96 rfl (by kernel_rfl) rfl) rfl (fun w hm => rjoin_any w (some ⟨b4, 0, none⟩) k _ (l.take k) (by rw [List.length_take, hll]; omega) ((Rd.blk (hm.at (i := 2) rfl)).take1 k) (some ⟨b5, 0, none⟩) k _ (r.take k) (by rw [List.length_take, hrl]; omega) ((Rd.blk (hm.at (i := 1) rfl)).take1 k) (by omega)) (fun h => nomatch h) (fun a12 c12 e12 hr12 => ?_)   -- 12
    refine lt_call_row (E := 5) (size := 1) (k := 1 + (k + k)) (xs := (([1] : List UInt8) ++ (((l.take k) ++ (r.take k)))).map vU8) rfl trivial (callsTo Tryd.func96 rfl (by kernel_rfl) rfl) rfl (fun w hm => rjoin_any w (some ⟨b7, 0, none⟩) 1 _ ([1] : List UInt8) rfl (Rd.blk (hm.at (i := 1) rfl)) a12 (k + k) _ (((l.take k) ++ (r.take k))) (joinlen (by rw [List.length_take, hll]; omega) (by rw [List.length_take, hrl]; omega)) (hr12.rdAt hm (i := 0) rfl) (by omega)) (fun h => nomatch h) (fun a13 c13 e13 hr13 => ?_)   -- 13
    refine lt_pure rfl trivial (val_assign rfl) rfl ?_   -- 6
    refine lt_done (into ?_)
    refine sw_ret (fun w hm => ?_)
    try dsimp only [thenP, blockP, Nat.beq, cond]
    exact ret_one _ rfl rfl ⟨e13, hr13.cong rfl (by simp [nodeI, hll, hrl]; omega) (by simp only [nodeI, List.append_assoc]), hm.only (.cons_cons _ (List.nil_sublist _))⟩
  refine lt_alt ?_ ?_
  · -- first 5
    refine lt_call_row (E := 5) (size := 1) (k := k + k) (xs := ((l.take k) ++ (r.take k)).map vU8) rfl trivial (callsTo Tryd.func96 rfl (by kernel_rfl) rfl) rfl (fun w hm => rjoin_any w (some ⟨b4, 0, none⟩) k _ (l.take k) (by rw [List.length_take, hll]; omega) ((Rd.blk (hm.at (i := 1) rfl)).take1 k) (some ⟨b5, 0, none⟩) k _ (r.take k) (by rw [List.length_take, hrl]; omega) ((Rd.blk (hm.at (i := 0) rfl)).take1 k) (by omega)) (fun h => nomatch h) (fun a12 c12 e12 hr12 => ?_)   -- 12
    refine lt_make (fun b => .slice (some ⟨b, 0, none⟩) 1 1) rfl trivial (acts_buildSlice (cs := ([1] : List UInt8).map vU8) Tryd.underlying25 Tryd.sizeOf5 Tryd.zeroValue5 rfl rfl (by kernel_rfl)) rfl (fun h => nomatch h) (fun b7 hb7 => ?_)   -- 7
    refine lt_call_row (E := 5) (size := 1) (k := 1 + (k + k)) (xs := (([1] : List UInt8) ++ (((l.take k) ++ (r.take k)))).map vU8) rfl trivial (callsTo Tryd.func96 rfl (by kernel_rfl) rfl) rfl (fun w hm => rjoin_any w (some ⟨b7, 0, none⟩) 1 _ ([1] : List UInt8) rfl (Rd.blk (hm.at (i := 0) rfl)) a12 (k + k) _ (((l.take k) ++ (r.take k))) (joinlen (by rw [List.length_take, hll]; omega) (by rw [List.length_take, hrl]; omega)) (hr12.rdAt hm (i := 1) rfl) (by omega)) (fun h => nomatch h) (fun a13 c13 e13 hr13 => ?_)   -- 13
    refine lt_pure rfl trivial (val_assign rfl) rfl ?_   -- 6
    refine lt_done (into ?_)
    refine sw_ret (fun w hm => ?_)
    try dsimp only [thenP, blockP, Nat.beq, cond]
    exact ret_one _ rfl rfl ⟨e13, hr13.cong rfl (by simp [nodeI, hll, hrl]; omega) (by simp only [nodeI, List.append_assoc]), hm.only (.cons_cons _ (List.nil_sublist _))⟩
  exact lt_stop

theorem rrootI_any (w : World) (k : Nat) (h1 : 1 ≤ k) (h2 : k ≤ 32) (size : UInt64) (l r : List UInt8) (hll : l.length = 32) (hrl : r.length = 32) : Calls Tryd.prog 64 #[vInt (k : Int), .agg (vU64 size :: (l.map vU8 ++ r.map vU8)).toArray] w fun en w' => ∃ v, en = .returned v ∧ ∃ e', RowE v 5 1 (rootI k size l r).length ((rootI k size l r).map vU8) e' ∧ Mem w [] [e'] w' := by
  refine calls_of_sw (vs := [vInt (k : Int), .agg (vU64 size :: (l.map vU8 ++ r.map vU8)).toArray]) Tryd.func64 rfl Tryd.ntmps64 rfl (SW.begin ?_)
  refine sw_seq ?_
  refine sw_region ?_
  refine ow_new (acts_box rfl) rfl (fun b3 hb3 => ?_)   -- 3
  refine ow_val (val_assign rfl) rfl ?_   -- 4
  refine ow_nil (into ?_)
  refine sw_seq ?_
  refine sw_region_tree _ [0, 3, 4, 11, 12] (.one 1 0 (.one 5 0 (.one 6 0 (.one 7 0 (.one 8 0 (.one 9 0 (.one 10 0 (.alt 0 (.one 2 2 (.one 3 2 (.one 4 2 (.one 11 2 (.one 12 2 (.one 13 0 .done)))))) (.alt 2 (.alt 0 (.one 3 2 (.one 4 2 (.one 11 2 (.one 12 2 (.one 13 0 .done))))) (.alt 3 (.one 0 2 (.one 4 2 (.one 11 2 (.one 12 2 (.one 13 0 .done))))) .stop)) .stop))))))))) (by kernel_rfl) (by kernel_rfl) (fun _ _ _ h => h) (fun _ h => h) (fun _ h => h.drawn _) ?_
  refine lt_pure rfl trivial (val_fieldAddr (m := 0) (e := 0) rfl Tryd.underlying48 rfl rfl Tryd.sizeOf46 rfl) rfl ?_   -- 6
  refine lt_pure rfl trivial (val_fieldAddr (m := 31) (e := 1) rfl Tryd.underlying48 rfl rfl Tryd.sizeOf27 rfl) rfl ?_   -- 10
  refine lt_pure rfl trivial (val_move rfl) rfl ?_   -- 11
  refine lt_pure rfl trivial (val_slice_array_hi' k 1 rfl rfl Tryd.underlying27 Tryd.sizeOf5 rfl (by omega) rfl) rfl ?_   -- 12
  refine lt_pure rfl trivial (val_fieldAddr (m := 31) (e := 33) rfl Tryd.underlying48 rfl rfl Tryd.sizeOf27 rfl) rfl ?_   -- 13
  refine lt_pure rfl trivial (val_move rfl) rfl ?_   -- 14
  refine lt_pure rfl trivial (val_slice_array_hi' k 33 rfl rfl Tryd.underlying27 Tryd.sizeOf5 rfl (by omega) rfl) rfl ?_   -- 15
  refine lt_alt ?_ ?_
  · -- first 0
    refine lt_make (fun b => .slice (some ⟨b, 0, none⟩) 1 1) rfl trivial (acts_buildSlice (cs := ([6] : List UInt8).map vU8) Tryd.underlying25 Tryd.sizeOf5 Tryd.zeroValue5 rfl rfl (by kernel_rfl)) rfl (fun h => nomatch h) (fun b5 hb5 => ?_)   -- 5
    refine lt_val rfl trivial (val_load_at 1 rfl rfl Tryd.isAgg46 rfl) rfl (fun h => nomatch h) ?_   -- 7
    refine lt_call_blk (fun b => .slice (some ⟨b, 0, none⟩) 8 8) rfl trivial (callsTo Tryd.func100 rfl (by kernel_rfl) rfl) rfl (fun w hm => rwide_any w size 8 (by decide)) (fun h => nomatch h) (fun b8 hb8 => ?_)   -- 8
    refine lt_call_row (E := 5) (size := 1) (k := 1 + 8) (xs := (([6] : List UInt8) ++ (be size 8)).map vU8) rfl trivial (callsTo Tryd.func96 rfl (by kernel_rfl) rfl) rfl (fun w hm => rjoin_any w (some ⟨b5, 0, none⟩) 1 _ ([6] : List UInt8) rfl (Rd.blk (hm.at (i := 1) rfl)) (some ⟨b8, 0, none⟩) 8 _ (be size 8) (be_len _ _) (Rd.blk (hm.at (i := 0) rfl)) (by omega)) (fun h => nomatch h) (fun a9 c9 e9 hr9 => ?_)   -- 9
    refine lt_call_row (E := 5) (size := 1) (k := k + k) (xs := ((l.take k) ++ (r.take k)).map vU8) rfl trivial (callsTo Tryd.func96 rfl (by kernel_rfl) rfl) rfl (fun w hm => rjoin_any w (some ⟨b3, 1, none⟩) k _ (l.take k) (by rw [List.length_take, hll]; omega) ((Rd.ownP (V := vU8) (p := l) 1 hm (i := 3) rfl (root_log size hll)).take1 k) (some ⟨b3, 33, none⟩) k _ (r.take k) (by rw [List.length_take, hrl]; omega) ((Rd.ownP (V := vU8) (p := r) 33 hm (i := 3) rfl (root_map size hll hrl)).take1 k) (by omega)) (fun h => nomatch h) (fun a16 c16 e16 hr16 => ?_)   -- 16
    refine lt_call_row (E := 5) (size := 1) (k := 1 + 8 + (k + k)) (xs := (((([6] : List UInt8) ++ (be size 8))) ++ (((l.take k) ++ (r.take k)))).map vU8) rfl trivial (callsTo Tryd.func96 rfl (by kernel_rfl) rfl) rfl (fun w hm => rjoin_any w a9 (1 + 8) _ ((([6] : List UInt8) ++ (be size 8))) (joinlen rfl (be_len _ _)) (hr9.rdAt hm (i := 1) rfl) a16 (k + k) _ (((l.take k) ++ (r.take k))) (joinlen (by rw [List.length_take, hll]; omega) (by rw [List.length_take, hrl]; omega)) (hr16.rdAt hm (i := 0) rfl) (by omega)) (fun h => nomatch h) (fun a17 c17 e17 hr17 => ?_)   -- 17
    refine lt_pure rfl trivial (val_assign rfl) rfl ?_   -- 4
    refine lt_done (into ?_)
    refine sw_ret (fun w hm => ?_)
    try dsimp only [thenP, blockP, Nat.beq, cond]
    exact ret_one _ rfl rfl ⟨e17, hr17.cong rfl (by simp only [rootI, List.length_append, be_len, List.length_take, hll, hrl, List.length_cons, List.length_nil]; omega) (by simp only [rootI, List.append_assoc]), hm.only (.cons_cons _ (List.nil_sublist _))⟩
  refine lt_alt ?_ ?_
  · -- first 2
    refine lt_val rfl trivial (val_load_at 0 rfl rfl Tryd.isAgg46 rfl) rfl (fun _ _ h => h) ?_   -- 7
    refine lt_alt ?_ ?_
    · -- first 0
      refine lt_make (fun b => .slice (some ⟨b, 0, none⟩) 1 1) rfl trivial (acts_buildSlice (cs := ([6] : List UInt8).map vU8) Tryd.underlying25 Tryd.sizeOf5 Tryd.zeroValue5 rfl rfl (by kernel_rfl)) rfl (fun h => nomatch h) (fun b5 hb5 => ?_)   -- 5
      refine lt_call_blk (fun b => .slice (some ⟨b, 0, none⟩) 8 8) rfl trivial (callsTo Tryd.func100 rfl (by kernel_rfl) rfl) rfl (fun w hm => rwide_any w size 8 (by decide)) (fun h => nomatch h) (fun b8 hb8 => ?_)   -- 8
      refine lt_call_row (E := 5) (size := 1) (k := 1 + 8) (xs := (([6] : List UInt8) ++ (be size 8)).map vU8) rfl trivial (callsTo Tryd.func96 rfl (by kernel_rfl) rfl) rfl (fun w hm => rjoin_any w (some ⟨b5, 0, none⟩) 1 _ ([6] : List UInt8) rfl (Rd.blk (hm.at (i := 1) rfl)) (some ⟨b8, 0, none⟩) 8 _ (be size 8) (be_len _ _) (Rd.blk (hm.at (i := 0) rfl)) (by omega)) (fun h => nomatch h) (fun a9 c9 e9 hr9 => ?_)   -- 9
      refine lt_call_row (E := 5) (size := 1) (k := k + k) (xs := ((l.take k) ++ (r.take k)).map vU8) rfl trivial (callsTo Tryd.func96 rfl (by kernel_rfl) rfl) rfl (fun w hm => rjoin_any w (some ⟨b3, 1, none⟩) k _ (l.take k) (by rw [List.length_take, hll]; omega) ((Rd.ownP (V := vU8) (p := l) 1 hm (i := 3) rfl (root_log size hll)).take1 k) (some ⟨b3, 33, none⟩) k _ (r.take k) (by rw [List.length_take, hrl]; omega) ((Rd.ownP (V := vU8) (p := r) 33 hm (i := 3) rfl (root_map size hll hrl)).take1 k) (by omega)) (fun h => nomatch h) (fun a16 c16 e16 hr16 => ?_)   -- 16
      refine lt_call_row (E := 5) (size := 1) (k := 1 + 8 + (k + k)) (xs := (((([6] : List UInt8) ++ (be size 8))) ++ (((l.take k) ++ (r.take k)))).map vU8) rfl trivial (callsTo Tryd.func96 rfl (by kernel_rfl) rfl) rfl (fun w hm => rjoin_any w a9 (1 + 8) _ ((([6] : List UInt8) ++ (be size 8))) (joinlen rfl (be_len _ _)) (hr9.rdAt hm (i := 1) rfl) a16 (k + k) _ (((l.take k) ++ (r.take k))) (joinlen (by rw [List.length_take, hll]; omega) (by rw [List.length_take, hrl]; omega)) (hr16.rdAt hm (i := 0) rfl) (by omega)) (fun h => nomatch h) (fun a17 c17 e17 hr17 => ?_)   -- 17
      refine lt_pure rfl trivial (val_assign rfl) rfl ?_   -- 4
      refine lt_done (into ?_)
      refine sw_ret (fun w hm => ?_)
      try dsimp only [thenP, blockP, Nat.beq, cond]
      exact ret_one _ rfl rfl ⟨e17, hr17.cong rfl (by simp only [rootI, List.length_append, be_len, List.length_take, hll, hrl, List.length_cons, List.length_nil]; omega) (by simp only [rootI, List.append_assoc]), hm.only (.cons_cons _ (List.nil_sublist _))⟩
    refine lt_alt ?_ ?_
    · -- first 3
      refine lt_call_blk (fun b => .slice (some ⟨b, 0, none⟩) 8 8) rfl trivial (callsTo Tryd.func100 rfl (by kernel_rfl) rfl) rfl (fun w hm => rwide_any w size 8 (by decide)) (fun h => nomatch h) (fun b8 hb8 => ?_)   -- 8
      refine lt_make (fun b => .slice (some ⟨b, 0, none⟩) 1 1) rfl trivial (acts_buildSlice (cs := ([6] : List UInt8).map vU8) Tryd.underlying25 Tryd.sizeOf5 Tryd.zeroValue5 rfl rfl (by kernel_rfl)) rfl (fun h => nomatch h) (fun b5 hb5 => ?_)   -- 5
      refine lt_call_row (E := 5) (size := 1) (k := 1 + 8) (xs := (([6] : List UInt8) ++ (be size 8)).map vU8) rfl trivial (callsTo Tryd.func96 rfl (by kernel_rfl) rfl) rfl (fun w hm => rjoin_any w (some ⟨b5, 0, none⟩) 1 _ ([6] : List UInt8) rfl (Rd.blk (hm.at (i := 0) rfl)) (some ⟨b8, 0, none⟩) 8 _ (be size 8) (be_len _ _) (Rd.blk (hm.at (i := 1) rfl)) (by omega)) (fun h => nomatch h) (fun a9 c9 e9 hr9 => ?_)   -- 9
      refine lt_call_row (E := 5) (size := 1) (k := k + k) (xs := ((l.take k) ++ (r.take k)).map vU8) rfl trivial (callsTo Tryd.func96 rfl (by kernel_rfl) rfl) rfl (fun w hm => rjoin_any w (some ⟨b3, 1, none⟩) k _ (l.take k) (by rw [List.length_take, hll]; omega) ((Rd.ownP (V := vU8) (p := l) 1 hm (i := 3) rfl (root_log size hll)).take1 k) (some ⟨b3, 33, none⟩) k _ (r.take k) (by rw [List.length_take, hrl]; omega) ((Rd.ownP (V := vU8) (p := r) 33 hm (i := 3) rfl (root_map size hll hrl)).take1 k) (by omega)) (fun h => nomatch h) (fun a16 c16 e16 hr16 => ?_)   -- 16
      refine lt_call_row (E := 5) (size := 1) (k := 1 + 8 + (k + k)) (xs := (((([6] : List UInt8) ++ (be size 8))) ++ (((l.take k) ++ (r.take k)))).map vU8) rfl trivial (callsTo Tryd.func96 rfl (by kernel_rfl) rfl) rfl (fun w hm => rjoin_any w a9 (1 + 8) _ ((([6] : List UInt8) ++ (be size 8))) (joinlen rfl (be_len _ _)) (hr9.rdAt hm (i := 1) rfl) a16 (k + k) _ (((l.take k) ++ (r.take k))) (joinlen (by rw [List.length_take, hll]; omega) (by rw [List.length_take, hrl]; omega)) (hr16.rdAt hm (i := 0) rfl) (by omega)) (fun h => nomatch h) (fun a17 c17 e17 hr17 => ?_)   -- 17
      refine lt_pure rfl trivial (val_assign rfl) rfl ?_   -- 4
      refine lt_done (into ?_)
      refine sw_ret (fun w hm => ?_)
      try dsimp only [thenP, blockP, Nat.beq, cond]
      exact ret_one _ rfl rfl ⟨e17, hr17.cong rfl (by simp only [rootI, List.length_append, be_len, List.length_take, hll, hrl, List.length_cons, List.length_nil]; omega) (by simp only [rootI, List.append_assoc]), hm.only (.cons_cons _ (List.nil_sublist _))⟩
    exact lt_stop
  exact lt_stop

theorem rbucketI_any (w : World) (a : Option Addr) (c : Nat) (ps : List (Sl UInt8 × Sl UInt8)) (hr : Rd w a (ps.flatMap fun x => [x.1.v, x.2.v])) (hps : ∀ s ∈ ps, (Rd w s.1.a (s.1.xs.map vU8) ∧ s.1.xs.length ≤ s.1.c ∧ s.1.xs.length < 9223372036854775808) ∧ (Rd w s.2.a (s.2.xs.map vU8) ∧ s.2.xs.length ≤ s.2.c ∧ s.2.xs.length < 9223372036854775808)) (hc : ps.length ≤ c) (hl : ps.length < 9223372036854775808) (hb : (pairsB (prs ps)).length ≤ 140737488300000) : Calls Tryd.prog 59 #[.slice a ps.length c] w fun en w' => ∃ v, en = .returned v ∧ ∃ e', RowE v 5 1 (bucketI (prs ps)).length ((bucketI (prs ps)).map vU8) e' ∧ Mem w [] [e'] w' := by
  obtain ⟨ti, hti, htz, htsz, htby⟩ := info_parts iu8'
  have hu := uvar_len (UInt64.ofNat ps.length)
  refine calls_of_sw (vs := [.slice a ps.length c]) Tryd.func59 rfl Tryd.ntmps59 rfl (SW.begin ?_)
  refine sw_seq ?_
  refine sw_region ?_
  refine ow_val (val_assign rfl) rfl ?_   -- 2
  refine ow_nil (into ?_)
  refine sw_seq ?_
  refine sw_region ?_
  refine ow_make (acts_buildSlice (cs := ([3] : List UInt8).map vU8) Tryd.underlying25 Tryd.sizeOf5 Tryd.zeroValue5 rfl rfl (by kernel_rfl)) rfl (fun b6 hb6 => ?_)   -- 6
  refine ow_val (val_move rfl) rfl ?_   -- 7
  refine ow_val (val_len rfl Tryd.underlying43) rfl ?_   -- 8
  refine ow_val (val_conv_n_u64 ps.length Tryd.underlying3 Tryd.underlying46 rfl rfl) rfl ?_   -- 9
  refine ow_call_row (E := 5) (size := 1) (k := (uvar (UInt64.ofNat ps.length)).length) (xs := (uvar (UInt64.ofNat ps.length)).map vU8) (callsTo Tryd.func97 rfl (by kernel_rfl) rfl) rfl (fun w hm => ruvar_any w (UInt64.ofNat ps.length)) (fun a10 c10 e10 hr10 => ?_)   -- 10
  refine ow_call_row (E := 5) (size := 1) (k := 1 + ((uvar (UInt64.ofNat ps.length)).length)) (xs := (([3] : List UInt8) ++ ((uvar (UInt64.ofNat ps.length)))).map vU8) (callsTo Tryd.func96 rfl (by kernel_rfl) rfl) rfl (fun w hm => rjoin_any w (some ⟨b6, 0, none⟩) 1 _ ([3] : List UInt8) rfl (Rd.blk (hm.at (i := 1) rfl)) a10 ((uvar (UInt64.ofNat ps.length)).length) _ ((uvar (UInt64.ofNat ps.length))) rfl (hr10.rdAt hm (i := 0) rfl) (by omega)) (fun a11 c11 e11 hr11 => ?_)   -- 11
  refine ow_val (val_assign rfl) rfl ?_   -- 3
  refine ow_nil (into ?_)
  refine sw_seq ?_
  refine sw_seq ?_
  refine sw_region ?_
  refine ow_val (val_move rfl) rfl ?_   -- 12
  refine ow_val (val_len rfl Tryd.underlying43) rfl ?_   -- 13
  refine ow_val (val_move rfl) rfl ?_   -- 14
  refine ow_nil (into ?_)
  refine sw_block ?_
  obtain ⟨K, hK⟩ : ∃ K, K = 1 + ((uvar (UInt64.ofNat ps.length)).length) := ⟨_, rfl⟩
  obtain ⟨X, hX⟩ : ∃ X : List UInt8, X = (([3] : List UInt8) ++ ((uvar (UInt64.ofNat ps.length)))) := ⟨_, rfl⟩
  have hXK : X.length = K := by rw [hX, hK]; exact (joinlen rfl rfl)
  refine sw_loop (σ := Nat × Option Addr × Nat × Ent × Nat) (fun x => x.1 ≤ ps.length ∧ x.2.2.2.2 = K + (pairsB (prs (ps.take x.1))).length ∧ RowE (.slice x.2.1 x.2.2.2.2 x.2.2.1) 5 1 x.2.2.2.2 ((X ++ pairsB (prs (ps.take x.1))).map vU8) x.2.2.2.1) (fun x => [(14, vInt (x.1 : Int)), (13, vInt (ps.length : Int)), (12, .slice a ps.length c), (3, .slice x.2.1 x.2.2.2.2 x.2.2.1)]) (fun x => Mem w [] [x.2.2.2.1]) (fun x => ps.length - x.1) (0, a11, c11, e11, K) ⟨Nat.zero_le _, (by simp [prs, pairsB]), (by dsimp only; subst hX; subst hK; exact hr11.cong rfl rfl (by simp [prs, pairsB]))⟩ ⟨rfl, rfl, rfl, (by subst hK; rfl), trivial⟩ (fun w hm => hm.only (.cons_cons _ (List.nil_sublist _))) ?_
  rintro ⟨i, a1, c1, e1, k1⟩ ⟨hi, hk1, hrow1⟩
  simp only at hi hk1 hrow1 ⊢
  refine sw_seq ?_
  refine sw_region ?_
  refine ow_val (val_lss_int rfl rfl) rfl ?_   -- 15
  refine ow_nil (into ?_)
  refine sw_seq ?_
  refine sw_if rfl (fun h0 => ?_) (fun h0 => ?_)
  · -- then
    obtain ⟨ba, oa, rfl⟩ := hr.addr (by rw [flatMap_size ps (n := 2) (fun _ _ => rfl)]; omega)
    have hE := hps _ (getD_mem (l := ps) (i := i) (by omega))
    have hE1 := hE.1.2.1
    have hE2 := hE.1.2.2
    have hE3 := hE.2.2.1
    have hE4 := hE.2.2.2
    have hpt := prs_take (ps := ps) (i := i) (by omega)
    have hpl := pairsB_le ps (i + 1)
    rw [hpt] at hpl
    simp only [List.length_append] at hpl
    refine sw_skip (into ?_)
    refine sw_seq ?_
    refine sw_block ?_
    refine sw_seq ?_
    refine sw_region ?_
    refine ow_val (val_indexAddr_slice (i) (oa + i * 2) rfl rfl Tryd.underlying43 Tryd.sizeOf101 (by omega) (by omega) (by omega)) rfl ?_   -- 16
    refine ow_val ((val_load_elem (cells := (fun x => [x.1.v, x.2.v])) (l := ps) (o := oa) (i := i) rfl Tryd.isAgg101 Tryd.sizeOf101 (fun _ _ => rfl) (by omega) (by omega) (fun w' hm => hr.mem hm))) rfl ?_   -- 17
    refine ow_new (acts_alloc zPr) rfl (fun b5 hb5 => ?_)   -- 5
    refine ow_do_eq (does_store_all 0 rfl rfl rfl (by simp [Value.oneCell', Sl.v]) Tryd.sizeOf101 rfl rfl) ?_
    refine ow_nil (into ?_)
    refine sw_seq ?_
    refine sw_region ?_
    refine ow_val (val_move rfl) rfl ?_   -- 18
    refine ow_val (val_fieldAddr (m := 0) (e := 0) rfl Tryd.underlying101 rfl rfl Tryd.sizeOf25 rfl) rfl ?_   -- 19
    refine ow_val (val_load_at 0 rfl rfl Tryd.isAgg25 rfl) rfl ?_   -- 20
    refine ow_call_row (E := 5) (size := 1) (k := (blob ((ps.getD i default).1.xs)).length) (xs := (blob ((ps.getD i default).1.xs)).map vU8) (callsTo Tryd.func98 rfl (by kernel_rfl) rfl) rfl (fun w hm => rblob_any w (ps.getD i default).1.a ((ps.getD i default).1.xs.length) _ ((ps.getD i default).1.xs) rfl ((hps _ (getD_mem (i := i) (by omega))).1.1.mem hm) (by have := blob_len ((ps.getD i default).1.xs); omega)) (fun a21 c21 e21 hr21 => ?_)   -- 21
    refine ow_append' (k := k1 + ((blob ((ps.getD i default).1.xs)).length)) (acts_append (size := 1) (bytes := 1) 2 rfl rfl rfl hrow1 rfl Tryd.underlying25 hti htz htsz htby rfl (by decide) (fun w hm => (hr21.rdAt hm (i := 0) rfl)) (by rw [List.length_map, Nat.mul_one]) (one_u8s _) (by omega) (by omega)) rfl (fun a22 c22 e22 hq22 => ?_)   -- 22
    have hr22 : RowE (.slice a22 (k1 + ((blob ((ps.getD i default).1.xs)).length)) c22) 5 1 (k1 + ((blob ((ps.getD i default).1.xs)).length)) ((((X ++ pairsB (prs (ps.take i))) ++ ((blob ((ps.getD i default).1.xs))))).map vU8) e22 := hq22.cong rfl rfl (by rw [List.map_append (l₁ := (X ++ pairsB (prs (ps.take i))))])
    refine ow_val (val_assign rfl) rfl ?_   -- 3
    refine ow_nil (into ?_)
    refine sw_region ?_
    refine ow_val (val_move rfl) rfl ?_   -- 23
    refine ow_val (val_fieldAddr (m := 0) (e := 1) rfl Tryd.underlying101 rfl rfl Tryd.sizeOf25 rfl) rfl ?_   -- 24
    refine ow_val (val_load_at 1 rfl rfl Tryd.isAgg25 rfl) rfl ?_   -- 25
    refine ow_call_row (E := 5) (size := 1) (k := (blob ((ps.getD i default).2.xs)).length) (xs := (blob ((ps.getD i default).2.xs)).map vU8) (callsTo Tryd.func98 rfl (by kernel_rfl) rfl) rfl (fun w hm => rblob_any w (ps.getD i default).2.a ((ps.getD i default).2.xs.length) _ ((ps.getD i default).2.xs) rfl ((hps _ (getD_mem (i := i) (by omega))).2.1.mem hm) (by have := blob_len ((ps.getD i default).2.xs); omega)) (fun a26 c26 e26 hr26 => ?_)   -- 26
    refine ow_append' (k := k1 + ((blob ((ps.getD i default).1.xs)).length) + ((blob ((ps.getD i default).2.xs)).length)) (acts_append (size := 1) (bytes := 1) 3 rfl rfl rfl hr22 rfl Tryd.underlying25 hti htz htsz htby rfl (by decide) (fun w hm => (hr26.rdAt hm (i := 0) rfl)) (by rw [List.length_map, Nat.mul_one]) (one_u8s _) (by omega) (by omega)) rfl (fun a27 c27 e27 hq27 => ?_)   -- 27
    have hr27 : RowE (.slice a27 (k1 + ((blob ((ps.getD i default).1.xs)).length) + ((blob ((ps.getD i default).2.xs)).length)) c27) 5 1 (k1 + ((blob ((ps.getD i default).1.xs)).length) + ((blob ((ps.getD i default).2.xs)).length)) (((((X ++ pairsB (prs (ps.take i))) ++ ((blob ((ps.getD i default).1.xs)))) ++ ((blob ((ps.getD i default).2.xs))))).map vU8) e27 := hq27.cong rfl rfl (by rw [List.map_append (l₁ := ((X ++ pairsB (prs (ps.take i))) ++ ((blob ((ps.getD i default).1.xs)))))])
    refine ow_val (val_assign rfl) rfl ?_   -- 3
    refine ow_nil (into ?_)
    refine sw_region ?_
    refine ow_val (val_add_int ((i + 1 : Nat) : Int) rfl rfl (by omega) (by omega)) rfl ?_   -- 28
    refine ow_val (val_move rfl) rfl ?_   -- 14
    exact ow_nil (fun w hm => ⟨(i + 1, a27, c27, e27, _), ⟨by dsimp only; omega, (by dsimp only; rw [hpt, hk1]; simp only [List.length_append]; omega), (by dsimp only; exact hr27.cong rfl rfl (by rw [hpt]; simp only [List.append_assoc]))⟩, by dsimp only; omega, ⟨rfl, rfl, rfl, rfl, trivial⟩, hm.only (.cons _ (.cons _ (.cons _ (.cons_cons _ (List.nil_sublist _)))))⟩)
  · -- else
    obtain rfl : i = ps.length := by omega
    rw [List.take_length] at hrow1 hk1
    refine sw_exit (into ?_)
    refine sw_seq ?_
    refine sw_region ?_
    refine ow_val (val_move rfl) rfl ?_   -- 29
    refine ow_val (val_assign rfl) rfl ?_   -- 2
    refine ow_nil (into ?_)
    exact sw_ret (fun w hm => ret_one _ rfl rfl ⟨e1, hrow1.cong rfl (by rw [hk1, ← hXK, hX, bucketI, prs]; simp only [List.length_append, List.length_map]) (by rw [hX, bucketI]; simp [prs]), hm⟩)

theorem rbranchI_any (w : World) (k : Nat) (h1 : 1 ≤ k) (h2 : k ≤ 32) (bm : UInt16) (a : Option Addr) (c : Nat) (ks : List (List UInt8)) (hks : ∀ d ∈ ks, d.length = 32) (hr : Rd w a (ks.flatMap fun d => d.map vU8)) (hc : ks.length ≤ c) (hl : ks.length ≤ 4398046511000) : Calls Tryd.prog 63 #[vInt (k : Int), vU16 bm, .slice a ks.length c] w fun en w' => ∃ v, en = .returned v ∧ ∃ e', RowE v 5 1 (branchI k bm ks).length ((branchI k bm ks).map vU8) e' ∧ Mem w [] [e'] w' := by
  obtain ⟨ti, hti, htz, htsz, htby⟩ := info_parts iu8'
  refine calls_of_sw (vs := [vInt (k : Int), vU16 bm, .slice a ks.length c]) Tryd.func63 rfl Tryd.ntmps63 rfl (SW.begin ?_)
  refine sw_seq ?_
  refine sw_region ?_
  refine ow_val (val_assign rfl) rfl ?_   -- 6
  refine ow_nil (into ?_)
  refine sw_seq ?_
  refine sw_region ?_
  refine ow_make (acts_buildSlice (cs := ([4] : List UInt8).map vU8) Tryd.underlying25 Tryd.sizeOf5 Tryd.zeroValue5 rfl rfl (by kernel_rfl)) rfl (fun b10 hb10 => ?_)   -- 10
  refine ow_val (val_move rfl) rfl ?_   -- 11
  refine ow_val (val_conv_u16_u64 Tryd.underlying44 Tryd.underlying46 rfl) rfl ?_   -- 12
  refine ow_call_blk (fun b => .slice (some ⟨b, 0, none⟩) 2 2) (callsTo Tryd.func100 rfl (by kernel_rfl) rfl) rfl (fun w hm => rwide_any w bm.toUInt64 2 (by decide)) (fun b13 hb13 => ?_)   -- 13
  refine ow_call_row (E := 5) (size := 1) (k := 1 + 2) (xs := (([4] : List UInt8) ++ (be bm.toUInt64 2)).map vU8) (callsTo Tryd.func96 rfl (by kernel_rfl) rfl) rfl (fun w hm => rjoin_any w (some ⟨b10, 0, none⟩) 1 _ ([4] : List UInt8) rfl (Rd.blk (hm.at (i := 1) rfl)) (some ⟨b13, 0, none⟩) 2 _ (be bm.toUInt64 2) (be_len _ _) (Rd.blk (hm.at (i := 0) rfl)) (by omega)) (fun a14 c14 e14 hr14 => ?_)   -- 14
  refine ow_val (val_assign rfl) rfl ?_   -- 7
  refine ow_nil (into ?_)
  refine sw_seq ?_
  refine sw_seq ?_
  refine sw_region ?_
  refine ow_val (val_move rfl) rfl ?_   -- 15
  refine ow_val (val_len rfl Tryd.underlying45) rfl ?_   -- 16
  refine ow_val (val_move rfl) rfl ?_   -- 17
  refine ow_nil (into ?_)
  refine sw_block ?_
  obtain ⟨X, hX⟩ : ∃ X : List UInt8, X = (([4] : List UInt8) ++ (be bm.toUInt64 2)) := ⟨_, rfl⟩
  have hXK : X.length = 3 := by rw [hX]; exact (joinlen rfl (be_len _ _))
  refine sw_loop (σ := Nat × Option Addr × Nat × Ent × Nat) (fun x => x.1 ≤ ks.length ∧ x.2.2.2.2 = 3 + x.1 * k ∧ RowE (.slice x.2.1 x.2.2.2.2 x.2.2.1) 5 1 x.2.2.2.2 ((X ++ kidsB k (ks.take x.1)).map vU8) x.2.2.2.1) (fun x => [(17, vInt (x.1 : Int)), (16, vInt (ks.length : Int)), (15, .slice a ks.length c), (7, .slice x.2.1 x.2.2.2.2 x.2.2.1), (0, vInt (k : Int))]) (fun x => Mem w [] [x.2.2.2.1]) (fun x => ks.length - x.1) (0, a14, c14, e14, 3) ⟨Nat.zero_le _, (by simp), (by dsimp only; subst hX; exact hr14.cong rfl rfl (by simp [kidsB]))⟩ ⟨rfl, rfl, rfl, rfl, rfl, trivial⟩ (fun w hm => hm.only (.cons_cons _ (List.nil_sublist _))) ?_
  rintro ⟨i, a1, c1, e1, k1⟩ ⟨hi, hk1, hrow1⟩
  simp only at hi hk1 hrow1 ⊢
  refine sw_seq ?_
  refine sw_region ?_
  refine ow_val (val_lss_int rfl rfl) rfl ?_   -- 18
  refine ow_nil (into ?_)
  refine sw_seq ?_
  refine sw_if rfl (fun h0 => ?_) (fun h0 => ?_)
  · -- then
    obtain ⟨ba, oa, rfl⟩ := hr.addr (by rw [flatMap_size ks (fun x hx => by rw [List.length_map]; exact hks x hx)]; omega)
    have hkl := kids_len k ks hks h2 i (by omega)
    have hd := hks _ (getD_mem (l := ks) (i := i) (by omega))
    refine sw_skip (into ?_)
    refine sw_seq ?_
    refine sw_block ?_
    refine sw_seq ?_
    refine sw_region ?_
    refine ow_val (val_indexAddr_slice (i) (oa + i * 32) rfl rfl Tryd.underlying45 Tryd.sizeOf27 (by omega) (by omega) (by omega)) rfl ?_   -- 19
    refine ow_val (val_load_elem (cells := fun d => d.map vU8) (l := ks) (o := oa) (i := i) rfl Tryd.isAgg27 Tryd.sizeOf27 (fun x hx => by rw [List.length_map]; exact hks x hx) (by omega) (by omega) (fun w' hm => hr.mem hm)) rfl ?_   -- 20
    refine ow_new (acts_alloc zD) rfl (fun b9 hb9 => ?_)   -- 9
    refine ow_do_eq (does_store_all 0 rfl rfl rfl (one_u8s _) Tryd.sizeOf27 (by show (List.map vU8 (ks.getD i default)).length = _; rw [List.length_map]; exact (hks _ (getD_mem (by omega)))) (by show (List.map vU8 zeros32).length = _; rw [List.length_map]; exact zeros32_len)) ?_
    refine ow_nil (into ?_)
    refine sw_region ?_
    refine ow_val (val_move rfl) rfl ?_   -- 21
    refine ow_val (val_move rfl) rfl ?_   -- 22
    refine ow_val (val_slice_array_hi' k 0 rfl rfl Tryd.underlying27 Tryd.sizeOf5 rfl (by omega) rfl) rfl ?_   -- 23
    refine ow_append' (k := k1 + k) (acts_append (size := 1) (bytes := 1) 1 rfl rfl rfl hrow1 rfl Tryd.underlying25 hti htz htsz htby rfl (by decide) (fun w hm => ((Rd.blk (hm.at (i := 0) rfl)).take1 k)) (by rw [List.length_map, Nat.mul_one]; exact (by rw [List.length_take, (hks _ (getD_mem (by omega)))]; omega)) (one_u8s _) (by omega) (by omega)) rfl (fun a24 c24 e24 hq24 => ?_)   -- 24
    have hr24 : RowE (.slice a24 (k1 + k) c24) 5 1 (k1 + k) ((((X ++ (kidsB k (ks.take i))) ++ (((ks.getD i default).take k)))).map vU8) e24 := hq24.cong rfl rfl (by rw [List.map_append (l₁ := (X ++ (kidsB k (ks.take i))))])
    refine ow_val (val_assign rfl) rfl ?_   -- 7
    refine ow_nil (into ?_)
    refine sw_region ?_
    refine ow_val (val_add_int ((i + 1 : Nat) : Int) rfl rfl (by omega) (by omega)) rfl ?_   -- 25
    refine ow_val (val_move rfl) rfl ?_   -- 17
    exact ow_nil (fun w hm => ⟨(i + 1, a24, c24, e24, _), ⟨by dsimp only; omega, (by dsimp only; rw [hk1, Nat.succ_mul]; omega), (by dsimp only; exact hr24.cong rfl rfl (by rw [take_getD (l := ks) (by omega), kidsB, kidsB, List.flatMap_append, List.flatMap_cons, List.flatMap_nil, List.append_nil, List.append_assoc]))⟩, by dsimp only; omega, ⟨rfl, rfl, rfl, rfl, rfl, trivial⟩, hm.only (.cons _ (.cons_cons _ (List.nil_sublist _)))⟩)
  · -- else
    obtain rfl : i = ks.length := by omega
    rw [List.take_length] at hrow1
    refine sw_exit (into ?_)
    refine sw_seq ?_
    refine sw_region ?_
    refine ow_val (val_move rfl) rfl ?_   -- 26
    refine ow_val (val_assign rfl) rfl ?_   -- 6
    refine ow_nil (into ?_)
    exact sw_ret (fun w hm => ret_one _ rfl rfl ⟨e1, hrow1.cong rfl (by rw [hk1, branchI, List.length_append, List.length_append, be_len, kids_all k ks hks h2]; simp) (by rw [hX, branchI]), hm⟩)

theorem rcheckB_err (v0 : Int) (bm : UInt16) (w : World) (a : Option Addr) (c : Nat) (ks : List (List UInt8)) (hks : ∀ d ∈ ks, d.length = 32) (hr : Rd w a (ks.flatMap fun d => d.map vU8)) (hc : ks.length ≤ c) (hl : ks.length ≤ 9223372036854775807) (he : chk v0 ks ≠ 0) : Calls Tryd.prog 61 #[vInt v0, vU16 bm, .slice a ks.length c] w fun e w' => ∃ v, e = .returned v ∧ v = vInt ((chkB v0 bm ks : Nat) : Int) ∧ Mem w [] [] w' := by
  refine calls_of_sw (vs := [vInt v0, vU16 bm, .slice a ks.length c]) Tryd.func61 rfl Tryd.ntmps61 rfl (SW.begin ?_)
  refine sw_seq ?_
  refine sw_region ?_
  refine ow_val (val_assign rfl) rfl ?_   -- 6
  refine ow_nil (into ?_)
  refine sw_seq ?_
  refine sw_region ?_
  refine ow_val (val_move rfl) rfl ?_   -- 8
  refine ow_val (val_move rfl) rfl ?_   -- 9
  refine ow_call_pure (callsTo Tryd.func60 rfl (by kernel_rfl) rfl) rfl (fun w hm => rcheck_any v0 w a c ks hks (hr.mem hm) hc (by omega)) ?_   -- 10
  refine ow_val (val_assign rfl) rfl ?_   -- 7
  refine ow_nil (into ?_)
  refine sw_seq ?_
  refine sw_seq ?_
  refine sw_region ?_
  refine ow_val (val_move rfl) rfl ?_   -- 11
  by_cases hz : chk v0 ks = 0
  · exfalso; omega
  · -- no
    refine ow_val ((val_eql_int rfl rfl).to (congrArg Value.bool (decide_eq_false ((by omega))))) rfl ?_   -- 12
    refine ow_val (val_move rfl) rfl ?_   -- 13
    first | refine ow_guard_no rfl rfl rfl rfl rfl ?_ | refine ow_guard_none rfl rfl rfl rfl rfl ?_
    first | refine ow_guard_no rfl rfl rfl rfl rfl ?_ | refine ow_guard_none rfl rfl rfl rfl rfl ?_
    first | refine ow_guard_no rfl rfl rfl rfl rfl ?_ | refine ow_guard_none rfl rfl rfl rfl rfl ?_
    first | refine ow_guard_no rfl rfl rfl rfl rfl ?_ | refine ow_guard_none rfl rfl rfl rfl rfl ?_
    first | refine ow_guard_no rfl rfl rfl rfl rfl ?_ | refine ow_guard_none rfl rfl rfl rfl rfl ?_
    first | refine ow_guard_no rfl rfl rfl rfl rfl ?_ | refine ow_guard_none rfl rfl rfl rfl rfl ?_
    first | refine ow_guard_no rfl rfl rfl rfl rfl ?_ | refine ow_guard_none rfl rfl rfl rfl rfl ?_
    first | refine ow_guard_no rfl rfl rfl rfl rfl ?_ | refine ow_guard_none rfl rfl rfl rfl rfl ?_
    first | refine ow_guard_no rfl rfl rfl rfl rfl ?_ | refine ow_guard_none rfl rfl rfl rfl rfl ?_
    refine ow_val (val_pick_false rfl rfl) rfl ?_   -- 23
    refine ow_nil (into ?_)
    refine sw_false rfl rfl ?_
    refine sw_skip (into ?_)
    refine sw_seq ?_
    refine sw_region ?_
    refine ow_val (val_move rfl) rfl ?_   -- 24
    refine ow_val (val_assign rfl) rfl ?_   -- 6
    refine ow_nil (into ?_)
    exact sw_ret (fun w hm => ret_one _ rfl rfl ⟨by rw [chkB, if_pos he], hm⟩)

theorem rcheckB_ok (v0 : Int) (bm : UInt16) (w : World) (a : Option Addr) (c : Nat) (ks : List (List UInt8)) (hks : ∀ d ∈ ks, d.length = 32) (hr : Rd w a (ks.flatMap fun d => d.map vU8)) (hc : ks.length ≤ c) (hl : ks.length ≤ 9223372036854775807) (he : chk v0 ks = 0) : Calls Tryd.prog 61 #[vInt v0, vU16 bm, .slice a ks.length c] w fun e w' => ∃ v, e = .returned v ∧ v = vInt ((chkB v0 bm ks : Nat) : Int) ∧ Mem w [] [] w' := by
  refine calls_of_sw (vs := [vInt v0, vU16 bm, .slice a ks.length c]) Tryd.func61 rfl Tryd.ntmps61 rfl (SW.begin ?_)
  refine sw_seq ?_
  refine sw_region ?_
  refine ow_val (val_assign rfl) rfl ?_   -- 6
  refine ow_nil (into ?_)
  refine sw_seq ?_
  refine sw_region ?_
  refine ow_val (val_move rfl) rfl ?_   -- 8
  refine ow_val (val_move rfl) rfl ?_   -- 9
  refine ow_call_pure (v := vInt ((0 : Nat) : Int)) (callsTo Tryd.func60 rfl (by kernel_rfl) rfl) rfl (fun w hm => (by have h := rcheck_any v0 w a c ks hks (hr.mem hm) hc (by omega); rw [he] at h; exact h)) ?_   -- 10
  refine ow_val (val_assign rfl) rfl ?_   -- 7
  refine ow_nil (into ?_)
  refine sw_seq ?_
  refine sw_seq ?_
  refine sw_region ?_
  refine ow_val (val_move rfl) rfl ?_   -- 11
  by_cases hz : chk v0 ks = 0
  · -- yes
    refine ow_val ((val_eql_int rfl rfl).to (congrArg Value.bool (decide_eq_true ((by simp))))) rfl ?_   -- 12
    refine ow_val (val_move rfl) rfl ?_   -- 13
    refine ow_guard_yes rfl rfl rfl ?_
    refine ow_val (val_move rfl) rfl ?_   -- 14
    by_cases hbm : bm = 0
    · -- yes
      refine ow_guard_yes rfl rfl rfl ?_
      refine ow_val ((val_eql_u16 rfl rfl).to (congrArg Value.bool (decide_eq_true ((by rw [hbm]; rfl))))) rfl ?_   -- 15
      refine ow_guard_yes rfl rfl rfl ?_
      refine ow_val (val_move rfl) rfl ?_   -- 16
      first | refine ow_guard_no rfl rfl rfl rfl rfl ?_ | refine ow_guard_none rfl rfl rfl rfl rfl ?_
      first | refine ow_guard_no rfl rfl rfl rfl rfl ?_ | refine ow_guard_none rfl rfl rfl rfl rfl ?_
      first | refine ow_guard_no rfl rfl rfl rfl rfl ?_ | refine ow_guard_none rfl rfl rfl rfl rfl ?_
      first | refine ow_guard_no rfl rfl rfl rfl rfl ?_ | refine ow_guard_none rfl rfl rfl rfl rfl ?_
      first | refine ow_guard_no rfl rfl rfl rfl rfl ?_ | refine ow_guard_none rfl rfl rfl rfl rfl ?_
      refine ow_guard_yes rfl rfl rfl ?_
      refine ow_val (val_pick_true rfl rfl) rfl ?_   -- 22
      refine ow_val (val_pick_true rfl rfl) rfl ?_   -- 23
      refine ow_nil (into ?_)
      refine sw_true rfl rfl ?_
      refine sw_seq ?_
      refine sw_region ?_
      refine ow_val (val_assign rfl) rfl ?_   -- 6
      refine ow_nil (into ?_)
      refine sw_ret (fun w hm => ?_)
      try dsimp only [thenP, blockP, Nat.beq, cond]
      exact ret_one _ rfl rfl ⟨by rw [chkB, if_neg (by simp [he]), if_pos (.inl hbm)] <;> rfl, hm⟩
    · -- no
      refine ow_guard_yes rfl rfl rfl ?_
      refine ow_val ((val_eql_u16 rfl rfl).to (congrArg Value.bool (decide_eq_false ((fun h => hbm (h.trans rfl)))))) rfl ?_   -- 15
      refine ow_guard_yes rfl rfl rfl ?_
      refine ow_val (val_move rfl) rfl ?_   -- 16
      refine ow_guard_yes rfl rfl rfl ?_
      refine ow_val (val_move rfl) rfl ?_   -- 17
      refine ow_guard_yes rfl rfl rfl ?_
      refine ow_call_pure (callsTo Tryd.func99 rfl (by kernel_rfl) rfl) rfl (fun w hm => rones_any bm w) ?_   -- 18
      refine ow_guard_yes rfl rfl rfl ?_
      refine ow_val (val_move rfl) rfl ?_   -- 19
      refine ow_guard_yes rfl rfl rfl ?_
      refine ow_val (val_len rfl Tryd.underlying45) rfl ?_   -- 20
      by_cases hon : ones bm ≠ ks.length
      · -- yes
        refine ow_guard_yes rfl rfl rfl ?_
        refine ow_val ((val_neq_int rfl rfl).to (congrArg Value.bool (decide_eq_true ((by omega))))) rfl ?_   -- 21
        refine ow_guard_yes rfl rfl rfl ?_
        refine ow_val (val_pick_false rfl rfl) rfl ?_   -- 22
        refine ow_val (val_pick_true rfl rfl) rfl ?_   -- 23
        refine ow_nil (into ?_)
        refine sw_true rfl rfl ?_
        refine sw_seq ?_
        refine sw_region ?_
        refine ow_val (val_assign rfl) rfl ?_   -- 6
        refine ow_nil (into ?_)
        refine sw_ret (fun w hm => ?_)
        try dsimp only [thenP, blockP, Nat.beq, cond]
        exact ret_one _ rfl rfl ⟨by rw [chkB, if_neg (by simp [he]), if_pos (.inr hon)] <;> rfl, hm⟩
      · -- no
        refine ow_guard_yes rfl rfl rfl ?_
        refine ow_val ((val_neq_int rfl rfl).to (congrArg Value.bool (decide_eq_false ((by omega))))) rfl ?_   -- 21
        refine ow_guard_yes rfl rfl rfl ?_
        refine ow_val (val_pick_false rfl rfl) rfl ?_   -- 22
        refine ow_val (val_pick_true rfl rfl) rfl ?_   -- 23
        refine ow_nil (into ?_)
        refine sw_false rfl rfl ?_
        refine sw_skip (into ?_)
        refine sw_seq ?_
        refine sw_region ?_
        refine ow_val (val_move rfl) rfl ?_   -- 24
        refine ow_val (val_assign rfl) rfl ?_   -- 6
        refine ow_nil (into ?_)
        refine sw_ret (fun w hm => ?_)
        try dsimp only [thenP, blockP, Nat.beq, cond]
        exact ret_one _ rfl rfl ⟨by rw [chkB, if_neg (by simp [he]), if_neg (fun h => h.elim hbm hon)] <;> rfl, hm⟩
  · exfalso; omega

theorem rcheckB_any (w : World) (v0 : Int) (bm : UInt16) (a : Option Addr) (c : Nat) (ks : List (List UInt8)) (hks : ∀ d ∈ ks, d.length = 32) (hr : Rd w a (ks.flatMap fun d => d.map vU8)) (hc : ks.length ≤ c) (hl : ks.length ≤ 9223372036854775807) : Calls Tryd.prog 61 #[vInt v0, vU16 bm, .slice a ks.length c] w fun e w' => ∃ v, e = .returned v ∧ v = vInt ((chkB v0 bm ks : Nat) : Int) ∧ Mem w [] [] w' := by
  by_cases he : chk v0 ks = 0
  · exact rcheckB_ok v0 bm w a c ks hks hr hc hl he
  · exact rcheckB_err v0 bm w a c ks hks hr hc hl he

theorem rnolog_any (w : World) (k : Nat) (h1 : 1 ≤ k) (h2 : k ≤ 32) : Calls Tryd.prog 21 #[vInt (k : Int)] w fun e w' => ∃ v, e = .returned v ∧ v = .agg ((dig k []).map vU8).toArray ∧ Mem w [] [] w' := by
  refine calls_of_sw (vs := [vInt (k : Int)]) Tryd.func21 rfl Tryd.ntmps21 rfl (SW.begin ?_)
  refine sw_seq ?_
  refine sw_region ?_
  refine ow_new (acts_alloc zD) rfl (fun b2 hb2 => ?_)   -- 2
  refine ow_nil (into ?_)
  refine sw_seq ?_
  refine sw_region ?_
  refine ow_val (val_move rfl) rfl ?_   -- 3
  refine ow_call_pure (callsTo Tryd.func51 rfl (by kernel_rfl) rfl) rfl (fun w hm => rcut_any k (by omega) w none 0 _ [] rfl (Rd.nil _ _) (by omega) (by omega)) ?_   -- 4
  refine ow_do_eq (does_store_all 0 rfl rfl rfl (one_u8s _) Tryd.sizeOf27 (by show (List.map vU8 (dig k [])).length = _; rw [List.length_map]; exact (dig_len _ (by omega))) (by show (List.map vU8 zeros32).length = _; rw [List.length_map]; exact zeros32_len)) ?_
  refine ow_nil (into ?_)
  exact sw_ret (fun w hm => ret_cell 0 rfl rfl hm rfl Tryd.isAgg27 Tryd.sizeOf27 (by rw [List.length_map]; exact dig_len _ h2) ⟨rfl, hm.forgetAll⟩)

theorem rnomap_any (w : World) (k : Nat) (h1 : 1 ≤ k) (h2 : k ≤ 32) : Calls Tryd.prog 22 #[vInt (k : Int)] w fun e w' => ∃ v, e = .returned v ∧ v = .agg ((dig k [5]).map vU8).toArray ∧ Mem w [] [] w' := by
  refine calls_of_sw (vs := [vInt (k : Int)]) Tryd.func22 rfl Tryd.ntmps22 rfl (SW.begin ?_)
  refine sw_seq ?_
  refine sw_region ?_
  refine ow_new (acts_alloc zD) rfl (fun b2 hb2 => ?_)   -- 2
  refine ow_nil (into ?_)
  refine sw_seq ?_
  refine sw_region ?_
  refine ow_val (val_move rfl) rfl ?_   -- 3
  refine ow_make (acts_buildSlice (cs := ([5] : List UInt8).map vU8) Tryd.underlying25 Tryd.sizeOf5 Tryd.zeroValue5 rfl rfl (by kernel_rfl)) rfl (fun b4 hb4 => ?_)   -- 4
  refine ow_call_pure (callsTo Tryd.func51 rfl (by kernel_rfl) rfl) rfl (fun w hm => rcut_any k (by omega) w (some ⟨b4, 0, none⟩) 1 _ ([5] : List UInt8) rfl (Rd.blk (hm.at (i := 0) rfl)) (by omega) (by omega)) ?_   -- 5
  refine ow_do_eq (does_store_all 1 rfl rfl rfl (one_u8s _) Tryd.sizeOf27 (by show (List.map vU8 (dig k ([5] : List UInt8))).length = _; rw [List.length_map]; exact (dig_len _ (by omega))) (by show (List.map vU8 zeros32).length = _; rw [List.length_map]; exact zeros32_len)) ?_
  refine ow_nil (into ?_)
  exact sw_ret (fun w hm => ret_cell 1 rfl rfl hm rfl Tryd.isAgg27 Tryd.sizeOf27 (by rw [List.length_map]; exact dig_len _ h2) ⟨rfl, hm.forgetAll⟩)

theorem docSum_no (v0 : Int) (hw : wd v0 = false) (w : World) (a : Option Addr) (c n : Nat) (p : List UInt8) : Calls Tryd.prog 19 #[vInt v0, .slice a n c] w fun en w' => ∃ v, en = .returned v ∧ v = .tuple #[.agg (((digO v0 p 0).1).map vU8).toArray, vInt ((digO v0 p 0).2 : Int)] ∧ Mem w [] [] w' := by
  refine calls_of_sw (vs := [vInt v0, .slice a n c]) Tryd.func19 rfl Tryd.ntmps19 rfl (SW.begin ?_)
  refine sw_seq ?_
  refine sw_region ?_
  refine ow_new (acts_alloc zD) rfl (fun b4 hb4 => ?_)   -- 4
  refine ow_val (val_assign rfl) rfl ?_   -- 5
  refine ow_nil (into ?_)
  refine sw_seq ?_
  refine sw_seq ?_
  refine sw_region ?_
  refine ow_val (val_move rfl) rfl ?_   -- 9
  refine ow_call_pure (v := .bool false) (callsTo Tryd.func46 rfl (by kernel_rfl) rfl) rfl (fun w hm => rwidth_is hw w) ?_   -- 10
  refine ow_val (val_not rfl) rfl ?_   -- 11
  refine ow_nil (into ?_)
  refine sw_true rfl rfl ?_
  refine sw_seq ?_
  refine sw_region ?_
  refine ow_val (val_build' (cs := zeros32.map vU8) rfl (by kernel_rfl)) rfl ?_   -- 12
  refine ow_do_eq (does_store_all 0 rfl rfl rfl (one_u8s _) Tryd.sizeOf27 (by show (List.map vU8 zeros32).length = _; rw [List.length_map]; exact zeros32_len) (by show (List.map vU8 zeros32).length = _; rw [List.length_map]; exact zeros32_len)) ?_
  refine ow_val (val_assign rfl) rfl ?_   -- 5
  refine ow_nil (into ?_)
  refine sw_ret (fun w hm => ?_)
  try dsimp only [thenP, blockP, Nat.beq, cond]
  exact ret_cell_two 0 rfl rfl rfl hm rfl Tryd.isAgg27 Tryd.sizeOf27 rfl ⟨by rw [digO_no hw]; rfl, hm.forgetAll⟩

theorem parts_le : ∀ (l : List (Sl UInt8)) (i : Nat), ((l.take i).flatMap (·.xs)).length ≤ (l.flatMap (·.xs)).length
  | [], i => by simp
  | x :: r, 0 => by simp
  | x :: r, i + 1 => by have := parts_le r i; simp only [List.take_succ_cons, List.flatMap_cons, List.length_append]; omega

theorem docSum_yes (k : Nat) (hw : wd (k : Int) = true) (h1 : 1 ≤ k) (h2 : k ≤ 32) (w : World) (a : Option Addr) (c : Nat) (ps : List (Sl UInt8)) (hr : Rd w a (ps.map Sl.v)) (hps : ∀ s ∈ ps, Rd w s.a (s.xs.map vU8) ∧ s.xs.length ≤ s.c ∧ s.xs.length < 9223372036854775808) (hc : ps.length ≤ c) (hl : ps.length < 9223372036854775808) (hb : (ps.flatMap (·.xs)).length ≤ 140737488300000) : Calls Tryd.prog 19 #[vInt (k : Int), .slice a ps.length c] w fun en w' => ∃ v, en = .returned v ∧ v = .tuple #[.agg (((digO (k : Int) (ps.flatMap (·.xs)) 0).1).map vU8).toArray, vInt ((digO (k : Int) (ps.flatMap (·.xs)) 0).2 : Int)] ∧ Mem w [] [] w' := by
  obtain ⟨ti, hti, htz, htsz, htby⟩ := info_parts iu8'
  refine calls_of_sw (vs := [vInt (k : Int), .slice a ps.length c]) Tryd.func19 rfl Tryd.ntmps19 rfl (SW.begin ?_)
  refine sw_seq ?_
  refine sw_region ?_
  refine ow_new (acts_alloc zD) rfl (fun b4 hb4 => ?_)   -- 4
  refine ow_val (val_assign rfl) rfl ?_   -- 5
  refine ow_nil (into ?_)
  refine sw_seq ?_
  refine sw_seq ?_
  refine sw_region ?_
  refine ow_val (val_move rfl) rfl ?_   -- 9
  refine ow_call_pure (v := .bool true) (callsTo Tryd.func46 rfl (by kernel_rfl) rfl) rfl (fun w hm => rwidth_is hw w) ?_   -- 10
  refine ow_val (val_not rfl) rfl ?_   -- 11
  refine ow_nil (into ?_)
  refine sw_false rfl rfl ?_
  refine sw_skip (into ?_)
  refine sw_seq ?_
  refine sw_region ?_
  refine ow_val (val_assign rfl) rfl ?_   -- 6
  refine ow_nil (into ?_)
  refine sw_seq ?_
  refine sw_seq ?_
  refine sw_region ?_
  refine ow_val (val_move rfl) rfl ?_   -- 13
  refine ow_val (val_len rfl Tryd.underlying32) rfl ?_   -- 14
  refine ow_val (val_move rfl) rfl ?_   -- 15
  refine ow_nil (into ?_)
  refine sw_block ?_
  refine sw_loop (σ := Nat × Option Addr × Nat × Ent × Nat) (fun x => x.1 ≤ ps.length ∧ x.2.2.2.2 = ((ps.take x.1).flatMap (·.xs)).length ∧ RowE (.slice x.2.1 x.2.2.2.2 x.2.2.1) 5 1 x.2.2.2.2 (((ps.take x.1).flatMap (·.xs)).map vU8) x.2.2.2.1) (fun x => [(15, vInt (x.1 : Int)), (14, vInt (ps.length : Int)), (13, .slice a ps.length c), (6, .slice x.2.1 x.2.2.2.2 x.2.2.1), (4, .pointer (some ⟨b4, 0, none⟩)), (0, vInt (k : Int))]) (fun x => Mem w [] [x.2.2.2.1, some (b4, blk (zeros32.map vU8) 27)]) (fun x => ps.length - x.1) (0, none, 0, none, 0) ⟨Nat.zero_le _, rfl, RowE.nil _ _⟩ ⟨rfl, rfl, rfl, rfl, rfl, rfl, trivial⟩ (fun w hm => hm.place) ?_
  rintro ⟨i, a1, c1, e1, k1⟩ ⟨hi, hk1, hrow1⟩
  simp only at hi hk1 hrow1 ⊢
  refine sw_seq ?_
  refine sw_region ?_
  refine ow_val (val_lss_int rfl rfl) rfl ?_   -- 16
  refine ow_nil (into ?_)
  refine sw_seq ?_
  refine sw_if rfl (fun h0 => ?_) (fun h0 => ?_)
  · -- then
    obtain ⟨ba, oa, rfl⟩ := hr.addr (by rw [List.length_map]; omega)
    have hE := hps _ (getD_mem (l := ps) (i := i) (by omega))
    have hE1 := hE.2.1
    have hE2 := hE.2.2
    have hpt : (ps.take (i + 1)).flatMap (·.xs) = (ps.take i).flatMap (·.xs) ++ (ps.getD i default).xs := by rw [take_getD (l := ps) (by omega), List.flatMap_append, List.flatMap_cons, List.flatMap_nil, List.append_nil]
    have hpl := parts_le ps (i + 1)
    rw [hpt, List.length_append] at hpl
    refine sw_skip (into ?_)
    refine sw_seq ?_
    refine sw_block ?_
    refine sw_seq ?_
    refine sw_region ?_
    refine ow_val (val_indexAddr_slice (i) (oa + i) rfl rfl Tryd.underlying32 Tryd.sizeOf25 (by omega) (by omega) (by omega)) rfl ?_   -- 17
    refine ow_val (val_load (v := Sl.v (ps.getD i default)) rfl Tryd.isAgg25 (fun w' hm => Rd.get (p := ps) (k := i) (hr.mem hm) (by omega) (by omega))) rfl ?_   -- 18
    refine ow_val (val_assign rfl) rfl ?_   -- 8
    refine ow_nil (into ?_)
    refine sw_region ?_
    refine ow_val (val_move rfl) rfl ?_   -- 19
    refine ow_val (val_move rfl) rfl ?_   -- 20
    refine ow_append' (k := k1 + ((ps.getD i default).xs.length)) (acts_append (size := 1) (bytes := 1) 0 rfl rfl rfl hrow1 rfl Tryd.underlying25 hti htz htsz htby rfl (by decide) (fun w hm => ((hps _ (getD_mem (i := i) (by omega))).1.mem hm)) (by rw [List.length_map, Nat.mul_one]) (one_u8s _) (by omega) (by omega)) rfl (fun a21 c21 e21 hq21 => ?_)   -- 21
    have hr21 : RowE (.slice a21 (k1 + ((ps.getD i default).xs.length)) c21) 5 1 (k1 + ((ps.getD i default).xs.length)) (((((ps.take i).flatMap (·.xs)) ++ ((ps.getD i default).xs))).map vU8) e21 := hq21.cong rfl rfl (by rw [List.map_append (l₁ := ((ps.take i).flatMap (·.xs)))])
    refine ow_val (val_assign rfl) rfl ?_   -- 6
    refine ow_nil (into ?_)
    refine sw_region ?_
    refine ow_val (val_add_int ((i + 1 : Nat) : Int) rfl rfl (by omega) (by omega)) rfl ?_   -- 22
    refine ow_val (val_move rfl) rfl ?_   -- 15
    exact ow_nil (fun w hm => ⟨(i + 1, a21, c21, e21, _), ⟨by dsimp only; omega, (by dsimp only; rw [hpt, List.length_append, hk1]), (by dsimp only; rw [hpt]; exact hr21)⟩, by dsimp only; omega, ⟨rfl, rfl, rfl, rfl, rfl, rfl, trivial⟩, hm.only (.cons_cons _ (.cons_cons _ (List.nil_sublist _)))⟩)
  · -- else
    obtain rfl : i = ps.length := by omega
    rw [List.take_length] at hk1 hrow1
    refine sw_exit (into ?_)
    refine sw_seq ?_
    refine sw_region ?_
    refine ow_val (val_move rfl) rfl ?_   -- 23
    refine ow_val (val_move rfl) rfl ?_   -- 24
    refine ow_call_pure (callsTo Tryd.func51 rfl (by kernel_rfl) rfl) rfl (fun w hm => rcut_any k (by omega) w a1 k1 _ ((ps.flatMap (·.xs))) hk1.symm (hrow1.rdAt hm (i := 0) rfl) hrow1.le (by omega)) ?_   -- 25
    refine ow_do_eq (does_store_all 1 rfl rfl rfl (one_u8s _) Tryd.sizeOf27 (by show (List.map vU8 (dig k ((ps.flatMap (·.xs))))).length = _; rw [List.length_map]; exact (dig_len _ (by omega))) (by show (List.map vU8 zeros32).length = _; rw [List.length_map]; exact zeros32_len)) ?_
    refine ow_val (val_assign rfl) rfl ?_   -- 5
    refine ow_nil (into ?_)
    exact sw_ret (fun w hm => ret_cell_two 1 rfl rfl rfl hm rfl Tryd.isAgg27 Tryd.sizeOf27 (by rw [List.length_map]; exact dig_len _ h2) ⟨by rw [digO_yes h1 h2]; rfl, hm.forgetAll⟩)

theorem docSum_any (v0 : Int) (w : World) (a : Option Addr) (c : Nat) (ps : List (Sl UInt8)) (hr : Rd w a (ps.map Sl.v)) (hps : ∀ s ∈ ps, Rd w s.a (s.xs.map vU8) ∧ s.xs.length ≤ s.c ∧ s.xs.length < 9223372036854775808) (hc : ps.length ≤ c) (hl : ps.length < 9223372036854775808) (hb : (ps.flatMap (·.xs)).length ≤ 140737488300000) : Calls Tryd.prog 19 #[vInt v0, .slice a ps.length c] w fun en w' => ∃ v, en = .returned v ∧ v = .tuple #[.agg (((digO v0 (ps.flatMap (·.xs)) 0).1).map vU8).toArray, vInt ((digO v0 (ps.flatMap (·.xs)) 0).2 : Int)] ∧ Mem w [] [] w' := by
  cases hw : wd v0 with
  | true => obtain ⟨k, rfl, h1, h2⟩ := wd_nat hw; exact docSum_yes k hw h1 h2 w a c ps hr hps hc hl hb
  | false => exact docSum_no v0 hw w a c ps.length _
end Go.Proofs.YtpmnhmfahgchgaaDoor
