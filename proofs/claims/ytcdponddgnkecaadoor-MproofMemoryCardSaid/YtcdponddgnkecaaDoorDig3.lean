import Derived.Test.YtcdponddgnkecaaDoorDig2
import Derived.Test.YtcdponddgnkecaaDoorProg
set_option linter.unusedVariables false
set_option linter.unusedSimpArgs false
namespace Go.Proofs.YtcdponddgnkecaaDoor
open Go.Sx Go.Ps
theorem joinlen {p q : List UInt8} {m n : Nat} (hp : p.length = m) (hq : q.length = n) : (p ++ q).length = m + n := by rw [List.length_append, hp, hq]
theorem made8 (L : Nat) : (madeCells (Value.int .u8 0).cells L).toList = (List.replicate L (0 : UInt8)).map vU8 := by
  rw [show (Value.int .u8 0).cells = #[Value.int .u8 0] from rfl, made_one, List.map_replicate]; rfl
theorem rowMade {b n : Nat} {T : TypeId} (h : n ≤ 9223372036854775807) : RowE (.slice (some ⟨b, 0, none⟩) 0 n) T 1 0 (([] : List UInt8).map vU8) (some (b, Sx.blk ((List.replicate n (0 : UInt8)).map vU8) T)) :=
  ⟨rfl, .inr ⟨b, n, (List.replicate n (0 : UInt8)).map vU8, rfl, Nat.zero_le _, h, by simp, rfl⟩⟩

theorem rjoin_any (w : World) (a1 : Option Addr) (m1 c1 : Nat) (p : List UInt8) (hp : p.length = m1) (hr1 : Rd w a1 (p.map vU8)) (a2 : Option Addr) (m2 c2 : Nat) (q : List UInt8) (hq : q.length = m2) (hr2 : Rd w a2 (q.map vU8)) (hb : m1 + m2 ≤ 140737488355328) : Calls Tryd.prog 95 #[.slice a1 m1 c1, .slice a2 m2 c2] w fun en w' => ∃ v, en = .returned v ∧ ∃ e', RowE v 5 1 (m1 + m2) ((p ++ q).map vU8) e' ∧ Mem w [] [e'] w' := by
  obtain ⟨ti, hti, htz, htsz, htby⟩ := info_parts iu8'
  refine calls_of_sw (vs := [.slice a1 m1 c1, .slice a2 m2 c2]) Tryd.func95 rfl Tryd.ntmps95 rfl (SW.begin ?_)
  refine sw_seq ?_
  refine sw_region ?_
  refine ow_val (val_assign rfl) rfl ?_
  refine ow_nil (into ?_)
  refine sw_seq ?_
  refine sw_region ?_
  refine ow_val (val_move rfl) rfl ?_
  refine ow_val (val_len rfl Tryd.underlying81) rfl ?_
  refine ow_val (val_move rfl) rfl ?_
  refine ow_val (val_len rfl Tryd.underlying81) rfl ?_
  refine ow_val (val_add_int ((m1 + m2 : Nat) : Int) rfl rfl (by omega) (by omega)) rfl ?_
  refine ow_make (o := blk ((List.replicate (m1 + m2) (0 : UInt8)).map vU8) 5) (acts_make_to (vs := (List.replicate (m1 + m2) (0 : UInt8)).map vU8) (0) (m1 + m2) rfl rfl (by simp) (by simp) Tryd.underlying81 hti htz (by omega) (by rw [htby]; omega) (by omega) (by rw [htsz, Nat.mul_one]; exact made8 _)) rfl (fun b11 hb11 => ?_)
  refine ow_val (val_assign rfl) rfl ?_
  refine ow_nil (into ?_)
  refine sw_seq ?_
  refine sw_region ?_
  refine ow_val (val_move rfl) rfl ?_
  refine ow_val (val_move rfl) rfl ?_
  refine ow_append' (k := 0 + m1) (acts_append (size := 1) (bytes := 1) 0 rfl rfl rfl (rowMade (by omega)) rfl Tryd.underlying81 hti htz htsz htby rfl (by decide) (fun w hm => hr1.mem hm) (by rw [List.length_map, Nat.mul_one]; exact hp) (one_u8s _) (by omega) (by omega)) rfl (fun a14 c14 e14 hr14 => ?_)
  refine ow_val (val_assign rfl) rfl ?_
  refine ow_nil (into ?_)
  refine sw_seq ?_
  refine sw_region ?_
  refine ow_val (val_move rfl) rfl ?_
  refine ow_val (val_move rfl) rfl ?_
  refine ow_append' (k := 0 + m1 + m2) (acts_append (size := 1) (bytes := 1) 0 rfl rfl rfl hr14 rfl Tryd.underlying81 hti htz htsz htby rfl (by decide) (fun w hm => hr2.mem hm) (by rw [List.length_map, Nat.mul_one]; exact hq) (one_u8s _) (by omega) (by omega)) rfl (fun a17 c17 e17 hr17 => ?_)
  refine ow_val (val_assign rfl) rfl ?_
  refine ow_nil (into ?_)
  refine sw_seq ?_
  refine sw_region ?_
  refine ow_val (val_move rfl) rfl ?_
  refine ow_val (val_assign rfl) rfl ?_
  refine ow_nil (into ?_)
  exact sw_ret (fun w hm => ret_one _ rfl rfl ⟨e17, hr17.cong (by rw [Nat.zero_add]) (by omega) (by simp), hm⟩)

theorem zD32 (w : World) : (zeroValue 40).run Tryd.prog w = .ok (.agg (zeros32.map vU8).toArray) w := by kernel_rfl

theorem rwidth_any (v0 : Int) (w : World) : Calls Tryd.prog 42 #[vInt v0] w fun e w' => ∃ v, e = .returned v ∧ v = .bool (wd v0) ∧ Mem w [] [] w' := by
  refine calls_of_sw (vs := [vInt v0]) Tryd.func42 rfl Tryd.ntmps42 rfl (SW.begin ?_)
  refine sw_seq ?_
  refine sw_region ?_
  refine ow_val (val_assign rfl) rfl ?_
  refine ow_nil (into ?_)
  refine sw_seq ?_
  refine sw_region ?_
  refine ow_val (val_move rfl) rfl ?_
  by_cases h1 : 1 ≤ v0
  · -- yes
    refine ow_val ((val_geq_int rfl rfl).to (congrArg Value.bool (decide_eq_true (by omega)))) rfl ?_
    refine ow_val (val_move rfl) rfl ?_
    refine ow_guard_yes rfl rfl rfl ?_
    refine ow_val (val_move rfl) rfl ?_
    refine ow_guard_yes rfl rfl rfl ?_
    refine ow_val (val_leq_int rfl rfl) rfl ?_
    refine ow_val (val_pick_true rfl rfl) rfl ?_
    refine ow_val (val_assign rfl) rfl ?_
    refine ow_nil (into ?_)
    exact sw_ret (fun w hm => ret_one _ rfl rfl ⟨by simp [wd, h1] <;> rfl, hm⟩)
  · -- no
    refine ow_val ((val_geq_int rfl rfl).to (congrArg Value.bool (decide_eq_false (by omega)))) rfl ?_
    refine ow_val (val_move rfl) rfl ?_
    first | refine ow_guard_no rfl rfl rfl rfl rfl ?_ | refine ow_guard_none rfl rfl rfl rfl rfl ?_
    first | refine ow_guard_no rfl rfl rfl rfl rfl ?_ | refine ow_guard_none rfl rfl rfl rfl rfl ?_
    refine ow_val (val_pick_false rfl rfl) rfl ?_
    refine ow_val (val_assign rfl) rfl ?_
    refine ow_nil (into ?_)
    exact sw_ret (fun w hm => ret_one _ rfl rfl ⟨by simp [wd, h1] <;> rfl, hm⟩)

theorem rwidth_is {v0 : Int} {b : Bool} (h : wd v0 = b) (w : World) : Calls Tryd.prog 42 #[vInt v0] w fun e w' => ∃ v, e = .returned v ∧ v = .bool b ∧ Mem w [] [] w' := by rw [← h]; exact rwidth_any v0 w

theorem docForm_no (v0 : Int) (hw : wd v0 = false) (d : List UInt8) (hd : d.length = 32) (w : World) : Calls Tryd.prog 101 #[vInt v0, .agg ((d).map vU8).toArray] w fun e w' => ∃ v, e = .returned v ∧ v = .bool (fm v0 d) ∧ Mem w [] [] w' := by
  refine calls_of_sw (vs := [vInt v0, .agg ((d).map vU8).toArray]) Tryd.func101 rfl Tryd.ntmps101 rfl (SW.begin ?_)
  refine sw_seq ?_
  refine sw_region ?_
  refine ow_new (acts_box rfl) rfl (fun b3 hb3 => ?_)
  refine ow_val (val_assign rfl) rfl ?_
  refine ow_nil (into ?_)
  refine sw_seq ?_
  refine sw_seq ?_
  refine sw_region ?_
  refine ow_val (val_move rfl) rfl ?_
  refine ow_call_pure (v := .bool false) (callsTo Tryd.func42 rfl (by kernel_rfl) rfl) rfl (fun w hm => rwidth_is hw w) ?_
  refine ow_val (val_not rfl) rfl ?_
  refine ow_nil (into ?_)
  refine sw_true rfl rfl ?_
  refine sw_seq ?_
  refine sw_region ?_
  refine ow_val (val_assign rfl) rfl ?_
  refine ow_nil (into ?_)
  refine sw_ret (fun w hm => ?_)
  try dsimp only [thenP, blockP, Nat.beq, cond]
  exact ret_one _ rfl rfl ⟨by simp [fm, hw] <;> rfl, hm.forgetAll⟩

theorem docForm_yes (k : Nat) (hw : wd (k : Int) = true) (h1 : 1 ≤ k) (h2 : k ≤ 32) (d : List UInt8) (hd : d.length = 32) (w : World) : Calls Tryd.prog 101 #[vInt (k : Int), .agg ((d).map vU8).toArray] w fun e w' => ∃ v, e = .returned v ∧ v = .bool (fm (k : Int) d) ∧ Mem w [] [] w' := by
  refine calls_of_sw (vs := [vInt (k : Int), .agg ((d).map vU8).toArray]) Tryd.func101 rfl Tryd.ntmps101 rfl (SW.begin ?_)
  refine sw_seq ?_
  refine sw_region ?_
  refine ow_new (acts_box rfl) rfl (fun b3 hb3 => ?_)
  refine ow_val (val_assign rfl) rfl ?_
  refine ow_nil (into ?_)
  refine sw_seq ?_
  refine sw_seq ?_
  refine sw_region ?_
  refine ow_val (val_move rfl) rfl ?_
  refine ow_call_pure (v := .bool true) (callsTo Tryd.func42 rfl (by kernel_rfl) rfl) rfl (fun w hm => rwidth_is hw w) ?_
  refine ow_val (val_not rfl) rfl ?_
  refine ow_nil (into ?_)
  refine sw_false rfl rfl ?_
  refine sw_skip (into ?_)
  refine sw_seq ?_
  refine sw_seq ?_
  refine sw_region ?_
  refine ow_val (val_move rfl) rfl ?_
  refine ow_val (val_assign rfl) rfl ?_
  refine ow_nil (into ?_)
  refine sw_block ?_
  refine sw_loop (σ := Nat) (fun j => k + j ≤ 32 ∧ ∀ x, k ≤ x → x < k + j → d.getD x default = 0) (fun j => [(5, vInt ((k + j : Nat) : Int)), (3, .pointer (some ⟨b3, 0, none⟩))]) (fun _ => Mem w [] [some (b3, blk (d.map vU8) 41)]) (fun j => 32 - j) 0 ⟨by omega, fun x h1 h2 => absurd h2 (by omega)⟩ ⟨rfl, rfl, trivial⟩ (fun w hm => hm) ?_
  rintro j ⟨hj, hall⟩
  refine sw_seq ?_
  refine sw_seq ?_
  refine sw_region ?_
  refine ow_val (val_move rfl) rfl ?_
  refine ow_val (val_lss_int rfl rfl) rfl ?_
  refine ow_nil (into ?_)
  refine sw_if rfl (fun h0 => ?_) (fun h0 => ?_)
  · -- then
    refine sw_skip (into ?_)
    refine sw_seq ?_
    refine sw_block ?_
    refine sw_seq ?_
    refine sw_region ?_
    refine ow_val (val_move rfl) rfl ?_
    refine ow_val (val_indexAddr (k + j) (k + j) rfl rfl Tryd.underlying41 Tryd.sizeOf5 (by omega) (by omega) (by omega)) rfl ?_
    refine ow_val (val_load_at 0 rfl rfl Tryd.isAgg5 (get_map vU8 d _ (by rw [hd]; omega))) rfl ?_
    refine ow_val (val_neq_u8 rfl rfl) rfl ?_
    refine ow_nil (into ?_)
    refine sw_if rfl (fun hb => ?_) (fun hb => ?_)
    · -- then
      refine sw_seq ?_
      refine sw_region ?_
      refine ow_val (val_assign rfl) rfl ?_
      refine ow_nil (into ?_)
      refine sw_ret (fun w hm => ?_)
      try dsimp only [thenP, blockP, Nat.beq, cond]
      exact ret_one _ rfl rfl ⟨by rw [show fm (k : Int) d = false by simp only [fm, wd_of h1 h2, Bool.true_and, Int.toNat_natCast]; exact decide_eq_false (fun h => hb ((cutw_get d k hd h2).1 h _ (by omega) (by omega)))]; rfl, hm.forgetAll⟩
    · -- else
      have hz0 : d.getD (k + j) default = 0 := Classical.byContradiction fun h => hb h
      refine sw_skip (into ?_)
      refine sw_region ?_
      refine ow_val (val_move rfl) rfl ?_
      refine ow_val (val_add_int ((k + j + 1 : Nat) : Int) rfl rfl (by omega) (by omega)) rfl ?_
      refine ow_val (val_assign rfl) rfl ?_
      exact ow_nil (fun w hm => ⟨j + 1, ⟨by omega, fun x hx1 hx2 => (Nat.lt_or_ge x (k + j)).elim (hall x hx1) (fun h => (show k + j = x by omega) ▸ hz0)⟩, by omega, ⟨rfl, rfl, trivial⟩, hm⟩)
  · -- else
    obtain hj32 : k + j = 32 := by omega
    refine sw_exit (into ?_)
    refine sw_seq ?_
    refine sw_region ?_
    refine ow_val (val_assign rfl) rfl ?_
    refine ow_nil (into ?_)
    exact sw_ret (fun w hm => ret_one _ rfl rfl ⟨by rw [show fm (k : Int) d = true by simp only [fm, wd_of h1 h2, Bool.true_and, Int.toNat_natCast]; exact decide_eq_true ((cutw_get d k hd h2).2 (fun x hx1 hx2 => hall x hx1 (by omega)))]; rfl, hm.forgetAll⟩)

theorem docForm_any (v0 : Int) (d : List UInt8) (hd : d.length = 32) (w : World) : Calls Tryd.prog 101 #[vInt v0, .agg ((d).map vU8).toArray] w fun e w' => ∃ v, e = .returned v ∧ v = .bool (fm v0 d) ∧ Mem w [] [] w' := by
  cases hw : wd v0 with
  | true => obtain ⟨k, rfl, h1, h2⟩ := wd_nat hw; exact docForm_yes k hw h1 h2 d hd w
  | false => exact docForm_no v0 hw d hd w

theorem rcut_any (k : Nat) (h2 : k ≤ 32) (w : World) (ap : Option Addr) (m cp : Nat) (p : List UInt8) (hpm : p.length = m) (hr : Rd w ap (p.map vU8)) (hcp : m ≤ cp) (hl : m < 9223372036854775808) : Calls Tryd.prog 73 #[vInt (k : Int), .slice ap m cp] w fun e w' => ∃ v, e = .returned v ∧ v = .agg ((dig k p).map vU8).toArray ∧ Mem w [] [] w' := by
  refine calls_of_sw (vs := [vInt (k : Int), .slice ap m cp]) Tryd.func73 rfl Tryd.ntmps73 rfl (SW.begin ?_)
  refine sw_seq ?_
  refine sw_region ?_
  refine ow_new (acts_alloc zD) rfl (fun b4 hb4 => ?_)
  refine ow_nil (into ?_)
  refine sw_seq ?_
  refine sw_region ?_
  refine ow_val (val_move rfl) rfl ?_
  refine ow_call_pure (callsTo Tryd.func94 rfl (by kernel_rfl) rfl) rfl (fun w hm => refSum_any _ _ _ p hpm (by omega) (by omega) w (hr.mem hm)) ?_
  refine ow_new (acts_alloc zD32) rfl (fun b5 hb5 => ?_)
  refine ow_do_eq (does_store_all 0 rfl rfl rfl (one_u8s _) Tryd.sizeOf40 (by show (List.map vU8 (shaOf p)).length = _; rw [List.length_map]; exact (hash_len _)) (by show (List.map vU8 zeros32).length = _; rw [List.length_map]; exact zeros32_len)) ?_
  refine ow_nil (into ?_)
  refine sw_seq ?_
  refine sw_seq ?_
  refine sw_region ?_
  refine ow_val (val_move rfl) rfl ?_
  refine ow_val (val_assign rfl) rfl ?_
  refine ow_nil (into ?_)
  refine sw_block ?_
  refine sw_loop (σ := Nat) (fun j => k + j ≤ 32) (fun j => [(6, vInt ((k + j : Nat) : Int)), (5, .pointer (some ⟨b5, 0, none⟩)), (4, .pointer (some ⟨b4, 0, none⟩))]) (fun j => Mem w [] [some (b5, blk ((cutFrom (shaOf p) k j).map vU8) 40), some (b4, blk (zeros32.map vU8) 41)]) (fun j => 32 - j) 0 (by omega) ⟨rfl, rfl, rfl, trivial⟩ (fun w hm => hm) ?_
  intro j hj
  refine sw_seq ?_
  refine sw_seq ?_
  refine sw_region ?_
  refine ow_val (val_move rfl) rfl ?_
  refine ow_val (val_lss_int rfl rfl) rfl ?_
  refine ow_nil (into ?_)
  refine sw_if rfl (fun h0 => ?_) (fun h0 => ?_)
  · -- then
    refine sw_skip (into ?_)
    refine sw_seq ?_
    refine sw_block ?_
    refine sw_region ?_
    refine ow_val (val_move rfl) rfl ?_
    refine ow_val (val_indexAddr (k + j) (k + j) rfl rfl Tryd.underlying40 Tryd.sizeOf5 (by omega) (by omega) (by omega)) rfl ?_
    refine ow_do (does_store_map (V := vU8) 0 rfl rfl rfl rfl Tryd.sizeOf5 (by rw [cutFrom_len, hash_len]; omega)) (fun _ _ => ?_)
    refine ow_nil (into ?_)
    refine sw_region ?_
    refine ow_val (val_move rfl) rfl ?_
    refine ow_val (val_add_int ((k + j + 1 : Nat) : Int) rfl rfl (by omega) (by omega)) rfl ?_
    refine ow_val (val_assign rfl) rfl ?_
    exact ow_nil (fun w hm => ⟨j + 1, by omega, by omega, ⟨rfl, rfl, rfl, trivial⟩, hm⟩)
  · -- else
    obtain rfl : j = 32 - k := by omega
    rw [cutFrom_all _ k (hash_len _) h2]
    refine sw_exit (into ?_)
    refine sw_seq ?_
    refine sw_region ?_
    refine ow_val (val_load_all 0 rfl rfl Tryd.isAgg40 Tryd.sizeOf40 (by show (List.map vU8 (cutw k (shaOf p))).length = _; rw [List.length_map]; exact (cutw_len (hash_len _) (by omega)))) rfl ?_
    refine ow_do_eq (does_store_all 1 rfl rfl rfl (one_u8s _) Tryd.sizeOf41 (by show (List.map vU8 (cutw k (shaOf p))).length = _; rw [List.length_map]; exact (cutw_len (hash_len _) (by omega))) (by show (List.map vU8 zeros32).length = _; rw [List.length_map]; exact zeros32_len)) ?_
    refine ow_nil (into ?_)
    exact sw_ret (fun w hm => ret_cell 1 rfl rfl hm rfl Tryd.isAgg41 Tryd.sizeOf41 (by rw [List.length_map]; exact dig_len _ h2) ⟨rfl, hm.forgetAll⟩)

theorem rcheck_no (v0 : Int) (hw : wd v0 = false) (w : World) (a : Option Addr) (c : Nat) (ks : List (List UInt8)) : Calls Tryd.prog 85 #[vInt v0, .slice a ks.length c] w fun e w' => ∃ v, e = .returned v ∧ v = vInt ((chk v0 ks : Nat) : Int) ∧ Mem w [] [] w' := by
  refine calls_of_sw (vs := [vInt v0, .slice a ks.length c]) Tryd.func85 rfl Tryd.ntmps85 rfl (SW.begin ?_)
  refine sw_seq ?_
  refine sw_region ?_
  refine ow_val (val_assign rfl) rfl ?_
  refine ow_nil (into ?_)
  refine sw_seq ?_
  refine sw_seq ?_
  refine sw_region ?_
  refine ow_val (val_move rfl) rfl ?_
  refine ow_call_pure (v := .bool false) (callsTo Tryd.func42 rfl (by kernel_rfl) rfl) rfl (fun w hm => rwidth_is hw w) ?_
  refine ow_val (val_not rfl) rfl ?_
  refine ow_nil (into ?_)
  refine sw_true rfl rfl ?_
  refine sw_seq ?_
  refine sw_region ?_
  refine ow_val (val_assign rfl) rfl ?_
  refine ow_nil (into ?_)
  refine sw_ret (fun w hm => ?_)
  try dsimp only [thenP, blockP, Nat.beq, cond]
  exact ret_one _ rfl rfl ⟨by rw [chk_no hw]; rfl, hm.forgetAll⟩

theorem rcheck_yes (v0 : Int) (hw : wd v0 = true) (w : World) (a : Option Addr) (c : Nat) (ks : List (List UInt8)) (hks : ∀ d ∈ ks, d.length = 32) (hr : Rd w a (ks.flatMap fun d => d.map vU8)) (hc : ks.length ≤ c) (hl : ks.length < 9223372036854775808) : Calls Tryd.prog 85 #[vInt v0, .slice a ks.length c] w fun e w' => ∃ v, e = .returned v ∧ v = vInt ((chk v0 ks : Nat) : Int) ∧ Mem w [] [] w' := by
  refine calls_of_sw (vs := [vInt v0, .slice a ks.length c]) Tryd.func85 rfl Tryd.ntmps85 rfl (SW.begin ?_)
  refine sw_seq ?_
  refine sw_region ?_
  refine ow_val (val_assign rfl) rfl ?_
  refine ow_nil (into ?_)
  refine sw_seq ?_
  refine sw_seq ?_
  refine sw_region ?_
  refine ow_val (val_move rfl) rfl ?_
  refine ow_call_pure (v := .bool true) (callsTo Tryd.func42 rfl (by kernel_rfl) rfl) rfl (fun w hm => rwidth_is hw w) ?_
  refine ow_val (val_not rfl) rfl ?_
  refine ow_nil (into ?_)
  refine sw_false rfl rfl ?_
  refine sw_skip (into ?_)
  refine sw_seq ?_
  refine sw_seq ?_
  refine sw_region ?_
  refine ow_val (val_move rfl) rfl ?_
  refine ow_val (val_len rfl Tryd.underlying22) rfl ?_
  refine ow_val (val_move rfl) rfl ?_
  refine ow_nil (into ?_)
  refine sw_block ?_
  refine sw_loop (σ := Nat) (fun i => i ≤ ks.length ∧ ∀ j, j < i → fm v0 (ks.getD j default) = true) (fun i => [(12, vInt (i : Int)), (11, vInt (ks.length : Int)), (10, .slice a ks.length c), (0, vInt v0)]) (fun _ => Mem w [] []) (fun i => ks.length - i) 0 ⟨Nat.zero_le _, fun j h => absurd h (Nat.not_lt_zero j)⟩ ⟨rfl, rfl, rfl, rfl, trivial⟩ (fun w hm => hm.forgetAll) ?_
  rintro i ⟨hi, hall⟩
  refine sw_seq ?_
  refine sw_region ?_
  refine ow_val (val_lss_int rfl rfl) rfl ?_
  refine ow_nil (into ?_)
  refine sw_seq ?_
  refine sw_if rfl (fun h0 => ?_) (fun h0 => ?_)
  · -- then
    obtain ⟨ba, oa, rfl⟩ := hr.addr (by rw [flatMap_size ks (fun x hx => by rw [List.length_map]; exact hks x hx)]; omega)
    refine sw_skip (into ?_)
    refine sw_seq ?_
    refine sw_block ?_
    refine sw_seq ?_
    refine sw_region ?_
    refine ow_val (val_indexAddr_slice (i) (oa + i * 32) rfl rfl Tryd.underlying22 Tryd.sizeOf41 (by omega) (by omega) (by omega)) rfl ?_
    refine ow_val (val_load_elem (cells := fun d => d.map vU8) (l := ks) (o := oa) (i := i) rfl Tryd.isAgg41 Tryd.sizeOf41 (fun x hx => by rw [List.length_map]; exact hks x hx) (by omega) (by omega) (fun w' hm => hr.mem hm)) rfl ?_
    refine ow_new (acts_alloc zD) rfl (fun b6 hb6 => ?_)
    refine ow_do_eq (does_store_all 0 rfl rfl rfl (one_u8s _) Tryd.sizeOf41 (by show (List.map vU8 (ks.getD i default)).length = _; rw [List.length_map]; exact (hks _ (getD_mem (by omega)))) (by show (List.map vU8 zeros32).length = _; rw [List.length_map]; exact zeros32_len)) ?_
    refine ow_nil (into ?_)
    refine sw_seq ?_
    refine sw_region ?_
    refine ow_val (val_move rfl) rfl ?_
    refine ow_val (val_load_all 0 rfl rfl Tryd.isAgg41 Tryd.sizeOf41 (by show (List.map vU8 (ks.getD i default)).length = _; rw [List.length_map]; exact (hks _ (getD_mem (by omega))))) rfl ?_
    refine ow_call_pure (callsTo Tryd.func101 rfl (by kernel_rfl) rfl) rfl (fun w hm => docForm_any v0 (ks.getD i default) (hks _ (getD_mem (by omega))) w) ?_
    refine ow_val (val_not rfl) rfl ?_
    refine ow_nil (into ?_)
    refine sw_cond rfl (fun hf0 => ?_) (fun hf0 => ?_)
    · -- then
      have hf : fm v0 (ks.getD i default) = false := by simpa using hf0
      refine sw_seq ?_
      refine sw_region ?_
      refine ow_val (val_assign rfl) rfl ?_
      refine ow_nil (into ?_)
      refine sw_ret (fun w hm => ?_)
      try dsimp only [thenP, blockP, Nat.beq, cond]
      exact ret_one _ rfl rfl ⟨by rw [chk_bad hw (getD_mem (i := i) (by omega)) (by simpa using hf)]; rfl, hm.forgetAll⟩
    · -- else
      have hf : fm v0 (ks.getD i default) = true := by simpa using hf0
      refine sw_skip (into ?_)
      refine sw_region ?_
      refine ow_val (val_add_int ((i + 1 : Nat) : Int) rfl rfl (by omega) (by omega)) rfl ?_
      refine ow_val (val_move rfl) rfl ?_
      exact ow_nil (fun w hm => ⟨i + 1, ⟨by omega, fun j hj => (Nat.lt_or_ge j i).elim (hall j) (fun h => (show i = j by omega) ▸ hf)⟩, by omega, ⟨rfl, rfl, rfl, rfl, trivial⟩, hm.forgetAll⟩)
  · -- else
    refine sw_exit (into ?_)
    refine sw_seq ?_
    refine sw_region ?_
    refine ow_val (val_assign rfl) rfl ?_
    refine ow_nil (into ?_)
    exact sw_ret (fun w hm => ret_one _ rfl rfl ⟨by rw [chk_all hw (fun d hd => by obtain ⟨j, hj⟩ := List.mem_iff_getElem?.1 hd; have hj2 := (List.getElem?_eq_some_iff.1 hj).1; have h9 := hall j (by omega); simpa [List.getD_eq_getElem?_getD, hj] using h9)]; rfl, hm⟩)

theorem rcheck_any (v0 : Int) (w : World) (a : Option Addr) (c : Nat) (ks : List (List UInt8)) (hks : ∀ d ∈ ks, d.length = 32) (hr : Rd w a (ks.flatMap fun d => d.map vU8)) (hc : ks.length ≤ c) (hl : ks.length < 9223372036854775808) : Calls Tryd.prog 85 #[vInt v0, .slice a ks.length c] w fun e w' => ∃ v, e = .returned v ∧ v = vInt ((chk v0 ks : Nat) : Int) ∧ Mem w [] [] w' := by
  cases hw : wd v0 with
  | true => exact rcheck_yes v0 hw w a c ks hks hr hc hl
  | false => exact rcheck_no v0 hw w a c ks

theorem rnodeI_any (w : World) (k : Nat) (h1 : 1 ≤ k) (h2 : k ≤ 32) (l r : List UInt8) (hll : l.length = 32) (hrl : r.length = 32) : Calls Tryd.prog 74 #[vInt (k : Int), .agg ((l).map vU8).toArray, .agg ((r).map vU8).toArray] w fun en w' => ∃ v, en = .returned v ∧ ∃ e', RowE v 5 1 (nodeI k l r).length ((nodeI k l r).map vU8) e' ∧ Mem w [] [e'] w' := by
  refine calls_of_sw (vs := [vInt (k : Int), .agg ((l).map vU8).toArray, .agg ((r).map vU8).toArray]) Tryd.func74 rfl Tryd.ntmps74 rfl (SW.begin ?_)
  refine sw_seq ?_
  refine sw_region ?_
  refine ow_new (acts_box rfl) rfl (fun b4 hb4 => ?_)
  refine ow_new (acts_box rfl) rfl (fun b5 hb5 => ?_)
  refine ow_val (val_assign rfl) rfl ?_
  refine ow_nil (into ?_)
  refine sw_seq ?_
  refine sw_region_tree _ [0, 5, 6] (.one 1 0 (.one 2 0 (.one 3 0 (.one 4 0 (.alt 0 (.one 5 2 (.one 6 2 (.one 7 0 .done))) (.alt 5 (.one 0 2 (.one 6 2 (.one 7 0 .done))) .stop)))))) (by kernel_rfl) (by kernel_rfl) (fun _ _ _ h => h) (fun _ h => h) (fun _ h => h.drawn _) ?_
  refine lt_pure rfl trivial (val_move rfl) rfl ?_
  refine lt_pure rfl trivial (val_slice_array_hi' k 0 rfl rfl Tryd.underlying41 Tryd.sizeOf5 rfl (by omega) rfl) rfl ?_
  refine lt_pure rfl trivial (val_move rfl) rfl ?_
  refine lt_pure rfl trivial (val_slice_array_hi' k 0 rfl rfl Tryd.underlying41 Tryd.sizeOf5 rfl (by omega) rfl) rfl ?_
  refine lt_alt ?_ ?_
  · -- first 0
    refine lt_make (fun b => .slice (some ⟨b, 0, none⟩) 1 1) rfl trivial (acts_buildSlice (cs := ([1] : List UInt8).map vU8) Tryd.underlying81 Tryd.sizeOf5 Tryd.zeroValue5 rfl rfl (by kernel_rfl)) rfl (fun h => nomatch h) (fun b7 hb7 => ?_)
    refine lt_call_row (E := 5) (size := 1) (k := k + k) (xs := ((l.take k) ++ (r.take k)).map vU8) rfl trivial (callsTo Tryd.func95 rfl (by kernel_rfl) rfl) rfl (fun w hm => rjoin_any w (some ⟨b4, 0, none⟩) k _ (l.take k) (by rw [List.length_take, hll]; omega) ((Rd.blk (hm.at (i := 2) rfl)).take1 k) (some ⟨b5, 0, none⟩) k _ (r.take k) (by rw [List.length_take, hrl]; omega) ((Rd.blk (hm.at (i := 1) rfl)).take1 k) (by omega)) (fun h => nomatch h) (fun a12 c12 e12 hr12 => ?_)
    refine lt_call_row (E := 5) (size := 1) (k := 1 + (k + k)) (xs := (([1] : List UInt8) ++ (((l.take k) ++ (r.take k)))).map vU8) rfl trivial (callsTo Tryd.func95 rfl (by kernel_rfl) rfl) rfl (fun w hm => rjoin_any w (some ⟨b7, 0, none⟩) 1 _ ([1] : List UInt8) rfl (Rd.blk (hm.at (i := 1) rfl)) a12 (k + k) _ (((l.take k) ++ (r.take k))) (joinlen (by rw [List.length_take, hll]; omega) (by rw [List.length_take, hrl]; omega)) (hr12.rdAt hm (i := 0) rfl) (by omega)) (fun h => nomatch h) (fun a13 c13 e13 hr13 => ?_)
    refine lt_pure rfl trivial (val_assign rfl) rfl ?_
    refine lt_done (into ?_)
    refine sw_ret (fun w hm => ?_)
    try dsimp only [thenP, blockP, Nat.beq, cond]
    exact ret_one _ rfl rfl ⟨e13, hr13.cong rfl (by simp [nodeI, hll, hrl]; omega) (by simp only [nodeI, List.append_assoc]), hm.only (.cons_cons _ (List.nil_sublist _))⟩
  refine lt_alt ?_ ?_
  · -- first 5
    refine lt_call_row (E := 5) (size := 1) (k := k + k) (xs := ((l.take k) ++ (r.take k)).map vU8) rfl trivial (callsTo Tryd.func95 rfl (by kernel_rfl) rfl) rfl (fun w hm => rjoin_any w (some ⟨b4, 0, none⟩) k _ (l.take k) (by rw [List.length_take, hll]; omega) ((Rd.blk (hm.at (i := 1) rfl)).take1 k) (some ⟨b5, 0, none⟩) k _ (r.take k) (by rw [List.length_take, hrl]; omega) ((Rd.blk (hm.at (i := 0) rfl)).take1 k) (by omega)) (fun h => nomatch h) (fun a12 c12 e12 hr12 => ?_)
    refine lt_make (fun b => .slice (some ⟨b, 0, none⟩) 1 1) rfl trivial (acts_buildSlice (cs := ([1] : List UInt8).map vU8) Tryd.underlying81 Tryd.sizeOf5 Tryd.zeroValue5 rfl rfl (by kernel_rfl)) rfl (fun h => nomatch h) (fun b7 hb7 => ?_)
    refine lt_call_row (E := 5) (size := 1) (k := 1 + (k + k)) (xs := (([1] : List UInt8) ++ (((l.take k) ++ (r.take k)))).map vU8) rfl trivial (callsTo Tryd.func95 rfl (by kernel_rfl) rfl) rfl (fun w hm => rjoin_any w (some ⟨b7, 0, none⟩) 1 _ ([1] : List UInt8) rfl (Rd.blk (hm.at (i := 0) rfl)) a12 (k + k) _ (((l.take k) ++ (r.take k))) (joinlen (by rw [List.length_take, hll]; omega) (by rw [List.length_take, hrl]; omega)) (hr12.rdAt hm (i := 1) rfl) (by omega)) (fun h => nomatch h) (fun a13 c13 e13 hr13 => ?_)
    refine lt_pure rfl trivial (val_assign rfl) rfl ?_
    refine lt_done (into ?_)
    refine sw_ret (fun w hm => ?_)
    try dsimp only [thenP, blockP, Nat.beq, cond]
    exact ret_one _ rfl rfl ⟨e13, hr13.cong rfl (by simp [nodeI, hll, hrl]; omega) (by simp only [nodeI, List.append_assoc]), hm.only (.cons_cons _ (List.nil_sublist _))⟩
  exact lt_stop

theorem rnolog_any (w : World) (k : Nat) (h1 : 1 ≤ k) (h2 : k ≤ 32) : Calls Tryd.prog 54 #[vInt (k : Int)] w fun e w' => ∃ v, e = .returned v ∧ v = .agg ((dig k []).map vU8).toArray ∧ Mem w [] [] w' := by
  refine calls_of_sw (vs := [vInt (k : Int)]) Tryd.func54 rfl Tryd.ntmps54 rfl (SW.begin ?_)
  refine sw_seq ?_
  refine sw_region ?_
  refine ow_new (acts_alloc zD) rfl (fun b2 hb2 => ?_)
  refine ow_nil (into ?_)
  refine sw_seq ?_
  refine sw_region ?_
  refine ow_val (val_move rfl) rfl ?_
  refine ow_call_pure (callsTo Tryd.func73 rfl (by kernel_rfl) rfl) rfl (fun w hm => rcut_any k (by omega) w none 0 _ [] rfl (Rd.nil _ _) (by omega) (by omega)) ?_
  refine ow_do_eq (does_store_all 0 rfl rfl rfl (one_u8s _) Tryd.sizeOf41 (by show (List.map vU8 (dig k [])).length = _; rw [List.length_map]; exact (dig_len _ (by omega))) (by show (List.map vU8 zeros32).length = _; rw [List.length_map]; exact zeros32_len)) ?_
  refine ow_nil (into ?_)
  exact sw_ret (fun w hm => ret_cell 0 rfl rfl hm rfl Tryd.isAgg41 Tryd.sizeOf41 (by rw [List.length_map]; exact dig_len _ h2) ⟨rfl, hm.forgetAll⟩)

theorem parts_le : ∀ (l : List (Sl UInt8)) (i : Nat), ((l.take i).flatMap (·.xs)).length ≤ (l.flatMap (·.xs)).length
  | [], i => by simp
  | x :: r, 0 => by simp
  | x :: r, i + 1 => by have := parts_le r i; simp only [List.take_succ_cons, List.flatMap_cons, List.length_append]; omega
end Go.Proofs.YtcdponddgnkecaaDoor
