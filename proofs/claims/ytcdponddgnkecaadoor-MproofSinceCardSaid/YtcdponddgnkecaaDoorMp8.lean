import Derived.Test.YtcdponddgnkecaaDoorMp6
import Derived.Test.YtcdponddgnkecaaDoorProg
set_option linter.unusedVariables false
set_option linter.unusedSimpArgs false
namespace Go.Proofs.YtcdponddgnkecaaDoor
open Go.Sx Go.Ps
theorem drop_cons {α : Type} [Inhabited α] {P : List α} {q : Nat} {z : α} {r : List α} (h : P.drop q = z :: r) : q < P.length ∧ P.getD q default = z ∧ P.drop (q + 1) = r := by
  have hq : q < P.length := by
    rcases Nat.lt_or_ge q P.length with h1 | h1
    · exact h1
    · rw [List.drop_eq_nil_of_le h1] at h; cases h
  rw [List.drop_eq_getElem_cons hq] at h
  injection h with ha hb
  refine ⟨hq, ?_, hb⟩
  rw [List.getD_eq_getElem?_getD, List.getElem?_eq_getElem hq, Option.getD_some, ha]
theorem rngU (k : Nat) {l : List (List UInt8)} {n : UInt64} (h : n.toNat ≤ l.length) : rngO k l 0 n = (lg k (seg l 0 n.toNat), 0) := by
  rw [rngO, if_neg]; · rfl
  rw [UInt64.lt_iff_toNat_lt, show (0 : UInt64).toNat = 0 from rfl]; omega
theorem leafU {l : List (List UInt8)} {i : UInt64} {n : Nat} (h : i.toNat < n) (hn : n ≤ l.length) : leafO l i = ((seg l 0 n).getD i.toNat default, 0) := by
  rw [leafO, if_neg (by omega), seg, List.drop_zero, Nat.sub_zero, getD_take' h]

theorem folds_none (v0 : Int) (hwd : wd v0 = false) (i n : UInt64) (w : World) (hK : KW w) (a : Option Addr) (c : Nat) (l : List (List UInt8)) (hdl : ∀ d ∈ l, d.length = 32) (hr : Rd w a (l.flatMap fun d => d.map vU8)) (hc : l.length ≤ c) (hb : l.length * 32 ≤ 140737488351232) : Calls Tryd.prog 10 #[vInt v0, .slice a l.length c, vU64 i, vU64 n] w fun e w' => ∃ v, e = .returned v ∧ v = .bool true ∧ Mem w [] [] w' := by
  refine calls_of_sw (vs := [vInt v0, .slice a l.length c, vU64 i, vU64 n]) Tryd.func10 rfl Tryd.ntmps10 rfl (SW.begin ?_)
  refine sw_seq ?_
  refine sw_region ?_
  refine ow_val (val_assign rfl) rfl ?_   -- 8
  refine ow_nil (into ?_)
  refine sw_seq ?_
  refine sw_seq ?_
  refine sw_region ?_
  refine ow_call_pure (v := .bool true) (callsTo Tryd.func14 rfl (by kernel_rfl) rfl) rfl (fun w hm => awake_any w (hK.mem0 hm)) ?_   -- 22
  refine ow_val (val_not rfl) rfl ?_   -- 23
  refine ow_nil (into ?_)
  refine sw_false rfl rfl ?_
  refine sw_skip (into ?_)
  refine sw_seq ?_
  refine sw_region ?_
  refine ow_val (val_move rfl) rfl ?_   -- 25
  refine ow_val (val_move rfl) rfl ?_   -- 26
  refine ow_call_pure (v := .tuple #[.pointer none, .slice none 0 0, .bool false]) (callsTo Tryd.func15 rfl (by kernel_rfl) rfl) rfl (fun w hm => tree_no v0 hwd w _ _ _) ?_   -- 27
  refine ow_val (val_move rfl) rfl ?_   -- 24
  refine ow_val (val_extract rfl rfl) rfl ?_   -- 28
  refine ow_val (val_extract rfl rfl) rfl ?_   -- 29
  refine ow_val (val_extract rfl rfl) rfl ?_   -- 30
  refine ow_val (val_assign rfl) rfl ?_   -- 9
  refine ow_val (val_assign rfl) rfl ?_   -- 10
  refine ow_val (val_assign rfl) rfl ?_   -- 11
  refine ow_nil (into ?_)
  refine sw_seq ?_
  refine sw_seq ?_
  refine sw_region ?_
  refine ow_val (val_move rfl) rfl ?_   -- 31
  refine ow_val (val_not rfl) rfl ?_   -- 32
  refine ow_val (val_move rfl) rfl ?_   -- 33
  first | refine ow_guard_no rfl rfl rfl rfl rfl ?_ | refine ow_guard_none rfl rfl rfl rfl rfl ?_
  first | refine ow_guard_no rfl rfl rfl rfl rfl ?_ | refine ow_guard_none rfl rfl rfl rfl rfl ?_
  first | refine ow_guard_no rfl rfl rfl rfl rfl ?_ | refine ow_guard_none rfl rfl rfl rfl rfl ?_
  refine ow_val (val_pick_true rfl rfl) rfl ?_   -- 37
  refine ow_val (val_move rfl) rfl ?_   -- 38
  first | refine ow_guard_no rfl rfl rfl rfl rfl ?_ | refine ow_guard_none rfl rfl rfl rfl rfl ?_
  first | refine ow_guard_no rfl rfl rfl rfl rfl ?_ | refine ow_guard_none rfl rfl rfl rfl rfl ?_
  first | refine ow_guard_no rfl rfl rfl rfl rfl ?_ | refine ow_guard_none rfl rfl rfl rfl rfl ?_
  first | refine ow_guard_no rfl rfl rfl rfl rfl ?_ | refine ow_guard_none rfl rfl rfl rfl rfl ?_
  first | refine ow_guard_no rfl rfl rfl rfl rfl ?_ | refine ow_guard_none rfl rfl rfl rfl rfl ?_
  refine ow_val (val_pick_true rfl rfl) rfl ?_   -- 44
  refine ow_nil (into ?_)
  refine sw_true rfl rfl ?_
  refine sw_seq ?_
  refine sw_region ?_
  refine ow_val (val_assign rfl) rfl ?_   -- 8
  refine ow_nil (into ?_)
  refine sw_ret (fun w hm => ?_)
  try dsimp only [thenP, blockP, Nat.beq, cond]
  exact ret_one _ rfl rfl ⟨rfl, hm.forgetAll⟩

theorem folds_a (k : Nat) (h1 : 1 ≤ k) (h2 : k ≤ 32) (i n : UInt64) (w : World) (hK : KW w) (a : Option Addr) (c : Nat) (l : List (List UInt8)) (hdl : ∀ d ∈ l, d.length = 32) (hr : Rd w a (l.flatMap fun d => d.map vU8)) (hc : l.length ≤ c) (hb : l.length * 32 ≤ 140737488351232) (L : List (List UInt8)) (hL : cutL k l = L) (hge : n.toNat ≤ i.toNat) : Calls Tryd.prog 10 #[vInt (k : Int), .slice a l.length c, vU64 i, vU64 n] w fun e w' => ∃ v, e = .returned v ∧ v = .bool true ∧ Mem w [] [] w' := by
  have hcl := cutL_ok h1 h2 hdl
  rw [hL] at hcl
  have hLd := hcl.1
  have hLf := hcl.2
  have hLn : L.length = l.length := by rw [← hL]; exact cutL_len k l
  refine calls_of_sw (vs := [vInt (k : Int), .slice a l.length c, vU64 i, vU64 n]) Tryd.func10 rfl Tryd.ntmps10 rfl (SW.begin ?_)
  refine sw_seq ?_
  refine sw_region ?_
  refine ow_val (val_assign rfl) rfl ?_   -- 8
  refine ow_nil (into ?_)
  refine sw_seq ?_
  refine sw_seq ?_
  refine sw_region ?_
  refine ow_call_pure (v := .bool true) (callsTo Tryd.func14 rfl (by kernel_rfl) rfl) rfl (fun w hm => awake_any w (hK.mem0 hm)) ?_   -- 22
  refine ow_val (val_not rfl) rfl ?_   -- 23
  refine ow_nil (into ?_)
  refine sw_false rfl rfl ?_
  refine sw_skip (into ?_)
  refine sw_seq ?_
  refine sw_region ?_
  refine ow_val (val_move rfl) rfl ?_   -- 25
  refine ow_val (val_move rfl) rfl ?_   -- 26
  refine ow_call_tail (σ := Nat × Option Addr × Nat × List Ent) (fun q9 => .tuple #[vPtr q9.1, .slice q9.2.1 L.length q9.2.2.1, .bool true]) (fun q9 => q9.2.2.2) (fun q9 => TrOn 110 79 k q9.2.2.2 q9.1 L ∧ RdOn q9.2.2.2 q9.2.1 (List.flatMap (fun d : List UInt8 => List.map vU8 d) L) ∧ L.length ≤ q9.2.2.1 ∧ (0 < L.length → ∃ b o, q9.2.1 = some ⟨b, o, none⟩)) (callsTo Tryd.func15 rfl (by kernel_rfl) rfl) rfl (fun w hm => tree_is k h1 h2 w (hK.mem0 hm) a l.length c l rfl hdl (hr.mem hm) (by omega) (by omega) (by omega) hL) ?_   -- 27
  rintro ⟨b27, a27, c27, es27⟩ ⟨htr27, hrd27, hle27, hla27⟩
  simp only at htr27 hrd27 hle27 hla27 ⊢
  refine ow_val (val_move rfl) rfl ?_   -- 24
  refine ow_val (val_extract rfl rfl) rfl ?_   -- 28
  refine ow_val (val_extract rfl rfl) rfl ?_   -- 29
  refine ow_val (val_extract rfl rfl) rfl ?_   -- 30
  refine ow_val (val_assign rfl) rfl ?_   -- 9
  refine ow_val (val_assign rfl) rfl ?_   -- 10
  refine ow_val (val_assign rfl) rfl ?_   -- 11
  refine ow_nil (into ?_)
  refine sw_seq ?_
  refine sw_seq ?_
  refine sw_region ?_
  refine ow_val (val_move rfl) rfl ?_   -- 31
  refine ow_val (val_not rfl) rfl ?_   -- 32
  refine ow_val (val_move rfl) rfl ?_   -- 33
  refine ow_guard_yes rfl rfl rfl ?_
  refine ow_val (val_move rfl) rfl ?_   -- 34
  refine ow_guard_yes rfl rfl rfl ?_
  refine ow_val (val_move rfl) rfl ?_   -- 35
  refine ow_guard_yes rfl rfl rfl ?_
  refine ow_val ((val_geq_u64 rfl rfl).to (congrArg Value.bool (decide_eq_true ((UInt64.le_iff_toNat_le.2 hge))))) rfl ?_   -- 36
  refine ow_val (val_pick_false rfl rfl) rfl ?_   -- 37
  refine ow_val (val_move rfl) rfl ?_   -- 38
  first | refine ow_guard_no rfl rfl rfl rfl rfl ?_ | refine ow_guard_none rfl rfl rfl rfl rfl ?_
  first | refine ow_guard_no rfl rfl rfl rfl rfl ?_ | refine ow_guard_none rfl rfl rfl rfl rfl ?_
  first | refine ow_guard_no rfl rfl rfl rfl rfl ?_ | refine ow_guard_none rfl rfl rfl rfl rfl ?_
  first | refine ow_guard_no rfl rfl rfl rfl rfl ?_ | refine ow_guard_none rfl rfl rfl rfl rfl ?_
  first | refine ow_guard_no rfl rfl rfl rfl rfl ?_ | refine ow_guard_none rfl rfl rfl rfl rfl ?_
  refine ow_val (val_pick_true rfl rfl) rfl ?_   -- 44
  refine ow_nil (into ?_)
  refine sw_true rfl rfl ?_
  refine sw_seq ?_
  refine sw_region ?_
  refine ow_val (val_assign rfl) rfl ?_   -- 8
  refine ow_nil (into ?_)
  refine sw_ret (fun w hm => ?_)
  try dsimp only [thenP, blockP, Nat.beq, cond]
  exact ret_one _ rfl rfl ⟨rfl, hm.forgetAll⟩

theorem folds_b (k : Nat) (h1 : 1 ≤ k) (h2 : k ≤ 32) (i n : UInt64) (w : World) (hK : KW w) (a : Option Addr) (c : Nat) (l : List (List UInt8)) (hdl : ∀ d ∈ l, d.length = 32) (hr : Rd w a (l.flatMap fun d => d.map vU8)) (hc : l.length ≤ c) (hb : l.length * 32 ≤ 140737488351232) (L : List (List UInt8)) (hL : cutL k l = L) (hi : i.toNat < n.toNat) (hgt : L.length < n.toNat) : Calls Tryd.prog 10 #[vInt (k : Int), .slice a l.length c, vU64 i, vU64 n] w fun e w' => ∃ v, e = .returned v ∧ v = .bool true ∧ Mem w [] [] w' := by
  have hcl := cutL_ok h1 h2 hdl
  rw [hL] at hcl
  have hLd := hcl.1
  have hLf := hcl.2
  have hLn : L.length = l.length := by rw [← hL]; exact cutL_len k l
  refine calls_of_sw (vs := [vInt (k : Int), .slice a l.length c, vU64 i, vU64 n]) Tryd.func10 rfl Tryd.ntmps10 rfl (SW.begin ?_)
  refine sw_seq ?_
  refine sw_region ?_
  refine ow_val (val_assign rfl) rfl ?_   -- 8
  refine ow_nil (into ?_)
  refine sw_seq ?_
  refine sw_seq ?_
  refine sw_region ?_
  refine ow_call_pure (v := .bool true) (callsTo Tryd.func14 rfl (by kernel_rfl) rfl) rfl (fun w hm => awake_any w (hK.mem0 hm)) ?_   -- 22
  refine ow_val (val_not rfl) rfl ?_   -- 23
  refine ow_nil (into ?_)
  refine sw_false rfl rfl ?_
  refine sw_skip (into ?_)
  refine sw_seq ?_
  refine sw_region ?_
  refine ow_val (val_move rfl) rfl ?_   -- 25
  refine ow_val (val_move rfl) rfl ?_   -- 26
  refine ow_call_tail (σ := Nat × Option Addr × Nat × List Ent) (fun q9 => .tuple #[vPtr q9.1, .slice q9.2.1 L.length q9.2.2.1, .bool true]) (fun q9 => q9.2.2.2) (fun q9 => TrOn 110 79 k q9.2.2.2 q9.1 L ∧ RdOn q9.2.2.2 q9.2.1 (List.flatMap (fun d : List UInt8 => List.map vU8 d) L) ∧ L.length ≤ q9.2.2.1 ∧ (0 < L.length → ∃ b o, q9.2.1 = some ⟨b, o, none⟩)) (callsTo Tryd.func15 rfl (by kernel_rfl) rfl) rfl (fun w hm => tree_is k h1 h2 w (hK.mem0 hm) a l.length c l rfl hdl (hr.mem hm) (by omega) (by omega) (by omega) hL) ?_   -- 27
  rintro ⟨b27, a27, c27, es27⟩ ⟨htr27, hrd27, hle27, hla27⟩
  simp only at htr27 hrd27 hle27 hla27 ⊢
  refine ow_val (val_move rfl) rfl ?_   -- 24
  refine ow_val (val_extract rfl rfl) rfl ?_   -- 28
  refine ow_val (val_extract rfl rfl) rfl ?_   -- 29
  refine ow_val (val_extract rfl rfl) rfl ?_   -- 30
  refine ow_val (val_assign rfl) rfl ?_   -- 9
  refine ow_val (val_assign rfl) rfl ?_   -- 10
  refine ow_val (val_assign rfl) rfl ?_   -- 11
  refine ow_nil (into ?_)
  refine sw_seq ?_
  refine sw_seq ?_
  refine sw_region ?_
  refine ow_val (val_move rfl) rfl ?_   -- 31
  refine ow_val (val_not rfl) rfl ?_   -- 32
  refine ow_val (val_move rfl) rfl ?_   -- 33
  refine ow_guard_yes rfl rfl rfl ?_
  refine ow_val (val_move rfl) rfl ?_   -- 34
  refine ow_guard_yes rfl rfl rfl ?_
  refine ow_val (val_move rfl) rfl ?_   -- 35
  refine ow_guard_yes rfl rfl rfl ?_
  refine ow_val ((val_geq_u64 rfl rfl).to (congrArg Value.bool (decide_eq_false ((fun h => absurd (UInt64.le_iff_toNat_le.1 h) (by omega)))))) rfl ?_   -- 36
  refine ow_val (val_pick_false rfl rfl) rfl ?_   -- 37
  refine ow_val (val_move rfl) rfl ?_   -- 38
  refine ow_guard_yes rfl rfl rfl ?_
  refine ow_val (val_move rfl) rfl ?_   -- 39
  refine ow_guard_yes rfl rfl rfl ?_
  refine ow_val (val_move rfl) rfl ?_   -- 40
  refine ow_guard_yes rfl rfl rfl ?_
  refine ow_val (val_len rfl Tryd.underlying22) rfl ?_   -- 41
  refine ow_guard_yes rfl rfl rfl ?_
  refine ow_val (val_conv_n_u64 L.length Tryd.underlying3 Tryd.underlying23 rfl rfl) rfl ?_   -- 42
  refine ow_guard_yes rfl rfl rfl ?_
  refine ow_val ((val_gtr_u64 rfl rfl).to (congrArg Value.bool (decide_eq_true ((UInt64.lt_iff_toNat_lt.2 (by rw [of_nat (by omega)]; omega)))))) rfl ?_   -- 43
  refine ow_val (val_pick_false rfl rfl) rfl ?_   -- 44
  refine ow_nil (into ?_)
  refine sw_true rfl rfl ?_
  refine sw_seq ?_
  refine sw_region ?_
  refine ow_val (val_assign rfl) rfl ?_   -- 8
  refine ow_nil (into ?_)
  refine sw_ret (fun w hm => ?_)
  try dsimp only [thenP, blockP, Nat.beq, cond]
  exact ret_one _ rfl rfl ⟨rfl, hm.forgetAll⟩

theorem folds_go (k : Nat) (h1 : 1 ≤ k) (h2 : k ≤ 32) (i n : UInt64) (w : World) (hK : KW w) (a : Option Addr) (c : Nat) (l : List (List UInt8)) (hdl : ∀ d ∈ l, d.length = 32) (hr : Rd w a (l.flatMap fun d => d.map vU8)) (hc : l.length ≤ c) (hb : l.length * 32 ≤ 140737488351232) (L : List (List UInt8)) (hL : cutL k l = L) (hi : i.toNat < n.toNat) (hn : n.toNat ≤ L.length) : Calls Tryd.prog 10 #[vInt (k : Int), .slice a l.length c, vU64 i, vU64 n] w fun e w' => ∃ v, e = .returned v ∧ v = .bool true ∧ Mem w [] [] w' := by
  have hcl := cutL_ok h1 h2 hdl
  rw [hL] at hcl
  have hLd := hcl.1
  have hLf := hcl.2
  have hLn : L.length = l.length := by rw [← hL]; exact cutL_len k l
  have hok : i.toNat < n.toNat ∧ n.toNat ≤ L.length := ⟨hi, hn⟩
  obtain ⟨S, hS⟩ : ∃ S, seg L 0 n.toNat = S := ⟨_, rfl⟩
  have hSd : ∀ d ∈ S, d.length = 32 := by rw [← hS]; exact seg_all hLd
  have hSf : ∀ d ∈ S, fm (k : Int) d = true := by rw [← hS]; exact seg_all hLf
  have hSn : S.length = n.toNat := by rw [← hS]; exact seg_len hn
  have hSr : lg k S = lg k S := rfl
  obtain ⟨P, hP⟩ : ∃ P, incL k (seg L 0 n.toNat) i.toNat = P := ⟨_, rfl⟩
  have hP2 : incL k S i.toNat = P := by rw [← hS]; exact hP
  have hPm := incL_mem h1 h2 _ (Nat.le_refl _) hSd hSf (i := i.toNat) (l := S)
  rw [hP2] at hPm
  have hPd := fun d hd => (hPm d hd).1
  have hPf := fun d hd => (hPm d hd).2
  have hPn : P.length < 4611686018427387904 := by
    rw [← hP2]; have h7 := incL_len (k := k) _ (l := S) (i := i.toNat) (Nat.le_refl _); omega
  refine calls_of_sw (vs := [vInt (k : Int), .slice a l.length c, vU64 i, vU64 n]) Tryd.func10 rfl Tryd.ntmps10 rfl (SW.begin ?_)
  refine sw_seq ?_
  refine sw_region ?_
  refine ow_val (val_assign rfl) rfl ?_   -- 8
  refine ow_nil (into ?_)
  refine sw_seq ?_
  refine sw_seq ?_
  refine sw_region ?_
  refine ow_call_pure (v := .bool true) (callsTo Tryd.func14 rfl (by kernel_rfl) rfl) rfl (fun w hm => awake_any w (hK.mem0 hm)) ?_   -- 22
  refine ow_val (val_not rfl) rfl ?_   -- 23
  refine ow_nil (into ?_)
  refine sw_false rfl rfl ?_
  refine sw_skip (into ?_)
  refine sw_seq ?_
  refine sw_region ?_
  refine ow_val (val_move rfl) rfl ?_   -- 25
  refine ow_val (val_move rfl) rfl ?_   -- 26
  refine ow_call_tail (σ := Nat × Option Addr × Nat × List Ent) (fun q9 => .tuple #[vPtr q9.1, .slice q9.2.1 L.length q9.2.2.1, .bool true]) (fun q9 => q9.2.2.2) (fun q9 => TrOn 110 79 k q9.2.2.2 q9.1 L ∧ RdOn q9.2.2.2 q9.2.1 (List.flatMap (fun d : List UInt8 => List.map vU8 d) L) ∧ L.length ≤ q9.2.2.1 ∧ (0 < L.length → ∃ b o, q9.2.1 = some ⟨b, o, none⟩)) (callsTo Tryd.func15 rfl (by kernel_rfl) rfl) rfl (fun w hm => tree_is k h1 h2 w (hK.mem0 hm) a l.length c l rfl hdl (hr.mem hm) (by omega) (by omega) (by omega) hL) ?_   -- 27
  rintro ⟨b27, a27, c27, es27⟩ ⟨htr27, hrd27, hle27, hla27⟩
  simp only at htr27 hrd27 hle27 hla27 ⊢
  refine ow_val (val_move rfl) rfl ?_   -- 24
  refine ow_val (val_extract rfl rfl) rfl ?_   -- 28
  refine ow_val (val_extract rfl rfl) rfl ?_   -- 29
  refine ow_val (val_extract rfl rfl) rfl ?_   -- 30
  refine ow_val (val_assign rfl) rfl ?_   -- 9
  refine ow_val (val_assign rfl) rfl ?_   -- 10
  refine ow_val (val_assign rfl) rfl ?_   -- 11
  refine ow_nil (into ?_)
  refine sw_seq ?_
  refine sw_seq ?_
  refine sw_region ?_
  refine ow_val (val_move rfl) rfl ?_   -- 31
  refine ow_val (val_not rfl) rfl ?_   -- 32
  refine ow_val (val_move rfl) rfl ?_   -- 33
  refine ow_guard_yes rfl rfl rfl ?_
  refine ow_val (val_move rfl) rfl ?_   -- 34
  refine ow_guard_yes rfl rfl rfl ?_
  refine ow_val (val_move rfl) rfl ?_   -- 35
  refine ow_guard_yes rfl rfl rfl ?_
  refine ow_val ((val_geq_u64 rfl rfl).to (congrArg Value.bool (decide_eq_false ((fun h => absurd (UInt64.le_iff_toNat_le.1 h) (by omega)))))) rfl ?_   -- 36
  refine ow_val (val_pick_false rfl rfl) rfl ?_   -- 37
  refine ow_val (val_move rfl) rfl ?_   -- 38
  refine ow_guard_yes rfl rfl rfl ?_
  refine ow_val (val_move rfl) rfl ?_   -- 39
  refine ow_guard_yes rfl rfl rfl ?_
  refine ow_val (val_move rfl) rfl ?_   -- 40
  refine ow_guard_yes rfl rfl rfl ?_
  refine ow_val (val_len rfl Tryd.underlying22) rfl ?_   -- 41
  refine ow_guard_yes rfl rfl rfl ?_
  refine ow_val (val_conv_n_u64 L.length Tryd.underlying3 Tryd.underlying23 rfl rfl) rfl ?_   -- 42
  refine ow_guard_yes rfl rfl rfl ?_
  refine ow_val ((val_gtr_u64 rfl rfl).to (congrArg Value.bool (decide_eq_false ((fun h => absurd (UInt64.lt_iff_toNat_lt.1 h) (by rw [of_nat (by omega)]; omega)))))) rfl ?_   -- 43
  refine ow_val (val_pick_false rfl rfl) rfl ?_   -- 44
  refine ow_nil (into ?_)
  refine sw_false rfl rfl ?_
  refine sw_skip (into ?_)
  refine sw_seq ?_
  refine sw_seq ?_
  refine sw_region ?_
  refine ow_val (val_move rfl) rfl ?_   -- 45
  refine ow_val (val_eql_nilptr Tryd.underlying25 rfl rfl) rfl ?_   -- 46
  refine ow_nil (into ?_)
  refine sw_false rfl rfl ?_
  refine sw_skip (into ?_)
  refine sw_seq ?_
  refine sw_region ?_
  refine ow_val (val_move rfl) rfl ?_   -- 48
  refine ow_val (val_move rfl) rfl ?_   -- 49
  refine ow_val (val_move rfl) rfl ?_   -- 50
  refine ow_call_row2 (E := 41) (size := 32) (k := P.length) (xs := List.flatMap (fun d : List UInt8 => List.map vU8 d) P) (x := vInt ((0 : Nat) : Int)) (callsTo Tryd.func16 rfl (by kernel_rfl) rfl) rfl (fun w hm => incl_okU k h1 h2 b27 L (by assumption) (by assumption) (by omega) i n w (hK.mem0 hm) (htr27.is (hm.heldSub (List.Sublist.refl _))) hok _ hP) (fun a51 c51 e51 hr51 => ?_)   -- 51
  refine ow_val (val_move rfl) rfl ?_   -- 47
  refine ow_val (val_extract rfl rfl) rfl ?_   -- 52
  refine ow_val (val_extract rfl rfl) rfl ?_   -- 53
  refine ow_val (val_assign rfl) rfl ?_   -- 12
  refine ow_val (val_assign rfl) rfl ?_   -- 13
  refine ow_nil (into ?_)
  refine sw_seq ?_
  refine sw_region ?_
  refine ow_val (val_move rfl) rfl ?_   -- 55
  refine ow_val (val_move rfl) rfl ?_   -- 56
  refine ow_call_pure (v := .tuple #[.agg ((S.getD i.toNat default).map vU8).toArray, vInt ((0 : Nat) : Int)]) (callsTo Tryd.func28 rfl (by kernel_rfl) rfl) rfl (fun w hm => (by have h := tleaf_any k h1 h2 b27 L (by assumption) i w (htr27.is (hm.heldSub (.cons _ (List.Sublist.refl _)))) (by omega); rw [leafU hi hn, hS] at h; exact h)) ?_   -- 57
  refine ow_val (val_move rfl) rfl ?_   -- 54
  refine ow_val (val_extract rfl rfl) rfl ?_   -- 58
  refine ow_val (val_extract rfl rfl) rfl ?_   -- 59
  refine ow_new (acts_alloc zD) rfl (fun b14 hb14 => ?_)   -- 14
  refine ow_do_eq (does_store_all 0 rfl rfl rfl (one_u8s _) Tryd.sizeOf41 (by show (List.map vU8 (S.getD i.toNat default)).length = _; rw [List.length_map]; exact (hSd _ (getD_mem (by omega)))) (by show (List.map vU8 zeros32).length = _; rw [List.length_map]; exact zeros32_len)) ?_
  refine ow_val (val_assign rfl) rfl ?_   -- 15
  refine ow_nil (into ?_)
  refine sw_seq ?_
  refine sw_seq ?_
  refine sw_region ?_
  refine ow_val (val_move rfl) rfl ?_   -- 60
  refine ow_val ((val_neq_int rfl rfl).to (v' := .bool false) (congrArg Value.bool (decide_eq_false (fun h => h (by simp))))) rfl ?_   -- 61
  refine ow_val (val_move rfl) rfl ?_   -- 62
  refine ow_guard_yes rfl rfl rfl ?_
  refine ow_val (val_move rfl) rfl ?_   -- 63
  refine ow_guard_yes rfl rfl rfl ?_
  refine ow_val ((val_neq_int rfl rfl).to (v' := .bool false) (congrArg Value.bool (decide_eq_false (fun h => h (by simp))))) rfl ?_   -- 64
  refine ow_val (val_pick_false rfl rfl) rfl ?_   -- 65
  refine ow_nil (into ?_)
  refine sw_false rfl rfl ?_
  refine sw_skip (into ?_)
  refine sw_seq ?_
  refine sw_region ?_
  refine ow_val (val_move rfl) rfl ?_   -- 66
  refine ow_val (val_move rfl) rfl ?_   -- 67
  refine ow_val (val_assign rfl) rfl ?_   -- 16
  refine ow_val (val_assign rfl) rfl ?_   -- 17
  refine ow_nil (into ?_)
  refine sw_seq ?_
  refine sw_seq ?_
  refine sw_region ?_
  refine ow_val (val_assign rfl) rfl ?_   -- 18
  refine ow_nil (into ?_)
  refine sw_block ?_
  refine sw_loop (σ := UInt64 × UInt64 × Nat × List (List UInt8)) (fun t => t.2.2.2.length = t.2.1.toNat ∧ t.1.toNat < t.2.1.toNat ∧ P.drop t.2.2.1 = incL k t.2.2.2 t.1.toNat ∧ lg k t.2.2.2 = lg k S ∧ (∀ d ∈ t.2.2.2, d.length = 32) ∧ (∀ d ∈ t.2.2.2, fm (k : Int) d = true) ∧ t.2.2.1 ≤ P.length) (fun t => [(18, vInt (t.2.2.1 : Int)), (17, vU64 t.2.1), (16, vU64 t.1), (14, .pointer (some ⟨b14, 0, none⟩)), (12, .slice a51 P.length c51), (9, vPtr b27), (3, vU64 n), (0, vInt (k : Int))]) (fun t => Mem w [] (some (b14, blk ((t.2.2.2.getD t.1.toNat default).map vU8) 41) :: e51 :: es27)) (fun t => t.2.1.toNat) (i, n, 0, S) ⟨hSn, hi, by rw [List.drop_zero]; exact hP2.symm, rfl, hSd, hSf, Nat.zero_le _⟩ ⟨rfl, rfl, rfl, rfl, rfl, rfl, rfl, rfl, trivial⟩ (fun w hm => hm.only (.cons_cons _ (.cons_cons _ (List.Sublist.refl _)))) ?_
  rintro ⟨x, y, q, Lv⟩ ⟨hlv, hxy, hdq, hlr, hLvd, hLvf, hqP⟩
  simp only at hlv hxy hdq hlr hLvd hLvf hqP ⊢
  have hyl := y.toNat_lt
  refine sw_seq ?_
  refine sw_seq ?_
  refine sw_region ?_
  refine ow_val (val_move rfl) rfl ?_   -- 68
  refine ow_val (val_gtr_u64 rfl rfl) rfl ?_   -- 69
  refine ow_nil (into ?_)
  refine sw_if rfl (fun h0 => ?_) (fun h0 => ?_)
  · -- then
    have hy2 : 2 ≤ y.toNat := UInt64.lt_iff_toNat_lt.1 h0
    have hx' : (x / UInt64.ofNat (Int.toNat 2)).toNat = x.toNat / 2 := UInt64.toNat_div _ _
    have hym : (y % UInt64.ofNat (Int.toNat 2)).toNat = y.toNat % 2 := UInt64.toNat_mod _ _
    have hyd : (y / UInt64.ofNat (Int.toNat 2)).toNat = y.toNat / 2 := UInt64.toNat_div _ _
    have hy' : (y / UInt64.ofNat (Int.toNat 2) + y % UInt64.ofNat (Int.toNat 2)).toNat = (y.toNat + 1) / 2 := by rw [UInt64.toNat_add, hyd, hym, Nat.mod_eq_of_lt (by omega)]; omega
    have hxm : (x % UInt64.ofNat (Int.toNat 2)).toNat = x.toNat % 2 := UInt64.toNat_mod _ _
    have hx1 : (x + UInt64.ofNat (Int.toNat 1)).toNat = x.toNat + 1 := by rw [UInt64.toNat_add]; show (x.toNat + 1) % 2 ^ 64 = _; omega
    have hup := incL_up k _ (Nat.le_refl _) (l := Lv) (i := x.toNat) (by omega) (by omega)
    have huA := upL_all h1 h2 Lv hLvd hLvf
    have hLne : Lv ≠ [] := fun h => by rw [h] at hlv; simp at hlv; omega
    refine sw_skip (into ?_)
    refine sw_seq ?_
    refine sw_block ?_
    refine sw_seq ?_
    refine sw_seq ?_
    rcases (show (x.toNat % 2 = 0 ∧ y.toNat ≤ x.toNat + 1) ∨ (x.toNat % 2 = 0 ∧ ¬ y.toNat ≤ x.toNat + 1) ∨ x.toNat % 2 = 1 by omega) with ⟨hp1, hp2⟩ | ⟨hp1, hp2⟩ | hp1
    · -- case
      rw [fst', if_neg (by unfold bro; omega), List.nil_append] at hup
      have hup2 := hdq.trans hup
      have hgd : (upL k Lv).getD (x.toNat / 2) default = (Lv.getD x.toNat default) := (upL_last k Lv (x.toNat / 2) (by omega)).trans (by rw [show 2 * (x.toNat / 2) = x.toNat by omega])
      refine sw_region ?_
      refine ow_val (val_move rfl) rfl ?_   -- 77
      refine ow_val (val_rem_u64 rfl rfl (by decide)) rfl ?_   -- 78
      refine ow_val ((val_eql_u64 rfl rfl).to (congrArg Value.bool (decide_eq_true ((UInt64.toNat.inj (hxm.trans (hp1.trans (show 0 = (UInt64.ofNat (Int.toNat 0)).toNat from rfl)))))))) rfl ?_   -- 79
      refine ow_val (val_move rfl) rfl ?_   -- 80
      refine ow_guard_yes rfl rfl rfl ?_
      refine ow_val (val_move rfl) rfl ?_   -- 81
      refine ow_guard_yes rfl rfl rfl ?_
      refine ow_val (val_add_u64 rfl rfl) rfl ?_   -- 82
      refine ow_guard_yes rfl rfl rfl ?_
      refine ow_val (val_move rfl) rfl ?_   -- 83
      refine ow_guard_yes rfl rfl rfl ?_
      refine ow_val ((val_geq_u64 rfl rfl).to (congrArg Value.bool (decide_eq_true ((UInt64.le_iff_toNat_le.2 (by rw [hx1]; exact hp2)))))) rfl ?_   -- 84
      refine ow_val (val_pick_true rfl rfl) rfl ?_   -- 85
      refine ow_nil (into ?_)
      refine sw_true rfl rfl ?_
      refine sw_exit (into ?_)
      refine sw_region ?_
      refine ow_val (val_move rfl) rfl ?_   -- 70
      refine ow_val (val_quo_u64 rfl rfl (by decide)) rfl ?_   -- 71
      refine ow_val (val_move rfl) rfl ?_   -- 72
      refine ow_val (val_quo_u64 rfl rfl (by decide)) rfl ?_   -- 73
      refine ow_val (val_move rfl) rfl ?_   -- 74
      refine ow_val (val_rem_u64 rfl rfl (by decide)) rfl ?_   -- 75
      refine ow_val (val_add_u64 rfl rfl) rfl ?_   -- 76
      refine ow_val (val_assign rfl) rfl ?_   -- 16
      refine ow_val (val_assign rfl) rfl ?_   -- 17
      exact ow_nil (fun w hm => ⟨(x / UInt64.ofNat (Int.toNat 2), y / UInt64.ofNat (Int.toNat 2) + y % UInt64.ofNat (Int.toNat 2), q, upL k Lv), ⟨by dsimp only; rw [hy', upL_len]; omega, by dsimp only; rw [hx', hy']; omega, by dsimp only; rw [hx']; exact hup2, by dsimp only; rw [lg_up k _ (Nat.le_refl _) hLne]; exact hlr, huA.1, huA.2, by dsimp only; omega⟩, by dsimp only; rw [hy']; omega, ⟨rfl, rfl, rfl, rfl, rfl, rfl, rfl, rfl, trivial⟩, by dsimp only; rw [hx', hgd]; exact hm.only (.cons_cons _ (.cons_cons _ (List.Sublist.refl _)))⟩)
    · -- case
      rw [fst', if_pos (by unfold bro; omega), show bro x.toNat = x.toNat + 1 by unfold bro; omega, List.singleton_append] at hup
      obtain ⟨hq1, hq2, hq3⟩ := drop_cons (hdq.trans hup)
      obtain ⟨bP, oP, rfl⟩ := rowAddr32 hr51 (by omega)
      have hgd : (upL k Lv).getD (x.toNat / 2) default = nd k (Lv.getD x.toNat default) (P.getD q default) := (upL_two k Lv (x.toNat / 2) (by omega)).trans (by rw [hq2, show 2 * (x.toNat / 2) + 1 = x.toNat + 1 by omega, show 2 * (x.toNat / 2) = x.toNat by omega])
      refine sw_region ?_
      refine ow_val (val_move rfl) rfl ?_   -- 77
      refine ow_val (val_rem_u64 rfl rfl (by decide)) rfl ?_   -- 78
      refine ow_val ((val_eql_u64 rfl rfl).to (congrArg Value.bool (decide_eq_true ((UInt64.toNat.inj (hxm.trans (hp1.trans (show 0 = (UInt64.ofNat (Int.toNat 0)).toNat from rfl)))))))) rfl ?_   -- 79
      refine ow_val (val_move rfl) rfl ?_   -- 80
      refine ow_guard_yes rfl rfl rfl ?_
      refine ow_val (val_move rfl) rfl ?_   -- 81
      refine ow_guard_yes rfl rfl rfl ?_
      refine ow_val (val_add_u64 rfl rfl) rfl ?_   -- 82
      refine ow_guard_yes rfl rfl rfl ?_
      refine ow_val (val_move rfl) rfl ?_   -- 83
      refine ow_guard_yes rfl rfl rfl ?_
      refine ow_val ((val_geq_u64 rfl rfl).to (congrArg Value.bool (decide_eq_false ((fun h => hp2 (by rw [← hx1]; exact UInt64.le_iff_toNat_le.1 h)))))) rfl ?_   -- 84
      refine ow_val (val_pick_true rfl rfl) rfl ?_   -- 85
      refine ow_nil (into ?_)
      refine sw_false rfl rfl ?_
      refine sw_skip (into ?_)
      refine sw_seq ?_
      refine sw_seq ?_
      refine sw_region ?_
      refine ow_val (val_move rfl) rfl ?_   -- 86
      refine ow_val (val_move rfl) rfl ?_   -- 87
      refine ow_val (val_len rfl Tryd.underlying22) rfl ?_   -- 88
      refine ow_val ((val_geq_int rfl rfl).to (congrArg Value.bool (decide_eq_false ((by omega))))) rfl ?_   -- 89
      refine ow_nil (into ?_)
      refine sw_false rfl rfl ?_
      refine sw_skip (into ?_)
      refine sw_seq ?_
      refine sw_region_tree (Mem w [] [some (b14, blk (((Lv.getD x.toNat default)).map vU8) 41), e51]) [] (.one 1 0 (.one 2 0 (.one 3 0 (.one 0 1 (.one 4 1 (.alt 5 (.one 6 2 (.one 7 2 (.one 8 2 .done))) (.alt 6 (.one 5 2 (.one 7 2 (.one 8 2 .done))) .stop))))))) (by kernel_rfl) (by kernel_rfl) (fun _ _ _ h => h) (fun _ h => h.only (.cons_cons _ (.cons_cons _ (List.nil_sublist _)))) (fun _ h => h.drawn _) ?_
      refine lt_pure rfl trivial (val_move rfl) rfl ?_   -- 91
      refine lt_pure rfl trivial (val_move rfl) rfl ?_   -- 92
      refine lt_pure rfl trivial (val_indexAddr_slice (q) (oP + q * 32) rfl rfl Tryd.underlying22 Tryd.sizeOf41 (by omega) (by omega) (by omega)) rfl ?_   -- 93
      refine lt_held rfl trivial (val_load_all 0 rfl rfl Tryd.isAgg41 Tryd.sizeOf41 (by show (List.map vU8 (Lv.getD x.toNat default)).length = _; rw [List.length_map]; exact (hLvd _ (getD_mem (by omega))))) rfl ?_   -- 90
      refine lt_held rfl trivial (val_load_elem (cells := fun d => d.map vU8) (l := P) (o := oP) (i := q) rfl Tryd.isAgg41 Tryd.sizeOf41 (fun x hx => by rw [List.length_map]; exact hPd x hx) (by omega) (by omega) (fun w' hm => hr51.rdAt hm (i := 1) rfl)) rfl ?_   -- 94
      refine lt_alt ?_ ?_
      · -- first 5
        refine lt_make (fun b => .pointer (some ⟨b, 0, none⟩)) rfl trivial (acts_alloc zD) rfl (fun _ _ _ h => h.only (.cons _ (.cons_cons _ (.cons_cons _ (List.nil_sublist _))))) (fun b19 hb19 => ?_)   -- 19
        refine lt_make (fun b => .pointer (some ⟨b, 0, none⟩)) rfl trivial (acts_alloc zD) rfl (fun _ _ _ h => h.only (.cons _ (.cons _ (.cons_cons _ (.cons_cons _ (List.nil_sublist _)))))) (fun b20 hb20 => ?_)   -- 20
        refine lt_do rfl trivial (does_store_all 1 rfl rfl rfl (one_u8s _) Tryd.sizeOf41 (by show (List.map vU8 (Lv.getD x.toNat default)).length = _; rw [List.length_map]; exact (hLvd _ (getD_mem (by omega)))) (by show (List.map vU8 zeros32).length = _; rw [List.length_map]; exact zeros32_len)) (fun _ _ _ _ h => h.only (.cons _ (.cons _ (.cons_cons _ (.cons_cons _ (List.nil_sublist _)))))) (fun _ _ => ?_)
        refine lt_do rfl trivial (does_store_all 0 rfl rfl rfl (one_u8s _) Tryd.sizeOf41 (by show (List.map vU8 (P.getD q default)).length = _; rw [List.length_map]; exact (hPd _ (getD_mem (by omega)))) (by show (List.map vU8 zeros32).length = _; rw [List.length_map]; exact zeros32_len)) (fun _ _ _ _ h => h.only (.cons _ (.cons _ (.cons_cons _ (.cons_cons _ (List.nil_sublist _)))))) (fun _ _ => ?_)
        refine lt_done (into ?_)
        refine sw_seq ?_
        refine sw_seq ?_
        refine sw_region ?_
        refine ow_val (val_move rfl) rfl ?_   -- 95
        refine ow_val (val_rem_u64 rfl rfl (by decide)) rfl ?_   -- 96
        refine ow_val ((val_eql_u64 rfl rfl).to (congrArg Value.bool (decide_eq_false ((fun h => absurd (hxm.symm.trans (congrArg UInt64.toNat h)) (by rw [hp1]; decide)))))) rfl ?_   -- 97
        refine ow_nil (into ?_)
        refine sw_false rfl rfl ?_
        refine sw_skip (into ?_)
        refine sw_seq ?_
        refine sw_region ?_
        refine ow_val (val_move rfl) rfl ?_   -- 104
        refine ow_val (val_load_all 1 rfl rfl Tryd.isAgg41 Tryd.sizeOf41 (by show (List.map vU8 (Lv.getD x.toNat default)).length = _; rw [List.length_map]; exact (hLvd _ (getD_mem (by omega))))) rfl ?_   -- 105
        refine ow_val (val_load_all 0 rfl rfl Tryd.isAgg41 Tryd.sizeOf41 (by show (List.map vU8 (P.getD q default)).length = _; rw [List.length_map]; exact (hPd _ (getD_mem (by omega))))) rfl ?_   -- 106
        refine ow_call_pure (v := .tuple #[.agg ((nd k (Lv.getD x.toNat default) (P.getD q default)).map vU8).toArray, vInt ((0 : Nat) : Int)]) (callsTo Tryd.func29 rfl (by kernel_rfl) rfl) rfl (fun w hm => (by have h := node_any w (hK.mem0 hm) (k : Int) (Lv.getD x.toNat default) (P.getD q default) (hLvd _ (getD_mem (by omega))) (hPd _ (getD_mem (by omega))); rw [digO_node h1 h2 (hLvf _ (getD_mem (by omega))) (hPf _ (getD_mem (by omega)))] at h; exact h)) ?_   -- 107
        refine ow_val (val_move rfl) rfl ?_   -- 103
        refine ow_val (val_extract rfl rfl) rfl ?_   -- 108
        refine ow_val (val_extract rfl rfl) rfl ?_   -- 109
        refine ow_do_eq (does_store_all 2 rfl rfl rfl (one_u8s _) Tryd.sizeOf41 (by show (List.map vU8 (nd k (Lv.getD x.toNat default) (P.getD q default))).length = _; rw [List.length_map]; exact (nd_len _ _ _ h2)) (by show (List.map vU8 (Lv.getD x.toNat default)).length = _; rw [List.length_map]; exact (hLvd _ (getD_mem (by omega))))) ?_
        refine ow_val (val_assign rfl) rfl ?_   -- 13
        refine ow_nil (into ?_)
        refine sw_seq ?_
        refine sw_seq ?_
        refine sw_region ?_
        refine ow_val (val_move rfl) rfl ?_   -- 110
        refine ow_val ((val_neq_int rfl rfl).to (v' := .bool false) (congrArg Value.bool (decide_eq_false (fun h => h (by simp))))) rfl ?_   -- 111
        refine ow_nil (into ?_)
        refine sw_false rfl rfl ?_
        refine sw_skip (into ?_)
        refine sw_seq ?_
        refine sw_region ?_
        refine ow_val (val_move rfl) rfl ?_   -- 112
        refine ow_val (val_add_int ((q + 1 : Nat) : Int) rfl rfl (by omega) (by omega)) rfl ?_   -- 113
        refine ow_val (val_assign rfl) rfl ?_   -- 18
        refine ow_nil (into ?_)
        refine sw_seq ?_
        refine sw_region ?_
        refine ow_val (val_move rfl) rfl ?_   -- 114
        by_cases hy3 : y.toNat ≤ 2
        · -- yes
          have hqe : q + 1 = P.length := by
            rw [incL_one (by rw [upL_len]; omega)] at hq3; have h7 := List.drop_eq_nil_iff.1 hq3; omega
          refine ow_val ((val_leq_u64 rfl rfl).to (congrArg Value.bool (decide_eq_true ((UInt64.le_iff_toNat_le.2 hy3))))) rfl ?_   -- 115
          refine ow_val (val_move rfl) rfl ?_   -- 116
          refine ow_guard_yes rfl rfl rfl ?_
          refine ow_val (val_move rfl) rfl ?_   -- 117
          refine ow_guard_yes rfl rfl rfl ?_
          refine ow_val (val_move rfl) rfl ?_   -- 118
          refine ow_guard_yes rfl rfl rfl ?_
          refine ow_val (val_len rfl Tryd.underlying22) rfl ?_   -- 119
          refine ow_guard_yes rfl rfl rfl ?_
          refine ow_val ((val_neq_int rfl rfl).to (congrArg Value.bool (decide_eq_false ((fun h => h (by omega)))))) rfl ?_   -- 120
          refine ow_val (val_pick_true rfl rfl) rfl ?_   -- 121
          refine ow_nil (into ?_)
          refine sw_false rfl rfl ?_
          refine sw_skip (into ?_)
          refine sw_region ?_
          refine ow_val (val_move rfl) rfl ?_   -- 70
          refine ow_val (val_quo_u64 rfl rfl (by decide)) rfl ?_   -- 71
          refine ow_val (val_move rfl) rfl ?_   -- 72
          refine ow_val (val_quo_u64 rfl rfl (by decide)) rfl ?_   -- 73
          refine ow_val (val_move rfl) rfl ?_   -- 74
          refine ow_val (val_rem_u64 rfl rfl (by decide)) rfl ?_   -- 75
          refine ow_val (val_add_u64 rfl rfl) rfl ?_   -- 76
          refine ow_val (val_assign rfl) rfl ?_   -- 16
          refine ow_val (val_assign rfl) rfl ?_   -- 17
          exact ow_nil (fun w hm => ⟨(x / UInt64.ofNat (Int.toNat 2), y / UInt64.ofNat (Int.toNat 2) + y % UInt64.ofNat (Int.toNat 2), q + 1, upL k Lv), ⟨by dsimp only; rw [hy', upL_len]; omega, by dsimp only; rw [hx', hy']; omega, by dsimp only; rw [hx']; exact hq3, by dsimp only; rw [lg_up k _ (Nat.le_refl _) hLne]; exact hlr, huA.1, huA.2, by dsimp only; omega⟩, by dsimp only; rw [hy']; omega, ⟨rfl, rfl, rfl, rfl, rfl, rfl, rfl, rfl, trivial⟩, by dsimp only; rw [hx', hgd]; exact hm.only (.cons _ (.cons _ (.cons_cons _ (.cons_cons _ (List.Sublist.refl _)))))⟩)
        · -- no
          refine ow_val ((val_leq_u64 rfl rfl).to (congrArg Value.bool (decide_eq_false ((fun h => hy3 (UInt64.le_iff_toNat_le.1 h)))))) rfl ?_   -- 115
          refine ow_val (val_move rfl) rfl ?_   -- 116
          first | refine ow_guard_no rfl rfl rfl rfl rfl ?_ | refine ow_guard_none rfl rfl rfl rfl rfl ?_
          first | refine ow_guard_no rfl rfl rfl rfl rfl ?_ | refine ow_guard_none rfl rfl rfl rfl rfl ?_
          first | refine ow_guard_no rfl rfl rfl rfl rfl ?_ | refine ow_guard_none rfl rfl rfl rfl rfl ?_
          first | refine ow_guard_no rfl rfl rfl rfl rfl ?_ | refine ow_guard_none rfl rfl rfl rfl rfl ?_
          refine ow_val (val_pick_false rfl rfl) rfl ?_   -- 121
          refine ow_nil (into ?_)
          refine sw_false rfl rfl ?_
          refine sw_skip (into ?_)
          refine sw_region ?_
          refine ow_val (val_move rfl) rfl ?_   -- 70
          refine ow_val (val_quo_u64 rfl rfl (by decide)) rfl ?_   -- 71
          refine ow_val (val_move rfl) rfl ?_   -- 72
          refine ow_val (val_quo_u64 rfl rfl (by decide)) rfl ?_   -- 73
          refine ow_val (val_move rfl) rfl ?_   -- 74
          refine ow_val (val_rem_u64 rfl rfl (by decide)) rfl ?_   -- 75
          refine ow_val (val_add_u64 rfl rfl) rfl ?_   -- 76
          refine ow_val (val_assign rfl) rfl ?_   -- 16
          refine ow_val (val_assign rfl) rfl ?_   -- 17
          exact ow_nil (fun w hm => ⟨(x / UInt64.ofNat (Int.toNat 2), y / UInt64.ofNat (Int.toNat 2) + y % UInt64.ofNat (Int.toNat 2), q + 1, upL k Lv), ⟨by dsimp only; rw [hy', upL_len]; omega, by dsimp only; rw [hx', hy']; omega, by dsimp only; rw [hx']; exact hq3, by dsimp only; rw [lg_up k _ (Nat.le_refl _) hLne]; exact hlr, huA.1, huA.2, by dsimp only; omega⟩, by dsimp only; rw [hy']; omega, ⟨rfl, rfl, rfl, rfl, rfl, rfl, rfl, rfl, trivial⟩, by dsimp only; rw [hx', hgd]; exact hm.only (.cons _ (.cons _ (.cons_cons _ (.cons_cons _ (List.Sublist.refl _)))))⟩)
      refine lt_alt ?_ ?_
      · -- first 6
        refine lt_make (fun b => .pointer (some ⟨b, 0, none⟩)) rfl trivial (acts_alloc zD) rfl (fun _ _ _ h => h.only (.cons _ (.cons_cons _ (.cons_cons _ (List.nil_sublist _))))) (fun b20 hb20 => ?_)   -- 20
        refine lt_make (fun b => .pointer (some ⟨b, 0, none⟩)) rfl trivial (acts_alloc zD) rfl (fun _ _ _ h => h.only (.cons _ (.cons _ (.cons_cons _ (.cons_cons _ (List.nil_sublist _)))))) (fun b19 hb19 => ?_)   -- 19
        refine lt_do rfl trivial (does_store_all 0 rfl rfl rfl (one_u8s _) Tryd.sizeOf41 (by show (List.map vU8 (Lv.getD x.toNat default)).length = _; rw [List.length_map]; exact (hLvd _ (getD_mem (by omega)))) (by show (List.map vU8 zeros32).length = _; rw [List.length_map]; exact zeros32_len)) (fun _ _ _ _ h => h.only (.cons _ (.cons _ (.cons_cons _ (.cons_cons _ (List.nil_sublist _)))))) (fun _ _ => ?_)
        refine lt_do rfl trivial (does_store_all 1 rfl rfl rfl (one_u8s _) Tryd.sizeOf41 (by show (List.map vU8 (P.getD q default)).length = _; rw [List.length_map]; exact (hPd _ (getD_mem (by omega)))) (by show (List.map vU8 zeros32).length = _; rw [List.length_map]; exact zeros32_len)) (fun _ _ _ _ h => h.only (.cons _ (.cons _ (.cons_cons _ (.cons_cons _ (List.nil_sublist _)))))) (fun _ _ => ?_)
        refine lt_done (into ?_)
        refine sw_seq ?_
        refine sw_seq ?_
        refine sw_region ?_
        refine ow_val (val_move rfl) rfl ?_   -- 95
        refine ow_val (val_rem_u64 rfl rfl (by decide)) rfl ?_   -- 96
        refine ow_val ((val_eql_u64 rfl rfl).to (congrArg Value.bool (decide_eq_false ((fun h => absurd (hxm.symm.trans (congrArg UInt64.toNat h)) (by rw [hp1]; decide)))))) rfl ?_   -- 97
        refine ow_nil (into ?_)
        refine sw_false rfl rfl ?_
        refine sw_skip (into ?_)
        refine sw_seq ?_
        refine sw_region ?_
        refine ow_val (val_move rfl) rfl ?_   -- 104
        refine ow_val (val_load_all 0 rfl rfl Tryd.isAgg41 Tryd.sizeOf41 (by show (List.map vU8 (Lv.getD x.toNat default)).length = _; rw [List.length_map]; exact (hLvd _ (getD_mem (by omega))))) rfl ?_   -- 105
        refine ow_val (val_load_all 1 rfl rfl Tryd.isAgg41 Tryd.sizeOf41 (by show (List.map vU8 (P.getD q default)).length = _; rw [List.length_map]; exact (hPd _ (getD_mem (by omega))))) rfl ?_   -- 106
        refine ow_call_pure (v := .tuple #[.agg ((nd k (Lv.getD x.toNat default) (P.getD q default)).map vU8).toArray, vInt ((0 : Nat) : Int)]) (callsTo Tryd.func29 rfl (by kernel_rfl) rfl) rfl (fun w hm => (by have h := node_any w (hK.mem0 hm) (k : Int) (Lv.getD x.toNat default) (P.getD q default) (hLvd _ (getD_mem (by omega))) (hPd _ (getD_mem (by omega))); rw [digO_node h1 h2 (hLvf _ (getD_mem (by omega))) (hPf _ (getD_mem (by omega)))] at h; exact h)) ?_   -- 107
        refine ow_val (val_move rfl) rfl ?_   -- 103
        refine ow_val (val_extract rfl rfl) rfl ?_   -- 108
        refine ow_val (val_extract rfl rfl) rfl ?_   -- 109
        refine ow_do_eq (does_store_all 2 rfl rfl rfl (one_u8s _) Tryd.sizeOf41 (by show (List.map vU8 (nd k (Lv.getD x.toNat default) (P.getD q default))).length = _; rw [List.length_map]; exact (nd_len _ _ _ h2)) (by show (List.map vU8 (Lv.getD x.toNat default)).length = _; rw [List.length_map]; exact (hLvd _ (getD_mem (by omega))))) ?_
        refine ow_val (val_assign rfl) rfl ?_   -- 13
        refine ow_nil (into ?_)
        refine sw_seq ?_
        refine sw_seq ?_
        refine sw_region ?_
        refine ow_val (val_move rfl) rfl ?_   -- 110
        refine ow_val ((val_neq_int rfl rfl).to (v' := .bool false) (congrArg Value.bool (decide_eq_false (fun h => h (by simp))))) rfl ?_   -- 111
        refine ow_nil (into ?_)
        refine sw_false rfl rfl ?_
        refine sw_skip (into ?_)
        refine sw_seq ?_
        refine sw_region ?_
        refine ow_val (val_move rfl) rfl ?_   -- 112
        refine ow_val (val_add_int ((q + 1 : Nat) : Int) rfl rfl (by omega) (by omega)) rfl ?_   -- 113
        refine ow_val (val_assign rfl) rfl ?_   -- 18
        refine ow_nil (into ?_)
        refine sw_seq ?_
        refine sw_region ?_
        refine ow_val (val_move rfl) rfl ?_   -- 114
        by_cases hy3 : y.toNat ≤ 2
        · -- yes
          have hqe : q + 1 = P.length := by
            rw [incL_one (by rw [upL_len]; omega)] at hq3; have h7 := List.drop_eq_nil_iff.1 hq3; omega
          refine ow_val ((val_leq_u64 rfl rfl).to (congrArg Value.bool (decide_eq_true ((UInt64.le_iff_toNat_le.2 hy3))))) rfl ?_   -- 115
          refine ow_val (val_move rfl) rfl ?_   -- 116
          refine ow_guard_yes rfl rfl rfl ?_
          refine ow_val (val_move rfl) rfl ?_   -- 117
          refine ow_guard_yes rfl rfl rfl ?_
          refine ow_val (val_move rfl) rfl ?_   -- 118
          refine ow_guard_yes rfl rfl rfl ?_
          refine ow_val (val_len rfl Tryd.underlying22) rfl ?_   -- 119
          refine ow_guard_yes rfl rfl rfl ?_
          refine ow_val ((val_neq_int rfl rfl).to (congrArg Value.bool (decide_eq_false ((fun h => h (by omega)))))) rfl ?_   -- 120
          refine ow_val (val_pick_true rfl rfl) rfl ?_   -- 121
          refine ow_nil (into ?_)
          refine sw_false rfl rfl ?_
          refine sw_skip (into ?_)
          refine sw_region ?_
          refine ow_val (val_move rfl) rfl ?_   -- 70
          refine ow_val (val_quo_u64 rfl rfl (by decide)) rfl ?_   -- 71
          refine ow_val (val_move rfl) rfl ?_   -- 72
          refine ow_val (val_quo_u64 rfl rfl (by decide)) rfl ?_   -- 73
          refine ow_val (val_move rfl) rfl ?_   -- 74
          refine ow_val (val_rem_u64 rfl rfl (by decide)) rfl ?_   -- 75
          refine ow_val (val_add_u64 rfl rfl) rfl ?_   -- 76
          refine ow_val (val_assign rfl) rfl ?_   -- 16
          refine ow_val (val_assign rfl) rfl ?_   -- 17
          exact ow_nil (fun w hm => ⟨(x / UInt64.ofNat (Int.toNat 2), y / UInt64.ofNat (Int.toNat 2) + y % UInt64.ofNat (Int.toNat 2), q + 1, upL k Lv), ⟨by dsimp only; rw [hy', upL_len]; omega, by dsimp only; rw [hx', hy']; omega, by dsimp only; rw [hx']; exact hq3, by dsimp only; rw [lg_up k _ (Nat.le_refl _) hLne]; exact hlr, huA.1, huA.2, by dsimp only; omega⟩, by dsimp only; rw [hy']; omega, ⟨rfl, rfl, rfl, rfl, rfl, rfl, rfl, rfl, trivial⟩, by dsimp only; rw [hx', hgd]; exact hm.only (.cons _ (.cons _ (.cons_cons _ (.cons_cons _ (List.Sublist.refl _)))))⟩)
        · -- no
          refine ow_val ((val_leq_u64 rfl rfl).to (congrArg Value.bool (decide_eq_false ((fun h => hy3 (UInt64.le_iff_toNat_le.1 h)))))) rfl ?_   -- 115
          refine ow_val (val_move rfl) rfl ?_   -- 116
          first | refine ow_guard_no rfl rfl rfl rfl rfl ?_ | refine ow_guard_none rfl rfl rfl rfl rfl ?_
          first | refine ow_guard_no rfl rfl rfl rfl rfl ?_ | refine ow_guard_none rfl rfl rfl rfl rfl ?_
          first | refine ow_guard_no rfl rfl rfl rfl rfl ?_ | refine ow_guard_none rfl rfl rfl rfl rfl ?_
          first | refine ow_guard_no rfl rfl rfl rfl rfl ?_ | refine ow_guard_none rfl rfl rfl rfl rfl ?_
          refine ow_val (val_pick_false rfl rfl) rfl ?_   -- 121
          refine ow_nil (into ?_)
          refine sw_false rfl rfl ?_
          refine sw_skip (into ?_)
          refine sw_region ?_
          refine ow_val (val_move rfl) rfl ?_   -- 70
          refine ow_val (val_quo_u64 rfl rfl (by decide)) rfl ?_   -- 71
          refine ow_val (val_move rfl) rfl ?_   -- 72
          refine ow_val (val_quo_u64 rfl rfl (by decide)) rfl ?_   -- 73
          refine ow_val (val_move rfl) rfl ?_   -- 74
          refine ow_val (val_rem_u64 rfl rfl (by decide)) rfl ?_   -- 75
          refine ow_val (val_add_u64 rfl rfl) rfl ?_   -- 76
          refine ow_val (val_assign rfl) rfl ?_   -- 16
          refine ow_val (val_assign rfl) rfl ?_   -- 17
          exact ow_nil (fun w hm => ⟨(x / UInt64.ofNat (Int.toNat 2), y / UInt64.ofNat (Int.toNat 2) + y % UInt64.ofNat (Int.toNat 2), q + 1, upL k Lv), ⟨by dsimp only; rw [hy', upL_len]; omega, by dsimp only; rw [hx', hy']; omega, by dsimp only; rw [hx']; exact hq3, by dsimp only; rw [lg_up k _ (Nat.le_refl _) hLne]; exact hlr, huA.1, huA.2, by dsimp only; omega⟩, by dsimp only; rw [hy']; omega, ⟨rfl, rfl, rfl, rfl, rfl, rfl, rfl, rfl, trivial⟩, by dsimp only; rw [hx', hgd]; exact hm.only (.cons _ (.cons _ (.cons_cons _ (.cons_cons _ (List.Sublist.refl _)))))⟩)
      exact lt_stop
    · -- case
      rw [fst', if_pos (by unfold bro; omega), show bro x.toNat = x.toNat - 1 by unfold bro; omega, List.singleton_append] at hup
      obtain ⟨hq1, hq2, hq3⟩ := drop_cons (hdq.trans hup)
      obtain ⟨bP, oP, rfl⟩ := rowAddr32 hr51 (by omega)
      have hgd : (upL k Lv).getD (x.toNat / 2) default = nd k (P.getD q default) (Lv.getD x.toNat default) := (upL_two k Lv (x.toNat / 2) (by omega)).trans (by rw [hq2, show 2 * (x.toNat / 2) + 1 = x.toNat by omega, show 2 * (x.toNat / 2) = x.toNat - 1 by omega])
      refine sw_region ?_
      refine ow_val (val_move rfl) rfl ?_   -- 77
      refine ow_val (val_rem_u64 rfl rfl (by decide)) rfl ?_   -- 78
      refine ow_val ((val_eql_u64 rfl rfl).to (congrArg Value.bool (decide_eq_false ((fun h => absurd (hxm.symm.trans (congrArg UInt64.toNat h)) (by rw [hp1]; decide)))))) rfl ?_   -- 79
      refine ow_val (val_move rfl) rfl ?_   -- 80
      first | refine ow_guard_no rfl rfl rfl rfl rfl ?_ | refine ow_guard_none rfl rfl rfl rfl rfl ?_
      first | refine ow_guard_no rfl rfl rfl rfl rfl ?_ | refine ow_guard_none rfl rfl rfl rfl rfl ?_
      first | refine ow_guard_no rfl rfl rfl rfl rfl ?_ | refine ow_guard_none rfl rfl rfl rfl rfl ?_
      first | refine ow_guard_no rfl rfl rfl rfl rfl ?_ | refine ow_guard_none rfl rfl rfl rfl rfl ?_
      refine ow_val (val_pick_false rfl rfl) rfl ?_   -- 85
      refine ow_nil (into ?_)
      refine sw_false rfl rfl ?_
      refine sw_skip (into ?_)
      refine sw_seq ?_
      refine sw_seq ?_
      refine sw_region ?_
      refine ow_val (val_move rfl) rfl ?_   -- 86
      refine ow_val (val_move rfl) rfl ?_   -- 87
      refine ow_val (val_len rfl Tryd.underlying22) rfl ?_   -- 88
      refine ow_val ((val_geq_int rfl rfl).to (congrArg Value.bool (decide_eq_false ((by omega))))) rfl ?_   -- 89
      refine ow_nil (into ?_)
      refine sw_false rfl rfl ?_
      refine sw_skip (into ?_)
      refine sw_seq ?_
      refine sw_region_tree (Mem w [] [some (b14, blk (((Lv.getD x.toNat default)).map vU8) 41), e51]) [] (.one 1 0 (.one 2 0 (.one 3 0 (.one 0 1 (.one 4 1 (.alt 5 (.one 6 2 (.one 7 2 (.one 8 2 .done))) (.alt 6 (.one 5 2 (.one 7 2 (.one 8 2 .done))) .stop))))))) (by kernel_rfl) (by kernel_rfl) (fun _ _ _ h => h) (fun _ h => h.only (.cons_cons _ (.cons_cons _ (List.nil_sublist _)))) (fun _ h => h.drawn _) ?_
      refine lt_pure rfl trivial (val_move rfl) rfl ?_   -- 91
      refine lt_pure rfl trivial (val_move rfl) rfl ?_   -- 92
      refine lt_pure rfl trivial (val_indexAddr_slice (q) (oP + q * 32) rfl rfl Tryd.underlying22 Tryd.sizeOf41 (by omega) (by omega) (by omega)) rfl ?_   -- 93
      refine lt_held rfl trivial (val_load_all 0 rfl rfl Tryd.isAgg41 Tryd.sizeOf41 (by show (List.map vU8 (Lv.getD x.toNat default)).length = _; rw [List.length_map]; exact (hLvd _ (getD_mem (by omega))))) rfl ?_   -- 90
      refine lt_held rfl trivial (val_load_elem (cells := fun d => d.map vU8) (l := P) (o := oP) (i := q) rfl Tryd.isAgg41 Tryd.sizeOf41 (fun x hx => by rw [List.length_map]; exact hPd x hx) (by omega) (by omega) (fun w' hm => hr51.rdAt hm (i := 1) rfl)) rfl ?_   -- 94
      refine lt_alt ?_ ?_
      · -- first 5
        refine lt_make (fun b => .pointer (some ⟨b, 0, none⟩)) rfl trivial (acts_alloc zD) rfl (fun _ _ _ h => h.only (.cons _ (.cons_cons _ (.cons_cons _ (List.nil_sublist _))))) (fun b19 hb19 => ?_)   -- 19
        refine lt_make (fun b => .pointer (some ⟨b, 0, none⟩)) rfl trivial (acts_alloc zD) rfl (fun _ _ _ h => h.only (.cons _ (.cons _ (.cons_cons _ (.cons_cons _ (List.nil_sublist _)))))) (fun b20 hb20 => ?_)   -- 20
        refine lt_do rfl trivial (does_store_all 1 rfl rfl rfl (one_u8s _) Tryd.sizeOf41 (by show (List.map vU8 (Lv.getD x.toNat default)).length = _; rw [List.length_map]; exact (hLvd _ (getD_mem (by omega)))) (by show (List.map vU8 zeros32).length = _; rw [List.length_map]; exact zeros32_len)) (fun _ _ _ _ h => h.only (.cons _ (.cons _ (.cons_cons _ (.cons_cons _ (List.nil_sublist _)))))) (fun _ _ => ?_)
        refine lt_do rfl trivial (does_store_all 0 rfl rfl rfl (one_u8s _) Tryd.sizeOf41 (by show (List.map vU8 (P.getD q default)).length = _; rw [List.length_map]; exact (hPd _ (getD_mem (by omega)))) (by show (List.map vU8 zeros32).length = _; rw [List.length_map]; exact zeros32_len)) (fun _ _ _ _ h => h.only (.cons _ (.cons _ (.cons_cons _ (.cons_cons _ (List.nil_sublist _)))))) (fun _ _ => ?_)
        refine lt_done (into ?_)
        refine sw_seq ?_
        refine sw_seq ?_
        refine sw_region ?_
        refine ow_val (val_move rfl) rfl ?_   -- 95
        refine ow_val (val_rem_u64 rfl rfl (by decide)) rfl ?_   -- 96
        refine ow_val ((val_eql_u64 rfl rfl).to (congrArg Value.bool (decide_eq_true ((UInt64.toNat.inj (hxm.trans (hp1.trans (show 1 = (UInt64.ofNat (Int.toNat 1)).toNat from rfl)))))))) rfl ?_   -- 97
        refine ow_nil (into ?_)
        refine sw_true rfl rfl ?_
        refine sw_region_tree _ [5, 6] (.one 0 0 (.one 1 0 (.one 2 0 (.one 3 1 (.alt 4 (.one 5 2 (.one 6 2 .done)) (.alt 5 (.one 4 2 (.one 6 2 .done)) .stop)))))) (by kernel_rfl) (by kernel_rfl) (fun _ _ _ h => h) (fun _ h => h) (fun _ h => h.drawn _) ?_
        refine lt_pure rfl trivial (val_move rfl) rfl ?_   -- 98
        refine lt_pure rfl trivial (val_move rfl) rfl ?_   -- 99
        refine lt_pure rfl trivial (val_indexAddr_slice (q) (oP + q * 32) rfl rfl Tryd.underlying22 Tryd.sizeOf41 (by omega) (by omega) (by omega)) rfl ?_   -- 100
        refine lt_held rfl trivial (val_load_elem (cells := fun d => d.map vU8) (l := P) (o := oP) (i := q) rfl Tryd.isAgg41 Tryd.sizeOf41 (fun x hx => by rw [List.length_map]; exact hPd x hx) (by omega) (by omega) (fun w' hm => hr51.rdAt hm (i := 3) rfl)) rfl ?_   -- 101
        refine lt_alt ?_ ?_
        · -- first 4
          refine lt_val rfl trivial (val_load_all 2 rfl rfl Tryd.isAgg41 Tryd.sizeOf41 (by show (List.map vU8 (Lv.getD x.toNat default)).length = _; rw [List.length_map]; exact (hLvd _ (getD_mem (by omega))))) rfl (fun _ _ h => h) ?_   -- 102
          refine lt_do rfl trivial (does_store_all 1 rfl rfl rfl (one_u8s _) Tryd.sizeOf41 (by show (List.map vU8 (P.getD q default)).length = _; rw [List.length_map]; exact (hPd _ (getD_mem (by omega)))) (by show (List.map vU8 (Lv.getD x.toNat default)).length = _; rw [List.length_map]; exact (hLvd _ (getD_mem (by omega))))) (fun h => nomatch h) (fun _ _ => ?_)
          refine lt_do rfl trivial (does_store_all 0 rfl rfl rfl (one_u8s _) Tryd.sizeOf41 (by show (List.map vU8 (Lv.getD x.toNat default)).length = _; rw [List.length_map]; exact (hLvd _ (getD_mem (by omega)))) (by show (List.map vU8 (P.getD q default)).length = _; rw [List.length_map]; exact (hPd _ (getD_mem (by omega))))) (fun h => nomatch h) (fun _ _ => ?_)
          refine lt_done (into ?_)
          refine sw_seq ?_
          refine sw_region ?_
          refine ow_val (val_move rfl) rfl ?_   -- 104
          refine ow_val (val_load_all 1 rfl rfl Tryd.isAgg41 Tryd.sizeOf41 (by show (List.map vU8 (P.getD q default)).length = _; rw [List.length_map]; exact (hPd _ (getD_mem (by omega))))) rfl ?_   -- 105
          refine ow_val (val_load_all 0 rfl rfl Tryd.isAgg41 Tryd.sizeOf41 (by show (List.map vU8 (Lv.getD x.toNat default)).length = _; rw [List.length_map]; exact (hLvd _ (getD_mem (by omega))))) rfl ?_   -- 106
          refine ow_call_pure (v := .tuple #[.agg ((nd k (P.getD q default) (Lv.getD x.toNat default)).map vU8).toArray, vInt ((0 : Nat) : Int)]) (callsTo Tryd.func29 rfl (by kernel_rfl) rfl) rfl (fun w hm => (by have h := node_any w (hK.mem0 hm) (k : Int) (P.getD q default) (Lv.getD x.toNat default) (hPd _ (getD_mem (by omega))) (hLvd _ (getD_mem (by omega))); rw [digO_node h1 h2 (hPf _ (getD_mem (by omega))) (hLvf _ (getD_mem (by omega)))] at h; exact h)) ?_   -- 107
          refine ow_val (val_move rfl) rfl ?_   -- 103
          refine ow_val (val_extract rfl rfl) rfl ?_   -- 108
          refine ow_val (val_extract rfl rfl) rfl ?_   -- 109
          refine ow_do_eq (does_store_all 2 rfl rfl rfl (one_u8s _) Tryd.sizeOf41 (by show (List.map vU8 (nd k (P.getD q default) (Lv.getD x.toNat default))).length = _; rw [List.length_map]; exact (nd_len _ _ _ h2)) (by show (List.map vU8 (Lv.getD x.toNat default)).length = _; rw [List.length_map]; exact (hLvd _ (getD_mem (by omega))))) ?_
          refine ow_val (val_assign rfl) rfl ?_   -- 13
          refine ow_nil (into ?_)
          refine sw_seq ?_
          refine sw_seq ?_
          refine sw_region ?_
          refine ow_val (val_move rfl) rfl ?_   -- 110
          refine ow_val ((val_neq_int rfl rfl).to (v' := .bool false) (congrArg Value.bool (decide_eq_false (fun h => h (by simp))))) rfl ?_   -- 111
          refine ow_nil (into ?_)
          refine sw_false rfl rfl ?_
          refine sw_skip (into ?_)
          refine sw_seq ?_
          refine sw_region ?_
          refine ow_val (val_move rfl) rfl ?_   -- 112
          refine ow_val (val_add_int ((q + 1 : Nat) : Int) rfl rfl (by omega) (by omega)) rfl ?_   -- 113
          refine ow_val (val_assign rfl) rfl ?_   -- 18
          refine ow_nil (into ?_)
          refine sw_seq ?_
          refine sw_region ?_
          refine ow_val (val_move rfl) rfl ?_   -- 114
          by_cases hy3 : y.toNat ≤ 2
          · -- yes
            have hqe : q + 1 = P.length := by
              rw [incL_one (by rw [upL_len]; omega)] at hq3; have h7 := List.drop_eq_nil_iff.1 hq3; omega
            refine ow_val ((val_leq_u64 rfl rfl).to (congrArg Value.bool (decide_eq_true ((UInt64.le_iff_toNat_le.2 hy3))))) rfl ?_   -- 115
            refine ow_val (val_move rfl) rfl ?_   -- 116
            refine ow_guard_yes rfl rfl rfl ?_
            refine ow_val (val_move rfl) rfl ?_   -- 117
            refine ow_guard_yes rfl rfl rfl ?_
            refine ow_val (val_move rfl) rfl ?_   -- 118
            refine ow_guard_yes rfl rfl rfl ?_
            refine ow_val (val_len rfl Tryd.underlying22) rfl ?_   -- 119
            refine ow_guard_yes rfl rfl rfl ?_
            refine ow_val ((val_neq_int rfl rfl).to (congrArg Value.bool (decide_eq_false ((fun h => h (by omega)))))) rfl ?_   -- 120
            refine ow_val (val_pick_true rfl rfl) rfl ?_   -- 121
            refine ow_nil (into ?_)
            refine sw_false rfl rfl ?_
            refine sw_skip (into ?_)
            refine sw_region ?_
            refine ow_val (val_move rfl) rfl ?_   -- 70
            refine ow_val (val_quo_u64 rfl rfl (by decide)) rfl ?_   -- 71
            refine ow_val (val_move rfl) rfl ?_   -- 72
            refine ow_val (val_quo_u64 rfl rfl (by decide)) rfl ?_   -- 73
            refine ow_val (val_move rfl) rfl ?_   -- 74
            refine ow_val (val_rem_u64 rfl rfl (by decide)) rfl ?_   -- 75
            refine ow_val (val_add_u64 rfl rfl) rfl ?_   -- 76
            refine ow_val (val_assign rfl) rfl ?_   -- 16
            refine ow_val (val_assign rfl) rfl ?_   -- 17
            exact ow_nil (fun w hm => ⟨(x / UInt64.ofNat (Int.toNat 2), y / UInt64.ofNat (Int.toNat 2) + y % UInt64.ofNat (Int.toNat 2), q + 1, upL k Lv), ⟨by dsimp only; rw [hy', upL_len]; omega, by dsimp only; rw [hx', hy']; omega, by dsimp only; rw [hx']; exact hq3, by dsimp only; rw [lg_up k _ (Nat.le_refl _) hLne]; exact hlr, huA.1, huA.2, by dsimp only; omega⟩, by dsimp only; rw [hy']; omega, ⟨rfl, rfl, rfl, rfl, rfl, rfl, rfl, rfl, trivial⟩, by dsimp only; rw [hx', hgd]; exact hm.only (.cons _ (.cons _ (.cons_cons _ (.cons_cons _ (List.Sublist.refl _)))))⟩)
          · -- no
            refine ow_val ((val_leq_u64 rfl rfl).to (congrArg Value.bool (decide_eq_false ((fun h => hy3 (UInt64.le_iff_toNat_le.1 h)))))) rfl ?_   -- 115
            refine ow_val (val_move rfl) rfl ?_   -- 116
            first | refine ow_guard_no rfl rfl rfl rfl rfl ?_ | refine ow_guard_none rfl rfl rfl rfl rfl ?_
            first | refine ow_guard_no rfl rfl rfl rfl rfl ?_ | refine ow_guard_none rfl rfl rfl rfl rfl ?_
            first | refine ow_guard_no rfl rfl rfl rfl rfl ?_ | refine ow_guard_none rfl rfl rfl rfl rfl ?_
            first | refine ow_guard_no rfl rfl rfl rfl rfl ?_ | refine ow_guard_none rfl rfl rfl rfl rfl ?_
            refine ow_val (val_pick_false rfl rfl) rfl ?_   -- 121
            refine ow_nil (into ?_)
            refine sw_false rfl rfl ?_
            refine sw_skip (into ?_)
            refine sw_region ?_
            refine ow_val (val_move rfl) rfl ?_   -- 70
            refine ow_val (val_quo_u64 rfl rfl (by decide)) rfl ?_   -- 71
            refine ow_val (val_move rfl) rfl ?_   -- 72
            refine ow_val (val_quo_u64 rfl rfl (by decide)) rfl ?_   -- 73
            refine ow_val (val_move rfl) rfl ?_   -- 74
            refine ow_val (val_rem_u64 rfl rfl (by decide)) rfl ?_   -- 75
            refine ow_val (val_add_u64 rfl rfl) rfl ?_   -- 76
            refine ow_val (val_assign rfl) rfl ?_   -- 16
            refine ow_val (val_assign rfl) rfl ?_   -- 17
            exact ow_nil (fun w hm => ⟨(x / UInt64.ofNat (Int.toNat 2), y / UInt64.ofNat (Int.toNat 2) + y % UInt64.ofNat (Int.toNat 2), q + 1, upL k Lv), ⟨by dsimp only; rw [hy', upL_len]; omega, by dsimp only; rw [hx', hy']; omega, by dsimp only; rw [hx']; exact hq3, by dsimp only; rw [lg_up k _ (Nat.le_refl _) hLne]; exact hlr, huA.1, huA.2, by dsimp only; omega⟩, by dsimp only; rw [hy']; omega, ⟨rfl, rfl, rfl, rfl, rfl, rfl, rfl, rfl, trivial⟩, by dsimp only; rw [hx', hgd]; exact hm.only (.cons _ (.cons _ (.cons_cons _ (.cons_cons _ (List.Sublist.refl _)))))⟩)
        refine lt_alt ?_ ?_
        · -- first 5
          refine lt_do rfl trivial (does_store_all 1 rfl rfl rfl (one_u8s _) Tryd.sizeOf41 (by show (List.map vU8 (P.getD q default)).length = _; rw [List.length_map]; exact (hPd _ (getD_mem (by omega)))) (by show (List.map vU8 (Lv.getD x.toNat default)).length = _; rw [List.length_map]; exact (hLvd _ (getD_mem (by omega))))) (fun h => nomatch h) (fun _ _ => ?_)
          refine lt_val rfl trivial (val_load_all 2 rfl rfl Tryd.isAgg41 Tryd.sizeOf41 (by show (List.map vU8 (Lv.getD x.toNat default)).length = _; rw [List.length_map]; exact (hLvd _ (getD_mem (by omega))))) rfl (fun h => nomatch h) ?_   -- 102
          refine lt_do rfl trivial (does_store_all 0 rfl rfl rfl (one_u8s _) Tryd.sizeOf41 (by show (List.map vU8 (Lv.getD x.toNat default)).length = _; rw [List.length_map]; exact (hLvd _ (getD_mem (by omega)))) (by show (List.map vU8 (P.getD q default)).length = _; rw [List.length_map]; exact (hPd _ (getD_mem (by omega))))) (fun h => nomatch h) (fun _ _ => ?_)
          refine lt_done (into ?_)
          refine sw_seq ?_
          refine sw_region ?_
          refine ow_val (val_move rfl) rfl ?_   -- 104
          refine ow_val (val_load_all 1 rfl rfl Tryd.isAgg41 Tryd.sizeOf41 (by show (List.map vU8 (P.getD q default)).length = _; rw [List.length_map]; exact (hPd _ (getD_mem (by omega))))) rfl ?_   -- 105
          refine ow_val (val_load_all 0 rfl rfl Tryd.isAgg41 Tryd.sizeOf41 (by show (List.map vU8 (Lv.getD x.toNat default)).length = _; rw [List.length_map]; exact (hLvd _ (getD_mem (by omega))))) rfl ?_   -- 106
          refine ow_call_pure (v := .tuple #[.agg ((nd k (P.getD q default) (Lv.getD x.toNat default)).map vU8).toArray, vInt ((0 : Nat) : Int)]) (callsTo Tryd.func29 rfl (by kernel_rfl) rfl) rfl (fun w hm => (by have h := node_any w (hK.mem0 hm) (k : Int) (P.getD q default) (Lv.getD x.toNat default) (hPd _ (getD_mem (by omega))) (hLvd _ (getD_mem (by omega))); rw [digO_node h1 h2 (hPf _ (getD_mem (by omega))) (hLvf _ (getD_mem (by omega)))] at h; exact h)) ?_   -- 107
          refine ow_val (val_move rfl) rfl ?_   -- 103
          refine ow_val (val_extract rfl rfl) rfl ?_   -- 108
          refine ow_val (val_extract rfl rfl) rfl ?_   -- 109
          refine ow_do_eq (does_store_all 2 rfl rfl rfl (one_u8s _) Tryd.sizeOf41 (by show (List.map vU8 (nd k (P.getD q default) (Lv.getD x.toNat default))).length = _; rw [List.length_map]; exact (nd_len _ _ _ h2)) (by show (List.map vU8 (Lv.getD x.toNat default)).length = _; rw [List.length_map]; exact (hLvd _ (getD_mem (by omega))))) ?_
          refine ow_val (val_assign rfl) rfl ?_   -- 13
          refine ow_nil (into ?_)
          refine sw_seq ?_
          refine sw_seq ?_
          refine sw_region ?_
          refine ow_val (val_move rfl) rfl ?_   -- 110
          refine ow_val ((val_neq_int rfl rfl).to (v' := .bool false) (congrArg Value.bool (decide_eq_false (fun h => h (by simp))))) rfl ?_   -- 111
          refine ow_nil (into ?_)
          refine sw_false rfl rfl ?_
          refine sw_skip (into ?_)
          refine sw_seq ?_
          refine sw_region ?_
          refine ow_val (val_move rfl) rfl ?_   -- 112
          refine ow_val (val_add_int ((q + 1 : Nat) : Int) rfl rfl (by omega) (by omega)) rfl ?_   -- 113
          refine ow_val (val_assign rfl) rfl ?_   -- 18
          refine ow_nil (into ?_)
          refine sw_seq ?_
          refine sw_region ?_
          refine ow_val (val_move rfl) rfl ?_   -- 114
          by_cases hy3 : y.toNat ≤ 2
          · -- yes
            have hqe : q + 1 = P.length := by
              rw [incL_one (by rw [upL_len]; omega)] at hq3; have h7 := List.drop_eq_nil_iff.1 hq3; omega
            refine ow_val ((val_leq_u64 rfl rfl).to (congrArg Value.bool (decide_eq_true ((UInt64.le_iff_toNat_le.2 hy3))))) rfl ?_   -- 115
            refine ow_val (val_move rfl) rfl ?_   -- 116
            refine ow_guard_yes rfl rfl rfl ?_
            refine ow_val (val_move rfl) rfl ?_   -- 117
            refine ow_guard_yes rfl rfl rfl ?_
            refine ow_val (val_move rfl) rfl ?_   -- 118
            refine ow_guard_yes rfl rfl rfl ?_
            refine ow_val (val_len rfl Tryd.underlying22) rfl ?_   -- 119
            refine ow_guard_yes rfl rfl rfl ?_
            refine ow_val ((val_neq_int rfl rfl).to (congrArg Value.bool (decide_eq_false ((fun h => h (by omega)))))) rfl ?_   -- 120
            refine ow_val (val_pick_true rfl rfl) rfl ?_   -- 121
            refine ow_nil (into ?_)
            refine sw_false rfl rfl ?_
            refine sw_skip (into ?_)
            refine sw_region ?_
            refine ow_val (val_move rfl) rfl ?_   -- 70
            refine ow_val (val_quo_u64 rfl rfl (by decide)) rfl ?_   -- 71
            refine ow_val (val_move rfl) rfl ?_   -- 72
            refine ow_val (val_quo_u64 rfl rfl (by decide)) rfl ?_   -- 73
            refine ow_val (val_move rfl) rfl ?_   -- 74
            refine ow_val (val_rem_u64 rfl rfl (by decide)) rfl ?_   -- 75
            refine ow_val (val_add_u64 rfl rfl) rfl ?_   -- 76
            refine ow_val (val_assign rfl) rfl ?_   -- 16
            refine ow_val (val_assign rfl) rfl ?_   -- 17
            exact ow_nil (fun w hm => ⟨(x / UInt64.ofNat (Int.toNat 2), y / UInt64.ofNat (Int.toNat 2) + y % UInt64.ofNat (Int.toNat 2), q + 1, upL k Lv), ⟨by dsimp only; rw [hy', upL_len]; omega, by dsimp only; rw [hx', hy']; omega, by dsimp only; rw [hx']; exact hq3, by dsimp only; rw [lg_up k _ (Nat.le_refl _) hLne]; exact hlr, huA.1, huA.2, by dsimp only; omega⟩, by dsimp only; rw [hy']; omega, ⟨rfl, rfl, rfl, rfl, rfl, rfl, rfl, rfl, trivial⟩, by dsimp only; rw [hx', hgd]; exact hm.only (.cons _ (.cons _ (.cons_cons _ (.cons_cons _ (List.Sublist.refl _)))))⟩)
          · -- no
            refine ow_val ((val_leq_u64 rfl rfl).to (congrArg Value.bool (decide_eq_false ((fun h => hy3 (UInt64.le_iff_toNat_le.1 h)))))) rfl ?_   -- 115
            refine ow_val (val_move rfl) rfl ?_   -- 116
            first | refine ow_guard_no rfl rfl rfl rfl rfl ?_ | refine ow_guard_none rfl rfl rfl rfl rfl ?_
            first | refine ow_guard_no rfl rfl rfl rfl rfl ?_ | refine ow_guard_none rfl rfl rfl rfl rfl ?_
            first | refine ow_guard_no rfl rfl rfl rfl rfl ?_ | refine ow_guard_none rfl rfl rfl rfl rfl ?_
            first | refine ow_guard_no rfl rfl rfl rfl rfl ?_ | refine ow_guard_none rfl rfl rfl rfl rfl ?_
            refine ow_val (val_pick_false rfl rfl) rfl ?_   -- 121
            refine ow_nil (into ?_)
            refine sw_false rfl rfl ?_
            refine sw_skip (into ?_)
            refine sw_region ?_
            refine ow_val (val_move rfl) rfl ?_   -- 70
            refine ow_val (val_quo_u64 rfl rfl (by decide)) rfl ?_   -- 71
            refine ow_val (val_move rfl) rfl ?_   -- 72
            refine ow_val (val_quo_u64 rfl rfl (by decide)) rfl ?_   -- 73
            refine ow_val (val_move rfl) rfl ?_   -- 74
            refine ow_val (val_rem_u64 rfl rfl (by decide)) rfl ?_   -- 75
            refine ow_val (val_add_u64 rfl rfl) rfl ?_   -- 76
            refine ow_val (val_assign rfl) rfl ?_   -- 16
            refine ow_val (val_assign rfl) rfl ?_   -- 17
            exact ow_nil (fun w hm => ⟨(x / UInt64.ofNat (Int.toNat 2), y / UInt64.ofNat (Int.toNat 2) + y % UInt64.ofNat (Int.toNat 2), q + 1, upL k Lv), ⟨by dsimp only; rw [hy', upL_len]; omega, by dsimp only; rw [hx', hy']; omega, by dsimp only; rw [hx']; exact hq3, by dsimp only; rw [lg_up k _ (Nat.le_refl _) hLne]; exact hlr, huA.1, huA.2, by dsimp only; omega⟩, by dsimp only; rw [hy']; omega, ⟨rfl, rfl, rfl, rfl, rfl, rfl, rfl, rfl, trivial⟩, by dsimp only; rw [hx', hgd]; exact hm.only (.cons _ (.cons _ (.cons_cons _ (.cons_cons _ (List.Sublist.refl _)))))⟩)
        exact lt_stop
      refine lt_alt ?_ ?_
      · -- first 6
        refine lt_make (fun b => .pointer (some ⟨b, 0, none⟩)) rfl trivial (acts_alloc zD) rfl (fun _ _ _ h => h.only (.cons _ (.cons_cons _ (.cons_cons _ (List.nil_sublist _))))) (fun b20 hb20 => ?_)   -- 20
        refine lt_make (fun b => .pointer (some ⟨b, 0, none⟩)) rfl trivial (acts_alloc zD) rfl (fun _ _ _ h => h.only (.cons _ (.cons _ (.cons_cons _ (.cons_cons _ (List.nil_sublist _)))))) (fun b19 hb19 => ?_)   -- 19
        refine lt_do rfl trivial (does_store_all 0 rfl rfl rfl (one_u8s _) Tryd.sizeOf41 (by show (List.map vU8 (Lv.getD x.toNat default)).length = _; rw [List.length_map]; exact (hLvd _ (getD_mem (by omega)))) (by show (List.map vU8 zeros32).length = _; rw [List.length_map]; exact zeros32_len)) (fun _ _ _ _ h => h.only (.cons _ (.cons _ (.cons_cons _ (.cons_cons _ (List.nil_sublist _)))))) (fun _ _ => ?_)
        refine lt_do rfl trivial (does_store_all 1 rfl rfl rfl (one_u8s _) Tryd.sizeOf41 (by show (List.map vU8 (P.getD q default)).length = _; rw [List.length_map]; exact (hPd _ (getD_mem (by omega)))) (by show (List.map vU8 zeros32).length = _; rw [List.length_map]; exact zeros32_len)) (fun _ _ _ _ h => h.only (.cons _ (.cons _ (.cons_cons _ (.cons_cons _ (List.nil_sublist _)))))) (fun _ _ => ?_)
        refine lt_done (into ?_)
        refine sw_seq ?_
        refine sw_seq ?_
        refine sw_region ?_
        refine ow_val (val_move rfl) rfl ?_   -- 95
        refine ow_val (val_rem_u64 rfl rfl (by decide)) rfl ?_   -- 96
        refine ow_val ((val_eql_u64 rfl rfl).to (congrArg Value.bool (decide_eq_true ((UInt64.toNat.inj (hxm.trans (hp1.trans (show 1 = (UInt64.ofNat (Int.toNat 1)).toNat from rfl)))))))) rfl ?_   -- 97
        refine ow_nil (into ?_)
        refine sw_true rfl rfl ?_
        refine sw_region_tree _ [5, 6] (.one 0 0 (.one 1 0 (.one 2 0 (.one 3 1 (.alt 4 (.one 5 2 (.one 6 2 .done)) (.alt 5 (.one 4 2 (.one 6 2 .done)) .stop)))))) (by kernel_rfl) (by kernel_rfl) (fun _ _ _ h => h) (fun _ h => h) (fun _ h => h.drawn _) ?_
        refine lt_pure rfl trivial (val_move rfl) rfl ?_   -- 98
        refine lt_pure rfl trivial (val_move rfl) rfl ?_   -- 99
        refine lt_pure rfl trivial (val_indexAddr_slice (q) (oP + q * 32) rfl rfl Tryd.underlying22 Tryd.sizeOf41 (by omega) (by omega) (by omega)) rfl ?_   -- 100
        refine lt_held rfl trivial (val_load_elem (cells := fun d => d.map vU8) (l := P) (o := oP) (i := q) rfl Tryd.isAgg41 Tryd.sizeOf41 (fun x hx => by rw [List.length_map]; exact hPd x hx) (by omega) (by omega) (fun w' hm => hr51.rdAt hm (i := 3) rfl)) rfl ?_   -- 101
        refine lt_alt ?_ ?_
        · -- first 4
          refine lt_val rfl trivial (val_load_all 2 rfl rfl Tryd.isAgg41 Tryd.sizeOf41 (by show (List.map vU8 (Lv.getD x.toNat default)).length = _; rw [List.length_map]; exact (hLvd _ (getD_mem (by omega))))) rfl (fun _ _ h => h) ?_   -- 102
          refine lt_do rfl trivial (does_store_all 0 rfl rfl rfl (one_u8s _) Tryd.sizeOf41 (by show (List.map vU8 (P.getD q default)).length = _; rw [List.length_map]; exact (hPd _ (getD_mem (by omega)))) (by show (List.map vU8 (Lv.getD x.toNat default)).length = _; rw [List.length_map]; exact (hLvd _ (getD_mem (by omega))))) (fun h => nomatch h) (fun _ _ => ?_)
          refine lt_do rfl trivial (does_store_all 1 rfl rfl rfl (one_u8s _) Tryd.sizeOf41 (by show (List.map vU8 (Lv.getD x.toNat default)).length = _; rw [List.length_map]; exact (hLvd _ (getD_mem (by omega)))) (by show (List.map vU8 (P.getD q default)).length = _; rw [List.length_map]; exact (hPd _ (getD_mem (by omega))))) (fun h => nomatch h) (fun _ _ => ?_)
          refine lt_done (into ?_)
          refine sw_seq ?_
          refine sw_region ?_
          refine ow_val (val_move rfl) rfl ?_   -- 104
          refine ow_val (val_load_all 0 rfl rfl Tryd.isAgg41 Tryd.sizeOf41 (by show (List.map vU8 (P.getD q default)).length = _; rw [List.length_map]; exact (hPd _ (getD_mem (by omega))))) rfl ?_   -- 105
          refine ow_val (val_load_all 1 rfl rfl Tryd.isAgg41 Tryd.sizeOf41 (by show (List.map vU8 (Lv.getD x.toNat default)).length = _; rw [List.length_map]; exact (hLvd _ (getD_mem (by omega))))) rfl ?_   -- 106
          refine ow_call_pure (v := .tuple #[.agg ((nd k (P.getD q default) (Lv.getD x.toNat default)).map vU8).toArray, vInt ((0 : Nat) : Int)]) (callsTo Tryd.func29 rfl (by kernel_rfl) rfl) rfl (fun w hm => (by have h := node_any w (hK.mem0 hm) (k : Int) (P.getD q default) (Lv.getD x.toNat default) (hPd _ (getD_mem (by omega))) (hLvd _ (getD_mem (by omega))); rw [digO_node h1 h2 (hPf _ (getD_mem (by omega))) (hLvf _ (getD_mem (by omega)))] at h; exact h)) ?_   -- 107
          refine ow_val (val_move rfl) rfl ?_   -- 103
          refine ow_val (val_extract rfl rfl) rfl ?_   -- 108
          refine ow_val (val_extract rfl rfl) rfl ?_   -- 109
          refine ow_do_eq (does_store_all 2 rfl rfl rfl (one_u8s _) Tryd.sizeOf41 (by show (List.map vU8 (nd k (P.getD q default) (Lv.getD x.toNat default))).length = _; rw [List.length_map]; exact (nd_len _ _ _ h2)) (by show (List.map vU8 (Lv.getD x.toNat default)).length = _; rw [List.length_map]; exact (hLvd _ (getD_mem (by omega))))) ?_
          refine ow_val (val_assign rfl) rfl ?_   -- 13
          refine ow_nil (into ?_)
          refine sw_seq ?_
          refine sw_seq ?_
          refine sw_region ?_
          refine ow_val (val_move rfl) rfl ?_   -- 110
          refine ow_val ((val_neq_int rfl rfl).to (v' := .bool false) (congrArg Value.bool (decide_eq_false (fun h => h (by simp))))) rfl ?_   -- 111
          refine ow_nil (into ?_)
          refine sw_false rfl rfl ?_
          refine sw_skip (into ?_)
          refine sw_seq ?_
          refine sw_region ?_
          refine ow_val (val_move rfl) rfl ?_   -- 112
          refine ow_val (val_add_int ((q + 1 : Nat) : Int) rfl rfl (by omega) (by omega)) rfl ?_   -- 113
          refine ow_val (val_assign rfl) rfl ?_   -- 18
          refine ow_nil (into ?_)
          refine sw_seq ?_
          refine sw_region ?_
          refine ow_val (val_move rfl) rfl ?_   -- 114
          by_cases hy3 : y.toNat ≤ 2
          · -- yes
            have hqe : q + 1 = P.length := by
              rw [incL_one (by rw [upL_len]; omega)] at hq3; have h7 := List.drop_eq_nil_iff.1 hq3; omega
            refine ow_val ((val_leq_u64 rfl rfl).to (congrArg Value.bool (decide_eq_true ((UInt64.le_iff_toNat_le.2 hy3))))) rfl ?_   -- 115
            refine ow_val (val_move rfl) rfl ?_   -- 116
            refine ow_guard_yes rfl rfl rfl ?_
            refine ow_val (val_move rfl) rfl ?_   -- 117
            refine ow_guard_yes rfl rfl rfl ?_
            refine ow_val (val_move rfl) rfl ?_   -- 118
            refine ow_guard_yes rfl rfl rfl ?_
            refine ow_val (val_len rfl Tryd.underlying22) rfl ?_   -- 119
            refine ow_guard_yes rfl rfl rfl ?_
            refine ow_val ((val_neq_int rfl rfl).to (congrArg Value.bool (decide_eq_false ((fun h => h (by omega)))))) rfl ?_   -- 120
            refine ow_val (val_pick_true rfl rfl) rfl ?_   -- 121
            refine ow_nil (into ?_)
            refine sw_false rfl rfl ?_
            refine sw_skip (into ?_)
            refine sw_region ?_
            refine ow_val (val_move rfl) rfl ?_   -- 70
            refine ow_val (val_quo_u64 rfl rfl (by decide)) rfl ?_   -- 71
            refine ow_val (val_move rfl) rfl ?_   -- 72
            refine ow_val (val_quo_u64 rfl rfl (by decide)) rfl ?_   -- 73
            refine ow_val (val_move rfl) rfl ?_   -- 74
            refine ow_val (val_rem_u64 rfl rfl (by decide)) rfl ?_   -- 75
            refine ow_val (val_add_u64 rfl rfl) rfl ?_   -- 76
            refine ow_val (val_assign rfl) rfl ?_   -- 16
            refine ow_val (val_assign rfl) rfl ?_   -- 17
            exact ow_nil (fun w hm => ⟨(x / UInt64.ofNat (Int.toNat 2), y / UInt64.ofNat (Int.toNat 2) + y % UInt64.ofNat (Int.toNat 2), q + 1, upL k Lv), ⟨by dsimp only; rw [hy', upL_len]; omega, by dsimp only; rw [hx', hy']; omega, by dsimp only; rw [hx']; exact hq3, by dsimp only; rw [lg_up k _ (Nat.le_refl _) hLne]; exact hlr, huA.1, huA.2, by dsimp only; omega⟩, by dsimp only; rw [hy']; omega, ⟨rfl, rfl, rfl, rfl, rfl, rfl, rfl, rfl, trivial⟩, by dsimp only; rw [hx', hgd]; exact hm.only (.cons _ (.cons _ (.cons_cons _ (.cons_cons _ (List.Sublist.refl _)))))⟩)
          · -- no
            refine ow_val ((val_leq_u64 rfl rfl).to (congrArg Value.bool (decide_eq_false ((fun h => hy3 (UInt64.le_iff_toNat_le.1 h)))))) rfl ?_   -- 115
            refine ow_val (val_move rfl) rfl ?_   -- 116
            first | refine ow_guard_no rfl rfl rfl rfl rfl ?_ | refine ow_guard_none rfl rfl rfl rfl rfl ?_
            first | refine ow_guard_no rfl rfl rfl rfl rfl ?_ | refine ow_guard_none rfl rfl rfl rfl rfl ?_
            first | refine ow_guard_no rfl rfl rfl rfl rfl ?_ | refine ow_guard_none rfl rfl rfl rfl rfl ?_
            first | refine ow_guard_no rfl rfl rfl rfl rfl ?_ | refine ow_guard_none rfl rfl rfl rfl rfl ?_
            refine ow_val (val_pick_false rfl rfl) rfl ?_   -- 121
            refine ow_nil (into ?_)
            refine sw_false rfl rfl ?_
            refine sw_skip (into ?_)
            refine sw_region ?_
            refine ow_val (val_move rfl) rfl ?_   -- 70
            refine ow_val (val_quo_u64 rfl rfl (by decide)) rfl ?_   -- 71
            refine ow_val (val_move rfl) rfl ?_   -- 72
            refine ow_val (val_quo_u64 rfl rfl (by decide)) rfl ?_   -- 73
            refine ow_val (val_move rfl) rfl ?_   -- 74
            refine ow_val (val_rem_u64 rfl rfl (by decide)) rfl ?_   -- 75
            refine ow_val (val_add_u64 rfl rfl) rfl ?_   -- 76
            refine ow_val (val_assign rfl) rfl ?_   -- 16
            refine ow_val (val_assign rfl) rfl ?_   -- 17
            exact ow_nil (fun w hm => ⟨(x / UInt64.ofNat (Int.toNat 2), y / UInt64.ofNat (Int.toNat 2) + y % UInt64.ofNat (Int.toNat 2), q + 1, upL k Lv), ⟨by dsimp only; rw [hy', upL_len]; omega, by dsimp only; rw [hx', hy']; omega, by dsimp only; rw [hx']; exact hq3, by dsimp only; rw [lg_up k _ (Nat.le_refl _) hLne]; exact hlr, huA.1, huA.2, by dsimp only; omega⟩, by dsimp only; rw [hy']; omega, ⟨rfl, rfl, rfl, rfl, rfl, rfl, rfl, rfl, trivial⟩, by dsimp only; rw [hx', hgd]; exact hm.only (.cons _ (.cons _ (.cons_cons _ (.cons_cons _ (List.Sublist.refl _)))))⟩)
        refine lt_alt ?_ ?_
        · -- first 5
          refine lt_do rfl trivial (does_store_all 0 rfl rfl rfl (one_u8s _) Tryd.sizeOf41 (by show (List.map vU8 (P.getD q default)).length = _; rw [List.length_map]; exact (hPd _ (getD_mem (by omega)))) (by show (List.map vU8 (Lv.getD x.toNat default)).length = _; rw [List.length_map]; exact (hLvd _ (getD_mem (by omega))))) (fun h => nomatch h) (fun _ _ => ?_)
          refine lt_val rfl trivial (val_load_all 2 rfl rfl Tryd.isAgg41 Tryd.sizeOf41 (by show (List.map vU8 (Lv.getD x.toNat default)).length = _; rw [List.length_map]; exact (hLvd _ (getD_mem (by omega))))) rfl (fun h => nomatch h) ?_   -- 102
          refine lt_do rfl trivial (does_store_all 1 rfl rfl rfl (one_u8s _) Tryd.sizeOf41 (by show (List.map vU8 (Lv.getD x.toNat default)).length = _; rw [List.length_map]; exact (hLvd _ (getD_mem (by omega)))) (by show (List.map vU8 (P.getD q default)).length = _; rw [List.length_map]; exact (hPd _ (getD_mem (by omega))))) (fun h => nomatch h) (fun _ _ => ?_)
          refine lt_done (into ?_)
          refine sw_seq ?_
          refine sw_region ?_
          refine ow_val (val_move rfl) rfl ?_   -- 104
          refine ow_val (val_load_all 0 rfl rfl Tryd.isAgg41 Tryd.sizeOf41 (by show (List.map vU8 (P.getD q default)).length = _; rw [List.length_map]; exact (hPd _ (getD_mem (by omega))))) rfl ?_   -- 105
          refine ow_val (val_load_all 1 rfl rfl Tryd.isAgg41 Tryd.sizeOf41 (by show (List.map vU8 (Lv.getD x.toNat default)).length = _; rw [List.length_map]; exact (hLvd _ (getD_mem (by omega))))) rfl ?_   -- 106
          refine ow_call_pure (v := .tuple #[.agg ((nd k (P.getD q default) (Lv.getD x.toNat default)).map vU8).toArray, vInt ((0 : Nat) : Int)]) (callsTo Tryd.func29 rfl (by kernel_rfl) rfl) rfl (fun w hm => (by have h := node_any w (hK.mem0 hm) (k : Int) (P.getD q default) (Lv.getD x.toNat default) (hPd _ (getD_mem (by omega))) (hLvd _ (getD_mem (by omega))); rw [digO_node h1 h2 (hPf _ (getD_mem (by omega))) (hLvf _ (getD_mem (by omega)))] at h; exact h)) ?_   -- 107
          refine ow_val (val_move rfl) rfl ?_   -- 103
          refine ow_val (val_extract rfl rfl) rfl ?_   -- 108
          refine ow_val (val_extract rfl rfl) rfl ?_   -- 109
          refine ow_do_eq (does_store_all 2 rfl rfl rfl (one_u8s _) Tryd.sizeOf41 (by show (List.map vU8 (nd k (P.getD q default) (Lv.getD x.toNat default))).length = _; rw [List.length_map]; exact (nd_len _ _ _ h2)) (by show (List.map vU8 (Lv.getD x.toNat default)).length = _; rw [List.length_map]; exact (hLvd _ (getD_mem (by omega))))) ?_
          refine ow_val (val_assign rfl) rfl ?_   -- 13
          refine ow_nil (into ?_)
          refine sw_seq ?_
          refine sw_seq ?_
          refine sw_region ?_
          refine ow_val (val_move rfl) rfl ?_   -- 110
          refine ow_val ((val_neq_int rfl rfl).to (v' := .bool false) (congrArg Value.bool (decide_eq_false (fun h => h (by simp))))) rfl ?_   -- 111
          refine ow_nil (into ?_)
          refine sw_false rfl rfl ?_
          refine sw_skip (into ?_)
          refine sw_seq ?_
          refine sw_region ?_
          refine ow_val (val_move rfl) rfl ?_   -- 112
          refine ow_val (val_add_int ((q + 1 : Nat) : Int) rfl rfl (by omega) (by omega)) rfl ?_   -- 113
          refine ow_val (val_assign rfl) rfl ?_   -- 18
          refine ow_nil (into ?_)
          refine sw_seq ?_
          refine sw_region ?_
          refine ow_val (val_move rfl) rfl ?_   -- 114
          by_cases hy3 : y.toNat ≤ 2
          · -- yes
            have hqe : q + 1 = P.length := by
              rw [incL_one (by rw [upL_len]; omega)] at hq3; have h7 := List.drop_eq_nil_iff.1 hq3; omega
            refine ow_val ((val_leq_u64 rfl rfl).to (congrArg Value.bool (decide_eq_true ((UInt64.le_iff_toNat_le.2 hy3))))) rfl ?_   -- 115
            refine ow_val (val_move rfl) rfl ?_   -- 116
            refine ow_guard_yes rfl rfl rfl ?_
            refine ow_val (val_move rfl) rfl ?_   -- 117
            refine ow_guard_yes rfl rfl rfl ?_
            refine ow_val (val_move rfl) rfl ?_   -- 118
            refine ow_guard_yes rfl rfl rfl ?_
            refine ow_val (val_len rfl Tryd.underlying22) rfl ?_   -- 119
            refine ow_guard_yes rfl rfl rfl ?_
            refine ow_val ((val_neq_int rfl rfl).to (congrArg Value.bool (decide_eq_false ((fun h => h (by omega)))))) rfl ?_   -- 120
            refine ow_val (val_pick_true rfl rfl) rfl ?_   -- 121
            refine ow_nil (into ?_)
            refine sw_false rfl rfl ?_
            refine sw_skip (into ?_)
            refine sw_region ?_
            refine ow_val (val_move rfl) rfl ?_   -- 70
            refine ow_val (val_quo_u64 rfl rfl (by decide)) rfl ?_   -- 71
            refine ow_val (val_move rfl) rfl ?_   -- 72
            refine ow_val (val_quo_u64 rfl rfl (by decide)) rfl ?_   -- 73
            refine ow_val (val_move rfl) rfl ?_   -- 74
            refine ow_val (val_rem_u64 rfl rfl (by decide)) rfl ?_   -- 75
            refine ow_val (val_add_u64 rfl rfl) rfl ?_   -- 76
            refine ow_val (val_assign rfl) rfl ?_   -- 16
            refine ow_val (val_assign rfl) rfl ?_   -- 17
            exact ow_nil (fun w hm => ⟨(x / UInt64.ofNat (Int.toNat 2), y / UInt64.ofNat (Int.toNat 2) + y % UInt64.ofNat (Int.toNat 2), q + 1, upL k Lv), ⟨by dsimp only; rw [hy', upL_len]; omega, by dsimp only; rw [hx', hy']; omega, by dsimp only; rw [hx']; exact hq3, by dsimp only; rw [lg_up k _ (Nat.le_refl _) hLne]; exact hlr, huA.1, huA.2, by dsimp only; omega⟩, by dsimp only; rw [hy']; omega, ⟨rfl, rfl, rfl, rfl, rfl, rfl, rfl, rfl, trivial⟩, by dsimp only; rw [hx', hgd]; exact hm.only (.cons _ (.cons _ (.cons_cons _ (.cons_cons _ (List.Sublist.refl _)))))⟩)
          · -- no
            refine ow_val ((val_leq_u64 rfl rfl).to (congrArg Value.bool (decide_eq_false ((fun h => hy3 (UInt64.le_iff_toNat_le.1 h)))))) rfl ?_   -- 115
            refine ow_val (val_move rfl) rfl ?_   -- 116
            first | refine ow_guard_no rfl rfl rfl rfl rfl ?_ | refine ow_guard_none rfl rfl rfl rfl rfl ?_
            first | refine ow_guard_no rfl rfl rfl rfl rfl ?_ | refine ow_guard_none rfl rfl rfl rfl rfl ?_
            first | refine ow_guard_no rfl rfl rfl rfl rfl ?_ | refine ow_guard_none rfl rfl rfl rfl rfl ?_
            first | refine ow_guard_no rfl rfl rfl rfl rfl ?_ | refine ow_guard_none rfl rfl rfl rfl rfl ?_
            refine ow_val (val_pick_false rfl rfl) rfl ?_   -- 121
            refine ow_nil (into ?_)
            refine sw_false rfl rfl ?_
            refine sw_skip (into ?_)
            refine sw_region ?_
            refine ow_val (val_move rfl) rfl ?_   -- 70
            refine ow_val (val_quo_u64 rfl rfl (by decide)) rfl ?_   -- 71
            refine ow_val (val_move rfl) rfl ?_   -- 72
            refine ow_val (val_quo_u64 rfl rfl (by decide)) rfl ?_   -- 73
            refine ow_val (val_move rfl) rfl ?_   -- 74
            refine ow_val (val_rem_u64 rfl rfl (by decide)) rfl ?_   -- 75
            refine ow_val (val_add_u64 rfl rfl) rfl ?_   -- 76
            refine ow_val (val_assign rfl) rfl ?_   -- 16
            refine ow_val (val_assign rfl) rfl ?_   -- 17
            exact ow_nil (fun w hm => ⟨(x / UInt64.ofNat (Int.toNat 2), y / UInt64.ofNat (Int.toNat 2) + y % UInt64.ofNat (Int.toNat 2), q + 1, upL k Lv), ⟨by dsimp only; rw [hy', upL_len]; omega, by dsimp only; rw [hx', hy']; omega, by dsimp only; rw [hx']; exact hq3, by dsimp only; rw [lg_up k _ (Nat.le_refl _) hLne]; exact hlr, huA.1, huA.2, by dsimp only; omega⟩, by dsimp only; rw [hy']; omega, ⟨rfl, rfl, rfl, rfl, rfl, rfl, rfl, rfl, trivial⟩, by dsimp only; rw [hx', hgd]; exact hm.only (.cons _ (.cons _ (.cons_cons _ (.cons_cons _ (List.Sublist.refl _)))))⟩)
        exact lt_stop
      exact lt_stop
  · -- else
    have hy1 : ¬ 2 ≤ y.toNat := fun h => h0 (UInt64.lt_iff_toNat_lt.2 h)
    have hend : (Lv.getD x.toNat default) = lg k S := by
      obtain ⟨z, rfl⟩ : ∃ z, Lv = [z] := by
        match Lv, (show Lv.length = 1 by omega) with
        | [z], _ => exact ⟨z, rfl⟩
      rw [show x.toNat = 0 by omega, ← hlr, lg_one]; rfl
    refine sw_exit (into ?_)
    refine sw_seq ?_
    refine sw_region ?_
    refine ow_val (val_move rfl) rfl ?_   -- 123
    refine ow_val (val_move rfl) rfl ?_   -- 124
    refine ow_call_pure (v := .tuple #[.agg ((lg k S).map vU8).toArray, vInt ((0 : Nat) : Int)]) (callsTo Tryd.func26 rfl (by kernel_rfl) rfl) rfl (fun w hm => (by have h := root_any k h1 h2 b27 L (by assumption) (by assumption) n w (hK.mem0 hm) (htr27.is (hm.heldSub (.cons _ (.cons _ (List.Sublist.refl _))))) (by omega); rw [rngU k hn, hS] at h; exact h)) ?_   -- 125
    refine ow_val (val_move rfl) rfl ?_   -- 122
    refine ow_val (val_extract rfl rfl) rfl ?_   -- 126
    refine ow_val (val_extract rfl rfl) rfl ?_   -- 127
    refine ow_new (acts_alloc zD) rfl (fun b21 hb21 => ?_)   -- 21
    refine ow_do_eq (does_store_all 0 rfl rfl rfl (one_u8s _) Tryd.sizeOf41 (by show (List.map vU8 (lg k S)).length = _; rw [List.length_map]; exact (lg_len h2 _ rfl hSd)) (by show (List.map vU8 zeros32).length = _; rw [List.length_map]; exact zeros32_len)) ?_
    refine ow_val (val_assign rfl) rfl ?_   -- 13
    refine ow_nil (into ?_)
    refine sw_seq ?_
    refine sw_region ?_
    refine ow_val (val_move rfl) rfl ?_   -- 128
    refine ow_val ((val_eql_int rfl rfl).to (v' := .bool true) (congrArg Value.bool (decide_eq_true (by simp)))) rfl ?_   -- 129
    refine ow_val (val_move rfl) rfl ?_   -- 130
    refine ow_guard_yes rfl rfl rfl ?_
    refine ow_val (val_load_all 1 rfl rfl Tryd.isAgg41 Tryd.sizeOf41 (by show (List.map vU8 (Lv.getD x.toNat default)).length = _; rw [List.length_map]; exact (hLvd _ (getD_mem (by omega))))) rfl ?_   -- 131
    refine ow_guard_yes rfl rfl rfl ?_
    refine ow_val (val_load_all 0 rfl rfl Tryd.isAgg41 Tryd.sizeOf41 (by show (List.map vU8 (lg k S)).length = _; rw [List.length_map]; exact (lg_len h2 _ rfl hSd))) rfl ?_   -- 132
    refine ow_guard_yes rfl rfl rfl ?_
    refine ow_val ((val_eql_u8s rfl rfl Tryd.eqGuardType41 Tryd.underlying41 Tryd.underlying5 Tryd.sizeOf5 Tryd.isAgg5 (hLvd _ (getD_mem (by omega))) (lg_len h2 _ rfl hSd)).to (congrArg Value.bool (decide_eq_true (hend)))) rfl ?_   -- 133
    refine ow_val (val_pick_true rfl rfl) rfl ?_   -- 134
    refine ow_val (val_assign rfl) rfl ?_   -- 8
    refine ow_nil (into ?_)
    refine sw_ret (fun w hm => ?_)
    try dsimp only [thenP, blockP, Nat.beq, cond]
    exact ret_one _ rfl rfl ⟨rfl, hm.forgetAll⟩

theorem mproofFolds_any (v0 : Int) (i n : UInt64) (w : World) (hK : KW w) (a : Option Addr) (c : Nat) (l : List (List UInt8)) (hdl : ∀ d ∈ l, d.length = 32) (hr : Rd w a (l.flatMap fun d => d.map vU8)) (hc : l.length ≤ c) (hb : l.length * 32 ≤ 140737488351232) : Calls Tryd.prog 10 #[vInt v0, .slice a l.length c, vU64 i, vU64 n] w fun e w' => ∃ v, e = .returned v ∧ v = .bool true ∧ Mem w [] [] w' := by
  cases hwd : wd v0 with
  | false => exact folds_none v0 hwd i n w hK a c l hdl hr hc hb
  | true =>
    have h9 := wd_iff.1 hwd
    obtain ⟨k, rfl⟩ : ∃ k : Nat, v0 = (k : Int) := ⟨v0.toNat, by omega⟩
    by_cases hi : i.toNat < n.toNat
    · by_cases hn : n.toNat ≤ (cutL k l).length
      · exact folds_go k (by omega) (by omega) i n w hK a c l hdl hr hc hb _ rfl hi hn
      · exact folds_b k (by omega) (by omega) i n w hK a c l hdl hr hc hb _ rfl hi (by omega)
    · exact folds_a k (by omega) (by omega) i n w hK a c l hdl hr hc hb _ rfl (by omega)
end Go.Proofs.YtcdponddgnkecaaDoor
