import Derived.Test.YtcdponddgnkecaaDoorMp6
import Derived.Test.YtcdponddgnkecaaDoorProg
set_option linter.unusedVariables false
set_option linter.unusedSimpArgs false
namespace Go.Proofs.YtcdponddgnkecaaDoor
open Go.Sx Go.Ps
theorem past_none (v0 : Int) (hwd : wd v0 = false) (i m n : UInt64) (w : World) (hK : KW w) (a : Option Addr) (c : Nat) (l : List (List UInt8)) (hdl : ∀ d ∈ l, d.length = 32) (hr : Rd w a (l.flatMap fun d => d.map vU8)) (hc : l.length ≤ c) (hb : l.length ≤ 1048576) (a2 : Option Addr) (c2 : Nat) (l2 : List (List UInt8)) (hd2 : ∀ d ∈ l2, d.length = 32) (hr2 : Rd w a2 (l2.flatMap fun d => d.map vU8)) (hc2 : l2.length ≤ c2) (hb2 : l2.length ≤ 1048576) : Calls Tryd.prog 7 #[vInt v0, .slice a l.length c, .slice a2 l2.length c2, vU64 i, vU64 m, vU64 n] w fun e w' => ∃ v, e = .returned v ∧ v = .bool true ∧ Mem w [] [] w' := by
  obtain ⟨tiD, hDi, hDz, hDsz, hDby⟩ := info_parts iDg
  refine calls_of_sw (vs := [vInt v0, .slice a l.length c, .slice a2 l2.length c2, vU64 i, vU64 m, vU64 n]) Tryd.func7 rfl Tryd.ntmps7 rfl (SW.begin ?_)
  refine sw_seq ?_
  refine sw_region ?_
  refine ow_val (val_assign rfl) rfl ?_   -- 12
  refine ow_nil (into ?_)
  refine sw_seq ?_
  refine sw_seq ?_
  refine sw_region ?_
  refine ow_call_pure (v := .bool true) (callsTo Tryd.func14 rfl (by kernel_rfl) rfl) rfl (fun w hm => awake_any w (hK.mem0 hm)) ?_   -- 29
  refine ow_val (val_not rfl) rfl ?_   -- 30
  refine ow_nil (into ?_)
  refine sw_false rfl rfl ?_
  refine sw_skip (into ?_)
  refine sw_seq ?_
  refine sw_region ?_
  refine ow_val (val_move rfl) rfl ?_   -- 32
  refine ow_val (val_move rfl) rfl ?_   -- 33
  refine ow_call_pure (v := .tuple #[.pointer none, .slice none 0 0, .bool false]) (callsTo Tryd.func15 rfl (by kernel_rfl) rfl) rfl (fun w hm => tree_no v0 hwd w _ _ _) ?_   -- 34
  refine ow_val (val_move rfl) rfl ?_   -- 31
  refine ow_val (val_extract rfl rfl) rfl ?_   -- 35
  refine ow_val (val_extract rfl rfl) rfl ?_   -- 36
  refine ow_val (val_extract rfl rfl) rfl ?_   -- 37
  refine ow_val (val_assign rfl) rfl ?_   -- 13
  refine ow_val (val_assign rfl) rfl ?_   -- 14
  refine ow_val (val_assign rfl) rfl ?_   -- 15
  refine ow_nil (into ?_)
  refine sw_seq ?_
  refine sw_region ?_
  refine ow_val (val_move rfl) rfl ?_   -- 39
  refine ow_val (val_move rfl) rfl ?_   -- 40
  refine ow_call_row (E := 41) (size := 32) (k := l.length) (xs := List.flatMap (fun d : List UInt8 => List.map vU8 d) l) (callsTo Tryd.func25 rfl (by kernel_rfl) rfl) rfl (fun w hm => twin_any w a c l hdl (hr.mem hm) hc (by omega)) (fun a41 c41 e41 hr41 => ?_)   -- 41
  refine ow_val (val_move rfl) rfl ?_   -- 42
  refine ow_append' (k := l.length + l2.length) (xs := (l ++ l2).flatMap fun d => d.map vU8) (acts_row (acts_append (size := 32) (bytes := 32) 0 rfl rfl rfl hr41 rfl Tryd.underlying22 hDi hDz hDsz hDby rfl (by decide) (fun w hm => (hr2.mem hm)) (flatMap_size' rfl hd2) (one_dgs _) (by omega) (by omega)) rfl (by simp only [List.flatMap_append, List.flatMap_cons, List.flatMap_nil, List.flatten_cons, List.flatten_nil, List.nil_append, List.append_nil])) rfl (fun a43 c43 e43 hr43' => ?_)   -- 43
  have hx43 : (l ++ l2).length = l.length + l2.length := by rw [List.length_append] <;> rfl
  refine ow_call_pure (v := .tuple #[.pointer none, .slice none 0 0, .bool false]) (callsTo Tryd.func15 rfl (by kernel_rfl) rfl) rfl (fun w hm => tree_no v0 hwd w _ _ _) ?_   -- 44
  refine ow_val (val_move rfl) rfl ?_   -- 38
  refine ow_val (val_extract rfl rfl) rfl ?_   -- 45
  refine ow_val (val_extract rfl rfl) rfl ?_   -- 46
  refine ow_val (val_extract rfl rfl) rfl ?_   -- 47
  refine ow_val (val_assign rfl) rfl ?_   -- 16
  refine ow_val (val_assign rfl) rfl ?_   -- 17
  refine ow_val (val_assign rfl) rfl ?_   -- 18
  refine ow_nil (into ?_)
  refine sw_seq ?_
  refine sw_seq ?_
  refine sw_region ?_
  refine ow_val (val_move rfl) rfl ?_   -- 48
  refine ow_val (val_not rfl) rfl ?_   -- 49
  refine ow_val (val_move rfl) rfl ?_   -- 50
  first | refine ow_guard_no rfl rfl rfl rfl rfl ?_ | refine ow_guard_none rfl rfl rfl rfl rfl ?_
  first | refine ow_guard_no rfl rfl rfl rfl rfl ?_ | refine ow_guard_none rfl rfl rfl rfl rfl ?_
  first | refine ow_guard_no rfl rfl rfl rfl rfl ?_ | refine ow_guard_none rfl rfl rfl rfl rfl ?_
  first | refine ow_guard_no rfl rfl rfl rfl rfl ?_ | refine ow_guard_none rfl rfl rfl rfl rfl ?_
  first | refine ow_guard_no rfl rfl rfl rfl rfl ?_ | refine ow_guard_none rfl rfl rfl rfl rfl ?_
  refine ow_val (val_pick_true rfl rfl) rfl ?_   -- 56
  refine ow_nil (into ?_)
  refine sw_true rfl rfl ?_
  refine sw_seq ?_
  refine sw_region ?_
  refine ow_val (val_assign rfl) rfl ?_   -- 12
  refine ow_nil (into ?_)
  refine sw_ret (fun w hm => ?_)
  try dsimp only [thenP, blockP, Nat.beq, cond]
  exact ret_one _ rfl rfl ⟨rfl, hm.forgetAll⟩

theorem past_big (k : Nat) (h1 : 1 ≤ k) (h2 : k ≤ 32) (i m n : UInt64) (w : World) (hK : KW w) (a : Option Addr) (c : Nat) (l : List (List UInt8)) (hdl : ∀ d ∈ l, d.length = 32) (hr : Rd w a (l.flatMap fun d => d.map vU8)) (hc : l.length ≤ c) (hb : l.length ≤ 1048576) (a2 : Option Addr) (c2 : Nat) (l2 : List (List UInt8)) (hd2 : ∀ d ∈ l2, d.length = 32) (hr2 : Rd w a2 (l2.flatMap fun d => d.map vU8)) (hc2 : l2.length ≤ c2) (hb2 : l2.length ≤ 1048576) (L M : List (List UInt8)) (hL : cutL k l = L) (hM : cutL k l2 = M) (hbg : L.length < n.toNat) : Calls Tryd.prog 7 #[vInt (k : Int), .slice a l.length c, .slice a2 l2.length c2, vU64 i, vU64 m, vU64 n] w fun e w' => ∃ v, e = .returned v ∧ v = .bool true ∧ Mem w [] [] w' := by
  obtain ⟨tiD, hDi, hDz, hDsz, hDby⟩ := info_parts iDg
  have hLM : cutL k (l ++ l2) = L ++ M := by rw [← hL, ← hM]; exact List.map_append
  have hcl := cutL_ok h1 h2 hdl
  have hcm := cutL_ok h1 h2 hd2
  rw [hL] at hcl
  rw [hM] at hcm
  have hLd := hcl.1
  have hLf := hcl.2
  have hLMd := both hcl.1 hcm.1
  have hLMf := both hcl.2 hcm.2
  have hLn : L.length = l.length := by rw [← hL]; exact cutL_len k l
  have hMn : M.length = l2.length := by rw [← hM]; exact cutL_len k l2
  have hLMn : (L ++ M).length = L.length + M.length := List.length_append
  refine calls_of_sw (vs := [vInt (k : Int), .slice a l.length c, .slice a2 l2.length c2, vU64 i, vU64 m, vU64 n]) Tryd.func7 rfl Tryd.ntmps7 rfl (SW.begin ?_)
  refine sw_seq ?_
  refine sw_region ?_
  refine ow_val (val_assign rfl) rfl ?_   -- 12
  refine ow_nil (into ?_)
  refine sw_seq ?_
  refine sw_seq ?_
  refine sw_region ?_
  refine ow_call_pure (v := .bool true) (callsTo Tryd.func14 rfl (by kernel_rfl) rfl) rfl (fun w hm => awake_any w (hK.mem0 hm)) ?_   -- 29
  refine ow_val (val_not rfl) rfl ?_   -- 30
  refine ow_nil (into ?_)
  refine sw_false rfl rfl ?_
  refine sw_skip (into ?_)
  refine sw_seq ?_
  refine sw_region ?_
  refine ow_val (val_move rfl) rfl ?_   -- 32
  refine ow_val (val_move rfl) rfl ?_   -- 33
  refine ow_call_tail (σ := Nat × Option Addr × Nat × List Ent) (fun q9 => .tuple #[vPtr q9.1, .slice q9.2.1 L.length q9.2.2.1, .bool true]) (fun q9 => q9.2.2.2) (fun q9 => TrOn 110 79 k q9.2.2.2 q9.1 L ∧ RdOn q9.2.2.2 q9.2.1 (List.flatMap (fun d : List UInt8 => List.map vU8 d) L) ∧ L.length ≤ q9.2.2.1 ∧ (0 < L.length → ∃ b o, q9.2.1 = some ⟨b, o, none⟩)) (callsTo Tryd.func15 rfl (by kernel_rfl) rfl) rfl (fun w hm => tree_is k h1 h2 w (hK.mem0 hm) a l.length c l rfl hdl (hr.mem hm) (by omega) (by omega) (by omega) hL) ?_   -- 34
  rintro ⟨b34, a34, c34, es34⟩ ⟨htr34, hrd34, hle34, hla34⟩
  simp only at htr34 hrd34 hle34 hla34 ⊢
  refine ow_val (val_move rfl) rfl ?_   -- 31
  refine ow_val (val_extract rfl rfl) rfl ?_   -- 35
  refine ow_val (val_extract rfl rfl) rfl ?_   -- 36
  refine ow_val (val_extract rfl rfl) rfl ?_   -- 37
  refine ow_val (val_assign rfl) rfl ?_   -- 13
  refine ow_val (val_assign rfl) rfl ?_   -- 14
  refine ow_val (val_assign rfl) rfl ?_   -- 15
  refine ow_nil (into ?_)
  refine sw_seq ?_
  refine sw_region ?_
  refine ow_val (val_move rfl) rfl ?_   -- 39
  refine ow_val (val_move rfl) rfl ?_   -- 40
  refine ow_call_row (E := 41) (size := 32) (k := l.length) (xs := List.flatMap (fun d : List UInt8 => List.map vU8 d) l) (callsTo Tryd.func25 rfl (by kernel_rfl) rfl) rfl (fun w hm => twin_any w a c l hdl (hr.mem hm) hc (by omega)) (fun a41 c41 e41 hr41 => ?_)   -- 41
  refine ow_val (val_move rfl) rfl ?_   -- 42
  refine ow_append' (k := l.length + l2.length) (xs := (l ++ l2).flatMap fun d => d.map vU8) (acts_row (acts_append (size := 32) (bytes := 32) 0 rfl rfl rfl hr41 rfl Tryd.underlying22 hDi hDz hDsz hDby rfl (by decide) (fun w hm => (hr2.mem hm)) (flatMap_size' rfl hd2) (one_dgs _) (by omega) (by omega)) rfl (by simp only [List.flatMap_append, List.flatMap_cons, List.flatMap_nil, List.flatten_cons, List.flatten_nil, List.nil_append, List.append_nil])) rfl (fun a43 c43 e43 hr43' => ?_)   -- 43
  have hx43 : (l ++ l2).length = l.length + l2.length := by rw [List.length_append] <;> rfl
  refine ow_call_tail (σ := Nat × Option Addr × Nat × List Ent) (fun q9 => .tuple #[vPtr q9.1, .slice q9.2.1 (L ++ M).length q9.2.2.1, .bool true]) (fun q9 => q9.2.2.2) (fun q9 => TrOn 110 79 k q9.2.2.2 q9.1 (L ++ M) ∧ RdOn q9.2.2.2 q9.2.1 (List.flatMap (fun d : List UInt8 => List.map vU8 d) (L ++ M)) ∧ (L ++ M).length ≤ q9.2.2.1 ∧ (0 < (L ++ M).length → ∃ b o, q9.2.1 = some ⟨b, o, none⟩)) (callsTo Tryd.func15 rfl (by kernel_rfl) rfl) rfl (fun w hm => tree_is k h1 h2 w (hK.mem0 hm) a43 (l.length + l2.length) c43 (l ++ l2) hx43 (both hdl hd2) (hr43'.rdAt hm (i := 0) rfl) hr43'.le (by omega) (by omega) hLM) ?_   -- 44
  rintro ⟨b44, a44, c44, es44⟩ ⟨htr44, hrd44, hle44, hla44⟩
  simp only at htr44 hrd44 hle44 hla44 ⊢
  refine ow_val (val_move rfl) rfl ?_   -- 38
  refine ow_val (val_extract rfl rfl) rfl ?_   -- 45
  refine ow_val (val_extract rfl rfl) rfl ?_   -- 46
  refine ow_val (val_extract rfl rfl) rfl ?_   -- 47
  refine ow_val (val_assign rfl) rfl ?_   -- 16
  refine ow_val (val_assign rfl) rfl ?_   -- 17
  refine ow_val (val_assign rfl) rfl ?_   -- 18
  refine ow_nil (into ?_)
  refine sw_seq ?_
  refine sw_seq ?_
  refine sw_region ?_
  refine ow_val (val_move rfl) rfl ?_   -- 48
  refine ow_val (val_not rfl) rfl ?_   -- 49
  refine ow_val (val_move rfl) rfl ?_   -- 50
  refine ow_guard_yes rfl rfl rfl ?_
  refine ow_val (val_move rfl) rfl ?_   -- 51
  refine ow_guard_yes rfl rfl rfl ?_
  refine ow_val (val_move rfl) rfl ?_   -- 52
  refine ow_guard_yes rfl rfl rfl ?_
  refine ow_val (val_len rfl Tryd.underlying22) rfl ?_   -- 53
  refine ow_guard_yes rfl rfl rfl ?_
  refine ow_val (val_conv_n_u64 L.length Tryd.underlying3 Tryd.underlying23 rfl rfl) rfl ?_   -- 54
  refine ow_guard_yes rfl rfl rfl ?_
  refine ow_val ((val_gtr_u64 rfl rfl).to (congrArg Value.bool (decide_eq_true ((UInt64.lt_iff_toNat_lt.2 (by rw [of_nat (by omega)]; exact hbg)))))) rfl ?_   -- 55
  refine ow_val (val_pick_false rfl rfl) rfl ?_   -- 56
  refine ow_nil (into ?_)
  refine sw_true rfl rfl ?_
  refine sw_seq ?_
  refine sw_region ?_
  refine ow_val (val_assign rfl) rfl ?_   -- 12
  refine ow_nil (into ?_)
  refine sw_ret (fun w hm => ?_)
  try dsimp only [thenP, blockP, Nat.beq, cond]
  exact ret_one _ rfl rfl ⟨rfl, hm.forgetAll⟩

theorem past_yy (k : Nat) (h1 : 1 ≤ k) (h2 : k ≤ 32) (i m n : UInt64) (w : World) (hK : KW w) (a : Option Addr) (c : Nat) (l : List (List UInt8)) (hdl : ∀ d ∈ l, d.length = 32) (hr : Rd w a (l.flatMap fun d => d.map vU8)) (hc : l.length ≤ c) (hb : l.length ≤ 1048576) (a2 : Option Addr) (c2 : Nat) (l2 : List (List UInt8)) (hd2 : ∀ d ∈ l2, d.length = 32) (hr2 : Rd w a2 (l2.flatMap fun d => d.map vU8)) (hc2 : l2.length ≤ c2) (hb2 : l2.length ≤ 1048576) (L M : List (List UInt8)) (hL : cutL k l = L) (hM : cutL k l2 = M) (hn : n.toNat ≤ L.length) (hi : i.toNat < n.toNat) (hm9 : m.toNat ≤ n.toNat) : Calls Tryd.prog 7 #[vInt (k : Int), .slice a l.length c, .slice a2 l2.length c2, vU64 i, vU64 m, vU64 n] w fun e w' => ∃ v, e = .returned v ∧ v = .bool true ∧ Mem w [] [] w' := by
  obtain ⟨tiD, hDi, hDz, hDsz, hDby⟩ := info_parts iDg
  have hLM : cutL k (l ++ l2) = L ++ M := by rw [← hL, ← hM]; exact List.map_append
  have hcl := cutL_ok h1 h2 hdl
  have hcm := cutL_ok h1 h2 hd2
  rw [hL] at hcl
  rw [hM] at hcm
  have hLd := hcl.1
  have hLf := hcl.2
  have hLMd := both hcl.1 hcm.1
  have hLMf := both hcl.2 hcm.2
  have hLn : L.length = l.length := by rw [← hL]; exact cutL_len k l
  have hMn : M.length = l2.length := by rw [← hM]; exact cutL_len k l2
  have hLMn : (L ++ M).length = L.length + M.length := List.length_append
  have hok : i.toNat < n.toNat ∧ n.toNat ≤ L.length := ⟨hi, hn⟩
  have hok' : i.toNat < n.toNat ∧ n.toNat ≤ (L ++ M).length := ⟨hi, by omega⟩
  obtain ⟨P, hP⟩ : ∃ P, incL k (seg L 0 n.toNat) i.toNat = P := ⟨_, rfl⟩
  have hP' : incL k (seg (L ++ M) 0 n.toNat) i.toNat = P := by rw [seg_app hn]; exact hP
  have hPm := incL_mem h1 h2 _ (Nat.le_refl _) (seg_all hLd) (seg_all hLf) (i := i.toNat) (l := seg L 0 n.toNat)
  rw [hP] at hPm
  have hPd := fun d hd => (hPm d hd).1
  have hPf := fun d hd => (hPm d hd).2
  have hPn : P.length < 4611686018427387904 := by
    rw [← hP]; have h7 := incL_len (k := k) _ (l := seg L 0 n.toNat) (i := i.toNat) (Nat.le_refl _); rw [seg_len hn] at h7; omega
  have hokc : m.toNat ≤ n.toNat ∧ n.toNat ≤ L.length := ⟨hm9, hn⟩
  have hokc' : m.toNat ≤ n.toNat ∧ n.toNat ≤ (L ++ M).length := ⟨hm9, by omega⟩
  obtain ⟨Q, hQ⟩ : ∃ P, conO k L m.toNat n.toNat = P := ⟨_, rfl⟩
  have hQ' : conO k (L ++ M) m.toNat n.toNat = Q := by rw [← hQ, conO, conO, seg_app hn]
  have hQm := conO_mem h1 h2 hLd hLf (i := m.toNat) (n := n.toNat)
  rw [hQ] at hQm
  have hQd := fun d hd => (hQm d hd).1
  have hQf := fun d hd => (hQm d hd).2
  have hQn : Q.length < 4611686018427387904 := by
    rw [← hQ]; have h7 := conO_len (k := k) (l := L) (i := m.toNat) hn; omega
  refine calls_of_sw (vs := [vInt (k : Int), .slice a l.length c, .slice a2 l2.length c2, vU64 i, vU64 m, vU64 n]) Tryd.func7 rfl Tryd.ntmps7 rfl (SW.begin ?_)
  refine sw_seq ?_
  refine sw_region ?_
  refine ow_val (val_assign rfl) rfl ?_   -- 12
  refine ow_nil (into ?_)
  refine sw_seq ?_
  refine sw_seq ?_
  refine sw_region ?_
  refine ow_call_pure (v := .bool true) (callsTo Tryd.func14 rfl (by kernel_rfl) rfl) rfl (fun w hm => awake_any w (hK.mem0 hm)) ?_   -- 29
  refine ow_val (val_not rfl) rfl ?_   -- 30
  refine ow_nil (into ?_)
  refine sw_false rfl rfl ?_
  refine sw_skip (into ?_)
  refine sw_seq ?_
  refine sw_region ?_
  refine ow_val (val_move rfl) rfl ?_   -- 32
  refine ow_val (val_move rfl) rfl ?_   -- 33
  refine ow_call_tail (σ := Nat × Option Addr × Nat × List Ent) (fun q9 => .tuple #[vPtr q9.1, .slice q9.2.1 L.length q9.2.2.1, .bool true]) (fun q9 => q9.2.2.2) (fun q9 => TrOn 110 79 k q9.2.2.2 q9.1 L ∧ RdOn q9.2.2.2 q9.2.1 (List.flatMap (fun d : List UInt8 => List.map vU8 d) L) ∧ L.length ≤ q9.2.2.1 ∧ (0 < L.length → ∃ b o, q9.2.1 = some ⟨b, o, none⟩)) (callsTo Tryd.func15 rfl (by kernel_rfl) rfl) rfl (fun w hm => tree_is k h1 h2 w (hK.mem0 hm) a l.length c l rfl hdl (hr.mem hm) (by omega) (by omega) (by omega) hL) ?_   -- 34
  rintro ⟨b34, a34, c34, es34⟩ ⟨htr34, hrd34, hle34, hla34⟩
  simp only at htr34 hrd34 hle34 hla34 ⊢
  refine ow_val (val_move rfl) rfl ?_   -- 31
  refine ow_val (val_extract rfl rfl) rfl ?_   -- 35
  refine ow_val (val_extract rfl rfl) rfl ?_   -- 36
  refine ow_val (val_extract rfl rfl) rfl ?_   -- 37
  refine ow_val (val_assign rfl) rfl ?_   -- 13
  refine ow_val (val_assign rfl) rfl ?_   -- 14
  refine ow_val (val_assign rfl) rfl ?_   -- 15
  refine ow_nil (into ?_)
  refine sw_seq ?_
  refine sw_region ?_
  refine ow_val (val_move rfl) rfl ?_   -- 39
  refine ow_val (val_move rfl) rfl ?_   -- 40
  refine ow_call_row (E := 41) (size := 32) (k := l.length) (xs := List.flatMap (fun d : List UInt8 => List.map vU8 d) l) (callsTo Tryd.func25 rfl (by kernel_rfl) rfl) rfl (fun w hm => twin_any w a c l hdl (hr.mem hm) hc (by omega)) (fun a41 c41 e41 hr41 => ?_)   -- 41
  refine ow_val (val_move rfl) rfl ?_   -- 42
  refine ow_append' (k := l.length + l2.length) (xs := (l ++ l2).flatMap fun d => d.map vU8) (acts_row (acts_append (size := 32) (bytes := 32) 0 rfl rfl rfl hr41 rfl Tryd.underlying22 hDi hDz hDsz hDby rfl (by decide) (fun w hm => (hr2.mem hm)) (flatMap_size' rfl hd2) (one_dgs _) (by omega) (by omega)) rfl (by simp only [List.flatMap_append, List.flatMap_cons, List.flatMap_nil, List.flatten_cons, List.flatten_nil, List.nil_append, List.append_nil])) rfl (fun a43 c43 e43 hr43' => ?_)   -- 43
  have hx43 : (l ++ l2).length = l.length + l2.length := by rw [List.length_append] <;> rfl
  refine ow_call_tail (σ := Nat × Option Addr × Nat × List Ent) (fun q9 => .tuple #[vPtr q9.1, .slice q9.2.1 (L ++ M).length q9.2.2.1, .bool true]) (fun q9 => q9.2.2.2) (fun q9 => TrOn 110 79 k q9.2.2.2 q9.1 (L ++ M) ∧ RdOn q9.2.2.2 q9.2.1 (List.flatMap (fun d : List UInt8 => List.map vU8 d) (L ++ M)) ∧ (L ++ M).length ≤ q9.2.2.1 ∧ (0 < (L ++ M).length → ∃ b o, q9.2.1 = some ⟨b, o, none⟩)) (callsTo Tryd.func15 rfl (by kernel_rfl) rfl) rfl (fun w hm => tree_is k h1 h2 w (hK.mem0 hm) a43 (l.length + l2.length) c43 (l ++ l2) hx43 (both hdl hd2) (hr43'.rdAt hm (i := 0) rfl) hr43'.le (by omega) (by omega) hLM) ?_   -- 44
  rintro ⟨b44, a44, c44, es44⟩ ⟨htr44, hrd44, hle44, hla44⟩
  simp only at htr44 hrd44 hle44 hla44 ⊢
  refine ow_val (val_move rfl) rfl ?_   -- 38
  refine ow_val (val_extract rfl rfl) rfl ?_   -- 45
  refine ow_val (val_extract rfl rfl) rfl ?_   -- 46
  refine ow_val (val_extract rfl rfl) rfl ?_   -- 47
  refine ow_val (val_assign rfl) rfl ?_   -- 16
  refine ow_val (val_assign rfl) rfl ?_   -- 17
  refine ow_val (val_assign rfl) rfl ?_   -- 18
  refine ow_nil (into ?_)
  refine sw_seq ?_
  refine sw_seq ?_
  refine sw_region ?_
  refine ow_val (val_move rfl) rfl ?_   -- 48
  refine ow_val (val_not rfl) rfl ?_   -- 49
  refine ow_val (val_move rfl) rfl ?_   -- 50
  refine ow_guard_yes rfl rfl rfl ?_
  refine ow_val (val_move rfl) rfl ?_   -- 51
  refine ow_guard_yes rfl rfl rfl ?_
  refine ow_val (val_move rfl) rfl ?_   -- 52
  refine ow_guard_yes rfl rfl rfl ?_
  refine ow_val (val_len rfl Tryd.underlying22) rfl ?_   -- 53
  refine ow_guard_yes rfl rfl rfl ?_
  refine ow_val (val_conv_n_u64 L.length Tryd.underlying3 Tryd.underlying23 rfl rfl) rfl ?_   -- 54
  refine ow_guard_yes rfl rfl rfl ?_
  refine ow_val ((val_gtr_u64 rfl rfl).to (congrArg Value.bool (decide_eq_false ((fun h => absurd (UInt64.lt_iff_toNat_lt.1 h) (by rw [of_nat (by omega)]; omega)))))) rfl ?_   -- 55
  refine ow_val (val_pick_false rfl rfl) rfl ?_   -- 56
  refine ow_nil (into ?_)
  refine sw_false rfl rfl ?_
  refine sw_skip (into ?_)
  refine sw_seq ?_
  refine sw_seq ?_
  refine sw_region ?_
  refine ow_val (val_move rfl) rfl ?_   -- 57
  refine ow_val (val_eql_nilptr Tryd.underlying25 rfl rfl) rfl ?_   -- 58
  refine ow_val (val_move rfl) rfl ?_   -- 59
  refine ow_guard_yes rfl rfl rfl ?_
  refine ow_val (val_move rfl) rfl ?_   -- 60
  refine ow_guard_yes rfl rfl rfl ?_
  refine ow_val (val_eql_nilptr Tryd.underlying25 rfl rfl) rfl ?_   -- 61
  refine ow_val (val_pick_false rfl rfl) rfl ?_   -- 62
  refine ow_nil (into ?_)
  refine sw_false rfl rfl ?_
  refine sw_skip (into ?_)
  refine sw_seq ?_
  refine sw_region ?_
  refine ow_val (val_move rfl) rfl ?_   -- 64
  refine ow_val (val_move rfl) rfl ?_   -- 65
  refine ow_val (val_move rfl) rfl ?_   -- 66
  refine ow_call_row2 (E := 41) (size := 32) (k := P.length) (xs := List.flatMap (fun d : List UInt8 => List.map vU8 d) P) (x := vInt ((0 : Nat) : Int)) (callsTo Tryd.func16 rfl (by kernel_rfl) rfl) rfl (fun w hm => incl_okU k h1 h2 b34 L (by assumption) (by assumption) (by omega) i n w (hK.mem0 hm) ((htr34.left (T' := es44)).is (hm.heldSub (.cons _ (List.Sublist.refl _)))) hok _ hP) (fun a67 c67 e67 hr67 => ?_)   -- 67
  refine ow_val (val_move rfl) rfl ?_   -- 63
  refine ow_val (val_extract rfl rfl) rfl ?_   -- 68
  refine ow_val (val_extract rfl rfl) rfl ?_   -- 69
  refine ow_val (val_assign rfl) rfl ?_   -- 19
  refine ow_val (val_assign rfl) rfl ?_   -- 20
  refine ow_nil (into ?_)
  refine sw_seq ?_
  refine sw_region ?_
  refine ow_val (val_move rfl) rfl ?_   -- 71
  refine ow_val (val_move rfl) rfl ?_   -- 72
  refine ow_val (val_move rfl) rfl ?_   -- 73
  refine ow_call_row2 (E := 41) (size := 32) (k := P.length) (xs := List.flatMap (fun d : List UInt8 => List.map vU8 d) P) (x := vInt ((0 : Nat) : Int)) (callsTo Tryd.func16 rfl (by kernel_rfl) rfl) rfl (fun w hm => incl_okU k h1 h2 b44 (L ++ M) (by assumption) (by assumption) (by omega) i n w (hK.mem0 hm) ((htr44.right (T' := es34)).is (hm.heldSub (.cons _ (.cons _ (List.Sublist.refl _))))) hok' _ hP') (fun a74 c74 e74 hr74 => ?_)   -- 74
  refine ow_val (val_move rfl) rfl ?_   -- 70
  refine ow_val (val_extract rfl rfl) rfl ?_   -- 75
  refine ow_val (val_extract rfl rfl) rfl ?_   -- 76
  refine ow_val (val_assign rfl) rfl ?_   -- 21
  refine ow_val (val_assign rfl) rfl ?_   -- 22
  refine ow_nil (into ?_)
  refine sw_seq ?_
  refine sw_region ?_
  refine ow_val (val_move rfl) rfl ?_   -- 78
  refine ow_val (val_move rfl) rfl ?_   -- 79
  refine ow_val (val_move rfl) rfl ?_   -- 80
  refine ow_call_row2 (E := 41) (size := 32) (k := Q.length) (xs := List.flatMap (fun d : List UInt8 => List.map vU8 d) Q) (x := vInt ((0 : Nat) : Int)) (callsTo Tryd.func19 rfl (by kernel_rfl) rfl) rfl (fun w hm => cons_okU k h1 h2 b34 L (by assumption) (by assumption) (by omega) m n w (hK.mem0 hm) ((htr34.left (T' := es44)).is (hm.heldSub (.cons _ (.cons _ (.cons _ (List.Sublist.refl _)))))) hokc _ hQ) (fun a81 c81 e81 hr81 => ?_)   -- 81
  refine ow_val (val_move rfl) rfl ?_   -- 77
  refine ow_val (val_extract rfl rfl) rfl ?_   -- 82
  refine ow_val (val_extract rfl rfl) rfl ?_   -- 83
  refine ow_val (val_assign rfl) rfl ?_   -- 23
  refine ow_val (val_assign rfl) rfl ?_   -- 24
  refine ow_nil (into ?_)
  refine sw_seq ?_
  refine sw_region ?_
  refine ow_val (val_move rfl) rfl ?_   -- 85
  refine ow_val (val_move rfl) rfl ?_   -- 86
  refine ow_val (val_move rfl) rfl ?_   -- 87
  refine ow_call_row2 (E := 41) (size := 32) (k := Q.length) (xs := List.flatMap (fun d : List UInt8 => List.map vU8 d) Q) (x := vInt ((0 : Nat) : Int)) (callsTo Tryd.func19 rfl (by kernel_rfl) rfl) rfl (fun w hm => cons_okU k h1 h2 b44 (L ++ M) (by assumption) (by assumption) (by omega) m n w (hK.mem0 hm) ((htr44.right (T' := es34)).is (hm.heldSub (.cons _ (.cons _ (.cons _ (.cons _ (List.Sublist.refl _))))))) hokc' _ hQ') (fun a88 c88 e88 hr88 => ?_)   -- 88
  refine ow_val (val_move rfl) rfl ?_   -- 84
  refine ow_val (val_extract rfl rfl) rfl ?_   -- 89
  refine ow_val (val_extract rfl rfl) rfl ?_   -- 90
  refine ow_val (val_assign rfl) rfl ?_   -- 25
  refine ow_val (val_assign rfl) rfl ?_   -- 26
  refine ow_nil (into ?_)
  refine sw_seq ?_
  refine sw_region ?_
  refine ow_val (val_move rfl) rfl ?_   -- 92
  refine ow_val (val_move rfl) rfl ?_   -- 93
  refine ow_val (val_move rfl) rfl ?_   -- 94
  refine ow_call_row2 (E := 41) (size := 32) (k := P.length) (xs := List.flatMap (fun d : List UInt8 => List.map vU8 d) P) (x := vInt ((0 : Nat) : Int)) (callsTo Tryd.func16 rfl (by kernel_rfl) rfl) rfl (fun w hm => incl_okU k h1 h2 b34 L (by assumption) (by assumption) (by omega) i n w (hK.mem0 hm) ((htr34.left (T' := es44)).is (hm.heldSub (.cons _ (.cons _ (.cons _ (.cons _ (.cons _ (List.Sublist.refl _)))))))) hok _ hP) (fun a95 c95 e95 hr95 => ?_)   -- 95
  refine ow_val (val_move rfl) rfl ?_   -- 91
  refine ow_val (val_extract rfl rfl) rfl ?_   -- 96
  refine ow_val (val_extract rfl rfl) rfl ?_   -- 97
  refine ow_val (val_assign rfl) rfl ?_   -- 27
  refine ow_val (val_assign rfl) rfl ?_   -- 28
  refine ow_nil (into ?_)
  refine sw_seq ?_
  refine sw_region ?_
  refine ow_val (val_move rfl) rfl ?_   -- 98
  refine ow_val (val_move rfl) rfl ?_   -- 99
  refine ow_val ((val_eql_int rfl rfl).to (v' := .bool true) (congrArg Value.bool (decide_eq_true rfl))) rfl ?_   -- 100
  refine ow_val (val_move rfl) rfl ?_   -- 101
  refine ow_guard_yes rfl rfl rfl ?_
  refine ow_val (val_move rfl) rfl ?_   -- 102
  refine ow_guard_yes rfl rfl rfl ?_
  refine ow_val (val_move rfl) rfl ?_   -- 103
  refine ow_guard_yes rfl rfl rfl ?_
  refine ow_val ((val_eql_int rfl rfl).to (v' := .bool true) (congrArg Value.bool (decide_eq_true rfl))) rfl ?_   -- 104
  refine ow_val (val_pick_true rfl rfl) rfl ?_   -- 105
  refine ow_val (val_move rfl) rfl ?_   -- 106
  refine ow_guard_yes rfl rfl rfl ?_
  refine ow_val (val_move rfl) rfl ?_   -- 107
  refine ow_guard_yes rfl rfl rfl ?_
  refine ow_val (val_move rfl) rfl ?_   -- 108
  refine ow_guard_yes rfl rfl rfl ?_
  refine ow_val ((val_eql_int rfl rfl).to (v' := .bool true) (congrArg Value.bool (decide_eq_true rfl))) rfl ?_   -- 109
  refine ow_val (val_pick_true rfl rfl) rfl ?_   -- 110
  refine ow_val (val_move rfl) rfl ?_   -- 111
  refine ow_guard_yes rfl rfl rfl ?_
  refine ow_val (val_move rfl) rfl ?_   -- 112
  refine ow_guard_yes rfl rfl rfl ?_
  refine ow_val (val_move rfl) rfl ?_   -- 113
  refine ow_guard_yes rfl rfl rfl ?_
  refine ow_call_pure (v := .bool true) (callsTo Tryd.func18 rfl (by kernel_rfl) rfl) rfl (fun w hm => same_is w a67 P.length c67 P rfl hPd (hr67.rdAt hm (i := 4) rfl) hr67.le (by omega) a74 P.length c74 P rfl hPd (hr74.rdAt hm (i := 3) rfl) hr74.le (by omega) (decide_eq_true rfl)) ?_   -- 114
  refine ow_val (val_pick_true rfl rfl) rfl ?_   -- 115
  refine ow_val (val_move rfl) rfl ?_   -- 116
  refine ow_guard_yes rfl rfl rfl ?_
  refine ow_val (val_move rfl) rfl ?_   -- 117
  refine ow_guard_yes rfl rfl rfl ?_
  refine ow_val (val_move rfl) rfl ?_   -- 118
  refine ow_guard_yes rfl rfl rfl ?_
  refine ow_call_pure (v := .bool true) (callsTo Tryd.func18 rfl (by kernel_rfl) rfl) rfl (fun w hm => same_is w a67 P.length c67 P rfl hPd (hr67.rdAt hm (i := 4) rfl) hr67.le (by omega) a95 P.length c95 P rfl hPd (hr95.rdAt hm (i := 0) rfl) hr95.le (by omega) (decide_eq_true rfl)) ?_   -- 119
  refine ow_val (val_pick_true rfl rfl) rfl ?_   -- 120
  refine ow_val (val_move rfl) rfl ?_   -- 121
  refine ow_guard_yes rfl rfl rfl ?_
  refine ow_val (val_move rfl) rfl ?_   -- 122
  refine ow_guard_yes rfl rfl rfl ?_
  refine ow_val (val_move rfl) rfl ?_   -- 123
  refine ow_guard_yes rfl rfl rfl ?_
  refine ow_call_pure (v := .bool true) (callsTo Tryd.func18 rfl (by kernel_rfl) rfl) rfl (fun w hm => same_is w a81 Q.length c81 Q rfl hQd (hr81.rdAt hm (i := 2) rfl) hr81.le (by omega) a88 Q.length c88 Q rfl hQd (hr88.rdAt hm (i := 1) rfl) hr88.le (by omega) (decide_eq_true rfl)) ?_   -- 124
  refine ow_val (val_pick_true rfl rfl) rfl ?_   -- 125
  refine ow_val (val_assign rfl) rfl ?_   -- 12
  refine ow_nil (into ?_)
  exact sw_ret (fun w hm => ret_one _ rfl rfl ⟨rfl, hm.forgetAll⟩)

theorem past_yn (k : Nat) (h1 : 1 ≤ k) (h2 : k ≤ 32) (i m n : UInt64) (w : World) (hK : KW w) (a : Option Addr) (c : Nat) (l : List (List UInt8)) (hdl : ∀ d ∈ l, d.length = 32) (hr : Rd w a (l.flatMap fun d => d.map vU8)) (hc : l.length ≤ c) (hb : l.length ≤ 1048576) (a2 : Option Addr) (c2 : Nat) (l2 : List (List UInt8)) (hd2 : ∀ d ∈ l2, d.length = 32) (hr2 : Rd w a2 (l2.flatMap fun d => d.map vU8)) (hc2 : l2.length ≤ c2) (hb2 : l2.length ≤ 1048576) (L M : List (List UInt8)) (hL : cutL k l = L) (hM : cutL k l2 = M) (hn : n.toNat ≤ L.length) (hi : i.toNat < n.toNat) (hm9 : ¬ m.toNat ≤ n.toNat) : Calls Tryd.prog 7 #[vInt (k : Int), .slice a l.length c, .slice a2 l2.length c2, vU64 i, vU64 m, vU64 n] w fun e w' => ∃ v, e = .returned v ∧ v = .bool true ∧ Mem w [] [] w' := by
  obtain ⟨tiD, hDi, hDz, hDsz, hDby⟩ := info_parts iDg
  have hLM : cutL k (l ++ l2) = L ++ M := by rw [← hL, ← hM]; exact List.map_append
  have hcl := cutL_ok h1 h2 hdl
  have hcm := cutL_ok h1 h2 hd2
  rw [hL] at hcl
  rw [hM] at hcm
  have hLd := hcl.1
  have hLf := hcl.2
  have hLMd := both hcl.1 hcm.1
  have hLMf := both hcl.2 hcm.2
  have hLn : L.length = l.length := by rw [← hL]; exact cutL_len k l
  have hMn : M.length = l2.length := by rw [← hM]; exact cutL_len k l2
  have hLMn : (L ++ M).length = L.length + M.length := List.length_append
  have hok : i.toNat < n.toNat ∧ n.toNat ≤ L.length := ⟨hi, hn⟩
  have hok' : i.toNat < n.toNat ∧ n.toNat ≤ (L ++ M).length := ⟨hi, by omega⟩
  obtain ⟨P, hP⟩ : ∃ P, incL k (seg L 0 n.toNat) i.toNat = P := ⟨_, rfl⟩
  have hP' : incL k (seg (L ++ M) 0 n.toNat) i.toNat = P := by rw [seg_app hn]; exact hP
  have hPm := incL_mem h1 h2 _ (Nat.le_refl _) (seg_all hLd) (seg_all hLf) (i := i.toNat) (l := seg L 0 n.toNat)
  rw [hP] at hPm
  have hPd := fun d hd => (hPm d hd).1
  have hPf := fun d hd => (hPm d hd).2
  have hPn : P.length < 4611686018427387904 := by
    rw [← hP]; have h7 := incL_len (k := k) _ (l := seg L 0 n.toNat) (i := i.toNat) (Nat.le_refl _); rw [seg_len hn] at h7; omega
  refine calls_of_sw (vs := [vInt (k : Int), .slice a l.length c, .slice a2 l2.length c2, vU64 i, vU64 m, vU64 n]) Tryd.func7 rfl Tryd.ntmps7 rfl (SW.begin ?_)
  refine sw_seq ?_
  refine sw_region ?_
  refine ow_val (val_assign rfl) rfl ?_   -- 12
  refine ow_nil (into ?_)
  refine sw_seq ?_
  refine sw_seq ?_
  refine sw_region ?_
  refine ow_call_pure (v := .bool true) (callsTo Tryd.func14 rfl (by kernel_rfl) rfl) rfl (fun w hm => awake_any w (hK.mem0 hm)) ?_   -- 29
  refine ow_val (val_not rfl) rfl ?_   -- 30
  refine ow_nil (into ?_)
  refine sw_false rfl rfl ?_
  refine sw_skip (into ?_)
  refine sw_seq ?_
  refine sw_region ?_
  refine ow_val (val_move rfl) rfl ?_   -- 32
  refine ow_val (val_move rfl) rfl ?_   -- 33
  refine ow_call_tail (σ := Nat × Option Addr × Nat × List Ent) (fun q9 => .tuple #[vPtr q9.1, .slice q9.2.1 L.length q9.2.2.1, .bool true]) (fun q9 => q9.2.2.2) (fun q9 => TrOn 110 79 k q9.2.2.2 q9.1 L ∧ RdOn q9.2.2.2 q9.2.1 (List.flatMap (fun d : List UInt8 => List.map vU8 d) L) ∧ L.length ≤ q9.2.2.1 ∧ (0 < L.length → ∃ b o, q9.2.1 = some ⟨b, o, none⟩)) (callsTo Tryd.func15 rfl (by kernel_rfl) rfl) rfl (fun w hm => tree_is k h1 h2 w (hK.mem0 hm) a l.length c l rfl hdl (hr.mem hm) (by omega) (by omega) (by omega) hL) ?_   -- 34
  rintro ⟨b34, a34, c34, es34⟩ ⟨htr34, hrd34, hle34, hla34⟩
  simp only at htr34 hrd34 hle34 hla34 ⊢
  refine ow_val (val_move rfl) rfl ?_   -- 31
  refine ow_val (val_extract rfl rfl) rfl ?_   -- 35
  refine ow_val (val_extract rfl rfl) rfl ?_   -- 36
  refine ow_val (val_extract rfl rfl) rfl ?_   -- 37
  refine ow_val (val_assign rfl) rfl ?_   -- 13
  refine ow_val (val_assign rfl) rfl ?_   -- 14
  refine ow_val (val_assign rfl) rfl ?_   -- 15
  refine ow_nil (into ?_)
  refine sw_seq ?_
  refine sw_region ?_
  refine ow_val (val_move rfl) rfl ?_   -- 39
  refine ow_val (val_move rfl) rfl ?_   -- 40
  refine ow_call_row (E := 41) (size := 32) (k := l.length) (xs := List.flatMap (fun d : List UInt8 => List.map vU8 d) l) (callsTo Tryd.func25 rfl (by kernel_rfl) rfl) rfl (fun w hm => twin_any w a c l hdl (hr.mem hm) hc (by omega)) (fun a41 c41 e41 hr41 => ?_)   -- 41
  refine ow_val (val_move rfl) rfl ?_   -- 42
  refine ow_append' (k := l.length + l2.length) (xs := (l ++ l2).flatMap fun d => d.map vU8) (acts_row (acts_append (size := 32) (bytes := 32) 0 rfl rfl rfl hr41 rfl Tryd.underlying22 hDi hDz hDsz hDby rfl (by decide) (fun w hm => (hr2.mem hm)) (flatMap_size' rfl hd2) (one_dgs _) (by omega) (by omega)) rfl (by simp only [List.flatMap_append, List.flatMap_cons, List.flatMap_nil, List.flatten_cons, List.flatten_nil, List.nil_append, List.append_nil])) rfl (fun a43 c43 e43 hr43' => ?_)   -- 43
  have hx43 : (l ++ l2).length = l.length + l2.length := by rw [List.length_append] <;> rfl
  refine ow_call_tail (σ := Nat × Option Addr × Nat × List Ent) (fun q9 => .tuple #[vPtr q9.1, .slice q9.2.1 (L ++ M).length q9.2.2.1, .bool true]) (fun q9 => q9.2.2.2) (fun q9 => TrOn 110 79 k q9.2.2.2 q9.1 (L ++ M) ∧ RdOn q9.2.2.2 q9.2.1 (List.flatMap (fun d : List UInt8 => List.map vU8 d) (L ++ M)) ∧ (L ++ M).length ≤ q9.2.2.1 ∧ (0 < (L ++ M).length → ∃ b o, q9.2.1 = some ⟨b, o, none⟩)) (callsTo Tryd.func15 rfl (by kernel_rfl) rfl) rfl (fun w hm => tree_is k h1 h2 w (hK.mem0 hm) a43 (l.length + l2.length) c43 (l ++ l2) hx43 (both hdl hd2) (hr43'.rdAt hm (i := 0) rfl) hr43'.le (by omega) (by omega) hLM) ?_   -- 44
  rintro ⟨b44, a44, c44, es44⟩ ⟨htr44, hrd44, hle44, hla44⟩
  simp only at htr44 hrd44 hle44 hla44 ⊢
  refine ow_val (val_move rfl) rfl ?_   -- 38
  refine ow_val (val_extract rfl rfl) rfl ?_   -- 45
  refine ow_val (val_extract rfl rfl) rfl ?_   -- 46
  refine ow_val (val_extract rfl rfl) rfl ?_   -- 47
  refine ow_val (val_assign rfl) rfl ?_   -- 16
  refine ow_val (val_assign rfl) rfl ?_   -- 17
  refine ow_val (val_assign rfl) rfl ?_   -- 18
  refine ow_nil (into ?_)
  refine sw_seq ?_
  refine sw_seq ?_
  refine sw_region ?_
  refine ow_val (val_move rfl) rfl ?_   -- 48
  refine ow_val (val_not rfl) rfl ?_   -- 49
  refine ow_val (val_move rfl) rfl ?_   -- 50
  refine ow_guard_yes rfl rfl rfl ?_
  refine ow_val (val_move rfl) rfl ?_   -- 51
  refine ow_guard_yes rfl rfl rfl ?_
  refine ow_val (val_move rfl) rfl ?_   -- 52
  refine ow_guard_yes rfl rfl rfl ?_
  refine ow_val (val_len rfl Tryd.underlying22) rfl ?_   -- 53
  refine ow_guard_yes rfl rfl rfl ?_
  refine ow_val (val_conv_n_u64 L.length Tryd.underlying3 Tryd.underlying23 rfl rfl) rfl ?_   -- 54
  refine ow_guard_yes rfl rfl rfl ?_
  refine ow_val ((val_gtr_u64 rfl rfl).to (congrArg Value.bool (decide_eq_false ((fun h => absurd (UInt64.lt_iff_toNat_lt.1 h) (by rw [of_nat (by omega)]; omega)))))) rfl ?_   -- 55
  refine ow_val (val_pick_false rfl rfl) rfl ?_   -- 56
  refine ow_nil (into ?_)
  refine sw_false rfl rfl ?_
  refine sw_skip (into ?_)
  refine sw_seq ?_
  refine sw_seq ?_
  refine sw_region ?_
  refine ow_val (val_move rfl) rfl ?_   -- 57
  refine ow_val (val_eql_nilptr Tryd.underlying25 rfl rfl) rfl ?_   -- 58
  refine ow_val (val_move rfl) rfl ?_   -- 59
  refine ow_guard_yes rfl rfl rfl ?_
  refine ow_val (val_move rfl) rfl ?_   -- 60
  refine ow_guard_yes rfl rfl rfl ?_
  refine ow_val (val_eql_nilptr Tryd.underlying25 rfl rfl) rfl ?_   -- 61
  refine ow_val (val_pick_false rfl rfl) rfl ?_   -- 62
  refine ow_nil (into ?_)
  refine sw_false rfl rfl ?_
  refine sw_skip (into ?_)
  refine sw_seq ?_
  refine sw_region ?_
  refine ow_val (val_move rfl) rfl ?_   -- 64
  refine ow_val (val_move rfl) rfl ?_   -- 65
  refine ow_val (val_move rfl) rfl ?_   -- 66
  refine ow_call_row2 (E := 41) (size := 32) (k := P.length) (xs := List.flatMap (fun d : List UInt8 => List.map vU8 d) P) (x := vInt ((0 : Nat) : Int)) (callsTo Tryd.func16 rfl (by kernel_rfl) rfl) rfl (fun w hm => incl_okU k h1 h2 b34 L (by assumption) (by assumption) (by omega) i n w (hK.mem0 hm) ((htr34.left (T' := es44)).is (hm.heldSub (.cons _ (List.Sublist.refl _)))) hok _ hP) (fun a67 c67 e67 hr67 => ?_)   -- 67
  refine ow_val (val_move rfl) rfl ?_   -- 63
  refine ow_val (val_extract rfl rfl) rfl ?_   -- 68
  refine ow_val (val_extract rfl rfl) rfl ?_   -- 69
  refine ow_val (val_assign rfl) rfl ?_   -- 19
  refine ow_val (val_assign rfl) rfl ?_   -- 20
  refine ow_nil (into ?_)
  refine sw_seq ?_
  refine sw_region ?_
  refine ow_val (val_move rfl) rfl ?_   -- 71
  refine ow_val (val_move rfl) rfl ?_   -- 72
  refine ow_val (val_move rfl) rfl ?_   -- 73
  refine ow_call_row2 (E := 41) (size := 32) (k := P.length) (xs := List.flatMap (fun d : List UInt8 => List.map vU8 d) P) (x := vInt ((0 : Nat) : Int)) (callsTo Tryd.func16 rfl (by kernel_rfl) rfl) rfl (fun w hm => incl_okU k h1 h2 b44 (L ++ M) (by assumption) (by assumption) (by omega) i n w (hK.mem0 hm) ((htr44.right (T' := es34)).is (hm.heldSub (.cons _ (.cons _ (List.Sublist.refl _))))) hok' _ hP') (fun a74 c74 e74 hr74 => ?_)   -- 74
  refine ow_val (val_move rfl) rfl ?_   -- 70
  refine ow_val (val_extract rfl rfl) rfl ?_   -- 75
  refine ow_val (val_extract rfl rfl) rfl ?_   -- 76
  refine ow_val (val_assign rfl) rfl ?_   -- 21
  refine ow_val (val_assign rfl) rfl ?_   -- 22
  refine ow_nil (into ?_)
  refine sw_seq ?_
  refine sw_region ?_
  refine ow_val (val_move rfl) rfl ?_   -- 78
  refine ow_val (val_move rfl) rfl ?_   -- 79
  refine ow_val (val_move rfl) rfl ?_   -- 80
  refine ow_call_pure (v := .tuple #[.slice none 0 0, vInt ((4 : Nat) : Int)]) (callsTo Tryd.func19 rfl (by kernel_rfl) rfl) rfl (fun w hm => cons_noU k b34 L m n w ((htr34.left (T' := es44)).is (hm.heldSub (.cons _ (.cons _ (.cons _ (List.Sublist.refl _)))))) (by omega) (fun h => hm9 h.1)) ?_   -- 81
  refine ow_val (val_move rfl) rfl ?_   -- 77
  refine ow_val (val_extract rfl rfl) rfl ?_   -- 82
  refine ow_val (val_extract rfl rfl) rfl ?_   -- 83
  refine ow_val (val_assign rfl) rfl ?_   -- 23
  refine ow_val (val_assign rfl) rfl ?_   -- 24
  refine ow_nil (into ?_)
  refine sw_seq ?_
  refine sw_region ?_
  refine ow_val (val_move rfl) rfl ?_   -- 85
  refine ow_val (val_move rfl) rfl ?_   -- 86
  refine ow_val (val_move rfl) rfl ?_   -- 87
  refine ow_call_pure (v := .tuple #[.slice none 0 0, vInt ((4 : Nat) : Int)]) (callsTo Tryd.func19 rfl (by kernel_rfl) rfl) rfl (fun w hm => cons_noU k b44 (L ++ M) m n w ((htr44.right (T' := es34)).is (hm.heldSub (.cons _ (.cons _ (.cons _ (List.Sublist.refl _)))))) (by omega) (fun h => hm9 h.1)) ?_   -- 88
  refine ow_val (val_move rfl) rfl ?_   -- 84
  refine ow_val (val_extract rfl rfl) rfl ?_   -- 89
  refine ow_val (val_extract rfl rfl) rfl ?_   -- 90
  refine ow_val (val_assign rfl) rfl ?_   -- 25
  refine ow_val (val_assign rfl) rfl ?_   -- 26
  refine ow_nil (into ?_)
  refine sw_seq ?_
  refine sw_region ?_
  refine ow_val (val_move rfl) rfl ?_   -- 92
  refine ow_val (val_move rfl) rfl ?_   -- 93
  refine ow_val (val_move rfl) rfl ?_   -- 94
  refine ow_call_row2 (E := 41) (size := 32) (k := P.length) (xs := List.flatMap (fun d : List UInt8 => List.map vU8 d) P) (x := vInt ((0 : Nat) : Int)) (callsTo Tryd.func16 rfl (by kernel_rfl) rfl) rfl (fun w hm => incl_okU k h1 h2 b34 L (by assumption) (by assumption) (by omega) i n w (hK.mem0 hm) ((htr34.left (T' := es44)).is (hm.heldSub (.cons _ (.cons _ (.cons _ (List.Sublist.refl _)))))) hok _ hP) (fun a95 c95 e95 hr95 => ?_)   -- 95
  refine ow_val (val_move rfl) rfl ?_   -- 91
  refine ow_val (val_extract rfl rfl) rfl ?_   -- 96
  refine ow_val (val_extract rfl rfl) rfl ?_   -- 97
  refine ow_val (val_assign rfl) rfl ?_   -- 27
  refine ow_val (val_assign rfl) rfl ?_   -- 28
  refine ow_nil (into ?_)
  refine sw_seq ?_
  refine sw_region ?_
  refine ow_val (val_move rfl) rfl ?_   -- 98
  refine ow_val (val_move rfl) rfl ?_   -- 99
  refine ow_val ((val_eql_int rfl rfl).to (v' := .bool true) (congrArg Value.bool (decide_eq_true rfl))) rfl ?_   -- 100
  refine ow_val (val_move rfl) rfl ?_   -- 101
  refine ow_guard_yes rfl rfl rfl ?_
  refine ow_val (val_move rfl) rfl ?_   -- 102
  refine ow_guard_yes rfl rfl rfl ?_
  refine ow_val (val_move rfl) rfl ?_   -- 103
  refine ow_guard_yes rfl rfl rfl ?_
  refine ow_val ((val_eql_int rfl rfl).to (v' := .bool true) (congrArg Value.bool (decide_eq_true rfl))) rfl ?_   -- 104
  refine ow_val (val_pick_true rfl rfl) rfl ?_   -- 105
  refine ow_val (val_move rfl) rfl ?_   -- 106
  refine ow_guard_yes rfl rfl rfl ?_
  refine ow_val (val_move rfl) rfl ?_   -- 107
  refine ow_guard_yes rfl rfl rfl ?_
  refine ow_val (val_move rfl) rfl ?_   -- 108
  refine ow_guard_yes rfl rfl rfl ?_
  refine ow_val ((val_eql_int rfl rfl).to (v' := .bool true) (congrArg Value.bool (decide_eq_true rfl))) rfl ?_   -- 109
  refine ow_val (val_pick_true rfl rfl) rfl ?_   -- 110
  refine ow_val (val_move rfl) rfl ?_   -- 111
  refine ow_guard_yes rfl rfl rfl ?_
  refine ow_val (val_move rfl) rfl ?_   -- 112
  refine ow_guard_yes rfl rfl rfl ?_
  refine ow_val (val_move rfl) rfl ?_   -- 113
  refine ow_guard_yes rfl rfl rfl ?_
  refine ow_call_pure (v := .bool true) (callsTo Tryd.func18 rfl (by kernel_rfl) rfl) rfl (fun w hm => same_is w a67 P.length c67 P rfl hPd (hr67.rdAt hm (i := 2) rfl) hr67.le (by omega) a74 P.length c74 P rfl hPd (hr74.rdAt hm (i := 1) rfl) hr74.le (by omega) (decide_eq_true rfl)) ?_   -- 114
  refine ow_val (val_pick_true rfl rfl) rfl ?_   -- 115
  refine ow_val (val_move rfl) rfl ?_   -- 116
  refine ow_guard_yes rfl rfl rfl ?_
  refine ow_val (val_move rfl) rfl ?_   -- 117
  refine ow_guard_yes rfl rfl rfl ?_
  refine ow_val (val_move rfl) rfl ?_   -- 118
  refine ow_guard_yes rfl rfl rfl ?_
  refine ow_call_pure (v := .bool true) (callsTo Tryd.func18 rfl (by kernel_rfl) rfl) rfl (fun w hm => same_is w a67 P.length c67 P rfl hPd (hr67.rdAt hm (i := 2) rfl) hr67.le (by omega) a95 P.length c95 P rfl hPd (hr95.rdAt hm (i := 0) rfl) hr95.le (by omega) (decide_eq_true rfl)) ?_   -- 119
  refine ow_val (val_pick_true rfl rfl) rfl ?_   -- 120
  refine ow_val (val_move rfl) rfl ?_   -- 121
  refine ow_guard_yes rfl rfl rfl ?_
  refine ow_val (val_move rfl) rfl ?_   -- 122
  refine ow_guard_yes rfl rfl rfl ?_
  refine ow_val (val_move rfl) rfl ?_   -- 123
  refine ow_guard_yes rfl rfl rfl ?_
  refine ow_call_pure (v := .bool true) (callsTo Tryd.func18 rfl (by kernel_rfl) rfl) rfl (fun w hm => same_is w none 0 0 [] rfl (fun _ h => by cases h) (Rd.nil _ _) (Nat.le_refl _) (by decide) none 0 0 [] rfl (fun _ h => by cases h) (Rd.nil _ _) (Nat.le_refl _) (by decide) (decide_eq_true rfl)) ?_   -- 124
  refine ow_val (val_pick_true rfl rfl) rfl ?_   -- 125
  refine ow_val (val_assign rfl) rfl ?_   -- 12
  refine ow_nil (into ?_)
  exact sw_ret (fun w hm => ret_one _ rfl rfl ⟨rfl, hm.forgetAll⟩)

theorem past_ny (k : Nat) (h1 : 1 ≤ k) (h2 : k ≤ 32) (i m n : UInt64) (w : World) (hK : KW w) (a : Option Addr) (c : Nat) (l : List (List UInt8)) (hdl : ∀ d ∈ l, d.length = 32) (hr : Rd w a (l.flatMap fun d => d.map vU8)) (hc : l.length ≤ c) (hb : l.length ≤ 1048576) (a2 : Option Addr) (c2 : Nat) (l2 : List (List UInt8)) (hd2 : ∀ d ∈ l2, d.length = 32) (hr2 : Rd w a2 (l2.flatMap fun d => d.map vU8)) (hc2 : l2.length ≤ c2) (hb2 : l2.length ≤ 1048576) (L M : List (List UInt8)) (hL : cutL k l = L) (hM : cutL k l2 = M) (hn : n.toNat ≤ L.length) (hi : ¬ i.toNat < n.toNat) (hm9 : m.toNat ≤ n.toNat) : Calls Tryd.prog 7 #[vInt (k : Int), .slice a l.length c, .slice a2 l2.length c2, vU64 i, vU64 m, vU64 n] w fun e w' => ∃ v, e = .returned v ∧ v = .bool true ∧ Mem w [] [] w' := by
  obtain ⟨tiD, hDi, hDz, hDsz, hDby⟩ := info_parts iDg
  have hLM : cutL k (l ++ l2) = L ++ M := by rw [← hL, ← hM]; exact List.map_append
  have hcl := cutL_ok h1 h2 hdl
  have hcm := cutL_ok h1 h2 hd2
  rw [hL] at hcl
  rw [hM] at hcm
  have hLd := hcl.1
  have hLf := hcl.2
  have hLMd := both hcl.1 hcm.1
  have hLMf := both hcl.2 hcm.2
  have hLn : L.length = l.length := by rw [← hL]; exact cutL_len k l
  have hMn : M.length = l2.length := by rw [← hM]; exact cutL_len k l2
  have hLMn : (L ++ M).length = L.length + M.length := List.length_append
  have hokc : m.toNat ≤ n.toNat ∧ n.toNat ≤ L.length := ⟨hm9, hn⟩
  have hokc' : m.toNat ≤ n.toNat ∧ n.toNat ≤ (L ++ M).length := ⟨hm9, by omega⟩
  obtain ⟨Q, hQ⟩ : ∃ P, conO k L m.toNat n.toNat = P := ⟨_, rfl⟩
  have hQ' : conO k (L ++ M) m.toNat n.toNat = Q := by rw [← hQ, conO, conO, seg_app hn]
  have hQm := conO_mem h1 h2 hLd hLf (i := m.toNat) (n := n.toNat)
  rw [hQ] at hQm
  have hQd := fun d hd => (hQm d hd).1
  have hQf := fun d hd => (hQm d hd).2
  have hQn : Q.length < 4611686018427387904 := by
    rw [← hQ]; have h7 := conO_len (k := k) (l := L) (i := m.toNat) hn; omega
  refine calls_of_sw (vs := [vInt (k : Int), .slice a l.length c, .slice a2 l2.length c2, vU64 i, vU64 m, vU64 n]) Tryd.func7 rfl Tryd.ntmps7 rfl (SW.begin ?_)
  refine sw_seq ?_
  refine sw_region ?_
  refine ow_val (val_assign rfl) rfl ?_   -- 12
  refine ow_nil (into ?_)
  refine sw_seq ?_
  refine sw_seq ?_
  refine sw_region ?_
  refine ow_call_pure (v := .bool true) (callsTo Tryd.func14 rfl (by kernel_rfl) rfl) rfl (fun w hm => awake_any w (hK.mem0 hm)) ?_   -- 29
  refine ow_val (val_not rfl) rfl ?_   -- 30
  refine ow_nil (into ?_)
  refine sw_false rfl rfl ?_
  refine sw_skip (into ?_)
  refine sw_seq ?_
  refine sw_region ?_
  refine ow_val (val_move rfl) rfl ?_   -- 32
  refine ow_val (val_move rfl) rfl ?_   -- 33
  refine ow_call_tail (σ := Nat × Option Addr × Nat × List Ent) (fun q9 => .tuple #[vPtr q9.1, .slice q9.2.1 L.length q9.2.2.1, .bool true]) (fun q9 => q9.2.2.2) (fun q9 => TrOn 110 79 k q9.2.2.2 q9.1 L ∧ RdOn q9.2.2.2 q9.2.1 (List.flatMap (fun d : List UInt8 => List.map vU8 d) L) ∧ L.length ≤ q9.2.2.1 ∧ (0 < L.length → ∃ b o, q9.2.1 = some ⟨b, o, none⟩)) (callsTo Tryd.func15 rfl (by kernel_rfl) rfl) rfl (fun w hm => tree_is k h1 h2 w (hK.mem0 hm) a l.length c l rfl hdl (hr.mem hm) (by omega) (by omega) (by omega) hL) ?_   -- 34
  rintro ⟨b34, a34, c34, es34⟩ ⟨htr34, hrd34, hle34, hla34⟩
  simp only at htr34 hrd34 hle34 hla34 ⊢
  refine ow_val (val_move rfl) rfl ?_   -- 31
  refine ow_val (val_extract rfl rfl) rfl ?_   -- 35
  refine ow_val (val_extract rfl rfl) rfl ?_   -- 36
  refine ow_val (val_extract rfl rfl) rfl ?_   -- 37
  refine ow_val (val_assign rfl) rfl ?_   -- 13
  refine ow_val (val_assign rfl) rfl ?_   -- 14
  refine ow_val (val_assign rfl) rfl ?_   -- 15
  refine ow_nil (into ?_)
  refine sw_seq ?_
  refine sw_region ?_
  refine ow_val (val_move rfl) rfl ?_   -- 39
  refine ow_val (val_move rfl) rfl ?_   -- 40
  refine ow_call_row (E := 41) (size := 32) (k := l.length) (xs := List.flatMap (fun d : List UInt8 => List.map vU8 d) l) (callsTo Tryd.func25 rfl (by kernel_rfl) rfl) rfl (fun w hm => twin_any w a c l hdl (hr.mem hm) hc (by omega)) (fun a41 c41 e41 hr41 => ?_)   -- 41
  refine ow_val (val_move rfl) rfl ?_   -- 42
  refine ow_append' (k := l.length + l2.length) (xs := (l ++ l2).flatMap fun d => d.map vU8) (acts_row (acts_append (size := 32) (bytes := 32) 0 rfl rfl rfl hr41 rfl Tryd.underlying22 hDi hDz hDsz hDby rfl (by decide) (fun w hm => (hr2.mem hm)) (flatMap_size' rfl hd2) (one_dgs _) (by omega) (by omega)) rfl (by simp only [List.flatMap_append, List.flatMap_cons, List.flatMap_nil, List.flatten_cons, List.flatten_nil, List.nil_append, List.append_nil])) rfl (fun a43 c43 e43 hr43' => ?_)   -- 43
  have hx43 : (l ++ l2).length = l.length + l2.length := by rw [List.length_append] <;> rfl
  refine ow_call_tail (σ := Nat × Option Addr × Nat × List Ent) (fun q9 => .tuple #[vPtr q9.1, .slice q9.2.1 (L ++ M).length q9.2.2.1, .bool true]) (fun q9 => q9.2.2.2) (fun q9 => TrOn 110 79 k q9.2.2.2 q9.1 (L ++ M) ∧ RdOn q9.2.2.2 q9.2.1 (List.flatMap (fun d : List UInt8 => List.map vU8 d) (L ++ M)) ∧ (L ++ M).length ≤ q9.2.2.1 ∧ (0 < (L ++ M).length → ∃ b o, q9.2.1 = some ⟨b, o, none⟩)) (callsTo Tryd.func15 rfl (by kernel_rfl) rfl) rfl (fun w hm => tree_is k h1 h2 w (hK.mem0 hm) a43 (l.length + l2.length) c43 (l ++ l2) hx43 (both hdl hd2) (hr43'.rdAt hm (i := 0) rfl) hr43'.le (by omega) (by omega) hLM) ?_   -- 44
  rintro ⟨b44, a44, c44, es44⟩ ⟨htr44, hrd44, hle44, hla44⟩
  simp only at htr44 hrd44 hle44 hla44 ⊢
  refine ow_val (val_move rfl) rfl ?_   -- 38
  refine ow_val (val_extract rfl rfl) rfl ?_   -- 45
  refine ow_val (val_extract rfl rfl) rfl ?_   -- 46
  refine ow_val (val_extract rfl rfl) rfl ?_   -- 47
  refine ow_val (val_assign rfl) rfl ?_   -- 16
  refine ow_val (val_assign rfl) rfl ?_   -- 17
  refine ow_val (val_assign rfl) rfl ?_   -- 18
  refine ow_nil (into ?_)
  refine sw_seq ?_
  refine sw_seq ?_
  refine sw_region ?_
  refine ow_val (val_move rfl) rfl ?_   -- 48
  refine ow_val (val_not rfl) rfl ?_   -- 49
  refine ow_val (val_move rfl) rfl ?_   -- 50
  refine ow_guard_yes rfl rfl rfl ?_
  refine ow_val (val_move rfl) rfl ?_   -- 51
  refine ow_guard_yes rfl rfl rfl ?_
  refine ow_val (val_move rfl) rfl ?_   -- 52
  refine ow_guard_yes rfl rfl rfl ?_
  refine ow_val (val_len rfl Tryd.underlying22) rfl ?_   -- 53
  refine ow_guard_yes rfl rfl rfl ?_
  refine ow_val (val_conv_n_u64 L.length Tryd.underlying3 Tryd.underlying23 rfl rfl) rfl ?_   -- 54
  refine ow_guard_yes rfl rfl rfl ?_
  refine ow_val ((val_gtr_u64 rfl rfl).to (congrArg Value.bool (decide_eq_false ((fun h => absurd (UInt64.lt_iff_toNat_lt.1 h) (by rw [of_nat (by omega)]; omega)))))) rfl ?_   -- 55
  refine ow_val (val_pick_false rfl rfl) rfl ?_   -- 56
  refine ow_nil (into ?_)
  refine sw_false rfl rfl ?_
  refine sw_skip (into ?_)
  refine sw_seq ?_
  refine sw_seq ?_
  refine sw_region ?_
  refine ow_val (val_move rfl) rfl ?_   -- 57
  refine ow_val (val_eql_nilptr Tryd.underlying25 rfl rfl) rfl ?_   -- 58
  refine ow_val (val_move rfl) rfl ?_   -- 59
  refine ow_guard_yes rfl rfl rfl ?_
  refine ow_val (val_move rfl) rfl ?_   -- 60
  refine ow_guard_yes rfl rfl rfl ?_
  refine ow_val (val_eql_nilptr Tryd.underlying25 rfl rfl) rfl ?_   -- 61
  refine ow_val (val_pick_false rfl rfl) rfl ?_   -- 62
  refine ow_nil (into ?_)
  refine sw_false rfl rfl ?_
  refine sw_skip (into ?_)
  refine sw_seq ?_
  refine sw_region ?_
  refine ow_val (val_move rfl) rfl ?_   -- 64
  refine ow_val (val_move rfl) rfl ?_   -- 65
  refine ow_val (val_move rfl) rfl ?_   -- 66
  refine ow_call_pure (v := .tuple #[.slice none 0 0, vInt ((4 : Nat) : Int)]) (callsTo Tryd.func16 rfl (by kernel_rfl) rfl) rfl (fun w hm => incl_noU k b34 L i n w ((htr34.left (T' := es44)).is (hm.heldSub (.cons _ (List.Sublist.refl _)))) (by omega) (fun h => hi h.1)) ?_   -- 67
  refine ow_val (val_move rfl) rfl ?_   -- 63
  refine ow_val (val_extract rfl rfl) rfl ?_   -- 68
  refine ow_val (val_extract rfl rfl) rfl ?_   -- 69
  refine ow_val (val_assign rfl) rfl ?_   -- 19
  refine ow_val (val_assign rfl) rfl ?_   -- 20
  refine ow_nil (into ?_)
  refine sw_seq ?_
  refine sw_region ?_
  refine ow_val (val_move rfl) rfl ?_   -- 71
  refine ow_val (val_move rfl) rfl ?_   -- 72
  refine ow_val (val_move rfl) rfl ?_   -- 73
  refine ow_call_pure (v := .tuple #[.slice none 0 0, vInt ((4 : Nat) : Int)]) (callsTo Tryd.func16 rfl (by kernel_rfl) rfl) rfl (fun w hm => incl_noU k b44 (L ++ M) i n w ((htr44.right (T' := es34)).is (hm.heldSub (.cons _ (List.Sublist.refl _)))) (by omega) (fun h => hi h.1)) ?_   -- 74
  refine ow_val (val_move rfl) rfl ?_   -- 70
  refine ow_val (val_extract rfl rfl) rfl ?_   -- 75
  refine ow_val (val_extract rfl rfl) rfl ?_   -- 76
  refine ow_val (val_assign rfl) rfl ?_   -- 21
  refine ow_val (val_assign rfl) rfl ?_   -- 22
  refine ow_nil (into ?_)
  refine sw_seq ?_
  refine sw_region ?_
  refine ow_val (val_move rfl) rfl ?_   -- 78
  refine ow_val (val_move rfl) rfl ?_   -- 79
  refine ow_val (val_move rfl) rfl ?_   -- 80
  refine ow_call_row2 (E := 41) (size := 32) (k := Q.length) (xs := List.flatMap (fun d : List UInt8 => List.map vU8 d) Q) (x := vInt ((0 : Nat) : Int)) (callsTo Tryd.func19 rfl (by kernel_rfl) rfl) rfl (fun w hm => cons_okU k h1 h2 b34 L (by assumption) (by assumption) (by omega) m n w (hK.mem0 hm) ((htr34.left (T' := es44)).is (hm.heldSub (.cons _ (List.Sublist.refl _)))) hokc _ hQ) (fun a81 c81 e81 hr81 => ?_)   -- 81
  refine ow_val (val_move rfl) rfl ?_   -- 77
  refine ow_val (val_extract rfl rfl) rfl ?_   -- 82
  refine ow_val (val_extract rfl rfl) rfl ?_   -- 83
  refine ow_val (val_assign rfl) rfl ?_   -- 23
  refine ow_val (val_assign rfl) rfl ?_   -- 24
  refine ow_nil (into ?_)
  refine sw_seq ?_
  refine sw_region ?_
  refine ow_val (val_move rfl) rfl ?_   -- 85
  refine ow_val (val_move rfl) rfl ?_   -- 86
  refine ow_val (val_move rfl) rfl ?_   -- 87
  refine ow_call_row2 (E := 41) (size := 32) (k := Q.length) (xs := List.flatMap (fun d : List UInt8 => List.map vU8 d) Q) (x := vInt ((0 : Nat) : Int)) (callsTo Tryd.func19 rfl (by kernel_rfl) rfl) rfl (fun w hm => cons_okU k h1 h2 b44 (L ++ M) (by assumption) (by assumption) (by omega) m n w (hK.mem0 hm) ((htr44.right (T' := es34)).is (hm.heldSub (.cons _ (.cons _ (List.Sublist.refl _))))) hokc' _ hQ') (fun a88 c88 e88 hr88 => ?_)   -- 88
  refine ow_val (val_move rfl) rfl ?_   -- 84
  refine ow_val (val_extract rfl rfl) rfl ?_   -- 89
  refine ow_val (val_extract rfl rfl) rfl ?_   -- 90
  refine ow_val (val_assign rfl) rfl ?_   -- 25
  refine ow_val (val_assign rfl) rfl ?_   -- 26
  refine ow_nil (into ?_)
  refine sw_seq ?_
  refine sw_region ?_
  refine ow_val (val_move rfl) rfl ?_   -- 92
  refine ow_val (val_move rfl) rfl ?_   -- 93
  refine ow_val (val_move rfl) rfl ?_   -- 94
  refine ow_call_pure (v := .tuple #[.slice none 0 0, vInt ((4 : Nat) : Int)]) (callsTo Tryd.func16 rfl (by kernel_rfl) rfl) rfl (fun w hm => incl_noU k b34 L i n w ((htr34.left (T' := es44)).is (hm.heldSub (.cons _ (.cons _ (.cons _ (List.Sublist.refl _)))))) (by omega) (fun h => hi h.1)) ?_   -- 95
  refine ow_val (val_move rfl) rfl ?_   -- 91
  refine ow_val (val_extract rfl rfl) rfl ?_   -- 96
  refine ow_val (val_extract rfl rfl) rfl ?_   -- 97
  refine ow_val (val_assign rfl) rfl ?_   -- 27
  refine ow_val (val_assign rfl) rfl ?_   -- 28
  refine ow_nil (into ?_)
  refine sw_seq ?_
  refine sw_region ?_
  refine ow_val (val_move rfl) rfl ?_   -- 98
  refine ow_val (val_move rfl) rfl ?_   -- 99
  refine ow_val ((val_eql_int rfl rfl).to (v' := .bool true) (congrArg Value.bool (decide_eq_true rfl))) rfl ?_   -- 100
  refine ow_val (val_move rfl) rfl ?_   -- 101
  refine ow_guard_yes rfl rfl rfl ?_
  refine ow_val (val_move rfl) rfl ?_   -- 102
  refine ow_guard_yes rfl rfl rfl ?_
  refine ow_val (val_move rfl) rfl ?_   -- 103
  refine ow_guard_yes rfl rfl rfl ?_
  refine ow_val ((val_eql_int rfl rfl).to (v' := .bool true) (congrArg Value.bool (decide_eq_true rfl))) rfl ?_   -- 104
  refine ow_val (val_pick_true rfl rfl) rfl ?_   -- 105
  refine ow_val (val_move rfl) rfl ?_   -- 106
  refine ow_guard_yes rfl rfl rfl ?_
  refine ow_val (val_move rfl) rfl ?_   -- 107
  refine ow_guard_yes rfl rfl rfl ?_
  refine ow_val (val_move rfl) rfl ?_   -- 108
  refine ow_guard_yes rfl rfl rfl ?_
  refine ow_val ((val_eql_int rfl rfl).to (v' := .bool true) (congrArg Value.bool (decide_eq_true rfl))) rfl ?_   -- 109
  refine ow_val (val_pick_true rfl rfl) rfl ?_   -- 110
  refine ow_val (val_move rfl) rfl ?_   -- 111
  refine ow_guard_yes rfl rfl rfl ?_
  refine ow_val (val_move rfl) rfl ?_   -- 112
  refine ow_guard_yes rfl rfl rfl ?_
  refine ow_val (val_move rfl) rfl ?_   -- 113
  refine ow_guard_yes rfl rfl rfl ?_
  refine ow_call_pure (v := .bool true) (callsTo Tryd.func18 rfl (by kernel_rfl) rfl) rfl (fun w hm => same_is w none 0 0 [] rfl (fun _ h => by cases h) (Rd.nil _ _) (Nat.le_refl _) (by decide) none 0 0 [] rfl (fun _ h => by cases h) (Rd.nil _ _) (Nat.le_refl _) (by decide) (decide_eq_true rfl)) ?_   -- 114
  refine ow_val (val_pick_true rfl rfl) rfl ?_   -- 115
  refine ow_val (val_move rfl) rfl ?_   -- 116
  refine ow_guard_yes rfl rfl rfl ?_
  refine ow_val (val_move rfl) rfl ?_   -- 117
  refine ow_guard_yes rfl rfl rfl ?_
  refine ow_val (val_move rfl) rfl ?_   -- 118
  refine ow_guard_yes rfl rfl rfl ?_
  refine ow_call_pure (v := .bool true) (callsTo Tryd.func18 rfl (by kernel_rfl) rfl) rfl (fun w hm => same_is w none 0 0 [] rfl (fun _ h => by cases h) (Rd.nil _ _) (Nat.le_refl _) (by decide) none 0 0 [] rfl (fun _ h => by cases h) (Rd.nil _ _) (Nat.le_refl _) (by decide) (decide_eq_true rfl)) ?_   -- 119
  refine ow_val (val_pick_true rfl rfl) rfl ?_   -- 120
  refine ow_val (val_move rfl) rfl ?_   -- 121
  refine ow_guard_yes rfl rfl rfl ?_
  refine ow_val (val_move rfl) rfl ?_   -- 122
  refine ow_guard_yes rfl rfl rfl ?_
  refine ow_val (val_move rfl) rfl ?_   -- 123
  refine ow_guard_yes rfl rfl rfl ?_
  refine ow_call_pure (v := .bool true) (callsTo Tryd.func18 rfl (by kernel_rfl) rfl) rfl (fun w hm => same_is w a81 Q.length c81 Q rfl hQd (hr81.rdAt hm (i := 1) rfl) hr81.le (by omega) a88 Q.length c88 Q rfl hQd (hr88.rdAt hm (i := 0) rfl) hr88.le (by omega) (decide_eq_true rfl)) ?_   -- 124
  refine ow_val (val_pick_true rfl rfl) rfl ?_   -- 125
  refine ow_val (val_assign rfl) rfl ?_   -- 12
  refine ow_nil (into ?_)
  exact sw_ret (fun w hm => ret_one _ rfl rfl ⟨rfl, hm.forgetAll⟩)

theorem past_nn (k : Nat) (h1 : 1 ≤ k) (h2 : k ≤ 32) (i m n : UInt64) (w : World) (hK : KW w) (a : Option Addr) (c : Nat) (l : List (List UInt8)) (hdl : ∀ d ∈ l, d.length = 32) (hr : Rd w a (l.flatMap fun d => d.map vU8)) (hc : l.length ≤ c) (hb : l.length ≤ 1048576) (a2 : Option Addr) (c2 : Nat) (l2 : List (List UInt8)) (hd2 : ∀ d ∈ l2, d.length = 32) (hr2 : Rd w a2 (l2.flatMap fun d => d.map vU8)) (hc2 : l2.length ≤ c2) (hb2 : l2.length ≤ 1048576) (L M : List (List UInt8)) (hL : cutL k l = L) (hM : cutL k l2 = M) (hn : n.toNat ≤ L.length) (hi : ¬ i.toNat < n.toNat) (hm9 : ¬ m.toNat ≤ n.toNat) : Calls Tryd.prog 7 #[vInt (k : Int), .slice a l.length c, .slice a2 l2.length c2, vU64 i, vU64 m, vU64 n] w fun e w' => ∃ v, e = .returned v ∧ v = .bool true ∧ Mem w [] [] w' := by
  obtain ⟨tiD, hDi, hDz, hDsz, hDby⟩ := info_parts iDg
  have hLM : cutL k (l ++ l2) = L ++ M := by rw [← hL, ← hM]; exact List.map_append
  have hcl := cutL_ok h1 h2 hdl
  have hcm := cutL_ok h1 h2 hd2
  rw [hL] at hcl
  rw [hM] at hcm
  have hLd := hcl.1
  have hLf := hcl.2
  have hLMd := both hcl.1 hcm.1
  have hLMf := both hcl.2 hcm.2
  have hLn : L.length = l.length := by rw [← hL]; exact cutL_len k l
  have hMn : M.length = l2.length := by rw [← hM]; exact cutL_len k l2
  have hLMn : (L ++ M).length = L.length + M.length := List.length_append
  refine calls_of_sw (vs := [vInt (k : Int), .slice a l.length c, .slice a2 l2.length c2, vU64 i, vU64 m, vU64 n]) Tryd.func7 rfl Tryd.ntmps7 rfl (SW.begin ?_)
  refine sw_seq ?_
  refine sw_region ?_
  refine ow_val (val_assign rfl) rfl ?_   -- 12
  refine ow_nil (into ?_)
  refine sw_seq ?_
  refine sw_seq ?_
  refine sw_region ?_
  refine ow_call_pure (v := .bool true) (callsTo Tryd.func14 rfl (by kernel_rfl) rfl) rfl (fun w hm => awake_any w (hK.mem0 hm)) ?_   -- 29
  refine ow_val (val_not rfl) rfl ?_   -- 30
  refine ow_nil (into ?_)
  refine sw_false rfl rfl ?_
  refine sw_skip (into ?_)
  refine sw_seq ?_
  refine sw_region ?_
  refine ow_val (val_move rfl) rfl ?_   -- 32
  refine ow_val (val_move rfl) rfl ?_   -- 33
  refine ow_call_tail (σ := Nat × Option Addr × Nat × List Ent) (fun q9 => .tuple #[vPtr q9.1, .slice q9.2.1 L.length q9.2.2.1, .bool true]) (fun q9 => q9.2.2.2) (fun q9 => TrOn 110 79 k q9.2.2.2 q9.1 L ∧ RdOn q9.2.2.2 q9.2.1 (List.flatMap (fun d : List UInt8 => List.map vU8 d) L) ∧ L.length ≤ q9.2.2.1 ∧ (0 < L.length → ∃ b o, q9.2.1 = some ⟨b, o, none⟩)) (callsTo Tryd.func15 rfl (by kernel_rfl) rfl) rfl (fun w hm => tree_is k h1 h2 w (hK.mem0 hm) a l.length c l rfl hdl (hr.mem hm) (by omega) (by omega) (by omega) hL) ?_   -- 34
  rintro ⟨b34, a34, c34, es34⟩ ⟨htr34, hrd34, hle34, hla34⟩
  simp only at htr34 hrd34 hle34 hla34 ⊢
  refine ow_val (val_move rfl) rfl ?_   -- 31
  refine ow_val (val_extract rfl rfl) rfl ?_   -- 35
  refine ow_val (val_extract rfl rfl) rfl ?_   -- 36
  refine ow_val (val_extract rfl rfl) rfl ?_   -- 37
  refine ow_val (val_assign rfl) rfl ?_   -- 13
  refine ow_val (val_assign rfl) rfl ?_   -- 14
  refine ow_val (val_assign rfl) rfl ?_   -- 15
  refine ow_nil (into ?_)
  refine sw_seq ?_
  refine sw_region ?_
  refine ow_val (val_move rfl) rfl ?_   -- 39
  refine ow_val (val_move rfl) rfl ?_   -- 40
  refine ow_call_row (E := 41) (size := 32) (k := l.length) (xs := List.flatMap (fun d : List UInt8 => List.map vU8 d) l) (callsTo Tryd.func25 rfl (by kernel_rfl) rfl) rfl (fun w hm => twin_any w a c l hdl (hr.mem hm) hc (by omega)) (fun a41 c41 e41 hr41 => ?_)   -- 41
  refine ow_val (val_move rfl) rfl ?_   -- 42
  refine ow_append' (k := l.length + l2.length) (xs := (l ++ l2).flatMap fun d => d.map vU8) (acts_row (acts_append (size := 32) (bytes := 32) 0 rfl rfl rfl hr41 rfl Tryd.underlying22 hDi hDz hDsz hDby rfl (by decide) (fun w hm => (hr2.mem hm)) (flatMap_size' rfl hd2) (one_dgs _) (by omega) (by omega)) rfl (by simp only [List.flatMap_append, List.flatMap_cons, List.flatMap_nil, List.flatten_cons, List.flatten_nil, List.nil_append, List.append_nil])) rfl (fun a43 c43 e43 hr43' => ?_)   -- 43
  have hx43 : (l ++ l2).length = l.length + l2.length := by rw [List.length_append] <;> rfl
  refine ow_call_tail (σ := Nat × Option Addr × Nat × List Ent) (fun q9 => .tuple #[vPtr q9.1, .slice q9.2.1 (L ++ M).length q9.2.2.1, .bool true]) (fun q9 => q9.2.2.2) (fun q9 => TrOn 110 79 k q9.2.2.2 q9.1 (L ++ M) ∧ RdOn q9.2.2.2 q9.2.1 (List.flatMap (fun d : List UInt8 => List.map vU8 d) (L ++ M)) ∧ (L ++ M).length ≤ q9.2.2.1 ∧ (0 < (L ++ M).length → ∃ b o, q9.2.1 = some ⟨b, o, none⟩)) (callsTo Tryd.func15 rfl (by kernel_rfl) rfl) rfl (fun w hm => tree_is k h1 h2 w (hK.mem0 hm) a43 (l.length + l2.length) c43 (l ++ l2) hx43 (both hdl hd2) (hr43'.rdAt hm (i := 0) rfl) hr43'.le (by omega) (by omega) hLM) ?_   -- 44
  rintro ⟨b44, a44, c44, es44⟩ ⟨htr44, hrd44, hle44, hla44⟩
  simp only at htr44 hrd44 hle44 hla44 ⊢
  refine ow_val (val_move rfl) rfl ?_   -- 38
  refine ow_val (val_extract rfl rfl) rfl ?_   -- 45
  refine ow_val (val_extract rfl rfl) rfl ?_   -- 46
  refine ow_val (val_extract rfl rfl) rfl ?_   -- 47
  refine ow_val (val_assign rfl) rfl ?_   -- 16
  refine ow_val (val_assign rfl) rfl ?_   -- 17
  refine ow_val (val_assign rfl) rfl ?_   -- 18
  refine ow_nil (into ?_)
  refine sw_seq ?_
  refine sw_seq ?_
  refine sw_region ?_
  refine ow_val (val_move rfl) rfl ?_   -- 48
  refine ow_val (val_not rfl) rfl ?_   -- 49
  refine ow_val (val_move rfl) rfl ?_   -- 50
  refine ow_guard_yes rfl rfl rfl ?_
  refine ow_val (val_move rfl) rfl ?_   -- 51
  refine ow_guard_yes rfl rfl rfl ?_
  refine ow_val (val_move rfl) rfl ?_   -- 52
  refine ow_guard_yes rfl rfl rfl ?_
  refine ow_val (val_len rfl Tryd.underlying22) rfl ?_   -- 53
  refine ow_guard_yes rfl rfl rfl ?_
  refine ow_val (val_conv_n_u64 L.length Tryd.underlying3 Tryd.underlying23 rfl rfl) rfl ?_   -- 54
  refine ow_guard_yes rfl rfl rfl ?_
  refine ow_val ((val_gtr_u64 rfl rfl).to (congrArg Value.bool (decide_eq_false ((fun h => absurd (UInt64.lt_iff_toNat_lt.1 h) (by rw [of_nat (by omega)]; omega)))))) rfl ?_   -- 55
  refine ow_val (val_pick_false rfl rfl) rfl ?_   -- 56
  refine ow_nil (into ?_)
  refine sw_false rfl rfl ?_
  refine sw_skip (into ?_)
  refine sw_seq ?_
  refine sw_seq ?_
  refine sw_region ?_
  refine ow_val (val_move rfl) rfl ?_   -- 57
  refine ow_val (val_eql_nilptr Tryd.underlying25 rfl rfl) rfl ?_   -- 58
  refine ow_val (val_move rfl) rfl ?_   -- 59
  refine ow_guard_yes rfl rfl rfl ?_
  refine ow_val (val_move rfl) rfl ?_   -- 60
  refine ow_guard_yes rfl rfl rfl ?_
  refine ow_val (val_eql_nilptr Tryd.underlying25 rfl rfl) rfl ?_   -- 61
  refine ow_val (val_pick_false rfl rfl) rfl ?_   -- 62
  refine ow_nil (into ?_)
  refine sw_false rfl rfl ?_
  refine sw_skip (into ?_)
  refine sw_seq ?_
  refine sw_region ?_
  refine ow_val (val_move rfl) rfl ?_   -- 64
  refine ow_val (val_move rfl) rfl ?_   -- 65
  refine ow_val (val_move rfl) rfl ?_   -- 66
  refine ow_call_pure (v := .tuple #[.slice none 0 0, vInt ((4 : Nat) : Int)]) (callsTo Tryd.func16 rfl (by kernel_rfl) rfl) rfl (fun w hm => incl_noU k b34 L i n w ((htr34.left (T' := es44)).is (hm.heldSub (.cons _ (List.Sublist.refl _)))) (by omega) (fun h => hi h.1)) ?_   -- 67
  refine ow_val (val_move rfl) rfl ?_   -- 63
  refine ow_val (val_extract rfl rfl) rfl ?_   -- 68
  refine ow_val (val_extract rfl rfl) rfl ?_   -- 69
  refine ow_val (val_assign rfl) rfl ?_   -- 19
  refine ow_val (val_assign rfl) rfl ?_   -- 20
  refine ow_nil (into ?_)
  refine sw_seq ?_
  refine sw_region ?_
  refine ow_val (val_move rfl) rfl ?_   -- 71
  refine ow_val (val_move rfl) rfl ?_   -- 72
  refine ow_val (val_move rfl) rfl ?_   -- 73
  refine ow_call_pure (v := .tuple #[.slice none 0 0, vInt ((4 : Nat) : Int)]) (callsTo Tryd.func16 rfl (by kernel_rfl) rfl) rfl (fun w hm => incl_noU k b44 (L ++ M) i n w ((htr44.right (T' := es34)).is (hm.heldSub (.cons _ (List.Sublist.refl _)))) (by omega) (fun h => hi h.1)) ?_   -- 74
  refine ow_val (val_move rfl) rfl ?_   -- 70
  refine ow_val (val_extract rfl rfl) rfl ?_   -- 75
  refine ow_val (val_extract rfl rfl) rfl ?_   -- 76
  refine ow_val (val_assign rfl) rfl ?_   -- 21
  refine ow_val (val_assign rfl) rfl ?_   -- 22
  refine ow_nil (into ?_)
  refine sw_seq ?_
  refine sw_region ?_
  refine ow_val (val_move rfl) rfl ?_   -- 78
  refine ow_val (val_move rfl) rfl ?_   -- 79
  refine ow_val (val_move rfl) rfl ?_   -- 80
  refine ow_call_pure (v := .tuple #[.slice none 0 0, vInt ((4 : Nat) : Int)]) (callsTo Tryd.func19 rfl (by kernel_rfl) rfl) rfl (fun w hm => cons_noU k b34 L m n w ((htr34.left (T' := es44)).is (hm.heldSub (.cons _ (List.Sublist.refl _)))) (by omega) (fun h => hm9 h.1)) ?_   -- 81
  refine ow_val (val_move rfl) rfl ?_   -- 77
  refine ow_val (val_extract rfl rfl) rfl ?_   -- 82
  refine ow_val (val_extract rfl rfl) rfl ?_   -- 83
  refine ow_val (val_assign rfl) rfl ?_   -- 23
  refine ow_val (val_assign rfl) rfl ?_   -- 24
  refine ow_nil (into ?_)
  refine sw_seq ?_
  refine sw_region ?_
  refine ow_val (val_move rfl) rfl ?_   -- 85
  refine ow_val (val_move rfl) rfl ?_   -- 86
  refine ow_val (val_move rfl) rfl ?_   -- 87
  refine ow_call_pure (v := .tuple #[.slice none 0 0, vInt ((4 : Nat) : Int)]) (callsTo Tryd.func19 rfl (by kernel_rfl) rfl) rfl (fun w hm => cons_noU k b44 (L ++ M) m n w ((htr44.right (T' := es34)).is (hm.heldSub (.cons _ (List.Sublist.refl _)))) (by omega) (fun h => hm9 h.1)) ?_   -- 88
  refine ow_val (val_move rfl) rfl ?_   -- 84
  refine ow_val (val_extract rfl rfl) rfl ?_   -- 89
  refine ow_val (val_extract rfl rfl) rfl ?_   -- 90
  refine ow_val (val_assign rfl) rfl ?_   -- 25
  refine ow_val (val_assign rfl) rfl ?_   -- 26
  refine ow_nil (into ?_)
  refine sw_seq ?_
  refine sw_region ?_
  refine ow_val (val_move rfl) rfl ?_   -- 92
  refine ow_val (val_move rfl) rfl ?_   -- 93
  refine ow_val (val_move rfl) rfl ?_   -- 94
  refine ow_call_pure (v := .tuple #[.slice none 0 0, vInt ((4 : Nat) : Int)]) (callsTo Tryd.func16 rfl (by kernel_rfl) rfl) rfl (fun w hm => incl_noU k b34 L i n w ((htr34.left (T' := es44)).is (hm.heldSub (.cons _ (List.Sublist.refl _)))) (by omega) (fun h => hi h.1)) ?_   -- 95
  refine ow_val (val_move rfl) rfl ?_   -- 91
  refine ow_val (val_extract rfl rfl) rfl ?_   -- 96
  refine ow_val (val_extract rfl rfl) rfl ?_   -- 97
  refine ow_val (val_assign rfl) rfl ?_   -- 27
  refine ow_val (val_assign rfl) rfl ?_   -- 28
  refine ow_nil (into ?_)
  refine sw_seq ?_
  refine sw_region ?_
  refine ow_val (val_move rfl) rfl ?_   -- 98
  refine ow_val (val_move rfl) rfl ?_   -- 99
  refine ow_val ((val_eql_int rfl rfl).to (v' := .bool true) (congrArg Value.bool (decide_eq_true rfl))) rfl ?_   -- 100
  refine ow_val (val_move rfl) rfl ?_   -- 101
  refine ow_guard_yes rfl rfl rfl ?_
  refine ow_val (val_move rfl) rfl ?_   -- 102
  refine ow_guard_yes rfl rfl rfl ?_
  refine ow_val (val_move rfl) rfl ?_   -- 103
  refine ow_guard_yes rfl rfl rfl ?_
  refine ow_val ((val_eql_int rfl rfl).to (v' := .bool true) (congrArg Value.bool (decide_eq_true rfl))) rfl ?_   -- 104
  refine ow_val (val_pick_true rfl rfl) rfl ?_   -- 105
  refine ow_val (val_move rfl) rfl ?_   -- 106
  refine ow_guard_yes rfl rfl rfl ?_
  refine ow_val (val_move rfl) rfl ?_   -- 107
  refine ow_guard_yes rfl rfl rfl ?_
  refine ow_val (val_move rfl) rfl ?_   -- 108
  refine ow_guard_yes rfl rfl rfl ?_
  refine ow_val ((val_eql_int rfl rfl).to (v' := .bool true) (congrArg Value.bool (decide_eq_true rfl))) rfl ?_   -- 109
  refine ow_val (val_pick_true rfl rfl) rfl ?_   -- 110
  refine ow_val (val_move rfl) rfl ?_   -- 111
  refine ow_guard_yes rfl rfl rfl ?_
  refine ow_val (val_move rfl) rfl ?_   -- 112
  refine ow_guard_yes rfl rfl rfl ?_
  refine ow_val (val_move rfl) rfl ?_   -- 113
  refine ow_guard_yes rfl rfl rfl ?_
  refine ow_call_pure (v := .bool true) (callsTo Tryd.func18 rfl (by kernel_rfl) rfl) rfl (fun w hm => same_is w none 0 0 [] rfl (fun _ h => by cases h) (Rd.nil _ _) (Nat.le_refl _) (by decide) none 0 0 [] rfl (fun _ h => by cases h) (Rd.nil _ _) (Nat.le_refl _) (by decide) (decide_eq_true rfl)) ?_   -- 114
  refine ow_val (val_pick_true rfl rfl) rfl ?_   -- 115
  refine ow_val (val_move rfl) rfl ?_   -- 116
  refine ow_guard_yes rfl rfl rfl ?_
  refine ow_val (val_move rfl) rfl ?_   -- 117
  refine ow_guard_yes rfl rfl rfl ?_
  refine ow_val (val_move rfl) rfl ?_   -- 118
  refine ow_guard_yes rfl rfl rfl ?_
  refine ow_call_pure (v := .bool true) (callsTo Tryd.func18 rfl (by kernel_rfl) rfl) rfl (fun w hm => same_is w none 0 0 [] rfl (fun _ h => by cases h) (Rd.nil _ _) (Nat.le_refl _) (by decide) none 0 0 [] rfl (fun _ h => by cases h) (Rd.nil _ _) (Nat.le_refl _) (by decide) (decide_eq_true rfl)) ?_   -- 119
  refine ow_val (val_pick_true rfl rfl) rfl ?_   -- 120
  refine ow_val (val_move rfl) rfl ?_   -- 121
  refine ow_guard_yes rfl rfl rfl ?_
  refine ow_val (val_move rfl) rfl ?_   -- 122
  refine ow_guard_yes rfl rfl rfl ?_
  refine ow_val (val_move rfl) rfl ?_   -- 123
  refine ow_guard_yes rfl rfl rfl ?_
  refine ow_call_pure (v := .bool true) (callsTo Tryd.func18 rfl (by kernel_rfl) rfl) rfl (fun w hm => same_is w none 0 0 [] rfl (fun _ h => by cases h) (Rd.nil _ _) (Nat.le_refl _) (by decide) none 0 0 [] rfl (fun _ h => by cases h) (Rd.nil _ _) (Nat.le_refl _) (by decide) (decide_eq_true rfl)) ?_   -- 124
  refine ow_val (val_pick_true rfl rfl) rfl ?_   -- 125
  refine ow_val (val_assign rfl) rfl ?_   -- 12
  refine ow_nil (into ?_)
  exact sw_ret (fun w hm => ret_one _ rfl rfl ⟨rfl, hm.forgetAll⟩)

theorem mproofPast_any (v0 : Int) (i m n : UInt64) (w : World) (hK : KW w) (a : Option Addr) (c : Nat) (l : List (List UInt8)) (hdl : ∀ d ∈ l, d.length = 32) (hr : Rd w a (l.flatMap fun d => d.map vU8)) (hc : l.length ≤ c) (hb : l.length ≤ 1048576) (a2 : Option Addr) (c2 : Nat) (l2 : List (List UInt8)) (hd2 : ∀ d ∈ l2, d.length = 32) (hr2 : Rd w a2 (l2.flatMap fun d => d.map vU8)) (hc2 : l2.length ≤ c2) (hb2 : l2.length ≤ 1048576) : Calls Tryd.prog 7 #[vInt v0, .slice a l.length c, .slice a2 l2.length c2, vU64 i, vU64 m, vU64 n] w fun e w' => ∃ v, e = .returned v ∧ v = .bool true ∧ Mem w [] [] w' := by
  cases hwd : wd v0 with
  | false => exact past_none v0 hwd i m n w hK a c l hdl hr hc hb a2 c2 l2 hd2 hr2 hc2 hb2
  | true =>
    have h9 := wd_iff.1 hwd
    obtain ⟨k, rfl⟩ : ∃ k : Nat, v0 = (k : Int) := ⟨v0.toNat, by omega⟩
    by_cases hn : n.toNat ≤ (cutL k l).length
    · by_cases hi : i.toNat < n.toNat
      · by_cases hm9 : m.toNat ≤ n.toNat
        · exact past_yy k (by omega) (by omega) i m n w hK a c l hdl hr hc hb a2 c2 l2 hd2 hr2 hc2 hb2 _ _ rfl rfl hn hi hm9
        · exact past_yn k (by omega) (by omega) i m n w hK a c l hdl hr hc hb a2 c2 l2 hd2 hr2 hc2 hb2 _ _ rfl rfl hn hi hm9
      · by_cases hm9 : m.toNat ≤ n.toNat
        · exact past_ny k (by omega) (by omega) i m n w hK a c l hdl hr hc hb a2 c2 l2 hd2 hr2 hc2 hb2 _ _ rfl rfl hn hi hm9
        · exact past_nn k (by omega) (by omega) i m n w hK a c l hdl hr hc hb a2 c2 l2 hd2 hr2 hc2 hb2 _ _ rfl rfl hn hi hm9
    · exact past_big k (by omega) (by omega) i m n w hK a c l hdl hr hc hb a2 c2 l2 hd2 hr2 hc2 hb2 _ _ rfl rfl (by omega)
end Go.Proofs.YtcdponddgnkecaaDoor
