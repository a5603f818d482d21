import Derived.Test.YtcdponddgnkecaaDoorMp6
import Derived.Test.YtcdponddgnkecaaDoorRowD
import Derived.Test.YtcdponddgnkecaaDoorProg
set_option linter.unusedVariables false
set_option linter.unusedSimpArgs false
namespace Go.Proofs.YtcdponddgnkecaaDoor
open Go.Sx Go.Ps
theorem incl_uni (k : Nat) (h1 : 1 ≤ k) (h2 : k ≤ 32) (b : Nat) (l : List (List UInt8)) (hdl : ∀ d ∈ l, d.length = 32) (hfl : ∀ d ∈ l, fm (k : Int) d = true) (hl : l.length * 32 ≤ 140737488351232) (i n : UInt64) (w : World) (hK : KW w) (ht : TreeIs 110 79 k w b l) {P : List (List UInt8)} {ei : Nat} (hP : (if i.toNat < n.toNat ∧ n.toNat ≤ l.length then (incL k (seg l 0 n.toNat) i.toNat, 0) else ([], 4)) = (P, ei)) : Calls Tryd.prog 16 #[vPtr b, vU64 i, vU64 n] w fun e w' => ∃ u, e = .returned u ∧ ∃ s e', u = .tuple #[s, vInt ((ei : Nat) : Int)] ∧ RowE s 41 32 P.length (P.flatMap fun d => d.map vU8) e' ∧ Mem w [] [e'] w' := by
  by_cases h : i.toNat < n.toNat ∧ n.toNat ≤ l.length
  · rw [if_pos h] at hP
    injection hP with h1 h2; subst h1; subst h2
    exact incl_okU k (by assumption) (by assumption) b l hdl hfl hl i n w hK ht h _ rfl
  · rw [if_neg h] at hP
    injection hP with h1 h2; subst h1; subst h2
    exact (incl_noU k b l i n w ht (by omega) h).mono fun _ _ ⟨u, he, hu, hm⟩ => ⟨u, he, .slice none 0 0, none, hu, RowE.nil _ _, hm.place⟩

theorem cons_uni (k : Nat) (h1 : 1 ≤ k) (h2 : k ≤ 32) (b : Nat) (l : List (List UInt8)) (hdl : ∀ d ∈ l, d.length = 32) (hfl : ∀ d ∈ l, fm (k : Int) d = true) (hl : l.length * 32 ≤ 140737488351232) (i n : UInt64) (w : World) (hK : KW w) (ht : TreeIs 110 79 k w b l) {P : List (List UInt8)} {ei : Nat} (hP : (if i.toNat ≤ n.toNat ∧ n.toNat ≤ l.length then (conO k l i.toNat n.toNat, 0) else ([], 4)) = (P, ei)) : Calls Tryd.prog 19 #[vPtr b, vU64 i, vU64 n] w fun e w' => ∃ u, e = .returned u ∧ ∃ s e', u = .tuple #[s, vInt ((ei : Nat) : Int)] ∧ RowE s 41 32 P.length (P.flatMap fun d => d.map vU8) e' ∧ Mem w [] [e'] w' := by
  by_cases h : i.toNat ≤ n.toNat ∧ n.toNat ≤ l.length
  · rw [if_pos h] at hP
    injection hP with h1 h2; subst h1; subst h2
    exact cons_okU k (by assumption) (by assumption) b l hdl hfl hl i n w hK ht h _ rfl
  · rw [if_neg h] at hP
    injection hP with h1 h2; subst h1; subst h2
    exact (cons_noU k b l i n w ht (by omega) h).mono fun _ _ ⟨u, he, hu, hm⟩ => ⟨u, he, .slice none 0 0, none, hu, RowE.nil _ _, hm.place⟩

theorem dinc_uni (k : Nat) (h1 : 1 ≤ k) (h2 : k ≤ 32) (i n : UInt64) (w : World) (a : Option Addr) (m c : Nat) (l : List (List UInt8)) (hlm : l.length = m) (hdl : ∀ d ∈ l, d.length = 32) (hfl : ∀ d ∈ l, fm (k : Int) d = true) (hr : Rd w a (l.flatMap fun d => d.map vU8)) (hc : m ≤ c) (hb : m * 32 ≤ 140737488351232) {P : List (List UInt8)} {ei : Nat} (hP : (if i.toNat < n.toNat ∧ n.toNat ≤ l.length then (incL k (seg l 0 n.toNat) i.toNat, 0) else ([], 4)) = (P, ei)) : Calls Tryd.prog 17 #[vInt (k : Int), .slice a m c, vU64 i, vU64 n] w fun e w' => ∃ u, e = .returned u ∧ ∃ s e', u = .tuple #[s, vInt ((ei : Nat) : Int)] ∧ RowE s 41 32 P.length (P.flatMap fun d => d.map vU8) e' ∧ Mem w [] [e'] w' := by
  by_cases h : i.toNat < n.toNat ∧ n.toNat ≤ l.length
  · rw [if_pos h] at hP
    injection hP with e1 e2; subst e1; subst e2
    exact dinc_okU k h1 h2 i n w a m c l hlm hdl hfl hr hc hb h _ rfl
  · rw [if_neg h] at hP
    injection hP with e1 e2; subst e1; subst e2
    exact (dinc_noU k i n w a m c l hlm hdl hfl hr hc hb h).mono fun _ _ ⟨u, he, hu, hm⟩ => ⟨u, he, .slice none 0 0, none, hu, RowE.nil _ _, hm.place⟩

theorem dcon_uni (k : Nat) (h1 : 1 ≤ k) (h2 : k ≤ 32) (i n : UInt64) (w : World) (a : Option Addr) (m c : Nat) (l : List (List UInt8)) (hlm : l.length = m) (hdl : ∀ d ∈ l, d.length = 32) (hfl : ∀ d ∈ l, fm (k : Int) d = true) (hr : Rd w a (l.flatMap fun d => d.map vU8)) (hc : m ≤ c) (hb : m * 32 ≤ 140737488351232) {P : List (List UInt8)} {ei : Nat} (hP : (if i.toNat ≤ n.toNat ∧ n.toNat ≤ l.length then (conO k l i.toNat n.toNat, 0) else ([], 4)) = (P, ei)) : Calls Tryd.prog 20 #[vInt (k : Int), .slice a m c, vU64 i, vU64 n] w fun e w' => ∃ u, e = .returned u ∧ ∃ s e', u = .tuple #[s, vInt ((ei : Nat) : Int)] ∧ RowE s 41 32 P.length (P.flatMap fun d => d.map vU8) e' ∧ Mem w [] [e'] w' := by
  by_cases h : i.toNat ≤ n.toNat ∧ n.toNat ≤ l.length
  · rw [if_pos h] at hP
    injection hP with e1 e2; subst e1; subst e2
    exact dcon_okU k h1 h2 i n w a m c l hlm hdl hfl hr hc hb h _ rfl
  · rw [if_neg h] at hP
    injection hP with e1 e2; subst e1; subst e2
    exact (dcon_noU k i n w a m c l hlm hdl hfl hr hc hb h).mono fun _ _ ⟨u, he, hu, hm⟩ => ⟨u, he, .slice none 0 0, none, hu, RowE.nil _ _, hm.place⟩

theorem iDsl : (Tryd.prog.info? 22).map (fun i => (i.zero, i.size, i.bytes)) = some (some (.slice none 0 0), 1, 24) := by kernel_rfl

theorem mem_none (v0 : Int) (hwd : wd v0 = false) (i m n : UInt64) (w : World) (hK : KW w) (a : Option Addr) (c : Nat) (l : List (List UInt8)) (hdl : ∀ d ∈ l, d.length = 32) (hr : Rd w a (l.flatMap fun d => d.map vU8)) (hc : l.length ≤ c) (hb : l.length * 32 ≤ 140737488351232) : Calls Tryd.prog 9 #[vInt v0, .slice a l.length c, vU64 i, vU64 m, vU64 n] w fun e w' => ∃ v, e = .returned v ∧ v = .bool true ∧ Mem w [] [] w' := by
  refine calls_of_sw (vs := [vInt v0, .slice a l.length c, vU64 i, vU64 m, vU64 n]) Tryd.func9 rfl Tryd.ntmps9 rfl (SW.begin ?_)
  refine sw_seq ?_
  refine sw_region ?_
  refine ow_val (val_assign rfl) rfl ?_
  refine ow_nil (into ?_)
  refine sw_seq ?_
  refine sw_seq ?_
  refine sw_region ?_
  refine ow_call_pure (v := .bool true) (callsTo Tryd.func14 rfl (by kernel_rfl) rfl) rfl (fun w hm => awake_any w (hK.mem0 hm)) ?_
  refine ow_val (val_not rfl) rfl ?_
  refine ow_nil (into ?_)
  refine sw_false rfl rfl ?_
  refine sw_skip (into ?_)
  refine sw_seq ?_
  refine sw_region ?_
  refine ow_val (val_move rfl) rfl ?_
  refine ow_val (val_move rfl) rfl ?_
  refine ow_call_pure (v := .tuple #[.pointer none, .slice none 0 0, .bool false]) (callsTo Tryd.func15 rfl (by kernel_rfl) rfl) rfl (fun w hm => tree_no v0 hwd w _ _ _) ?_
  refine ow_val (val_move rfl) rfl ?_
  refine ow_val (val_extract rfl rfl) rfl ?_
  refine ow_val (val_extract rfl rfl) rfl ?_
  refine ow_val (val_extract rfl rfl) rfl ?_
  refine ow_val (val_assign rfl) rfl ?_
  refine ow_val (val_assign rfl) rfl ?_
  refine ow_val (val_assign rfl) rfl ?_
  refine ow_nil (into ?_)
  refine sw_seq ?_
  refine sw_seq ?_
  refine sw_region ?_
  refine ow_val (val_move rfl) rfl ?_
  refine ow_val (val_not rfl) rfl ?_
  refine ow_val (val_move rfl) rfl ?_
  first | refine ow_guard_no rfl rfl rfl rfl rfl ?_ | refine ow_guard_none rfl rfl rfl rfl rfl ?_
  first | refine ow_guard_no rfl rfl rfl rfl rfl ?_ | refine ow_guard_none rfl rfl rfl rfl rfl ?_
  first | refine ow_guard_no rfl rfl rfl rfl rfl ?_ | refine ow_guard_none rfl rfl rfl rfl rfl ?_
  first | refine ow_guard_no rfl rfl rfl rfl rfl ?_ | refine ow_guard_none rfl rfl rfl rfl rfl ?_
  first | refine ow_guard_no rfl rfl rfl rfl rfl ?_ | refine ow_guard_none rfl rfl rfl rfl rfl ?_
  refine ow_val (val_pick_true rfl rfl) rfl ?_
  refine ow_nil (into ?_)
  refine sw_true rfl rfl ?_
  refine sw_seq ?_
  refine sw_region ?_
  refine ow_val (val_assign rfl) rfl ?_
  refine ow_nil (into ?_)
  refine sw_ret (fun w hm => ?_)
  try dsimp only [thenP, blockP, Nat.beq, cond]
  exact ret_one _ rfl rfl ⟨rfl, hm.forgetAll⟩

theorem mem_big (k : Nat) (h1 : 1 ≤ k) (h2 : k ≤ 32) (i m n : UInt64) (w : World) (hK : KW w) (a : Option Addr) (c : Nat) (l : List (List UInt8)) (hdl : ∀ d ∈ l, d.length = 32) (hr : Rd w a (l.flatMap fun d => d.map vU8)) (hc : l.length ≤ c) (hb : l.length * 32 ≤ 140737488351232) (L : List (List UInt8)) (hL : cutL k l = L) (hbg : L.length < n.toNat) : Calls Tryd.prog 9 #[vInt (k : Int), .slice a l.length c, vU64 i, vU64 m, vU64 n] w fun e w' => ∃ v, e = .returned v ∧ v = .bool true ∧ Mem w [] [] w' := by
  have hcl := cutL_ok h1 h2 hdl
  rw [hL] at hcl
  have hLd := hcl.1
  have hLf := hcl.2
  have hLn : L.length = l.length := by rw [← hL]; exact cutL_len k l
  refine calls_of_sw (vs := [vInt (k : Int), .slice a l.length c, vU64 i, vU64 m, vU64 n]) Tryd.func9 rfl Tryd.ntmps9 rfl (SW.begin ?_)
  refine sw_seq ?_
  refine sw_region ?_
  refine ow_val (val_assign rfl) rfl ?_
  refine ow_nil (into ?_)
  refine sw_seq ?_
  refine sw_seq ?_
  refine sw_region ?_
  refine ow_call_pure (v := .bool true) (callsTo Tryd.func14 rfl (by kernel_rfl) rfl) rfl (fun w hm => awake_any w (hK.mem0 hm)) ?_
  refine ow_val (val_not rfl) rfl ?_
  refine ow_nil (into ?_)
  refine sw_false rfl rfl ?_
  refine sw_skip (into ?_)
  refine sw_seq ?_
  refine sw_region ?_
  refine ow_val (val_move rfl) rfl ?_
  refine ow_val (val_move rfl) rfl ?_
  refine ow_call_tail (σ := Nat × Option Addr × Nat × List Ent) (fun q9 => .tuple #[vPtr q9.1, .slice q9.2.1 L.length q9.2.2.1, .bool true]) (fun q9 => q9.2.2.2) (fun q9 => TrOn 110 79 k q9.2.2.2 q9.1 L ∧ RdOn q9.2.2.2 q9.2.1 (List.flatMap (fun d : List UInt8 => List.map vU8 d) L) ∧ L.length ≤ q9.2.2.1 ∧ (0 < L.length → ∃ b o, q9.2.1 = some ⟨b, o, none⟩)) (callsTo Tryd.func15 rfl (by kernel_rfl) rfl) rfl (fun w hm => tree_is k h1 h2 w (hK.mem0 hm) a l.length c l rfl hdl (hr.mem hm) (by omega) (by omega) (by omega) hL) ?_
  rintro ⟨b38, a38, c38, es38⟩ ⟨htr38, hrd38, hle38, hla38⟩
  simp only at htr38 hrd38 hle38 hla38 ⊢
  refine ow_val (val_move rfl) rfl ?_
  refine ow_val (val_extract rfl rfl) rfl ?_
  refine ow_val (val_extract rfl rfl) rfl ?_
  refine ow_val (val_extract rfl rfl) rfl ?_
  refine ow_val (val_assign rfl) rfl ?_
  refine ow_val (val_assign rfl) rfl ?_
  refine ow_val (val_assign rfl) rfl ?_
  refine ow_nil (into ?_)
  refine sw_seq ?_
  refine sw_seq ?_
  refine sw_region ?_
  refine ow_val (val_move rfl) rfl ?_
  refine ow_val (val_not rfl) rfl ?_
  refine ow_val (val_move rfl) rfl ?_
  refine ow_guard_yes rfl rfl rfl ?_
  refine ow_val (val_move rfl) rfl ?_
  refine ow_guard_yes rfl rfl rfl ?_
  refine ow_val (val_move rfl) rfl ?_
  refine ow_guard_yes rfl rfl rfl ?_
  refine ow_val (val_len rfl Tryd.underlying22) rfl ?_
  refine ow_guard_yes rfl rfl rfl ?_
  refine ow_val (val_conv_n_u64 L.length Tryd.underlying3 Tryd.underlying23 rfl rfl) rfl ?_
  refine ow_guard_yes rfl rfl rfl ?_
  refine ow_val ((val_gtr_u64 rfl rfl).to (congrArg Value.bool (decide_eq_true ((UInt64.lt_iff_toNat_lt.2 (by rw [of_nat (by omega)]; exact hbg)))))) rfl ?_
  refine ow_val (val_pick_false rfl rfl) rfl ?_
  refine ow_nil (into ?_)
  refine sw_true rfl rfl ?_
  refine sw_seq ?_
  refine sw_region ?_
  refine ow_val (val_assign rfl) rfl ?_
  refine ow_nil (into ?_)
  refine sw_ret (fun w hm => ?_)
  try dsimp only [thenP, blockP, Nat.beq, cond]
  exact ret_one _ rfl rfl ⟨rfl, hm.forgetAll⟩

theorem rowAddr0 {a : Option Addr} {k c size : Nat} {T : TypeId} {xs : List Value} {e : Ent} (h : RowE (.slice a k c) T size k xs e) (h0 : 0 < k) : ∃ b, a = some ⟨b, 0, none⟩ := by
  obtain ⟨_, ⟨_, h1, _⟩ | ⟨b, cap, rest, hv, _⟩⟩ := h
  · omega
  · simp only [Value.slice.injEq] at hv; exact ⟨b, hv.1⟩
theorem rowsAddr {T : TypeId} {ks : List (Sl (List UInt8))} {es : List Ent} {i : Nat} (h : RowsE T ks es) (hi : i < ks.length) (h0 : 0 < (ks.getD i default).xs.length) : ∃ b, (ks.getD i default).a = some ⟨b, 0, none⟩ := by
  obtain ⟨_, _, _, _, h2, _⟩ := h.split hi
  exact rowAddr0 h2 h0

theorem neq_self (d : List UInt8) : (!decide (d = d)) = false := by rw [decide_eq_true rfl]; rfl

theorem mem_go (k : Nat) (h1 : 1 ≤ k) (h2 : k ≤ 32) (i m n : UInt64) (w : World) (hK : KW w) (a : Option Addr) (c : Nat) (l : List (List UInt8)) (hdl : ∀ d ∈ l, d.length = 32) (hr : Rd w a (l.flatMap fun d => d.map vU8)) (hc : l.length ≤ c) (hb : l.length * 32 ≤ 140737488351232) (L : List (List UInt8)) (hL : cutL k l = L) (hn : n.toNat ≤ L.length) (IP JQ : List (List UInt8)) (ei ej : Nat) (hI : (if i.toNat < n.toNat ∧ n.toNat ≤ L.length then (incL k (seg L 0 n.toNat) i.toNat, 0) else ([], 4)) = (IP, ei)) (hJ : (if m.toNat ≤ n.toNat ∧ n.toNat ≤ L.length then (conO k L m.toNat n.toNat, 0) else ([], 4)) = (JQ, ej))
    (hPd : ∀ d ∈ IP, d.length = 32) (hQd : ∀ d ∈ JQ, d.length = 32) (hPn : IP.length ≤ L.length + 1) (hQn : JQ.length ≤ L.length + 1) : Calls Tryd.prog 9 #[vInt (k : Int), .slice a l.length c, vU64 i, vU64 m, vU64 n] w fun e w' => ∃ v, e = .returned v ∧ v = .bool true ∧ Mem w [] [] w' := by
  have hcl := cutL_ok h1 h2 hdl
  rw [hL] at hcl
  have hLd := hcl.1
  have hLf := hcl.2
  have hLn : L.length = l.length := by rw [← hL]; exact cutL_len k l
  have hLt : ∀ d ∈ L.take n.toNat, d.length = 32 := fun d hd => hLd d (List.mem_of_mem_take hd)
  obtain ⟨tiD, hDi, hDz, hDsz, hDby⟩ := info_parts iDg
  obtain ⟨tiS, hSi, hSz, hSsz, hSby⟩ := info_parts iDsl
  have hLs : L.length < 140737488351232 := by omega
  have hR : rngO k L 0 n = (lg k (L.take n.toNat), 0) := by
    rw [rngO, if_neg (by rintro (h | h) <;> first | exact absurd (UInt64.lt_iff_toNat_lt.1 h) (Nat.not_lt_zero _) | omega)]; rfl
  refine calls_of_sw (vs := [vInt (k : Int), .slice a l.length c, vU64 i, vU64 m, vU64 n]) Tryd.func9 rfl Tryd.ntmps9 rfl (SW.begin ?_)
  refine sw_seq ?_
  refine sw_region ?_
  refine ow_val (val_assign rfl) rfl ?_
  refine ow_nil (into ?_)
  refine sw_seq ?_
  refine sw_seq ?_
  refine sw_region ?_
  refine ow_call_pure (v := .bool true) (callsTo Tryd.func14 rfl (by kernel_rfl) rfl) rfl (fun w hm => awake_any w (hK.mem0 hm)) ?_
  refine ow_val (val_not rfl) rfl ?_
  refine ow_nil (into ?_)
  refine sw_false rfl rfl ?_
  refine sw_skip (into ?_)
  refine sw_seq ?_
  refine sw_region ?_
  refine ow_val (val_move rfl) rfl ?_
  refine ow_val (val_move rfl) rfl ?_
  refine ow_call_tail (σ := Nat × Option Addr × Nat × List Ent) (fun q9 => .tuple #[vPtr q9.1, .slice q9.2.1 L.length q9.2.2.1, .bool true]) (fun q9 => q9.2.2.2) (fun q9 => TrOn 110 79 k q9.2.2.2 q9.1 L ∧ RdOn q9.2.2.2 q9.2.1 (List.flatMap (fun d : List UInt8 => List.map vU8 d) L) ∧ L.length ≤ q9.2.2.1 ∧ (0 < L.length → ∃ b o, q9.2.1 = some ⟨b, o, none⟩)) (callsTo Tryd.func15 rfl (by kernel_rfl) rfl) rfl (fun w hm => tree_is k h1 h2 w (hK.mem0 hm) a l.length c l rfl hdl (hr.mem hm) (by omega) (by omega) (by omega) hL) ?_
  rintro ⟨b38, a38, c38, es38⟩ ⟨htr38, hrd38, hle38, hla38⟩
  simp only at htr38 hrd38 hle38 hla38 ⊢
  refine ow_val (val_move rfl) rfl ?_
  refine ow_val (val_extract rfl rfl) rfl ?_
  refine ow_val (val_extract rfl rfl) rfl ?_
  refine ow_val (val_extract rfl rfl) rfl ?_
  refine ow_val (val_assign rfl) rfl ?_
  refine ow_val (val_assign rfl) rfl ?_
  refine ow_val (val_assign rfl) rfl ?_
  refine ow_nil (into ?_)
  refine sw_seq ?_
  refine sw_seq ?_
  refine sw_region ?_
  refine ow_val (val_move rfl) rfl ?_
  refine ow_val (val_not rfl) rfl ?_
  refine ow_val (val_move rfl) rfl ?_
  refine ow_guard_yes rfl rfl rfl ?_
  refine ow_val (val_move rfl) rfl ?_
  refine ow_guard_yes rfl rfl rfl ?_
  refine ow_val (val_move rfl) rfl ?_
  refine ow_guard_yes rfl rfl rfl ?_
  refine ow_val (val_len rfl Tryd.underlying22) rfl ?_
  refine ow_guard_yes rfl rfl rfl ?_
  refine ow_val (val_conv_n_u64 L.length Tryd.underlying3 Tryd.underlying23 rfl rfl) rfl ?_
  refine ow_guard_yes rfl rfl rfl ?_
  refine ow_val ((val_gtr_u64 rfl rfl).to (congrArg Value.bool (decide_eq_false ((fun h => absurd (UInt64.lt_iff_toNat_lt.1 h) (by rw [of_nat (by omega)]; omega)))))) rfl ?_
  refine ow_val (val_pick_false rfl rfl) rfl ?_
  refine ow_nil (into ?_)
  refine sw_false rfl rfl ?_
  refine sw_skip (into ?_)
  refine sw_seq ?_
  refine sw_seq ?_
  refine sw_region ?_
  refine ow_val (val_move rfl) rfl ?_
  refine ow_val (val_eql_nilptr Tryd.underlying25 rfl rfl) rfl ?_
  refine ow_nil (into ?_)
  refine sw_false rfl rfl ?_
  refine sw_skip (into ?_)
  refine sw_seq ?_
  refine sw_region ?_
  refine ow_val (val_move rfl) rfl ?_
  refine ow_val (val_move rfl) rfl ?_
  refine ow_val (val_move rfl) rfl ?_
  refine ow_val (val_move rfl) rfl ?_
  refine ow_call_row2 (E := 41) (size := 32) (k := IP.length) (xs := List.flatMap (fun d : List UInt8 => List.map vU8 d) IP) (x := vInt ((ei : Nat) : Int)) (callsTo Tryd.func17 rfl (by kernel_rfl) rfl) rfl (fun w hm => dinc_uni k h1 h2 i n w a38 L.length c38 L rfl hLd hLf (hrd38 _ (hm.heldSub (List.Sublist.refl _))) hle38 (by omega) hI) (fun a58 c58 e58 hr58 => ?_)
  refine ow_val (val_move rfl) rfl ?_
  refine ow_val (val_extract rfl rfl) rfl ?_
  refine ow_val (val_extract rfl rfl) rfl ?_
  refine ow_val (val_assign rfl) rfl ?_
  refine ow_val (val_assign rfl) rfl ?_
  refine ow_nil (into ?_)
  refine sw_seq ?_
  refine sw_region ?_
  refine ow_val (val_move rfl) rfl ?_
  refine ow_val (val_move rfl) rfl ?_
  refine ow_val (val_move rfl) rfl ?_
  refine ow_val (val_move rfl) rfl ?_
  refine ow_call_row2 (E := 41) (size := 32) (k := JQ.length) (xs := List.flatMap (fun d : List UInt8 => List.map vU8 d) JQ) (x := vInt ((ej : Nat) : Int)) (callsTo Tryd.func20 rfl (by kernel_rfl) rfl) rfl (fun w hm => dcon_uni k h1 h2 m n w a38 L.length c38 L rfl hLd hLf (hrd38 _ (hm.heldSub (.cons _ (List.Sublist.refl _)))) hle38 (by omega) hJ) (fun a66 c66 e66 hr66 => ?_)
  refine ow_val (val_move rfl) rfl ?_
  refine ow_val (val_extract rfl rfl) rfl ?_
  refine ow_val (val_extract rfl rfl) rfl ?_
  refine ow_val (val_assign rfl) rfl ?_
  refine ow_val (val_assign rfl) rfl ?_
  refine ow_nil (into ?_)
  refine sw_seq ?_
  refine sw_region ?_
  refine ow_val (val_assign rfl) rfl ?_
  refine ow_nil (into ?_)
  refine sw_seq ?_
  refine sw_seq ?_
  refine sw_region ?_
  refine ow_val (val_assign rfl) rfl ?_
  refine ow_nil (into ?_)
  refine sw_block ?_
  refine sw_loop (σ := Nat × (Option Addr × Nat × Ent) × List (Sl (List UInt8)) × List Ent) (fun t => t.1 ≤ 3 ∧ t.2.2.1.length = 2 * t.1 ∧ RowE (.slice t.2.1.1 t.2.2.1.length t.2.1.2.1) 22 1 t.2.2.1.length (t.2.2.1.map Sl.v) t.2.1.2.2 ∧ RowsE 41 t.2.2.1 t.2.2.2 ∧ KOk (L.length + 1) t.2.2.1) (fun t => [(19, vInt (t.1 : Int)), (18, .slice t.2.1.1 t.2.2.1.length t.2.1.2.1), (16, .slice a66 JQ.length c66), (14, .slice a58 IP.length c58), (12, .slice a38 L.length c38), (11, vPtr b38), (4, vU64 n), (3, vU64 m), (2, vU64 i), (0, vInt (k : Int))]) (fun t => Mem w [] (t.2.1.2.2 :: e66 :: e58 :: (t.2.2.2 ++ es38))) (fun t => 3 - t.1) (0, (none, 0, none), [], []) ⟨Nat.zero_le _, rfl, RowE.nil _ _, trivial, KOk.nil _⟩ ⟨rfl, rfl, rfl, rfl, rfl, rfl, rfl, rfl, rfl, rfl, trivial⟩ (fun w hm => hm.place) ?_
  rintro ⟨i0, ⟨ak, ck, ek⟩, ks, es⟩ ⟨hi0, hkn, hrk, hrs, hko⟩
  simp only at hi0 hkn hrk hrs hko ⊢
  refine sw_seq ?_
  refine sw_seq ?_
  refine sw_region ?_
  refine ow_val (val_move rfl) rfl ?_
  refine ow_val (val_lss_int rfl rfl) rfl ?_
  refine ow_nil (into ?_)
  refine sw_if rfl (fun h0 => ?_) (fun h0 => ?_)
  · -- then
    refine sw_skip (into ?_)
    refine sw_seq ?_
    refine sw_block ?_
    refine sw_seq ?_
    refine sw_region ?_
    refine ow_val (val_move rfl) rfl ?_
    refine ow_val (val_move rfl) rfl ?_
    refine ow_val (val_move rfl) rfl ?_
    refine ow_call_row2 (E := 41) (size := 32) (k := IP.length) (xs := List.flatMap (fun d : List UInt8 => List.map vU8 d) IP) (x := vInt ((ei : Nat) : Int)) (callsTo Tryd.func16 rfl (by kernel_rfl) rfl) rfl (fun w hm => incl_uni k h1 h2 b38 L hLd hLf (by omega) i n w (hK.mem0 hm) ((htr38.right (T' := es)).is (hm.heldSub (.cons _ (.cons _ (.cons _ (List.Sublist.refl _)))))) hI) (fun a77 c77 e77 hr77 => ?_)
    refine ow_val (val_move rfl) rfl ?_
    refine ow_val (val_extract rfl rfl) rfl ?_
    refine ow_val (val_extract rfl rfl) rfl ?_
    refine ow_val (val_assign rfl) rfl ?_
    refine ow_val (val_assign rfl) rfl ?_
    refine ow_nil (into ?_)
    refine sw_seq ?_
    refine sw_region ?_
    refine ow_val (val_move rfl) rfl ?_
    refine ow_val (val_move rfl) rfl ?_
    refine ow_val (val_move rfl) rfl ?_
    refine ow_call_row2 (E := 41) (size := 32) (k := JQ.length) (xs := List.flatMap (fun d : List UInt8 => List.map vU8 d) JQ) (x := vInt ((ej : Nat) : Int)) (callsTo Tryd.func19 rfl (by kernel_rfl) rfl) rfl (fun w hm => cons_uni k h1 h2 b38 L hLd hLf (by omega) m n w (hK.mem0 hm) ((htr38.right (T' := es)).is (hm.heldSub (.cons _ (.cons _ (.cons _ (.cons _ (List.Sublist.refl _))))))) hJ) (fun a84 c84 e84 hr84 => ?_)
    refine ow_val (val_move rfl) rfl ?_
    refine ow_val (val_extract rfl rfl) rfl ?_
    refine ow_val (val_extract rfl rfl) rfl ?_
    refine ow_val (val_assign rfl) rfl ?_
    refine ow_val (val_assign rfl) rfl ?_
    refine ow_nil (into ?_)
    refine sw_seq ?_
    refine sw_seq ?_
    refine sw_region ?_
    refine ow_val (val_move rfl) rfl ?_
    refine ow_val (val_move rfl) rfl ?_
    refine ow_call_pure (v := .bool true) (callsTo Tryd.func18 rfl (by kernel_rfl) rfl) rfl (fun w hm => same_is w a77 IP.length c77 IP rfl hPd (hr77.rdAt hm (i := 1) rfl) hr77.le (by omega) a58 IP.length c58 IP rfl hPd (hr58.rdAt hm (i := 4) rfl) hr58.le (by omega) (decide_eq_true rfl)) ?_
    refine ow_val (val_not rfl) rfl ?_
    refine ow_val (val_move rfl) rfl ?_
    refine ow_guard_yes rfl rfl rfl ?_
    refine ow_val (val_move rfl) rfl ?_
    refine ow_guard_yes rfl rfl rfl ?_
    refine ow_val (val_move rfl) rfl ?_
    refine ow_guard_yes rfl rfl rfl ?_
    refine ow_call_pure (v := .bool true) (callsTo Tryd.func18 rfl (by kernel_rfl) rfl) rfl (fun w hm => same_is w a84 JQ.length c84 JQ rfl hQd (hr84.rdAt hm (i := 0) rfl) hr84.le (by omega) a66 JQ.length c66 JQ rfl hQd (hr66.rdAt hm (i := 3) rfl) hr66.le (by omega) (decide_eq_true rfl)) ?_
    refine ow_guard_yes rfl rfl rfl ?_
    refine ow_val (val_not rfl) rfl ?_
    refine ow_val (val_pick_false rfl rfl) rfl ?_
    refine ow_nil (into ?_)
    refine sw_false rfl rfl ?_
    refine sw_skip (into ?_)
    refine sw_seq ?_
    refine sw_seq ?_
    refine sw_region ?_
    refine ow_val (val_assign rfl) rfl ?_
    refine ow_nil (into ?_)
    refine sw_block ?_
    refine sw_loop (σ := Nat × List (List UInt8) × Ent) (fun t => t.1 ≤ IP.length ∧ t.2.1.length = IP.length ∧ (∀ d ∈ t.2.1, d.length = 32) ∧ RowE (.slice a77 IP.length c77) 41 32 IP.length (flatD t.2.1) t.2.2 ∧ ∀ q < t.1, t.2.1.getD q default = dgk (UInt8.ofNat i0) (UInt8.ofNat q) 77) (fun t => [(24, vInt (t.1 : Int)), (20, .slice a77 IP.length c77), (22, .slice a84 JQ.length c84), (19, vInt (i0 : Int)), (18, .slice ak ks.length ck), (16, .slice a66 JQ.length c66), (14, .slice a58 IP.length c58), (12, .slice a38 L.length c38), (11, vPtr b38), (4, vU64 n), (3, vU64 m), (2, vU64 i), (0, vInt (k : Int))]) (fun t => Mem w [] (e84 :: t.2.2 :: ek :: e66 :: e58 :: (es ++ es38))) (fun t => IP.length - t.1) (0, IP, e77) ⟨Nat.zero_le _, rfl, hPd, hr77, fun q hq => absurd hq (Nat.not_lt_zero _)⟩ ⟨rfl, rfl, rfl, rfl, rfl, rfl, rfl, rfl, rfl, rfl, rfl, rfl, rfl, trivial⟩ (fun w hm => hm) ?_
    rintro ⟨j, Lp, ep⟩ ⟨hj, hpn, hpl, hrp, hpv⟩
    simp only at hj hpn hpl hrp hpv ⊢
    refine sw_seq ?_
    refine sw_seq ?_
    refine sw_region ?_
    refine ow_val (val_move rfl) rfl ?_
    refine ow_val (val_move rfl) rfl ?_
    refine ow_val (val_len rfl Tryd.underlying22) rfl ?_
    refine ow_val (val_lss_int rfl rfl) rfl ?_
    refine ow_nil (into ?_)
    refine sw_if rfl (fun h19 => ?_) (fun h19 => ?_)
    · -- then
      obtain ⟨bp, rest_bp, rfl, rfl, hre_bp⟩ := hrp.open (by omega) hpl
      refine sw_skip (into ?_)
      refine sw_seq ?_
      refine sw_block ?_
      refine sw_region ?_
      refine ow_val (val_move rfl) rfl ?_
      refine ow_val (val_move rfl) rfl ?_
      refine ow_val (val_move rfl) rfl ?_
      refine ow_val (val_conv_n_u8 i0 Tryd.underlying3 Tryd.underlying5 rfl rfl) rfl ?_
      refine ow_val (val_move rfl) rfl ?_
      refine ow_val (val_conv_n_u8 j Tryd.underlying3 Tryd.underlying5 rfl rfl) rfl ?_
      refine ow_val (val_build' (cs := (([(UInt8.ofNat i0), (UInt8.ofNat j), 77] : List UInt8) ++ List.replicate 29 0).map vU8) rfl (by kernel_rfl)) rfl ?_
      refine ow_val (val_indexAddr_slice j (j * 32) rfl rfl Tryd.underlying22 Tryd.sizeOf41 (by omega) (by omega) (by omega)) rfl ?_
      refine ow_do (does_set 1 rfl rfl rfl Tryd.sizeOf41 rfl hpl (by omega)) (fun _ _ => ?_)
      refine ow_nil (into ?_)
      refine sw_region ?_
      refine ow_val (val_move rfl) rfl ?_
      refine ow_val (val_add_int ((j + 1 : Nat) : Int) rfl rfl (by omega) (by omega)) rfl ?_
      refine ow_val (val_assign rfl) rfl ?_
      exact ow_nil (fun w hm => ⟨(j + 1, Lp.set j (dgk (UInt8.ofNat i0) (UInt8.ofNat j) 77), some (bp, blk (flatD (Lp.set j (dgk (UInt8.ofNat i0) (UInt8.ofNat j) 77)) ++ rest_bp) 41)), ⟨by dsimp only; omega, by dsimp only; rw [List.length_set]; exact hpn, set_len32 hpl rfl, hre_bp _ (by rw [List.length_set]) (set_len32 hpl rfl), set_upto (f := fun q => dgk (UInt8.ofNat i0) (UInt8.ofNat q) 77) hpv (by omega)⟩, by dsimp only; omega, ⟨rfl, rfl, rfl, rfl, rfl, rfl, rfl, rfl, rfl, rfl, rfl, rfl, rfl, trivial⟩, hm⟩)
    · -- else
      obtain rfl : j = IP.length := by omega
      refine sw_exit (into ?_)
      refine sw_seq ?_
      refine sw_seq ?_
      refine sw_region ?_
      refine ow_val (val_assign rfl) rfl ?_
      refine ow_nil (into ?_)
      refine sw_block ?_
      refine sw_loop (σ := Nat × List (List UInt8) × Ent) (fun t => t.1 ≤ JQ.length ∧ t.2.1.length = JQ.length ∧ (∀ d ∈ t.2.1, d.length = 32) ∧ RowE (.slice a84 JQ.length c84) 41 32 JQ.length (flatD t.2.1) t.2.2 ∧ ∀ q < t.1, t.2.1.getD q default = dgk (UInt8.ofNat i0) (UInt8.ofNat q) 78) (fun t => [(25, vInt (t.1 : Int)), (20, .slice a77 IP.length c77), (22, .slice a84 JQ.length c84), (19, vInt (i0 : Int)), (18, .slice ak ks.length ck), (16, .slice a66 JQ.length c66), (14, .slice a58 IP.length c58), (12, .slice a38 L.length c38), (11, vPtr b38), (4, vU64 n), (3, vU64 m), (2, vU64 i), (0, vInt (k : Int))]) (fun t => Mem w [] (t.2.2 :: ep :: ek :: e66 :: e58 :: (es ++ es38))) (fun t => JQ.length - t.1) (0, JQ, e84) ⟨Nat.zero_le _, rfl, hQd, hr84, fun q hq => absurd hq (Nat.not_lt_zero _)⟩ ⟨rfl, rfl, rfl, rfl, rfl, rfl, rfl, rfl, rfl, rfl, rfl, rfl, rfl, trivial⟩ (fun w hm => hm) ?_
      rintro ⟨j4, Lq, eq⟩ ⟨hj4, hqn, hql, hrq, hqv⟩
      simp only at hj4 hqn hql hrq hqv ⊢
      refine sw_seq ?_
      refine sw_seq ?_
      refine sw_region ?_
      refine ow_val (val_move rfl) rfl ?_
      refine ow_val (val_move rfl) rfl ?_
      refine ow_val (val_len rfl Tryd.underlying22) rfl ?_
      refine ow_val (val_lss_int rfl rfl) rfl ?_
      refine ow_nil (into ?_)
      refine sw_if rfl (fun h23 => ?_) (fun h23 => ?_)
      · -- then
        obtain ⟨bq, rest_bq, rfl, rfl, hre_bq⟩ := hrq.open (by omega) hql
        refine sw_skip (into ?_)
        refine sw_seq ?_
        refine sw_block ?_
        refine sw_region ?_
        refine ow_val (val_move rfl) rfl ?_
        refine ow_val (val_move rfl) rfl ?_
        refine ow_val (val_move rfl) rfl ?_
        refine ow_val (val_conv_n_u8 i0 Tryd.underlying3 Tryd.underlying5 rfl rfl) rfl ?_
        refine ow_val (val_move rfl) rfl ?_
        refine ow_val (val_conv_n_u8 j4 Tryd.underlying3 Tryd.underlying5 rfl rfl) rfl ?_
        refine ow_val (val_build' (cs := (([(UInt8.ofNat i0), (UInt8.ofNat j4), 78] : List UInt8) ++ List.replicate 29 0).map vU8) rfl (by kernel_rfl)) rfl ?_
        refine ow_val (val_indexAddr_slice j4 (j4 * 32) rfl rfl Tryd.underlying22 Tryd.sizeOf41 (by omega) (by omega) (by omega)) rfl ?_
        refine ow_do (does_set 0 rfl rfl rfl Tryd.sizeOf41 rfl hql (by omega)) (fun _ _ => ?_)
        refine ow_nil (into ?_)
        refine sw_region ?_
        refine ow_val (val_move rfl) rfl ?_
        refine ow_val (val_add_int ((j4 + 1 : Nat) : Int) rfl rfl (by omega) (by omega)) rfl ?_
        refine ow_val (val_assign rfl) rfl ?_
        exact ow_nil (fun w hm => ⟨(j4 + 1, Lq.set j4 (dgk (UInt8.ofNat i0) (UInt8.ofNat j4) 78), some (bq, blk (flatD (Lq.set j4 (dgk (UInt8.ofNat i0) (UInt8.ofNat j4) 78)) ++ rest_bq) 41)), ⟨by dsimp only; omega, by dsimp only; rw [List.length_set]; exact hqn, set_len32 hql rfl, hre_bq _ (by rw [List.length_set]) (set_len32 hql rfl), set_upto (f := fun q => dgk (UInt8.ofNat i0) (UInt8.ofNat q) 78) hqv (by omega)⟩, by dsimp only; omega, ⟨rfl, rfl, rfl, rfl, rfl, rfl, rfl, rfl, rfl, rfl, rfl, rfl, rfl, trivial⟩, hm⟩)
      · -- else
        obtain rfl : j4 = JQ.length := by omega
        refine sw_exit (into ?_)
        refine sw_region ?_
        refine ow_val (val_move rfl) rfl ?_
        refine ow_val (val_move rfl) rfl ?_
        refine ow_val (val_move rfl) rfl ?_
        refine ow_make (acts_buildSlice (cs := [.slice a77 IP.length c77, .slice a84 JQ.length c84]) Tryd.underlying50 Tryd.sizeOf22 Tryd.zeroValue22 rfl rfl (by kernel_rfl)) rfl (fun b128 hb128 => ?_)
        refine ow_append' (k := ks.length + 2) (acts_append (size := 1) (bytes := 24) 3 rfl rfl rfl hrk rfl Tryd.underlying50 hSi hSz hSsz hSby rfl (by decide) (fun w hm => Rd.blk (hm.at (i := 0) rfl)) rfl (fun u hu => by rcases List.mem_cons.1 hu with rfl | hu <;> first | rfl | (rw [List.mem_singleton.1 hu]; rfl)) (by omega) (by omega)) rfl (fun a129 c129 e129 hr129 => ?_)
        refine ow_val (val_assign rfl) rfl ?_
        refine ow_nil (into ?_)
        refine sw_region ?_
        refine ow_val (val_move rfl) rfl ?_
        refine ow_val (val_add_int ((i0 + 1 : Nat) : Int) rfl rfl (by omega) (by omega)) rfl ?_
        refine ow_val (val_assign rfl) rfl ?_
        have hnk : (ks ++ [(⟨a77, c77, Lp⟩ : Sl (List UInt8)), (⟨a84, c84, Lq⟩ : Sl (List UInt8))]).length = ks.length + 2 := by rw [List.length_append]; rfl
        exact ow_nil (fun w hm => ⟨(i0 + 1, (a129, c129, e129), ks ++ [(⟨a77, c77, Lp⟩ : Sl (List UInt8)), (⟨a84, c84, Lq⟩ : Sl (List UInt8))], es ++ [ep, eq]), ⟨by dsimp only; omega, by dsimp only; rw [hnk]; omega, by dsimp only; rw [hnk]; exact hr129.cong rfl rfl (by rw [List.map_append]; simp only [List.map_cons, List.map_nil, Sl.v, hpn, hqn]), by
            have h7 := (hrs.snoc (s := (⟨a77, c77, Lp⟩ : Sl (List UInt8))) (e := ep) (by dsimp only; rw [hpn]; exact hrp)).snoc (s := (⟨a84, c84, Lq⟩ : Sl (List UInt8))) (e := eq) (by dsimp only; rw [hqn]; exact hrq)
            simpa using h7, KOk.snoc2 hko hkn (by dsimp only; omega) (by dsimp only; omega) hpl hql (fun q hq => hpv q (by dsimp only at hq; omega)) (fun q hq => hqv q (by dsimp only at hq; omega))⟩, by dsimp only; omega, ⟨rfl, by dsimp only; rw [hnk] <;> rfl, rfl, rfl, rfl, rfl, rfl, rfl, rfl, rfl, trivial⟩, Mem.two (H := [e129, e66, e58]) (hm.only (.cons _ (.cons_cons _ (.cons_cons _ (.cons_cons _ (.cons_cons _ (.cons_cons _ (List.Sublist.refl _))))))))⟩)
  · -- else
    obtain rfl : i0 = 3 := by omega
    refine sw_exit (into ?_)
    refine sw_seq ?_
    refine sw_seq ?_
    refine sw_region ?_
    refine ow_val (val_assign rfl) rfl ?_
    refine ow_nil (into ?_)
    refine sw_block ?_
    refine sw_loop (σ := Nat × List Ent × List Ent) (fun t => t.1 ≤ 6 ∧ RowsE 41 ks t.2.1) (fun t => [(26, vInt (t.1 : Int)), (18, .slice ak ks.length ck), (12, .slice a38 L.length c38), (11, vPtr b38), (4, vU64 n), (0, vInt (k : Int))]) (fun t => Mem w [] (ek :: (t.2.1 ++ (t.2.2 ++ es38)))) (fun t => 6 - t.1) (0, es, []) ⟨Nat.zero_le _, hrs⟩ ⟨rfl, rfl, rfl, rfl, rfl, rfl, trivial⟩ (fun w hm => hm.only (.cons_cons _ (.cons _ (.cons _ (List.Sublist.refl _))))) ?_
    rintro ⟨i6, fs, X⟩ ⟨hi6, hfs⟩
    simp only at hi6 hfs ⊢
    refine sw_seq ?_
    refine sw_seq ?_
    refine sw_region ?_
    refine ow_val (val_move rfl) rfl ?_
    refine ow_val (val_move rfl) rfl ?_
    refine ow_val (val_len rfl Tryd.underlying50) rfl ?_
    refine ow_val (val_lss_int rfl rfl) rfl ?_
    refine ow_nil (into ?_)
    refine sw_if rfl (fun h28 => ?_) (fun h28 => ?_)
    · -- then
      obtain ⟨bk, rfl⟩ := rowAddr0 hrk (by omega)
      obtain ⟨s, hs⟩ : ∃ z, ks.getD i6 default = z := ⟨_, rfl⟩
      refine sw_skip (into ?_)
      refine sw_seq ?_
      refine sw_block ?_
      refine sw_seq ?_
      refine sw_region ?_
      refine ow_val (val_move rfl) rfl ?_
      refine ow_val (val_move rfl) rfl ?_
      refine ow_val (val_indexAddr_slice i6 (i6 * 1) rfl rfl Tryd.underlying50 Tryd.sizeOf22 (by omega) (by omega) (by omega)) rfl ?_
      refine ow_val ((val_load (v := Sl.v (ks.getD i6 default)) rfl Tryd.isAgg22 (fun w' hm => Rd.get (V := Sl.v) (p := ks) (k := i6) (hrk.rdAt hm (i := 0) rfl) (by omega) (by omega))).to (v' := .slice s.a s.xs.length s.c) (by rw [hs]; rfl)) rfl ?_
      refine ow_val (val_assign rfl) rfl ?_
      refine ow_nil (into ?_)
      refine sw_seq ?_
      refine sw_region ?_
      refine ow_val (val_assign rfl) rfl ?_
      refine ow_nil (into ?_)
      refine sw_block ?_
      obtain ⟨es1, er0, es2, rfl, her, hput⟩ := hfs.split (i := i6) (by omega)
      rw [hs] at her hput
      have hso := hko i6 (by omega)
      rw [hs] at hso
      have hsn := hso.1
      have hsx := flatD_len hso.2.1
      refine sw_loop (σ := Nat × Option Addr × Nat × Ent × Ent × List Value) (fun t => t.1 ≤ 40 ∧ GrE 41 32 s.a s.xs.length s.c (flatD s.xs) t.2.2.2.2.2 t.1 t.2.1 t.2.2.1 t.2.2.2.1 t.2.2.2.2.1) (fun t => [(28, vInt (t.1 : Int)), (27, .slice t.2.1 (s.xs.length + t.1) t.2.2.1), (26, vInt (i6 : Int)), (18, .slice (some ⟨bk, 0, none⟩) ks.length ck), (12, .slice a38 L.length c38), (11, vPtr b38), (4, vU64 n), (0, vInt (k : Int))]) (fun t => Mem w [] (t.2.2.2.1 :: t.2.2.2.2.1 :: ek :: ((es1 ++ es2) ++ (X ++ es38)))) (fun t => 40 - t.1) (0, s.a, s.c, er0, none, []) ⟨Nat.zero_le _, GrE.start her⟩ ⟨rfl, rfl, rfl, rfl, rfl, rfl, rfl, rfl, trivial⟩ (fun w hm => Mem.pull (H := [ek]) hm) ?_
      rintro ⟨q8, ag, cg, er, eg, ys⟩ ⟨hq8, hgr⟩
      simp only at hq8 hgr ⊢
      refine sw_seq ?_
      refine sw_seq ?_
      refine sw_region ?_
      refine ow_val (val_move rfl) rfl ?_
      refine ow_val (val_lss_int rfl rfl) rfl ?_
      refine ow_nil (into ?_)
      refine sw_if rfl (fun h32 => ?_) (fun h32 => ?_)
      · -- then
        refine sw_skip (into ?_)
        refine sw_seq ?_
        refine sw_block ?_
        refine sw_region ?_
        refine ow_val (val_move rfl) rfl ?_
        refine ow_val (val_move rfl) rfl ?_
        refine ow_val (val_conv_n_u8 i6 Tryd.underlying3 Tryd.underlying5 rfl rfl) rfl ?_
        refine ow_val (val_build' (cs := (([(UInt8.ofNat i6), 200] : List UInt8) ++ List.replicate 30 0).map vU8) rfl (by kernel_rfl)) rfl ?_
        refine ow_make (acts_buildSlice (cs := [((([(UInt8.ofNat i6), 200] : List UInt8) ++ List.replicate 30 0)).map vU8].flatten) Tryd.underlying22 Tryd.sizeOf41 zD rfl rfl (fill_aggs [((([(UInt8.ofNat i6), 200] : List UInt8) ++ List.replicate 30 0)).map vU8] (by decide) rfl (by simp only [List.forall_mem_cons, List.length_map]; exact ⟨rfl, fun _ h => by cases h⟩))) rfl (fun b148 hb148 => ?_)
        refine ow_grow (acts_grow (bytes := 32) 1 2 rfl rfl rfl rfl (by decide) rfl hgr hsx Tryd.underlying22 hDi hDz hDsz hDby rfl (by decide) (by decide) (fun w hm => Rd.blk (hm.at (i := 0) rfl)) rfl (fun u hu => by simp only [List.flatten_cons, List.flatten_nil, List.append_nil] at hu; exact one_u8s _ u hu) (by omega) (by omega)) rfl (fun ag9 cg9 er9 eg9 hgr9 => ?_)
        refine ow_val (val_assign rfl) rfl ?_
        refine ow_nil (into ?_)
        refine sw_region ?_
        refine ow_val (val_move rfl) rfl ?_
        refine ow_val (val_add_int ((q8 + 1 : Nat) : Int) rfl rfl (by omega) (by omega)) rfl ?_
        refine ow_val (val_assign rfl) rfl ?_
        exact ow_nil (fun w hm => ⟨(q8 + 1, ag9, cg9, er9, eg9, _), ⟨by dsimp only; omega, hgr9⟩, by dsimp only; omega, ⟨rfl, rfl, rfl, rfl, rfl, rfl, rfl, rfl, trivial⟩, hm.only (.cons _ (.cons_cons _ (.cons_cons _ (.cons_cons _ (List.Sublist.refl _)))))⟩)
      · -- else
        refine sw_exit (into ?_)
        refine sw_region ?_
        refine ow_val (val_move rfl) rfl ?_
        refine ow_val (val_add_int ((i6 + 1 : Nat) : Int) rfl rfl (by omega) (by omega)) rfl ?_
        refine ow_val (val_assign rfl) rfl ?_
        exact ow_nil (fun w hm => ⟨(i6 + 1, es1 ++ er :: es2, eg :: X), ⟨by dsimp only; omega, hput er (hgr.row hsx)⟩, by dsimp only; omega, ⟨rfl, rfl, rfl, rfl, rfl, rfl, trivial⟩, Mem.push (H := [ek]) hm⟩)
    · -- else
      obtain rfl : i6 = 6 := by omega
      refine sw_exit (into ?_)
      refine sw_seq ?_
      refine sw_seq ?_
      refine sw_region ?_
      refine ow_val (val_assign rfl) rfl ?_
      refine ow_nil (into ?_)
      refine sw_block ?_
      refine sw_loop (σ := Nat) (fun t => t ≤ 6) (fun t => [(29, vInt (t : Int)), (18, .slice ak ks.length ck), (12, .slice a38 L.length c38), (11, vPtr b38), (4, vU64 n), (0, vInt (k : Int))]) (fun _ => Mem w [] (ek :: (fs ++ (X ++ es38)))) (fun t => 6 - t) 0 (Nat.zero_le _) ⟨rfl, rfl, rfl, rfl, rfl, rfl, trivial⟩ (fun w hm => hm) ?_
      intro i10 hi10
      refine sw_seq ?_
      refine sw_seq ?_
      refine sw_region ?_
      refine ow_val (val_move rfl) rfl ?_
      refine ow_val (val_move rfl) rfl ?_
      refine ow_val (val_len rfl Tryd.underlying50) rfl ?_
      refine ow_val (val_lss_int rfl rfl) rfl ?_
      refine ow_nil (into ?_)
      refine sw_if rfl (fun h36 => ?_) (fun h36 => ?_)
      · -- then
        obtain ⟨bk, rfl⟩ := rowAddr0 hrk (by omega)
        obtain ⟨s, hs⟩ : ∃ z, ks.getD i10 default = z := ⟨_, rfl⟩
        have hso := hko i10 (by omega)
        rw [hs] at hso
        have hsn := hso.1
        refine sw_skip (into ?_)
        refine sw_seq ?_
        refine sw_block ?_
        refine sw_seq ?_
        refine sw_region ?_
        refine ow_val (val_assign rfl) rfl ?_
        refine ow_nil (into ?_)
        refine sw_block ?_
        refine sw_loop (σ := Nat) (fun t => t ≤ s.xs.length) (fun t => [(30, vInt (t : Int)), (29, vInt (i10 : Int)), (18, .slice (some ⟨bk, 0, none⟩) ks.length ck), (12, .slice a38 L.length c38), (11, vPtr b38), (4, vU64 n), (0, vInt (k : Int))]) (fun _ => Mem w [] (ek :: (fs ++ (X ++ es38)))) (fun t => s.xs.length - t) 0 (Nat.zero_le _) ⟨rfl, rfl, rfl, rfl, rfl, rfl, rfl, trivial⟩ (fun w hm => hm) ?_
        intro j12 hj12
        refine sw_seq ?_
        refine sw_seq ?_
        refine sw_region ?_
        refine ow_val (val_move rfl) rfl ?_
        refine ow_val (val_move rfl) rfl ?_
        refine ow_val (val_move rfl) rfl ?_
        refine ow_val (val_indexAddr_slice i10 (i10 * 1) rfl rfl Tryd.underlying50 Tryd.sizeOf22 (by omega) (by omega) (by omega)) rfl ?_
        refine ow_val ((val_load (v := Sl.v (ks.getD i10 default)) rfl Tryd.isAgg22 (fun w' hm => Rd.get (V := Sl.v) (p := ks) (k := i10) (hrk.rdAt hm (i := 0) rfl) (by omega) (by omega))).to (v' := .slice s.a s.xs.length s.c) (by rw [hs]; rfl)) rfl ?_
        refine ow_val (val_len rfl Tryd.underlying22) rfl ?_
        refine ow_val (val_lss_int rfl rfl) rfl ?_
        refine ow_nil (into ?_)
        refine sw_if rfl (fun h39 => ?_) (fun h39 => ?_)
        · -- then
          have hv12 := hso.2.2 j12 (by omega)
          refine sw_skip (into ?_)
          refine sw_seq ?_
          refine sw_block ?_
          refine sw_seq ?_
          refine sw_region ?_
          refine ow_val (val_move rfl) rfl ?_
          refine ow_val (val_move rfl) rfl ?_
          refine ow_val (val_indexAddr_slice i10 (i10 * 1) rfl rfl Tryd.underlying50 Tryd.sizeOf22 (by omega) (by omega) (by omega)) rfl ?_
          refine ow_val ((val_load (v := Sl.v (ks.getD i10 default)) rfl Tryd.isAgg22 (fun w' hm => Rd.get (V := Sl.v) (p := ks) (k := i10) (hrk.rdAt hm (i := 0) rfl) (by omega) (by omega))).to (v' := .slice s.a s.xs.length s.c) (by rw [hs]; rfl)) rfl ?_
          refine ow_val (val_move rfl) rfl ?_
          obtain ⟨bs, hsa⟩ : ∃ b, s.a = some ⟨b, 0, none⟩ := by have h7 := rowsAddr hfs (i := i10) (by omega); rw [hs] at h7; exact h7 (by omega)
          rw [show (Value.slice s.a s.xs.length s.c) = .slice (some ⟨bs, 0, none⟩) s.xs.length s.c from by rw [hsa]]
          refine ow_val (val_indexAddr_slice j12 (j12 * 32) rfl rfl Tryd.underlying22 Tryd.sizeOf41 (by omega) (by omega) (by omega)) rfl ?_
          refine ow_val (val_load_elem (cells := fun d => d.map vU8) (l := s.xs) (o := 0) (i := j12) rfl Tryd.isAgg41 Tryd.sizeOf41 (fun x hx => by rw [List.length_map]; exact hso.2.1 x hx) (by omega) (by omega) (fun w' hm => (by have h7 := hfs.rd (i := i10) (by omega) ((hm.heldSub (.cons _ (List.sublist_append_left _ _)))); rw [hs, hsa] at h7; exact h7))) rfl ?_
          refine ow_val (val_move rfl) rfl ?_
          refine ow_val (val_quo_int ((i10 / 2 : Nat) : Int) rfl rfl (by omega) (by omega) (by omega)) rfl ?_
          refine ow_val (val_conv_n_u8 (i10 / 2) Tryd.underlying3 Tryd.underlying5 rfl rfl) rfl ?_
          refine ow_val (val_move rfl) rfl ?_
          refine ow_val (val_conv_n_u8 j12 Tryd.underlying3 Tryd.underlying5 rfl rfl) rfl ?_
          refine ow_val (val_move rfl) rfl ?_
          refine ow_val (val_rem_nn ((i10 % 2 : Nat) : Int) rfl rfl (by omega) (by omega) (by omega)) rfl ?_
          refine ow_val (val_add_int ((77 + i10 % 2 : Nat) : Int) rfl rfl (by omega) (by omega)) rfl ?_
          refine ow_val (val_conv_n_u8 (77 + i10 % 2) Tryd.underlying3 Tryd.underlying5 rfl rfl) rfl ?_
          refine ow_val (val_build' (cs := (([(UInt8.ofNat (i10 / 2)), (UInt8.ofNat j12), (UInt8.ofNat (77 + i10 % 2))] : List UInt8) ++ List.replicate 29 0).map vU8) rfl (by kernel_rfl)) rfl ?_
          refine ow_val ((val_neq_u8s rfl rfl Tryd.eqGuardType41 Tryd.underlying41 Tryd.underlying5 Tryd.sizeOf5 Tryd.isAgg5 (hso.2.1 _ (getD_mem (by omega))) rfl).to (congrArg Value.bool (show (!decide _) = false by rw [hv12]; exact neq_self _))) rfl ?_
          refine ow_nil (into ?_)
          refine sw_false rfl rfl ?_
          refine sw_skip (into ?_)
          refine sw_region ?_
          refine ow_val (val_move rfl) rfl ?_
          refine ow_val (val_add_int ((j12 + 1 : Nat) : Int) rfl rfl (by omega) (by omega)) rfl ?_
          refine ow_val (val_assign rfl) rfl ?_
          exact ow_nil (fun w hm => ⟨j12 + 1, by omega, by omega, ⟨rfl, rfl, rfl, rfl, rfl, rfl, rfl, trivial⟩, hm⟩)
        · -- else
          refine sw_exit (into ?_)
          refine sw_region ?_
          refine ow_val (val_move rfl) rfl ?_
          refine ow_val (val_add_int ((i10 + 1 : Nat) : Int) rfl rfl (by omega) (by omega)) rfl ?_
          refine ow_val (val_assign rfl) rfl ?_
          exact ow_nil (fun w hm => ⟨i10 + 1, by omega, by omega, ⟨rfl, rfl, rfl, rfl, rfl, rfl, trivial⟩, hm⟩)
      · -- else
        obtain rfl : i10 = 6 := by omega
        refine sw_exit (into ?_)
        refine sw_seq ?_
        refine sw_region ?_
        refine ow_val (val_move rfl) rfl ?_
        refine ow_val (val_move rfl) rfl ?_
        refine ow_call_pure (v := .tuple #[.agg ((lg k (L.take n.toNat)).map vU8).toArray, vInt ((0 : Nat) : Int)]) (callsTo Tryd.func26 rfl (by kernel_rfl) rfl) rfl (fun w hm => (by have h := root_any k h1 h2 b38 L (by assumption) (by assumption) n w (hK.mem0 hm) (((htr38.right (T' := X)).right (T' := fs)).is (hm.heldSub (.cons _ (List.Sublist.refl _)))) (by omega); rw [hR] at h; exact h)) ?_
        refine ow_val (val_move rfl) rfl ?_
        refine ow_val (val_extract rfl rfl) rfl ?_
        refine ow_val (val_extract rfl rfl) rfl ?_
        refine ow_new (acts_alloc zD) rfl (fun b31 hb31 => ?_)
        refine ow_do_eq (does_store_all 0 rfl rfl rfl (one_u8s _) Tryd.sizeOf41 (by show (List.map vU8 (lg k (L.take n.toNat))).length = _; rw [List.length_map]; exact (lg_len h2 _ rfl (by assumption))) (by show (List.map vU8 zeros32).length = _; rw [List.length_map]; exact zeros32_len)) ?_
        refine ow_val (val_assign rfl) rfl ?_
        refine ow_nil (into ?_)
        refine sw_seq ?_
        refine sw_region_lex _ [] [(0, 0), (1, 0), (2, 0), (4, 0), (5, 0), (6, 0), (7, 0), (3, 1), (8, 2), (9, 0), (10, 0), (11, 0)] (by kernel_rfl) (by kernel_rfl) (fun _ _ _ h => h) (fun _ h => h) (fun _ h => h.drawn _) ?_
        refine lw_pure rfl (val_move rfl) rfl ?_
        refine lw_pure rfl ((val_eql_int rfl rfl).to (v' := .bool true) (congrArg Value.bool (decide_eq_true (by simp)))) rfl ?_
        refine lw_pure rfl (val_move rfl) rfl ?_
        refine lwg_pure rfl (wg rfl rfl) (val_move rfl) rfl ?_
        refine lwg_pure rfl (wg rfl rfl) (val_move rfl) rfl ?_
        refine lwg_pure rfl (wg rfl rfl) (val_move rfl) rfl ?_
        refine lwg_pure rfl (wg rfl rfl) (val_slice_hi n.toNat rfl rfl Tryd.underlying22 Tryd.sizeOf41 rfl (by omega)) rfl ?_
        refine lwg_held rfl (wg rfl rfl) (val_load_all 0 rfl rfl Tryd.isAgg41 Tryd.sizeOf41 (by show (List.map vU8 (lg k (L.take n.toNat))).length = _; rw [List.length_map]; exact (lg_len h2 _ rfl (by assumption)))) rfl ?_
        refine lwg_call_pure (v := .agg ((lg k (L.take n.toNat)).map vU8).toArray) rfl (wg rfl rfl) (callsTo Tryd.func24 rfl (by kernel_rfl) rfl) rfl (fun w hm => rlog_any k h1 h2 _ a38 n.toNat c38 (L.take n.toNat) w (Nat.le_refl _) (by rw [List.length_take]; omega) (fun d hd => hLd d (List.mem_of_mem_take hd)) (fun d hd => hLf d (List.mem_of_mem_take hd)) (rdTakeD (((hrd38.right (T' := X)).right (T' := fs)) _ (hm.heldSub (.cons _ (.cons _ (List.Sublist.refl _))))) n.toNat) (by omega) (by omega)) ?_
        refine lwg_pure rfl (wg rfl rfl) ((val_eql_u8s rfl rfl Tryd.eqGuardType41 Tryd.underlying41 Tryd.underlying5 Tryd.sizeOf5 Tryd.isAgg5 (lg_len h2 _ rfl (by assumption)) (lg_len h2 _ rfl (by assumption))).to (congrArg Value.bool (show _ = true by simp [txt]))) rfl ?_
        refine lw_pure rfl (val_pick_true rfl rfl) rfl ?_
        refine lw_pure rfl (val_assign rfl) rfl ?_
        refine lw_nil (into ?_)
        exact sw_ret (fun w hm => ret_one _ rfl rfl ⟨rfl, hm.forgetAll⟩)

theorem mproofMemory_any (v0 : Int) (i m n : UInt64) (w : World) (hK : KW w) (a : Option Addr) (c : Nat) (l : List (List UInt8)) (hdl : ∀ d ∈ l, d.length = 32) (hr : Rd w a (l.flatMap fun d => d.map vU8)) (hc : l.length ≤ c) (hb : l.length * 32 ≤ 140737488351232) : Calls Tryd.prog 9 #[vInt v0, .slice a l.length c, vU64 i, vU64 m, vU64 n] w fun e w' => ∃ v, e = .returned v ∧ v = .bool true ∧ Mem w [] [] w' := by
  cases hwd : wd v0 with
  | false => exact mem_none v0 hwd i m n w hK a c l hdl hr hc hb
  | true =>
    have h9 := wd_iff.1 hwd
    obtain ⟨k, rfl⟩ : ∃ k : Nat, v0 = (k : Int) := ⟨v0.toNat, by omega⟩
    have h1 : 1 ≤ k := by omega
    have h2 : k ≤ 32 := by omega
    by_cases hn : n.toNat ≤ (cutL k l).length
    · obtain ⟨⟨IP, ei⟩, hI⟩ : ∃ P, (if i.toNat < n.toNat ∧ n.toNat ≤ (cutL k l).length then (incL k (seg (cutL k l) 0 n.toNat) i.toNat, 0) else ([], 4)) = P := ⟨_, rfl⟩
      obtain ⟨⟨JQ, ej⟩, hJ⟩ : ∃ P, (if m.toNat ≤ n.toNat ∧ n.toNat ≤ (cutL k l).length then (conO k (cutL k l) m.toNat n.toNat, 0) else ([], 4)) = P := ⟨_, rfl⟩
      have hcl := cutL_ok h1 h2 hdl
      have hPs : (∀ d ∈ IP, d.length = 32) ∧ IP.length ≤ (cutL k l).length + 1 := by
        by_cases h : i.toNat < n.toNat ∧ n.toNat ≤ (cutL k l).length
        · rw [if_pos h] at hI
          injection hI with e1 e2; subst e1
          refine ⟨fun d hd => (incL_mem h1 h2 _ (Nat.le_refl _) (seg_all hcl.1) (seg_all hcl.2) d hd).1, ?_⟩
          have h7 := incL_len (k := k) _ (l := seg (cutL k l) 0 n.toNat) (i := i.toNat) (Nat.le_refl _)
          rw [seg_len hn] at h7; omega
        · rw [if_neg h] at hI
          injection hI with e1 e2; subst e1
          exact ⟨fun _ h => (by cases h), Nat.zero_le _⟩
      have hQs : (∀ d ∈ JQ, d.length = 32) ∧ JQ.length ≤ (cutL k l).length + 1 := by
        by_cases h : m.toNat ≤ n.toNat ∧ n.toNat ≤ (cutL k l).length
        · rw [if_pos h] at hJ
          injection hJ with e1 e2; subst e1
          exact ⟨fun d hd => (conO_mem h1 h2 hcl.1 hcl.2 d hd).1, conO_len hn⟩
        · rw [if_neg h] at hJ
          injection hJ with e1 e2; subst e1
          exact ⟨fun _ h => (by cases h), Nat.zero_le _⟩
      exact mem_go k h1 h2 i m n w hK a c l hdl hr hc hb _ rfl hn IP JQ ei ej hI hJ hPs.1 hQs.1 hPs.2 hQs.2
    · exact mem_big k h1 h2 i m n w hK a c l hdl hr hc hb _ rfl (by omega)
end Go.Proofs.YtcdponddgnkecaaDoor
