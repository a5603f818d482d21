import Derived.Test.YtcappcjogcekkaaDoorMt9
import Derived.Test.YtcappcjogcekkaaDoorProg
set_option linter.unusedVariables false
set_option linter.unusedSimpArgs false
namespace Go.Proofs.YtcappcjogcekkaaDoor
open Go.Sx Go.Ps
theorem acts_row {P : Program} {n : Nat} {F : Fr} {M : World → Prop} {op : Op} {ty E : TypeId} {size k k' idx : Nat} {xs xs' : List Value} {w0 : World} {olds : List Nat} {m : List Ent}
    (h : Acts P n F M op ty (fun _ u w' => ∃ e', RowE u E size k xs e' ∧ Mem w0 olds (upd m idx e') w')) (hk : k = k') (hx : xs = xs') : Acts P n F M op ty (fun _ u w' => ∃ e', RowE u E size k' xs' e' ∧ Mem w0 olds (upd m idx e') w') := by
  subst hk; subst hx; exact h
theorem one_dgs (l : List (List UInt8)) : ∀ u ∈ l.flatMap (fun d => d.map vU8), u.oneCell' = true := by
  intro u hu
  obtain ⟨d, _, hd⟩ := List.mem_flatMap.1 hu
  exact one_u8s _ u hd
theorem flatMap_size' {l : List (List UInt8)} {m : Nat} (hm : l.length = m) (h : ∀ d ∈ l, d.length = 32) : (l.flatMap fun d => d.map vU8).length = m * 32 := by
  rw [flatMap_size l (n := 32) (fun y hy => by rw [List.length_map]; exact h y hy), hm]
theorem both {P : List UInt8 → Prop} {l m : List (List UInt8)} (h1 : ∀ d ∈ l, P d) (h2 : ∀ d ∈ m, P d) : ∀ d ∈ l ++ m, P d := fun d hd => (List.mem_append.1 hd).elim (h1 d) (h2 d)
def kMk : List UInt8 := ([1, 2, 3] : List UInt8) ++ List.replicate 29 0
theorem kMk_len : kMk.length = 32 := rfl
/-- The digest of one byte. -/
def bD (i : Nat) : List UInt8 := ([UInt8.ofNat i] : List UInt8) ++ List.replicate 31 0
theorem bD_len (i : Nat) : (bD i).length = 32 := rfl
theorem bD_fm {k : Nat} (h1 : 1 ≤ k) (h2 : k ≤ 32) (i : Nat) : fm (k : Int) (bD i) = true := by
  obtain ⟨j, rfl⟩ : ∃ j, k = j + 1 := ⟨k - 1, by omega⟩
  simp only [fm, wd_of h1 h2, Bool.true_and, Int.toNat_natCast]
  refine decide_eq_true ?_
  simp only [cutw, bD, List.cons_append, List.nil_append, List.take_succ_cons, List.take_replicate, List.replicate_append_replicate]
  congr 2; omega
/-- The first j of a list written over. -/
def wro (l : List (List UInt8)) (j : Nat) : List (List UInt8) := (List.range j).map bD ++ l.drop j
theorem wro_zero (l : List (List UInt8)) : wro l 0 = l := by simp [wro]
theorem wro_len {l : List (List UInt8)} {j : Nat} (h : j ≤ l.length) : (wro l j).length = l.length := by simp [wro]; omega
theorem wro_all {P : List UInt8 → Prop} {l : List (List UInt8)} {j : Nat} (h : ∀ d ∈ l, P d) (hb : ∀ i, P (bD i)) : ∀ d ∈ wro l j, P d := fun d hd => by
  rcases List.mem_append.1 hd with hd | hd
  · obtain ⟨i, _, rfl⟩ := List.mem_map.1 hd; exact hb i
  · exact h d (List.mem_of_mem_drop hd)
theorem wro_set {l : List (List UInt8)} {j : Nat} (h : j < l.length) : (wro l j).set j (bD j) = wro l (j + 1) := by
  rw [wro, wro, List.set_append_right _ _ (by simp), List.length_map, List.length_range, Nat.sub_self, List.drop_eq_getElem_cons h, List.set_cons_zero, List.range_succ, List.map_append, List.append_assoc]; rfl
theorem wro_full {l : List (List UInt8)} : wro l l.length = (List.range l.length).map bD := by simp [wro]
theorem wro_take {l : List (List UInt8)} {n : Nat} (h : n ≤ l.length) : ∀ d ∈ (wro l l.length).take n, ∃ i, d = bD i := fun d hd => by
  rw [wro_full] at hd
  obtain ⟨i, _, rfl⟩ := List.mem_map.1 (List.mem_of_mem_take hd); exact ⟨i, rfl⟩
theorem set_dgs : ∀ (l : List (List UInt8)) (rest : List Value) (j : Nat) (d : List UInt8), (∀ x ∈ l, x.length = 32) → d.length = 32 → j < l.length →
    ((l.flatMap fun d => d.map vU8) ++ rest).take (j * 32) ++ d.map vU8 ++ ((l.flatMap fun d => d.map vU8) ++ rest).drop (j * 32 + 32) = ((l.set j d).flatMap fun d => d.map vU8) ++ rest
  | x :: r, rest, 0, d, h, hd, _ => by
    have hx : (x.map vU8).length = 32 := by rw [List.length_map]; exact h x (by simp)
    rw [Nat.zero_mul, List.take_zero, List.nil_append, Nat.zero_add, List.flatMap_cons, List.append_assoc, List.drop_left' hx, List.set_cons_zero, List.flatMap_cons, List.append_assoc]
  | x :: r, rest, j + 1, d, h, hd, hj => by
    have hx : (x.map vU8).length = 32 := by rw [List.length_map]; exact h x (by simp)
    have ih := set_dgs r rest j d (fun y hy => h y (by simp [hy])) hd (by simpa using hj)
    rw [List.flatMap_cons, List.append_assoc (x.map vU8), show (j + 1) * 32 = (x.map vU8).length + j * 32 by omega, List.take_length_add_append, show (x.map vU8).length + j * 32 + 32 = (x.map vU8).length + (j * 32 + 32) by omega, List.drop_length_add_append, List.set_cons_succ, List.flatMap_cons, List.append_assoc (x.map vU8), List.append_assoc (x.map vU8), ih, List.append_assoc (x.map vU8)]
theorem rowAddr32 {a : Option Addr} {c n : Nat} {T : TypeId} {xs : List Value} {e : Ent} (h : RowE (.slice a n c) T 32 n xs e) (hn : 0 < n) : ∃ b o, a = some ⟨b, o, none⟩ := by
  obtain ⟨hl, ⟨hv, h0, he⟩ | ⟨b, cap, rest, hv, _⟩⟩ := h
  · omega
  · simp only [Value.slice.injEq] at hv; exact ⟨b, 0, hv.1⟩
theorem rowBlk32 {a : Option Addr} {c n : Nat} {T : TypeId} {xs : List Value} {e : Ent} (h : RowE (.slice a n c) T 32 n xs e) (hn : 0 < n) : ∃ b rest, a = some ⟨b, 0, none⟩ ∧ e = some (b, blk (xs ++ rest) T) := by
  obtain ⟨hl, ⟨hv, h0, he⟩ | ⟨b, cap, rest, hv, _, _, _, he⟩⟩ := h
  · omega
  · simp only [Value.slice.injEq] at hv; exact ⟨b, rest, hv.1, he⟩

theorem iDg : (Tryd.prog.info? 43).map (fun i => (i.zero, i.size, i.bytes)) = some (some (.agg (zeros32.map vU8).toArray), 32, 32) := by kernel_rfl

theorem keeps_a (v0 : Int) (w : World) (hK : KW w) (a : Option Addr) (c : Nat) (l : List (List UInt8)) (hdl : ∀ d ∈ l, d.length = 32) (hr : Rd w a (l.flatMap fun d => d.map vU8)) (hc : l.length ≤ c) (hl : l.length < 4611686018427387904) (a1 : Option Addr) (c1 : Nat) (lm : List (List UInt8)) (hd1 : ∀ d ∈ lm, d.length = 32) (hr1 : Rd w a1 (lm.flatMap fun d => d.map vU8)) (hc1 : lm.length ≤ c1) (hl1 : lm.length < 4611686018427387904) (hq0 : fitO v0 l = false) : Calls Tryd.prog 6 #[vInt v0, .slice a l.length c, .slice a1 lm.length c1] w fun e w' => ∃ v, e = .returned v ∧ v = .bool true ∧ Mem w [] [] w' := by
  refine calls_of_sw (vs := [vInt v0, .slice a l.length c, .slice a1 lm.length c1]) Tryd.func6 rfl Tryd.ntmps6 rfl (SW.begin ?_)
  refine sw_seq ?_
  refine sw_region ?_
  refine ow_val (val_assign rfl) rfl ?_   -- 6
  refine ow_nil (into ?_)
  refine sw_seq ?_
  refine sw_seq ?_
  refine sw_region ?_
  refine ow_call_pure (v := .bool true) (callsTo Tryd.func12 rfl (by kernel_rfl) rfl) rfl (fun w hm => awake_any w (hK.mem0 hm)) ?_   -- 21
  refine ow_val (val_not rfl) rfl ?_   -- 22
  refine ow_nil (into ?_)
  refine sw_false rfl rfl ?_
  refine sw_skip (into ?_)
  refine sw_seq ?_
  refine sw_seq ?_
  refine sw_region ?_
  refine ow_val (val_move rfl) rfl ?_   -- 23
  refine ow_val (val_move rfl) rfl ?_   -- 24
  refine ow_call_pure (v := .bool false) (callsTo Tryd.func29 rfl (by kernel_rfl) rfl) rfl (fun w hm => fit_is w a l.length c l rfl hdl (hr.mem hm) (by omega) (by omega) hq0) ?_   -- 25
  refine ow_val (val_not rfl) rfl ?_   -- 26
  refine ow_val (val_move rfl) rfl ?_   -- 27
  first | refine ow_guard_no rfl rfl rfl rfl rfl ?_ | refine ow_guard_none rfl rfl rfl rfl rfl ?_
  first | refine ow_guard_no rfl rfl rfl rfl rfl ?_ | refine ow_guard_none rfl rfl rfl rfl rfl ?_
  first | refine ow_guard_no rfl rfl rfl rfl rfl ?_ | refine ow_guard_none rfl rfl rfl rfl rfl ?_
  first | refine ow_guard_no rfl rfl rfl rfl rfl ?_ | refine ow_guard_none rfl rfl rfl rfl rfl ?_
  refine ow_val (val_pick_true rfl rfl) rfl ?_   -- 32
  refine ow_val (val_move rfl) rfl ?_   -- 33
  first | refine ow_guard_no rfl rfl rfl rfl rfl ?_ | refine ow_guard_none rfl rfl rfl rfl rfl ?_
  first | refine ow_guard_no rfl rfl rfl rfl rfl ?_ | refine ow_guard_none rfl rfl rfl rfl rfl ?_
  first | refine ow_guard_no rfl rfl rfl rfl rfl ?_ | refine ow_guard_none rfl rfl rfl rfl rfl ?_
  first | refine ow_guard_no rfl rfl rfl rfl rfl ?_ | refine ow_guard_none rfl rfl rfl rfl rfl ?_
  first | refine ow_guard_no rfl rfl rfl rfl rfl ?_ | refine ow_guard_none rfl rfl rfl rfl rfl ?_
  first | refine ow_guard_no rfl rfl rfl rfl rfl ?_ | refine ow_guard_none rfl rfl rfl rfl rfl ?_
  refine ow_val (val_pick_true rfl rfl) rfl ?_   -- 40
  refine ow_nil (into ?_)
  refine sw_true rfl rfl ?_
  refine sw_seq ?_
  refine sw_region ?_
  refine ow_val (val_assign rfl) rfl ?_   -- 6
  refine ow_nil (into ?_)
  refine sw_ret (fun w hm => ?_)
  try dsimp only [thenP, blockP, Nat.beq, cond]
  exact ret_one _ rfl rfl ⟨rfl, hm.forgetAll⟩

theorem keeps_b (v0 : Int) (w : World) (hK : KW w) (a : Option Addr) (c : Nat) (l : List (List UInt8)) (hdl : ∀ d ∈ l, d.length = 32) (hr : Rd w a (l.flatMap fun d => d.map vU8)) (hc : l.length ≤ c) (hl : l.length < 4611686018427387904) (a1 : Option Addr) (c1 : Nat) (lm : List (List UInt8)) (hd1 : ∀ d ∈ lm, d.length = 32) (hr1 : Rd w a1 (lm.flatMap fun d => d.map vU8)) (hc1 : lm.length ≤ c1) (hl1 : lm.length < 4611686018427387904) (hq0 : fitO v0 l = true) (hq1 : fitO v0 lm = false) : Calls Tryd.prog 6 #[vInt v0, .slice a l.length c, .slice a1 lm.length c1] w fun e w' => ∃ v, e = .returned v ∧ v = .bool true ∧ Mem w [] [] w' := by
  refine calls_of_sw (vs := [vInt v0, .slice a l.length c, .slice a1 lm.length c1]) Tryd.func6 rfl Tryd.ntmps6 rfl (SW.begin ?_)
  refine sw_seq ?_
  refine sw_region ?_
  refine ow_val (val_assign rfl) rfl ?_   -- 6
  refine ow_nil (into ?_)
  refine sw_seq ?_
  refine sw_seq ?_
  refine sw_region ?_
  refine ow_call_pure (v := .bool true) (callsTo Tryd.func12 rfl (by kernel_rfl) rfl) rfl (fun w hm => awake_any w (hK.mem0 hm)) ?_   -- 21
  refine ow_val (val_not rfl) rfl ?_   -- 22
  refine ow_nil (into ?_)
  refine sw_false rfl rfl ?_
  refine sw_skip (into ?_)
  refine sw_seq ?_
  refine sw_seq ?_
  refine sw_region ?_
  refine ow_val (val_move rfl) rfl ?_   -- 23
  refine ow_val (val_move rfl) rfl ?_   -- 24
  refine ow_call_pure (v := .bool true) (callsTo Tryd.func29 rfl (by kernel_rfl) rfl) rfl (fun w hm => fit_is w a l.length c l rfl hdl (hr.mem hm) (by omega) (by omega) hq0) ?_   -- 25
  refine ow_val (val_not rfl) rfl ?_   -- 26
  refine ow_val (val_move rfl) rfl ?_   -- 27
  refine ow_guard_yes rfl rfl rfl ?_
  refine ow_val (val_move rfl) rfl ?_   -- 28
  refine ow_guard_yes rfl rfl rfl ?_
  refine ow_val (val_move rfl) rfl ?_   -- 29
  refine ow_guard_yes rfl rfl rfl ?_
  refine ow_call_pure (v := .bool false) (callsTo Tryd.func29 rfl (by kernel_rfl) rfl) rfl (fun w hm => fit_is w a1 lm.length c1 lm rfl hd1 (hr1.mem hm) (by omega) (by omega) hq1) ?_   -- 30
  refine ow_guard_yes rfl rfl rfl ?_
  refine ow_val (val_not rfl) rfl ?_   -- 31
  refine ow_val (val_pick_false rfl rfl) rfl ?_   -- 32
  refine ow_val (val_move rfl) rfl ?_   -- 33
  first | refine ow_guard_no rfl rfl rfl rfl rfl ?_ | refine ow_guard_none rfl rfl rfl rfl rfl ?_
  first | refine ow_guard_no rfl rfl rfl rfl rfl ?_ | refine ow_guard_none rfl rfl rfl rfl rfl ?_
  first | refine ow_guard_no rfl rfl rfl rfl rfl ?_ | refine ow_guard_none rfl rfl rfl rfl rfl ?_
  first | refine ow_guard_no rfl rfl rfl rfl rfl ?_ | refine ow_guard_none rfl rfl rfl rfl rfl ?_
  first | refine ow_guard_no rfl rfl rfl rfl rfl ?_ | refine ow_guard_none rfl rfl rfl rfl rfl ?_
  first | refine ow_guard_no rfl rfl rfl rfl rfl ?_ | refine ow_guard_none rfl rfl rfl rfl rfl ?_
  refine ow_val (val_pick_true rfl rfl) rfl ?_   -- 40
  refine ow_nil (into ?_)
  refine sw_true rfl rfl ?_
  refine sw_seq ?_
  refine sw_region ?_
  refine ow_val (val_assign rfl) rfl ?_   -- 6
  refine ow_nil (into ?_)
  refine sw_ret (fun w hm => ?_)
  try dsimp only [thenP, blockP, Nat.beq, cond]
  exact ret_one _ rfl rfl ⟨rfl, hm.forgetAll⟩

theorem keeps_c (v0 : Int) (w : World) (hK : KW w) (a : Option Addr) (c : Nat) (l : List (List UInt8)) (hdl : ∀ d ∈ l, d.length = 32) (hr : Rd w a (l.flatMap fun d => d.map vU8)) (hc : l.length ≤ c) (hl : l.length < 4611686018427387904) (a1 : Option Addr) (c1 : Nat) (lm : List (List UInt8)) (hd1 : ∀ d ∈ lm, d.length = 32) (hr1 : Rd w a1 (lm.flatMap fun d => d.map vU8)) (hc1 : lm.length ≤ c1) (hl1 : lm.length < 4611686018427387904) (hq0 : fitO v0 l = true) (hq1 : fitO v0 lm = true) (h5 : ¬ l.length + lm.length ≤ 400) : Calls Tryd.prog 6 #[vInt v0, .slice a l.length c, .slice a1 lm.length c1] w fun e w' => ∃ v, e = .returned v ∧ v = .bool true ∧ Mem w [] [] w' := by
  refine calls_of_sw (vs := [vInt v0, .slice a l.length c, .slice a1 lm.length c1]) Tryd.func6 rfl Tryd.ntmps6 rfl (SW.begin ?_)
  refine sw_seq ?_
  refine sw_region ?_
  refine ow_val (val_assign rfl) rfl ?_   -- 6
  refine ow_nil (into ?_)
  refine sw_seq ?_
  refine sw_seq ?_
  refine sw_region ?_
  refine ow_call_pure (v := .bool true) (callsTo Tryd.func12 rfl (by kernel_rfl) rfl) rfl (fun w hm => awake_any w (hK.mem0 hm)) ?_   -- 21
  refine ow_val (val_not rfl) rfl ?_   -- 22
  refine ow_nil (into ?_)
  refine sw_false rfl rfl ?_
  refine sw_skip (into ?_)
  refine sw_seq ?_
  refine sw_seq ?_
  refine sw_region ?_
  refine ow_val (val_move rfl) rfl ?_   -- 23
  refine ow_val (val_move rfl) rfl ?_   -- 24
  refine ow_call_pure (v := .bool true) (callsTo Tryd.func29 rfl (by kernel_rfl) rfl) rfl (fun w hm => fit_is w a l.length c l rfl hdl (hr.mem hm) (by omega) (by omega) hq0) ?_   -- 25
  refine ow_val (val_not rfl) rfl ?_   -- 26
  refine ow_val (val_move rfl) rfl ?_   -- 27
  refine ow_guard_yes rfl rfl rfl ?_
  refine ow_val (val_move rfl) rfl ?_   -- 28
  refine ow_guard_yes rfl rfl rfl ?_
  refine ow_val (val_move rfl) rfl ?_   -- 29
  refine ow_guard_yes rfl rfl rfl ?_
  refine ow_call_pure (v := .bool true) (callsTo Tryd.func29 rfl (by kernel_rfl) rfl) rfl (fun w hm => fit_is w a1 lm.length c1 lm rfl hd1 (hr1.mem hm) (by omega) (by omega) hq1) ?_   -- 30
  refine ow_guard_yes rfl rfl rfl ?_
  refine ow_val (val_not rfl) rfl ?_   -- 31
  refine ow_val (val_pick_false rfl rfl) rfl ?_   -- 32
  refine ow_val (val_move rfl) rfl ?_   -- 33
  refine ow_guard_yes rfl rfl rfl ?_
  refine ow_val (val_move rfl) rfl ?_   -- 34
  refine ow_guard_yes rfl rfl rfl ?_
  refine ow_val (val_len rfl Tryd.underlying32) rfl ?_   -- 35
  refine ow_guard_yes rfl rfl rfl ?_
  refine ow_val (val_move rfl) rfl ?_   -- 36
  refine ow_guard_yes rfl rfl rfl ?_
  refine ow_val (val_len rfl Tryd.underlying32) rfl ?_   -- 37
  refine ow_guard_yes rfl rfl rfl ?_
  refine ow_val (val_add_int ((l.length + lm.length : Nat) : Int) rfl rfl (by omega) (by omega)) rfl ?_   -- 38
  refine ow_guard_yes rfl rfl rfl ?_
  refine ow_val ((val_gtr_int rfl rfl).to (congrArg Value.bool (decide_eq_true (by omega)))) rfl ?_   -- 39
  refine ow_val (val_pick_false rfl rfl) rfl ?_   -- 40
  refine ow_nil (into ?_)
  refine sw_true rfl rfl ?_
  refine sw_seq ?_
  refine sw_region ?_
  refine ow_val (val_assign rfl) rfl ?_   -- 6
  refine ow_nil (into ?_)
  refine sw_ret (fun w hm => ?_)
  try dsimp only [thenP, blockP, Nat.beq, cond]
  exact ret_one _ rfl rfl ⟨rfl, hm.forgetAll⟩

theorem Rd.preD2 {w : World} {a : Option Addr} {p q r : List (List UInt8)} (h : Rd w a (((p ++ q) ++ r).flatMap fun d => d.map vU8)) : Rd w a (p.flatMap fun d => d.map vU8) := by
  rw [List.append_assoc, List.flatMap_append] at h; exact Rd.pre h
theorem mid_list {l m r : List (List UInt8)} : (((l ++ m) ++ r).drop l.length).take (l.length + m.length - l.length) = m := by
  rw [List.append_assoc, List.drop_left, Nat.add_sub_cancel_left, List.take_left]
theorem Rd.mid {w : World} {b c : Nat} {l m r : List (List UInt8)} (h : Rd w (some ⟨b, 0, none⟩) (((l ++ m) ++ r).flatMap fun d => d.map vU8)) (hd : ∀ d ∈ (l ++ m) ++ r, d.length = 32) (hc : ((l ++ m) ++ r).length ≤ c) : Rd w (Sx.cut (some ⟨b, 0, none⟩) c l.length 32) (m.flatMap fun d => d.map vU8) := by
  have h2 := rdTakeD (rdCutD h hd (k := l.length) hc) (l.length + m.length - l.length)
  rwa [mid_list] at h2
theorem full_get {l m : List (List UInt8)} {r : List (List UInt8)} {i : Nat} (h : i < (l ++ m).length) : ((l ++ m) ++ r).getD i default = (l ++ m).getD i default := getD_app1 h

theorem mark_get {l : List (List UInt8)} {i : Nat} (h : l.length ≤ i) (h2 : i < l.length + 2) : (l ++ [kMk, kMk]).getD i default = kMk := by
  obtain ⟨j, rfl⟩ : ∃ j, i = l.length + j := ⟨i - l.length, by omega⟩
  rw [getD_app]
  rcases (show j = 0 ∨ j = 1 by omega) with rfl | rfl <;> rfl

theorem keeps_main (k : Nat) (h1 : 1 ≤ k) (h2 : k ≤ 32) (w : World) (hK : KW w) (a : Option Addr) (c : Nat) (l : List (List UInt8)) (hdl : ∀ d ∈ l, d.length = 32) (hr : Rd w a (l.flatMap fun d => d.map vU8)) (hc : l.length ≤ c) (hl : l.length < 4611686018427387904) (a1 : Option Addr) (c1 : Nat) (lm : List (List UInt8)) (hd1 : ∀ d ∈ lm, d.length = 32) (hr1 : Rd w a1 (lm.flatMap fun d => d.map vU8)) (hc1 : lm.length ≤ c1) (hl1 : lm.length < 4611686018427387904) (hq0 : fitO (k : Int) l = true) (hq1 : fitO (k : Int) lm = true) (h5 : l.length + lm.length ≤ 400) : Calls Tryd.prog 6 #[vInt (k : Int), .slice a l.length c, .slice a1 lm.length c1] w fun e w' => ∃ v, e = .returned v ∧ v = .bool true ∧ Mem w [] [] w' := by
  obtain ⟨tiD, hDi, hDz, hDsz, hDby⟩ := info_parts iDg
  have hfl := (fitO_iff.1 hq0).2
  have hf1 := (fitO_iff.1 hq1).2
  have hn0 : ∀ d ∈ ([] : List (List UInt8)), d.length = 32 := fun _ h => by cases h
  have hn1 : ∀ d ∈ ([] : List (List UInt8)), fm (k : Int) d = true := fun _ h => by cases h
  have hnn : ([] : List (List UInt8)).length = 0 := rfl
  have hFn : ((l ++ lm) ++ [kMk, kMk]).length = l.length + lm.length + 2 := by simp; omega
  have hF : ∀ d ∈ (l ++ lm) ++ [kMk, kMk], d.length = 32 := both (both hdl hd1) (by simp [kMk_len])
  have hlm : ∀ d ∈ l ++ lm, d.length = 32 := both hdl hd1
  have hlf : ∀ d ∈ l ++ lm, fm (k : Int) d = true := both hfl hf1
  have hln : (l ++ lm).length = l.length + lm.length := List.length_append
  refine calls_of_sw (vs := [vInt (k : Int), .slice a l.length c, .slice a1 lm.length c1]) Tryd.func6 rfl Tryd.ntmps6 rfl (SW.begin ?_)
  refine sw_seq ?_
  refine sw_region ?_
  refine ow_val (val_assign rfl) rfl ?_   -- 6
  refine ow_nil (into ?_)
  refine sw_seq ?_
  refine sw_seq ?_
  refine sw_region ?_
  refine ow_call_pure (v := .bool true) (callsTo Tryd.func12 rfl (by kernel_rfl) rfl) rfl (fun w hm => awake_any w (hK.mem0 hm)) ?_   -- 21
  refine ow_val (val_not rfl) rfl ?_   -- 22
  refine ow_nil (into ?_)
  refine sw_false rfl rfl ?_
  refine sw_skip (into ?_)
  refine sw_seq ?_
  refine sw_seq ?_
  refine sw_region ?_
  refine ow_val (val_move rfl) rfl ?_   -- 23
  refine ow_val (val_move rfl) rfl ?_   -- 24
  refine ow_call_pure (v := .bool true) (callsTo Tryd.func29 rfl (by kernel_rfl) rfl) rfl (fun w hm => fit_is w a l.length c l rfl hdl (hr.mem hm) (by omega) (by omega) hq0) ?_   -- 25
  refine ow_val (val_not rfl) rfl ?_   -- 26
  refine ow_val (val_move rfl) rfl ?_   -- 27
  refine ow_guard_yes rfl rfl rfl ?_
  refine ow_val (val_move rfl) rfl ?_   -- 28
  refine ow_guard_yes rfl rfl rfl ?_
  refine ow_val (val_move rfl) rfl ?_   -- 29
  refine ow_guard_yes rfl rfl rfl ?_
  refine ow_call_pure (v := .bool true) (callsTo Tryd.func29 rfl (by kernel_rfl) rfl) rfl (fun w hm => fit_is w a1 lm.length c1 lm rfl hd1 (hr1.mem hm) (by omega) (by omega) hq1) ?_   -- 30
  refine ow_guard_yes rfl rfl rfl ?_
  refine ow_val (val_not rfl) rfl ?_   -- 31
  refine ow_val (val_pick_false rfl rfl) rfl ?_   -- 32
  refine ow_val (val_move rfl) rfl ?_   -- 33
  refine ow_guard_yes rfl rfl rfl ?_
  refine ow_val (val_move rfl) rfl ?_   -- 34
  refine ow_guard_yes rfl rfl rfl ?_
  refine ow_val (val_len rfl Tryd.underlying32) rfl ?_   -- 35
  refine ow_guard_yes rfl rfl rfl ?_
  refine ow_val (val_move rfl) rfl ?_   -- 36
  refine ow_guard_yes rfl rfl rfl ?_
  refine ow_val (val_len rfl Tryd.underlying32) rfl ?_   -- 37
  refine ow_guard_yes rfl rfl rfl ?_
  refine ow_val (val_add_int ((l.length + lm.length : Nat) : Int) rfl rfl (by omega) (by omega)) rfl ?_   -- 38
  refine ow_guard_yes rfl rfl rfl ?_
  refine ow_val ((val_gtr_int rfl rfl).to (congrArg Value.bool (decide_eq_false (by omega)))) rfl ?_   -- 39
  refine ow_val (val_pick_false rfl rfl) rfl ?_   -- 40
  refine ow_nil (into ?_)
  refine sw_false rfl rfl ?_
  refine sw_skip (into ?_)
  refine sw_seq ?_
  refine sw_region ?_
  refine ow_val (val_build' (cs := kMk.map vU8) rfl (by kernel_rfl)) rfl ?_   -- 41
  refine ow_new (acts_alloc zD) rfl (fun b7 hb7 => ?_)   -- 7
  refine ow_do_eq (does_store_all 0 rfl rfl rfl (one_u8s _) Tryd.sizeOf43 (by show (List.map vU8 kMk).length = _; rw [List.length_map]; exact kMk_len) (by show (List.map vU8 zeros32).length = _; rw [List.length_map]; exact zeros32_len)) ?_
  refine ow_nil (into ?_)
  refine sw_join (σ := Option Addr × Nat × Ent) (fun t => RowE (.slice t.1 (l.length + lm.length + 2) t.2.1) 43 32 (l.length + lm.length + 2) (((l ++ lm) ++ [kMk, kMk]).flatMap fun d => d.map vU8) t.2.2) (fun t => [(8, .slice t.1 (l.length + lm.length + 2) t.2.1), (7, .pointer (some ⟨b7, 0, none⟩)), (0, vInt (k : Int)), (1, .slice a l.length c), (2, .slice a1 lm.length c1)]) (fun t => Mem w [] [t.2.2, some (b7, blk (kMk.map vU8) 43)]) ?_ ?_
  · -- part
    refine sw_region_tree _ [0, 2, 4, 7, 8] (.one 1 0 (.one 3 0 (.alt 0 (.alt 2 (.alt 4 (.alt 5 (.one 6 2 (.one 7 2 (.one 8 2 (.one 9 0 .done)))) (.alt 6 (.one 5 2 (.one 7 2 (.one 8 2 (.one 9 0 .done)))) .stop)) (.alt 5 (.alt 4 (.one 6 2 (.one 7 2 (.one 8 2 (.one 9 0 .done)))) (.alt 6 (.alt 4 (.one 7 2 (.one 8 2 (.one 9 0 .done))) (.alt 7 (.one 4 2 (.one 8 2 (.one 9 0 .done))) .stop)) .stop)) (.alt 6 (.alt 4 (.one 5 2 (.one 7 2 (.one 8 2 (.one 9 0 .done)))) (.alt 5 (.alt 4 (.one 7 2 (.one 8 2 (.one 9 0 .done))) (.alt 7 (.one 4 2 (.one 8 2 (.one 9 0 .done))) .stop)) .stop)) .stop))) (.alt 5 (.alt 2 (.alt 4 (.one 6 2 (.one 7 2 (.one 8 2 (.one 9 0 .done)))) (.alt 6 (.alt 4 (.one 7 2 (.one 8 2 (.one 9 0 .done))) (.alt 7 (.one 4 2 (.one 8 2 (.one 9 0 .done))) .stop)) .stop)) (.alt 6 (.alt 2 (.alt 4 (.one 7 2 (.one 8 2 (.one 9 0 .done))) (.alt 7 (.one 4 2 (.one 8 2 (.one 9 0 .done))) .stop)) (.alt 7 (.one 2 2 (.one 4 2 (.one 8 2 (.one 9 0 .done)))) .stop)) .stop)) (.alt 6 (.alt 2 (.alt 4 (.one 5 2 (.one 7 2 (.one 8 2 (.one 9 0 .done)))) (.alt 5 (.alt 4 (.one 7 2 (.one 8 2 (.one 9 0 .done))) (.alt 7 (.one 4 2 (.one 8 2 (.one 9 0 .done))) .stop)) .stop)) (.alt 5 (.alt 2 (.alt 4 (.one 7 2 (.one 8 2 (.one 9 0 .done))) (.alt 7 (.one 4 2 (.one 8 2 (.one 9 0 .done))) .stop)) (.alt 7 (.one 2 2 (.one 4 2 (.one 8 2 (.one 9 0 .done)))) .stop)) .stop)) .stop))) (.alt 5 (.alt 0 (.alt 2 (.alt 4 (.one 6 2 (.one 7 2 (.one 8 2 (.one 9 0 .done)))) (.alt 6 (.alt 4 (.one 7 2 (.one 8 2 (.one 9 0 .done))) (.alt 7 (.one 4 2 (.one 8 2 (.one 9 0 .done))) .stop)) .stop)) (.alt 6 (.alt 2 (.alt 4 (.one 7 2 (.one 8 2 (.one 9 0 .done))) (.alt 7 (.one 4 2 (.one 8 2 (.one 9 0 .done))) .stop)) (.alt 7 (.one 2 2 (.one 4 2 (.one 8 2 (.one 9 0 .done)))) .stop)) .stop)) (.alt 6 (.alt 0 (.alt 2 (.alt 4 (.one 7 2 (.one 8 2 (.one 9 0 .done))) (.alt 7 (.one 4 2 (.one 8 2 (.one 9 0 .done))) .stop)) (.alt 7 (.one 2 2 (.one 4 2 (.one 8 2 (.one 9 0 .done)))) .stop)) (.alt 7 (.one 0 2 (.one 2 2 (.one 4 2 (.one 8 2 (.one 9 0 .done))))) .stop)) .stop)) (.alt 6 (.alt 0 (.alt 2 (.alt 4 (.one 5 2 (.one 7 2 (.one 8 2 (.one 9 0 .done)))) (.alt 5 (.alt 4 (.one 7 2 (.one 8 2 (.one 9 0 .done))) (.alt 7 (.one 4 2 (.one 8 2 (.one 9 0 .done))) .stop)) .stop)) (.alt 5 (.alt 2 (.alt 4 (.one 7 2 (.one 8 2 (.one 9 0 .done))) (.alt 7 (.one 4 2 (.one 8 2 (.one 9 0 .done))) .stop)) (.alt 7 (.one 2 2 (.one 4 2 (.one 8 2 (.one 9 0 .done)))) .stop)) .stop)) (.alt 5 (.alt 0 (.alt 2 (.alt 4 (.one 7 2 (.one 8 2 (.one 9 0 .done))) (.alt 7 (.one 4 2 (.one 8 2 (.one 9 0 .done))) .stop)) (.alt 7 (.one 2 2 (.one 4 2 (.one 8 2 (.one 9 0 .done)))) .stop)) (.alt 7 (.one 0 2 (.one 2 2 (.one 4 2 (.one 8 2 (.one 9 0 .done))))) .stop)) .stop)) .stop))))) (by kernel_rfl) (by kernel_rfl) (fun _ _ _ h => h) (fun _ h => h) (fun _ h => h.drawn _) ?_
    refine lt_pure rfl trivial (val_move rfl) rfl ?_   -- 43
    refine lt_pure rfl trivial (val_move rfl) rfl ?_   -- 45
    refine lt_alt ?_ ?_
    · -- first 0
      refine lt_make (fun b => .slice (some ⟨b, 0, none⟩) 0 0) rfl trivial (acts_buildSlice (cs := [].flatten) Tryd.underlying32 Tryd.sizeOf43 zD rfl rfl (fill_aggs [] (by decide) rfl (fun _ h => by cases h))) rfl (fun h => nomatch h) (fun b42 hb42 => ?_)   -- 42
      refine lt_alt ?_ ?_
      · -- first 2
        refine lt_append (k := l.length) (xs := l.flatMap fun d => d.map vU8) rfl trivial (acts_row (acts_append (size := 32) (bytes := 32) 0 rfl rfl rfl (RowE.full (n := 0) (size := 32) rfl (by decide)) rfl Tryd.underlying32 hDi hDz hDsz hDby rfl (by decide) (fun w hm => (hr.mem hm)) (flatMap_size' rfl hdl) (one_dgs _) (by omega) (by omega)) (Nat.zero_add _) (by simp only [List.flatMap_append, List.flatMap_cons, List.flatMap_nil, List.flatten_cons, List.flatten_nil, List.nil_append, List.append_nil])) rfl (fun h => nomatch h) (fun a44 c44 e44 hr44' => ?_)   -- 44
        refine lt_alt ?_ ?_
        · -- first 4
          refine lt_append (k := l.length + lm.length) (xs := (l ++ lm).flatMap fun d => d.map vU8) rfl trivial (acts_row (acts_append (size := 32) (bytes := 32) 0 rfl rfl rfl hr44' rfl Tryd.underlying32 hDi hDz hDsz hDby rfl (by decide) (fun w hm => (hr1.mem hm)) (flatMap_size' rfl hd1) (one_dgs _) (by omega) (by omega)) rfl (by simp only [List.flatMap_append, List.flatMap_cons, List.flatMap_nil, List.flatten_cons, List.flatten_nil, List.nil_append, List.append_nil])) rfl (fun h => nomatch h) (fun a46 c46 e46 hr46' => ?_)   -- 46
          have hx46 : (l ++ lm).length = l.length + lm.length := by rw [List.length_append] <;> rfl
          refine lt_alt ?_ ?_
          · -- first 5
            refine lt_val rfl trivial (val_load_all 1 rfl rfl Tryd.isAgg43 Tryd.sizeOf43 (by show (List.map vU8 kMk).length = _; rw [List.length_map]; exact kMk_len)) rfl (fun h => nomatch h) ?_   -- 47
            refine lt_val rfl trivial (val_load_all 1 rfl rfl Tryd.isAgg43 Tryd.sizeOf43 (by show (List.map vU8 kMk).length = _; rw [List.length_map]; exact kMk_len)) rfl (fun h => nomatch h) ?_   -- 48
            refine lt_make (fun b => .slice (some ⟨b, 0, none⟩) 2 2) rfl trivial (acts_buildSlice (cs := [kMk.map vU8, kMk.map vU8].flatten) Tryd.underlying32 Tryd.sizeOf43 zD rfl rfl (fill_aggs [kMk.map vU8, kMk.map vU8] (by decide) rfl (by simp only [List.forall_mem_cons, List.length_map]; exact ⟨kMk_len, kMk_len, fun _ h => by cases h⟩))) rfl (fun h => nomatch h) (fun b49 hb49 => ?_)   -- 49
            refine lt_append (k := l.length + lm.length + 2) (xs := ((l ++ lm) ++ [kMk, kMk]).flatMap fun d => d.map vU8) rfl trivial (acts_row (acts_append (size := 32) (bytes := 32) 1 rfl rfl rfl hr46' rfl Tryd.underlying32 hDi hDz hDsz hDby rfl (by decide) (fun w hm => (Rd.blk (hm.at (i := 0) rfl))) (by simp only [List.flatten_cons, List.flatten_nil, List.append_nil, List.length_append, List.length_map, kMk_len, kMk_len]) (fun u hu => by simp only [List.flatten_cons, List.flatten_nil, List.append_nil, List.mem_append] at hu; rcases hu with hu | hu <;> exact one_u8s _ u hu) (by omega) (by omega)) rfl (by simp only [List.flatMap_append, List.flatMap_cons, List.flatMap_nil, List.flatten_cons, List.flatten_nil, List.nil_append, List.append_nil])) rfl (fun h => nomatch h) (fun a50 c50 e50 hr50' => ?_)   -- 50
            have hx50 : ((l ++ lm) ++ [kMk, kMk]).length = l.length + lm.length + 2 := by rw [List.length_append, hx46] <;> rfl
            refine lt_pure rfl trivial (val_assign rfl) rfl ?_   -- 8
            exact lt_done (fun w hm => ⟨(a50, c50, e50), hr50', ⟨rfl, rfl, rfl, rfl, rfl, trivial⟩, hm.only (.cons _ (.cons_cons _ (.cons_cons _ (List.nil_sublist _))))⟩)
          refine lt_alt ?_ ?_
          · -- first 6
            refine lt_val rfl trivial (val_load_all 1 rfl rfl Tryd.isAgg43 Tryd.sizeOf43 (by show (List.map vU8 kMk).length = _; rw [List.length_map]; exact kMk_len)) rfl (fun h => nomatch h) ?_   -- 48
            refine lt_val rfl trivial (val_load_all 1 rfl rfl Tryd.isAgg43 Tryd.sizeOf43 (by show (List.map vU8 kMk).length = _; rw [List.length_map]; exact kMk_len)) rfl (fun h => nomatch h) ?_   -- 47
            refine lt_make (fun b => .slice (some ⟨b, 0, none⟩) 2 2) rfl trivial (acts_buildSlice (cs := [kMk.map vU8, kMk.map vU8].flatten) Tryd.underlying32 Tryd.sizeOf43 zD rfl rfl (fill_aggs [kMk.map vU8, kMk.map vU8] (by decide) rfl (by simp only [List.forall_mem_cons, List.length_map]; exact ⟨kMk_len, kMk_len, fun _ h => by cases h⟩))) rfl (fun h => nomatch h) (fun b49 hb49 => ?_)   -- 49
            refine lt_append (k := l.length + lm.length + 2) (xs := ((l ++ lm) ++ [kMk, kMk]).flatMap fun d => d.map vU8) rfl trivial (acts_row (acts_append (size := 32) (bytes := 32) 1 rfl rfl rfl hr46' rfl Tryd.underlying32 hDi hDz hDsz hDby rfl (by decide) (fun w hm => (Rd.blk (hm.at (i := 0) rfl))) (by simp only [List.flatten_cons, List.flatten_nil, List.append_nil, List.length_append, List.length_map, kMk_len, kMk_len]) (fun u hu => by simp only [List.flatten_cons, List.flatten_nil, List.append_nil, List.mem_append] at hu; rcases hu with hu | hu <;> exact one_u8s _ u hu) (by omega) (by omega)) rfl (by simp only [List.flatMap_append, List.flatMap_cons, List.flatMap_nil, List.flatten_cons, List.flatten_nil, List.nil_append, List.append_nil])) rfl (fun h => nomatch h) (fun a50 c50 e50 hr50' => ?_)   -- 50
            have hx50 : ((l ++ lm) ++ [kMk, kMk]).length = l.length + lm.length + 2 := by rw [List.length_append, hx46] <;> rfl
            refine lt_pure rfl trivial (val_assign rfl) rfl ?_   -- 8
            exact lt_done (fun w hm => ⟨(a50, c50, e50), hr50', ⟨rfl, rfl, rfl, rfl, rfl, trivial⟩, hm.only (.cons _ (.cons_cons _ (.cons_cons _ (List.nil_sublist _))))⟩)
          exact lt_stop
        refine lt_alt ?_ ?_
        · -- first 5
          refine lt_val rfl trivial (val_load_all 1 rfl rfl Tryd.isAgg43 Tryd.sizeOf43 (by show (List.map vU8 kMk).length = _; rw [List.length_map]; exact kMk_len)) rfl (fun h => nomatch h) ?_   -- 47
          refine lt_alt ?_ ?_
          · -- first 4
            refine lt_append (k := l.length + lm.length) (xs := (l ++ lm).flatMap fun d => d.map vU8) rfl trivial (acts_row (acts_append (size := 32) (bytes := 32) 0 rfl rfl rfl hr44' rfl Tryd.underlying32 hDi hDz hDsz hDby rfl (by decide) (fun w hm => (hr1.mem hm)) (flatMap_size' rfl hd1) (one_dgs _) (by omega) (by omega)) rfl (by simp only [List.flatMap_append, List.flatMap_cons, List.flatMap_nil, List.flatten_cons, List.flatten_nil, List.nil_append, List.append_nil])) rfl (fun h => nomatch h) (fun a46 c46 e46 hr46' => ?_)   -- 46
            have hx46 : (l ++ lm).length = l.length + lm.length := by rw [List.length_append] <;> rfl
            refine lt_val rfl trivial (val_load_all 1 rfl rfl Tryd.isAgg43 Tryd.sizeOf43 (by show (List.map vU8 kMk).length = _; rw [List.length_map]; exact kMk_len)) rfl (fun h => nomatch h) ?_   -- 48
            refine lt_make (fun b => .slice (some ⟨b, 0, none⟩) 2 2) rfl trivial (acts_buildSlice (cs := [kMk.map vU8, kMk.map vU8].flatten) Tryd.underlying32 Tryd.sizeOf43 zD rfl rfl (fill_aggs [kMk.map vU8, kMk.map vU8] (by decide) rfl (by simp only [List.forall_mem_cons, List.length_map]; exact ⟨kMk_len, kMk_len, fun _ h => by cases h⟩))) rfl (fun h => nomatch h) (fun b49 hb49 => ?_)   -- 49
            refine lt_append (k := l.length + lm.length + 2) (xs := ((l ++ lm) ++ [kMk, kMk]).flatMap fun d => d.map vU8) rfl trivial (acts_row (acts_append (size := 32) (bytes := 32) 1 rfl rfl rfl hr46' rfl Tryd.underlying32 hDi hDz hDsz hDby rfl (by decide) (fun w hm => (Rd.blk (hm.at (i := 0) rfl))) (by simp only [List.flatten_cons, List.flatten_nil, List.append_nil, List.length_append, List.length_map, kMk_len, kMk_len]) (fun u hu => by simp only [List.flatten_cons, List.flatten_nil, List.append_nil, List.mem_append] at hu; rcases hu with hu | hu <;> exact one_u8s _ u hu) (by omega) (by omega)) rfl (by simp only [List.flatMap_append, List.flatMap_cons, List.flatMap_nil, List.flatten_cons, List.flatten_nil, List.nil_append, List.append_nil])) rfl (fun h => nomatch h) (fun a50 c50 e50 hr50' => ?_)   -- 50
            have hx50 : ((l ++ lm) ++ [kMk, kMk]).length = l.length + lm.length + 2 := by rw [List.length_append, hx46] <;> rfl
            refine lt_pure rfl trivial (val_assign rfl) rfl ?_   -- 8
            exact lt_done (fun w hm => ⟨(a50, c50, e50), hr50', ⟨rfl, rfl, rfl, rfl, rfl, trivial⟩, hm.only (.cons _ (.cons_cons _ (.cons_cons _ (List.nil_sublist _))))⟩)
          refine lt_alt ?_ ?_
          · -- first 6
            refine lt_val rfl trivial (val_load_all 1 rfl rfl Tryd.isAgg43 Tryd.sizeOf43 (by show (List.map vU8 kMk).length = _; rw [List.length_map]; exact kMk_len)) rfl (fun h => nomatch h) ?_   -- 48
            refine lt_alt ?_ ?_
            · -- first 4
              refine lt_append (k := l.length + lm.length) (xs := (l ++ lm).flatMap fun d => d.map vU8) rfl trivial (acts_row (acts_append (size := 32) (bytes := 32) 0 rfl rfl rfl hr44' rfl Tryd.underlying32 hDi hDz hDsz hDby rfl (by decide) (fun w hm => (hr1.mem hm)) (flatMap_size' rfl hd1) (one_dgs _) (by omega) (by omega)) rfl (by simp only [List.flatMap_append, List.flatMap_cons, List.flatMap_nil, List.flatten_cons, List.flatten_nil, List.nil_append, List.append_nil])) rfl (fun h => nomatch h) (fun a46 c46 e46 hr46' => ?_)   -- 46
              have hx46 : (l ++ lm).length = l.length + lm.length := by rw [List.length_append] <;> rfl
              refine lt_make (fun b => .slice (some ⟨b, 0, none⟩) 2 2) rfl trivial (acts_buildSlice (cs := [kMk.map vU8, kMk.map vU8].flatten) Tryd.underlying32 Tryd.sizeOf43 zD rfl rfl (fill_aggs [kMk.map vU8, kMk.map vU8] (by decide) rfl (by simp only [List.forall_mem_cons, List.length_map]; exact ⟨kMk_len, kMk_len, fun _ h => by cases h⟩))) rfl (fun h => nomatch h) (fun b49 hb49 => ?_)   -- 49
              refine lt_append (k := l.length + lm.length + 2) (xs := ((l ++ lm) ++ [kMk, kMk]).flatMap fun d => d.map vU8) rfl trivial (acts_row (acts_append (size := 32) (bytes := 32) 1 rfl rfl rfl hr46' rfl Tryd.underlying32 hDi hDz hDsz hDby rfl (by decide) (fun w hm => (Rd.blk (hm.at (i := 0) rfl))) (by simp only [List.flatten_cons, List.flatten_nil, List.append_nil, List.length_append, List.length_map, kMk_len, kMk_len]) (fun u hu => by simp only [List.flatten_cons, List.flatten_nil, List.append_nil, List.mem_append] at hu; rcases hu with hu | hu <;> exact one_u8s _ u hu) (by omega) (by omega)) rfl (by simp only [List.flatMap_append, List.flatMap_cons, List.flatMap_nil, List.flatten_cons, List.flatten_nil, List.nil_append, List.append_nil])) rfl (fun h => nomatch h) (fun a50 c50 e50 hr50' => ?_)   -- 50
              have hx50 : ((l ++ lm) ++ [kMk, kMk]).length = l.length + lm.length + 2 := by rw [List.length_append, hx46] <;> rfl
              refine lt_pure rfl trivial (val_assign rfl) rfl ?_   -- 8
              exact lt_done (fun w hm => ⟨(a50, c50, e50), hr50', ⟨rfl, rfl, rfl, rfl, rfl, trivial⟩, hm.only (.cons _ (.cons_cons _ (.cons_cons _ (List.nil_sublist _))))⟩)
            refine lt_alt ?_ ?_
            · -- first 7
              refine lt_make (fun b => .slice (some ⟨b, 0, none⟩) 2 2) rfl trivial (acts_buildSlice (cs := [kMk.map vU8, kMk.map vU8].flatten) Tryd.underlying32 Tryd.sizeOf43 zD rfl rfl (fill_aggs [kMk.map vU8, kMk.map vU8] (by decide) rfl (by simp only [List.forall_mem_cons, List.length_map]; exact ⟨kMk_len, kMk_len, fun _ h => by cases h⟩))) rfl (fun h => nomatch h) (fun b49 hb49 => ?_)   -- 49
              refine lt_append (k := l.length + lm.length) (xs := (l ++ lm).flatMap fun d => d.map vU8) rfl trivial (acts_row (acts_append (size := 32) (bytes := 32) 1 rfl rfl rfl hr44' rfl Tryd.underlying32 hDi hDz hDsz hDby rfl (by decide) (fun w hm => (hr1.mem hm)) (flatMap_size' rfl hd1) (one_dgs _) (by omega) (by omega)) rfl (by simp only [List.flatMap_append, List.flatMap_cons, List.flatMap_nil, List.flatten_cons, List.flatten_nil, List.nil_append, List.append_nil])) rfl (fun h => nomatch h) (fun a46 c46 e46 hr46' => ?_)   -- 46
              have hx46 : (l ++ lm).length = l.length + lm.length := by rw [List.length_append] <;> rfl
              refine lt_append (k := l.length + lm.length + 2) (xs := ((l ++ lm) ++ [kMk, kMk]).flatMap fun d => d.map vU8) rfl trivial (acts_row (acts_append (size := 32) (bytes := 32) 1 rfl rfl rfl hr46' rfl Tryd.underlying32 hDi hDz hDsz hDby rfl (by decide) (fun w hm => (Rd.blk (hm.at (i := 0) rfl))) (by simp only [List.flatten_cons, List.flatten_nil, List.append_nil, List.length_append, List.length_map, kMk_len, kMk_len]) (fun u hu => by simp only [List.flatten_cons, List.flatten_nil, List.append_nil, List.mem_append] at hu; rcases hu with hu | hu <;> exact one_u8s _ u hu) (by omega) (by omega)) rfl (by simp only [List.flatMap_append, List.flatMap_cons, List.flatMap_nil, List.flatten_cons, List.flatten_nil, List.nil_append, List.append_nil])) rfl (fun h => nomatch h) (fun a50 c50 e50 hr50' => ?_)   -- 50
              have hx50 : ((l ++ lm) ++ [kMk, kMk]).length = l.length + lm.length + 2 := by rw [List.length_append, hx46] <;> rfl
              refine lt_pure rfl trivial (val_assign rfl) rfl ?_   -- 8
              exact lt_done (fun w hm => ⟨(a50, c50, e50), hr50', ⟨rfl, rfl, rfl, rfl, rfl, trivial⟩, hm.only (.cons _ (.cons_cons _ (.cons_cons _ (List.nil_sublist _))))⟩)
            exact lt_stop
          exact lt_stop
        refine lt_alt ?_ ?_
        · -- first 6
          refine lt_val rfl trivial (val_load_all 1 rfl rfl Tryd.isAgg43 Tryd.sizeOf43 (by show (List.map vU8 kMk).length = _; rw [List.length_map]; exact kMk_len)) rfl (fun h => nomatch h) ?_   -- 48
          refine lt_alt ?_ ?_
          · -- first 4
            refine lt_append (k := l.length + lm.length) (xs := (l ++ lm).flatMap fun d => d.map vU8) rfl trivial (acts_row (acts_append (size := 32) (bytes := 32) 0 rfl rfl rfl hr44' rfl Tryd.underlying32 hDi hDz hDsz hDby rfl (by decide) (fun w hm => (hr1.mem hm)) (flatMap_size' rfl hd1) (one_dgs _) (by omega) (by omega)) rfl (by simp only [List.flatMap_append, List.flatMap_cons, List.flatMap_nil, List.flatten_cons, List.flatten_nil, List.nil_append, List.append_nil])) rfl (fun h => nomatch h) (fun a46 c46 e46 hr46' => ?_)   -- 46
            have hx46 : (l ++ lm).length = l.length + lm.length := by rw [List.length_append] <;> rfl
            refine lt_val rfl trivial (val_load_all 1 rfl rfl Tryd.isAgg43 Tryd.sizeOf43 (by show (List.map vU8 kMk).length = _; rw [List.length_map]; exact kMk_len)) rfl (fun h => nomatch h) ?_   -- 47
            refine lt_make (fun b => .slice (some ⟨b, 0, none⟩) 2 2) rfl trivial (acts_buildSlice (cs := [kMk.map vU8, kMk.map vU8].flatten) Tryd.underlying32 Tryd.sizeOf43 zD rfl rfl (fill_aggs [kMk.map vU8, kMk.map vU8] (by decide) rfl (by simp only [List.forall_mem_cons, List.length_map]; exact ⟨kMk_len, kMk_len, fun _ h => by cases h⟩))) rfl (fun h => nomatch h) (fun b49 hb49 => ?_)   -- 49
            refine lt_append (k := l.length + lm.length + 2) (xs := ((l ++ lm) ++ [kMk, kMk]).flatMap fun d => d.map vU8) rfl trivial (acts_row (acts_append (size := 32) (bytes := 32) 1 rfl rfl rfl hr46' rfl Tryd.underlying32 hDi hDz hDsz hDby rfl (by decide) (fun w hm => (Rd.blk (hm.at (i := 0) rfl))) (by simp only [List.flatten_cons, List.flatten_nil, List.append_nil, List.length_append, List.length_map, kMk_len, kMk_len]) (fun u hu => by simp only [List.flatten_cons, List.flatten_nil, List.append_nil, List.mem_append] at hu; rcases hu with hu | hu <;> exact one_u8s _ u hu) (by omega) (by omega)) rfl (by simp only [List.flatMap_append, List.flatMap_cons, List.flatMap_nil, List.flatten_cons, List.flatten_nil, List.nil_append, List.append_nil])) rfl (fun h => nomatch h) (fun a50 c50 e50 hr50' => ?_)   -- 50
            have hx50 : ((l ++ lm) ++ [kMk, kMk]).length = l.length + lm.length + 2 := by rw [List.length_append, hx46] <;> rfl
            refine lt_pure rfl trivial (val_assign rfl) rfl ?_   -- 8
            exact lt_done (fun w hm => ⟨(a50, c50, e50), hr50', ⟨rfl, rfl, rfl, rfl, rfl, trivial⟩, hm.only (.cons _ (.cons_cons _ (.cons_cons _ (List.nil_sublist _))))⟩)
          refine lt_alt ?_ ?_
          · -- first 5
            refine lt_val rfl trivial (val_load_all 1 rfl rfl Tryd.isAgg43 Tryd.sizeOf43 (by show (List.map vU8 kMk).length = _; rw [List.length_map]; exact kMk_len)) rfl (fun h => nomatch h) ?_   -- 47
            refine lt_alt ?_ ?_
            · -- first 4
              refine lt_append (k := l.length + lm.length) (xs := (l ++ lm).flatMap fun d => d.map vU8) rfl trivial (acts_row (acts_append (size := 32) (bytes := 32) 0 rfl rfl rfl hr44' rfl Tryd.underlying32 hDi hDz hDsz hDby rfl (by decide) (fun w hm => (hr1.mem hm)) (flatMap_size' rfl hd1) (one_dgs _) (by omega) (by omega)) rfl (by simp only [List.flatMap_append, List.flatMap_cons, List.flatMap_nil, List.flatten_cons, List.flatten_nil, List.nil_append, List.append_nil])) rfl (fun h => nomatch h) (fun a46 c46 e46 hr46' => ?_)   -- 46
              have hx46 : (l ++ lm).length = l.length + lm.length := by rw [List.length_append] <;> rfl
              refine lt_make (fun b => .slice (some ⟨b, 0, none⟩) 2 2) rfl trivial (acts_buildSlice (cs := [kMk.map vU8, kMk.map vU8].flatten) Tryd.underlying32 Tryd.sizeOf43 zD rfl rfl (fill_aggs [kMk.map vU8, kMk.map vU8] (by decide) rfl (by simp only [List.forall_mem_cons, List.length_map]; exact ⟨kMk_len, kMk_len, fun _ h => by cases h⟩))) rfl (fun h => nomatch h) (fun b49 hb49 => ?_)   -- 49
              refine lt_append (k := l.length + lm.length + 2) (xs := ((l ++ lm) ++ [kMk, kMk]).flatMap fun d => d.map vU8) rfl trivial (acts_row (acts_append (size := 32) (bytes := 32) 1 rfl rfl rfl hr46' rfl Tryd.underlying32 hDi hDz hDsz hDby rfl (by decide) (fun w hm => (Rd.blk (hm.at (i := 0) rfl))) (by simp only [List.flatten_cons, List.flatten_nil, List.append_nil, List.length_append, List.length_map, kMk_len, kMk_len]) (fun u hu => by simp only [List.flatten_cons, List.flatten_nil, List.append_nil, List.mem_append] at hu; rcases hu with hu | hu <;> exact one_u8s _ u hu) (by omega) (by omega)) rfl (by simp only [List.flatMap_append, List.flatMap_cons, List.flatMap_nil, List.flatten_cons, List.flatten_nil, List.nil_append, List.append_nil])) rfl (fun h => nomatch h) (fun a50 c50 e50 hr50' => ?_)   -- 50
              have hx50 : ((l ++ lm) ++ [kMk, kMk]).length = l.length + lm.length + 2 := by rw [List.length_append, hx46] <;> rfl
              refine lt_pure rfl trivial (val_assign rfl) rfl ?_   -- 8
              exact lt_done (fun w hm => ⟨(a50, c50, e50), hr50', ⟨rfl, rfl, rfl, rfl, rfl, trivial⟩, hm.only (.cons _ (.cons_cons _ (.cons_cons _ (List.nil_sublist _))))⟩)
            refine lt_alt ?_ ?_
            · -- first 7
              refine lt_make (fun b => .slice (some ⟨b, 0, none⟩) 2 2) rfl trivial (acts_buildSlice (cs := [kMk.map vU8, kMk.map vU8].flatten) Tryd.underlying32 Tryd.sizeOf43 zD rfl rfl (fill_aggs [kMk.map vU8, kMk.map vU8] (by decide) rfl (by simp only [List.forall_mem_cons, List.length_map]; exact ⟨kMk_len, kMk_len, fun _ h => by cases h⟩))) rfl (fun h => nomatch h) (fun b49 hb49 => ?_)   -- 49
              refine lt_append (k := l.length + lm.length) (xs := (l ++ lm).flatMap fun d => d.map vU8) rfl trivial (acts_row (acts_append (size := 32) (bytes := 32) 1 rfl rfl rfl hr44' rfl Tryd.underlying32 hDi hDz hDsz hDby rfl (by decide) (fun w hm => (hr1.mem hm)) (flatMap_size' rfl hd1) (one_dgs _) (by omega) (by omega)) rfl (by simp only [List.flatMap_append, List.flatMap_cons, List.flatMap_nil, List.flatten_cons, List.flatten_nil, List.nil_append, List.append_nil])) rfl (fun h => nomatch h) (fun a46 c46 e46 hr46' => ?_)   -- 46
              have hx46 : (l ++ lm).length = l.length + lm.length := by rw [List.length_append] <;> rfl
              refine lt_append (k := l.length + lm.length + 2) (xs := ((l ++ lm) ++ [kMk, kMk]).flatMap fun d => d.map vU8) rfl trivial (acts_row (acts_append (size := 32) (bytes := 32) 1 rfl rfl rfl hr46' rfl Tryd.underlying32 hDi hDz hDsz hDby rfl (by decide) (fun w hm => (Rd.blk (hm.at (i := 0) rfl))) (by simp only [List.flatten_cons, List.flatten_nil, List.append_nil, List.length_append, List.length_map, kMk_len, kMk_len]) (fun u hu => by simp only [List.flatten_cons, List.flatten_nil, List.append_nil, List.mem_append] at hu; rcases hu with hu | hu <;> exact one_u8s _ u hu) (by omega) (by omega)) rfl (by simp only [List.flatMap_append, List.flatMap_cons, List.flatMap_nil, List.flatten_cons, List.flatten_nil, List.nil_append, List.append_nil])) rfl (fun h => nomatch h) (fun a50 c50 e50 hr50' => ?_)   -- 50
              have hx50 : ((l ++ lm) ++ [kMk, kMk]).length = l.length + lm.length + 2 := by rw [List.length_append, hx46] <;> rfl
              refine lt_pure rfl trivial (val_assign rfl) rfl ?_   -- 8
              exact lt_done (fun w hm => ⟨(a50, c50, e50), hr50', ⟨rfl, rfl, rfl, rfl, rfl, trivial⟩, hm.only (.cons _ (.cons_cons _ (.cons_cons _ (List.nil_sublist _))))⟩)
            exact lt_stop
          exact lt_stop
        exact lt_stop
      refine lt_alt ?_ ?_
      · -- first 5
        refine lt_val rfl trivial (val_load_all 1 rfl rfl Tryd.isAgg43 Tryd.sizeOf43 (by show (List.map vU8 kMk).length = _; rw [List.length_map]; exact kMk_len)) rfl (fun h => nomatch h) ?_   -- 47
        refine lt_alt ?_ ?_
        · -- first 2
          refine lt_append (k := l.length) (xs := l.flatMap fun d => d.map vU8) rfl trivial (acts_row (acts_append (size := 32) (bytes := 32) 0 rfl rfl rfl (RowE.full (n := 0) (size := 32) rfl (by decide)) rfl Tryd.underlying32 hDi hDz hDsz hDby rfl (by decide) (fun w hm => (hr.mem hm)) (flatMap_size' rfl hdl) (one_dgs _) (by omega) (by omega)) (Nat.zero_add _) (by simp only [List.flatMap_append, List.flatMap_cons, List.flatMap_nil, List.flatten_cons, List.flatten_nil, List.nil_append, List.append_nil])) rfl (fun h => nomatch h) (fun a44 c44 e44 hr44' => ?_)   -- 44
          refine lt_alt ?_ ?_
          · -- first 4
            refine lt_append (k := l.length + lm.length) (xs := (l ++ lm).flatMap fun d => d.map vU8) rfl trivial (acts_row (acts_append (size := 32) (bytes := 32) 0 rfl rfl rfl hr44' rfl Tryd.underlying32 hDi hDz hDsz hDby rfl (by decide) (fun w hm => (hr1.mem hm)) (flatMap_size' rfl hd1) (one_dgs _) (by omega) (by omega)) rfl (by simp only [List.flatMap_append, List.flatMap_cons, List.flatMap_nil, List.flatten_cons, List.flatten_nil, List.nil_append, List.append_nil])) rfl (fun h => nomatch h) (fun a46 c46 e46 hr46' => ?_)   -- 46
            have hx46 : (l ++ lm).length = l.length + lm.length := by rw [List.length_append] <;> rfl
            refine lt_val rfl trivial (val_load_all 1 rfl rfl Tryd.isAgg43 Tryd.sizeOf43 (by show (List.map vU8 kMk).length = _; rw [List.length_map]; exact kMk_len)) rfl (fun h => nomatch h) ?_   -- 48
            refine lt_make (fun b => .slice (some ⟨b, 0, none⟩) 2 2) rfl trivial (acts_buildSlice (cs := [kMk.map vU8, kMk.map vU8].flatten) Tryd.underlying32 Tryd.sizeOf43 zD rfl rfl (fill_aggs [kMk.map vU8, kMk.map vU8] (by decide) rfl (by simp only [List.forall_mem_cons, List.length_map]; exact ⟨kMk_len, kMk_len, fun _ h => by cases h⟩))) rfl (fun h => nomatch h) (fun b49 hb49 => ?_)   -- 49
            refine lt_append (k := l.length + lm.length + 2) (xs := ((l ++ lm) ++ [kMk, kMk]).flatMap fun d => d.map vU8) rfl trivial (acts_row (acts_append (size := 32) (bytes := 32) 1 rfl rfl rfl hr46' rfl Tryd.underlying32 hDi hDz hDsz hDby rfl (by decide) (fun w hm => (Rd.blk (hm.at (i := 0) rfl))) (by simp only [List.flatten_cons, List.flatten_nil, List.append_nil, List.length_append, List.length_map, kMk_len, kMk_len]) (fun u hu => by simp only [List.flatten_cons, List.flatten_nil, List.append_nil, List.mem_append] at hu; rcases hu with hu | hu <;> exact one_u8s _ u hu) (by omega) (by omega)) rfl (by simp only [List.flatMap_append, List.flatMap_cons, List.flatMap_nil, List.flatten_cons, List.flatten_nil, List.nil_append, List.append_nil])) rfl (fun h => nomatch h) (fun a50 c50 e50 hr50' => ?_)   -- 50
            have hx50 : ((l ++ lm) ++ [kMk, kMk]).length = l.length + lm.length + 2 := by rw [List.length_append, hx46] <;> rfl
            refine lt_pure rfl trivial (val_assign rfl) rfl ?_   -- 8
            exact lt_done (fun w hm => ⟨(a50, c50, e50), hr50', ⟨rfl, rfl, rfl, rfl, rfl, trivial⟩, hm.only (.cons _ (.cons_cons _ (.cons_cons _ (List.nil_sublist _))))⟩)
          refine lt_alt ?_ ?_
          · -- first 6
            refine lt_val rfl trivial (val_load_all 1 rfl rfl Tryd.isAgg43 Tryd.sizeOf43 (by show (List.map vU8 kMk).length = _; rw [List.length_map]; exact kMk_len)) rfl (fun h => nomatch h) ?_   -- 48
            refine lt_alt ?_ ?_
            · -- first 4
              refine lt_append (k := l.length + lm.length) (xs := (l ++ lm).flatMap fun d => d.map vU8) rfl trivial (acts_row (acts_append (size := 32) (bytes := 32) 0 rfl rfl rfl hr44' rfl Tryd.underlying32 hDi hDz hDsz hDby rfl (by decide) (fun w hm => (hr1.mem hm)) (flatMap_size' rfl hd1) (one_dgs _) (by omega) (by omega)) rfl (by simp only [List.flatMap_append, List.flatMap_cons, List.flatMap_nil, List.flatten_cons, List.flatten_nil, List.nil_append, List.append_nil])) rfl (fun h => nomatch h) (fun a46 c46 e46 hr46' => ?_)   -- 46
              have hx46 : (l ++ lm).length = l.length + lm.length := by rw [List.length_append] <;> rfl
              refine lt_make (fun b => .slice (some ⟨b, 0, none⟩) 2 2) rfl trivial (acts_buildSlice (cs := [kMk.map vU8, kMk.map vU8].flatten) Tryd.underlying32 Tryd.sizeOf43 zD rfl rfl (fill_aggs [kMk.map vU8, kMk.map vU8] (by decide) rfl (by simp only [List.forall_mem_cons, List.length_map]; exact ⟨kMk_len, kMk_len, fun _ h => by cases h⟩))) rfl (fun h => nomatch h) (fun b49 hb49 => ?_)   -- 49
              refine lt_append (k := l.length + lm.length + 2) (xs := ((l ++ lm) ++ [kMk, kMk]).flatMap fun d => d.map vU8) rfl trivial (acts_row (acts_append (size := 32) (bytes := 32) 1 rfl rfl rfl hr46' rfl Tryd.underlying32 hDi hDz hDsz hDby rfl (by decide) (fun w hm => (Rd.blk (hm.at (i := 0) rfl))) (by simp only [List.flatten_cons, List.flatten_nil, List.append_nil, List.length_append, List.length_map, kMk_len, kMk_len]) (fun u hu => by simp only [List.flatten_cons, List.flatten_nil, List.append_nil, List.mem_append] at hu; rcases hu with hu | hu <;> exact one_u8s _ u hu) (by omega) (by omega)) rfl (by simp only [List.flatMap_append, List.flatMap_cons, List.flatMap_nil, List.flatten_cons, List.flatten_nil, List.nil_append, List.append_nil])) rfl (fun h => nomatch h) (fun a50 c50 e50 hr50' => ?_)   -- 50
              have hx50 : ((l ++ lm) ++ [kMk, kMk]).length = l.length + lm.length + 2 := by rw [List.length_append, hx46] <;> rfl
              refine lt_pure rfl trivial (val_assign rfl) rfl ?_   -- 8
              exact lt_done (fun w hm => ⟨(a50, c50, e50), hr50', ⟨rfl, rfl, rfl, rfl, rfl, trivial⟩, hm.only (.cons _ (.cons_cons _ (.cons_cons _ (List.nil_sublist _))))⟩)
            refine lt_alt ?_ ?_
            · -- first 7
              refine lt_make (fun b => .slice (some ⟨b, 0, none⟩) 2 2) rfl trivial (acts_buildSlice (cs := [kMk.map vU8, kMk.map vU8].flatten) Tryd.underlying32 Tryd.sizeOf43 zD rfl rfl (fill_aggs [kMk.map vU8, kMk.map vU8] (by decide) rfl (by simp only [List.forall_mem_cons, List.length_map]; exact ⟨kMk_len, kMk_len, fun _ h => by cases h⟩))) rfl (fun h => nomatch h) (fun b49 hb49 => ?_)   -- 49
              refine lt_append (k := l.length + lm.length) (xs := (l ++ lm).flatMap fun d => d.map vU8) rfl trivial (acts_row (acts_append (size := 32) (bytes := 32) 1 rfl rfl rfl hr44' rfl Tryd.underlying32 hDi hDz hDsz hDby rfl (by decide) (fun w hm => (hr1.mem hm)) (flatMap_size' rfl hd1) (one_dgs _) (by omega) (by omega)) rfl (by simp only [List.flatMap_append, List.flatMap_cons, List.flatMap_nil, List.flatten_cons, List.flatten_nil, List.nil_append, List.append_nil])) rfl (fun h => nomatch h) (fun a46 c46 e46 hr46' => ?_)   -- 46
              have hx46 : (l ++ lm).length = l.length + lm.length := by rw [List.length_append] <;> rfl
              refine lt_append (k := l.length + lm.length + 2) (xs := ((l ++ lm) ++ [kMk, kMk]).flatMap fun d => d.map vU8) rfl trivial (acts_row (acts_append (size := 32) (bytes := 32) 1 rfl rfl rfl hr46' rfl Tryd.underlying32 hDi hDz hDsz hDby rfl (by decide) (fun w hm => (Rd.blk (hm.at (i := 0) rfl))) (by simp only [List.flatten_cons, List.flatten_nil, List.append_nil, List.length_append, List.length_map, kMk_len, kMk_len]) (fun u hu => by simp only [List.flatten_cons, List.flatten_nil, List.append_nil, List.mem_append] at hu; rcases hu with hu | hu <;> exact one_u8s _ u hu) (by omega) (by omega)) rfl (by simp only [List.flatMap_append, List.flatMap_cons, List.flatMap_nil, List.flatten_cons, List.flatten_nil, List.nil_append, List.append_nil])) rfl (fun h => nomatch h) (fun a50 c50 e50 hr50' => ?_)   -- 50
              have hx50 : ((l ++ lm) ++ [kMk, kMk]).length = l.length + lm.length + 2 := by rw [List.length_append, hx46] <;> rfl
              refine lt_pure rfl trivial (val_assign rfl) rfl ?_   -- 8
              exact lt_done (fun w hm => ⟨(a50, c50, e50), hr50', ⟨rfl, rfl, rfl, rfl, rfl, trivial⟩, hm.only (.cons _ (.cons_cons _ (.cons_cons _ (List.nil_sublist _))))⟩)
            exact lt_stop
          exact lt_stop
        refine lt_alt ?_ ?_
        · -- first 6
          refine lt_val rfl trivial (val_load_all 1 rfl rfl Tryd.isAgg43 Tryd.sizeOf43 (by show (List.map vU8 kMk).length = _; rw [List.length_map]; exact kMk_len)) rfl (fun h => nomatch h) ?_   -- 48
          refine lt_alt ?_ ?_
          · -- first 2
            refine lt_append (k := l.length) (xs := l.flatMap fun d => d.map vU8) rfl trivial (acts_row (acts_append (size := 32) (bytes := 32) 0 rfl rfl rfl (RowE.full (n := 0) (size := 32) rfl (by decide)) rfl Tryd.underlying32 hDi hDz hDsz hDby rfl (by decide) (fun w hm => (hr.mem hm)) (flatMap_size' rfl hdl) (one_dgs _) (by omega) (by omega)) (Nat.zero_add _) (by simp only [List.flatMap_append, List.flatMap_cons, List.flatMap_nil, List.flatten_cons, List.flatten_nil, List.nil_append, List.append_nil])) rfl (fun h => nomatch h) (fun a44 c44 e44 hr44' => ?_)   -- 44
            refine lt_alt ?_ ?_
            · -- first 4
              refine lt_append (k := l.length + lm.length) (xs := (l ++ lm).flatMap fun d => d.map vU8) rfl trivial (acts_row (acts_append (size := 32) (bytes := 32) 0 rfl rfl rfl hr44' rfl Tryd.underlying32 hDi hDz hDsz hDby rfl (by decide) (fun w hm => (hr1.mem hm)) (flatMap_size' rfl hd1) (one_dgs _) (by omega) (by omega)) rfl (by simp only [List.flatMap_append, List.flatMap_cons, List.flatMap_nil, List.flatten_cons, List.flatten_nil, List.nil_append, List.append_nil])) rfl (fun h => nomatch h) (fun a46 c46 e46 hr46' => ?_)   -- 46
              have hx46 : (l ++ lm).length = l.length + lm.length := by rw [List.length_append] <;> rfl
              refine lt_make (fun b => .slice (some ⟨b, 0, none⟩) 2 2) rfl trivial (acts_buildSlice (cs := [kMk.map vU8, kMk.map vU8].flatten) Tryd.underlying32 Tryd.sizeOf43 zD rfl rfl (fill_aggs [kMk.map vU8, kMk.map vU8] (by decide) rfl (by simp only [List.forall_mem_cons, List.length_map]; exact ⟨kMk_len, kMk_len, fun _ h => by cases h⟩))) rfl (fun h => nomatch h) (fun b49 hb49 => ?_)   -- 49
              refine lt_append (k := l.length + lm.length + 2) (xs := ((l ++ lm) ++ [kMk, kMk]).flatMap fun d => d.map vU8) rfl trivial (acts_row (acts_append (size := 32) (bytes := 32) 1 rfl rfl rfl hr46' rfl Tryd.underlying32 hDi hDz hDsz hDby rfl (by decide) (fun w hm => (Rd.blk (hm.at (i := 0) rfl))) (by simp only [List.flatten_cons, List.flatten_nil, List.append_nil, List.length_append, List.length_map, kMk_len, kMk_len]) (fun u hu => by simp only [List.flatten_cons, List.flatten_nil, List.append_nil, List.mem_append] at hu; rcases hu with hu | hu <;> exact one_u8s _ u hu) (by omega) (by omega)) rfl (by simp only [List.flatMap_append, List.flatMap_cons, List.flatMap_nil, List.flatten_cons, List.flatten_nil, List.nil_append, List.append_nil])) rfl (fun h => nomatch h) (fun a50 c50 e50 hr50' => ?_)   -- 50
              have hx50 : ((l ++ lm) ++ [kMk, kMk]).length = l.length + lm.length + 2 := by rw [List.length_append, hx46] <;> rfl
              refine lt_pure rfl trivial (val_assign rfl) rfl ?_   -- 8
              exact lt_done (fun w hm => ⟨(a50, c50, e50), hr50', ⟨rfl, rfl, rfl, rfl, rfl, trivial⟩, hm.only (.cons _ (.cons_cons _ (.cons_cons _ (List.nil_sublist _))))⟩)
            refine lt_alt ?_ ?_
            · -- first 7
              refine lt_make (fun b => .slice (some ⟨b, 0, none⟩) 2 2) rfl trivial (acts_buildSlice (cs := [kMk.map vU8, kMk.map vU8].flatten) Tryd.underlying32 Tryd.sizeOf43 zD rfl rfl (fill_aggs [kMk.map vU8, kMk.map vU8] (by decide) rfl (by simp only [List.forall_mem_cons, List.length_map]; exact ⟨kMk_len, kMk_len, fun _ h => by cases h⟩))) rfl (fun h => nomatch h) (fun b49 hb49 => ?_)   -- 49
              refine lt_append (k := l.length + lm.length) (xs := (l ++ lm).flatMap fun d => d.map vU8) rfl trivial (acts_row (acts_append (size := 32) (bytes := 32) 1 rfl rfl rfl hr44' rfl Tryd.underlying32 hDi hDz hDsz hDby rfl (by decide) (fun w hm => (hr1.mem hm)) (flatMap_size' rfl hd1) (one_dgs _) (by omega) (by omega)) rfl (by simp only [List.flatMap_append, List.flatMap_cons, List.flatMap_nil, List.flatten_cons, List.flatten_nil, List.nil_append, List.append_nil])) rfl (fun h => nomatch h) (fun a46 c46 e46 hr46' => ?_)   -- 46
              have hx46 : (l ++ lm).length = l.length + lm.length := by rw [List.length_append] <;> rfl
              refine lt_append (k := l.length + lm.length + 2) (xs := ((l ++ lm) ++ [kMk, kMk]).flatMap fun d => d.map vU8) rfl trivial (acts_row (acts_append (size := 32) (bytes := 32) 1 rfl rfl rfl hr46' rfl Tryd.underlying32 hDi hDz hDsz hDby rfl (by decide) (fun w hm => (Rd.blk (hm.at (i := 0) rfl))) (by simp only [List.flatten_cons, List.flatten_nil, List.append_nil, List.length_append, List.length_map, kMk_len, kMk_len]) (fun u hu => by simp only [List.flatten_cons, List.flatten_nil, List.append_nil, List.mem_append] at hu; rcases hu with hu | hu <;> exact one_u8s _ u hu) (by omega) (by omega)) rfl (by simp only [List.flatMap_append, List.flatMap_cons, List.flatMap_nil, List.flatten_cons, List.flatten_nil, List.nil_append, List.append_nil])) rfl (fun h => nomatch h) (fun a50 c50 e50 hr50' => ?_)   -- 50
              have hx50 : ((l ++ lm) ++ [kMk, kMk]).length = l.length + lm.length + 2 := by rw [List.length_append, hx46] <;> rfl
              refine lt_pure rfl trivial (val_assign rfl) rfl ?_   -- 8
              exact lt_done (fun w hm => ⟨(a50, c50, e50), hr50', ⟨rfl, rfl, rfl, rfl, rfl, trivial⟩, hm.only (.cons _ (.cons_cons _ (.cons_cons _ (List.nil_sublist _))))⟩)
            exact lt_stop
          refine lt_alt ?_ ?_
          · -- first 7
            refine lt_make (fun b => .slice (some ⟨b, 0, none⟩) 2 2) rfl trivial (acts_buildSlice (cs := [kMk.map vU8, kMk.map vU8].flatten) Tryd.underlying32 Tryd.sizeOf43 zD rfl rfl (fill_aggs [kMk.map vU8, kMk.map vU8] (by decide) rfl (by simp only [List.forall_mem_cons, List.length_map]; exact ⟨kMk_len, kMk_len, fun _ h => by cases h⟩))) rfl (fun h => nomatch h) (fun b49 hb49 => ?_)   -- 49
            refine lt_append (k := l.length) (xs := l.flatMap fun d => d.map vU8) rfl trivial (acts_row (acts_append (size := 32) (bytes := 32) 1 rfl rfl rfl (RowE.full (n := 0) (size := 32) rfl (by decide)) rfl Tryd.underlying32 hDi hDz hDsz hDby rfl (by decide) (fun w hm => (hr.mem hm)) (flatMap_size' rfl hdl) (one_dgs _) (by omega) (by omega)) (Nat.zero_add _) (by simp only [List.flatMap_append, List.flatMap_cons, List.flatMap_nil, List.flatten_cons, List.flatten_nil, List.nil_append, List.append_nil])) rfl (fun h => nomatch h) (fun a44 c44 e44 hr44' => ?_)   -- 44
            refine lt_append (k := l.length + lm.length) (xs := (l ++ lm).flatMap fun d => d.map vU8) rfl trivial (acts_row (acts_append (size := 32) (bytes := 32) 1 rfl rfl rfl hr44' rfl Tryd.underlying32 hDi hDz hDsz hDby rfl (by decide) (fun w hm => (hr1.mem hm)) (flatMap_size' rfl hd1) (one_dgs _) (by omega) (by omega)) rfl (by simp only [List.flatMap_append, List.flatMap_cons, List.flatMap_nil, List.flatten_cons, List.flatten_nil, List.nil_append, List.append_nil])) rfl (fun h => nomatch h) (fun a46 c46 e46 hr46' => ?_)   -- 46
            have hx46 : (l ++ lm).length = l.length + lm.length := by rw [List.length_append] <;> rfl
            refine lt_append (k := l.length + lm.length + 2) (xs := ((l ++ lm) ++ [kMk, kMk]).flatMap fun d => d.map vU8) rfl trivial (acts_row (acts_append (size := 32) (bytes := 32) 1 rfl rfl rfl hr46' rfl Tryd.underlying32 hDi hDz hDsz hDby rfl (by decide) (fun w hm => (Rd.blk (hm.at (i := 0) rfl))) (by simp only [List.flatten_cons, List.flatten_nil, List.append_nil, List.length_append, List.length_map, kMk_len, kMk_len]) (fun u hu => by simp only [List.flatten_cons, List.flatten_nil, List.append_nil, List.mem_append] at hu; rcases hu with hu | hu <;> exact one_u8s _ u hu) (by omega) (by omega)) rfl (by simp only [List.flatMap_append, List.flatMap_cons, List.flatMap_nil, List.flatten_cons, List.flatten_nil, List.nil_append, List.append_nil])) rfl (fun h => nomatch h) (fun a50 c50 e50 hr50' => ?_)   -- 50
            have hx50 : ((l ++ lm) ++ [kMk, kMk]).length = l.length + lm.length + 2 := by rw [List.length_append, hx46] <;> rfl
            refine lt_pure rfl trivial (val_assign rfl) rfl ?_   -- 8
            exact lt_done (fun w hm => ⟨(a50, c50, e50), hr50', ⟨rfl, rfl, rfl, rfl, rfl, trivial⟩, hm.only (.cons _ (.cons_cons _ (.cons_cons _ (List.nil_sublist _))))⟩)
          exact lt_stop
        exact lt_stop
      refine lt_alt ?_ ?_
      · -- first 6
        refine lt_val rfl trivial (val_load_all 1 rfl rfl Tryd.isAgg43 Tryd.sizeOf43 (by show (List.map vU8 kMk).length = _; rw [List.length_map]; exact kMk_len)) rfl (fun h => nomatch h) ?_   -- 48
        refine lt_alt ?_ ?_
        · -- first 2
          refine lt_append (k := l.length) (xs := l.flatMap fun d => d.map vU8) rfl trivial (acts_row (acts_append (size := 32) (bytes := 32) 0 rfl rfl rfl (RowE.full (n := 0) (size := 32) rfl (by decide)) rfl Tryd.underlying32 hDi hDz hDsz hDby rfl (by decide) (fun w hm => (hr.mem hm)) (flatMap_size' rfl hdl) (one_dgs _) (by omega) (by omega)) (Nat.zero_add _) (by simp only [List.flatMap_append, List.flatMap_cons, List.flatMap_nil, List.flatten_cons, List.flatten_nil, List.nil_append, List.append_nil])) rfl (fun h => nomatch h) (fun a44 c44 e44 hr44' => ?_)   -- 44
          refine lt_alt ?_ ?_
          · -- first 4
            refine lt_append (k := l.length + lm.length) (xs := (l ++ lm).flatMap fun d => d.map vU8) rfl trivial (acts_row (acts_append (size := 32) (bytes := 32) 0 rfl rfl rfl hr44' rfl Tryd.underlying32 hDi hDz hDsz hDby rfl (by decide) (fun w hm => (hr1.mem hm)) (flatMap_size' rfl hd1) (one_dgs _) (by omega) (by omega)) rfl (by simp only [List.flatMap_append, List.flatMap_cons, List.flatMap_nil, List.flatten_cons, List.flatten_nil, List.nil_append, List.append_nil])) rfl (fun h => nomatch h) (fun a46 c46 e46 hr46' => ?_)   -- 46
            have hx46 : (l ++ lm).length = l.length + lm.length := by rw [List.length_append] <;> rfl
            refine lt_val rfl trivial (val_load_all 1 rfl rfl Tryd.isAgg43 Tryd.sizeOf43 (by show (List.map vU8 kMk).length = _; rw [List.length_map]; exact kMk_len)) rfl (fun h => nomatch h) ?_   -- 47
            refine lt_make (fun b => .slice (some ⟨b, 0, none⟩) 2 2) rfl trivial (acts_buildSlice (cs := [kMk.map vU8, kMk.map vU8].flatten) Tryd.underlying32 Tryd.sizeOf43 zD rfl rfl (fill_aggs [kMk.map vU8, kMk.map vU8] (by decide) rfl (by simp only [List.forall_mem_cons, List.length_map]; exact ⟨kMk_len, kMk_len, fun _ h => by cases h⟩))) rfl (fun h => nomatch h) (fun b49 hb49 => ?_)   -- 49
            refine lt_append (k := l.length + lm.length + 2) (xs := ((l ++ lm) ++ [kMk, kMk]).flatMap fun d => d.map vU8) rfl trivial (acts_row (acts_append (size := 32) (bytes := 32) 1 rfl rfl rfl hr46' rfl Tryd.underlying32 hDi hDz hDsz hDby rfl (by decide) (fun w hm => (Rd.blk (hm.at (i := 0) rfl))) (by simp only [List.flatten_cons, List.flatten_nil, List.append_nil, List.length_append, List.length_map, kMk_len, kMk_len]) (fun u hu => by simp only [List.flatten_cons, List.flatten_nil, List.append_nil, List.mem_append] at hu; rcases hu with hu | hu <;> exact one_u8s _ u hu) (by omega) (by omega)) rfl (by simp only [List.flatMap_append, List.flatMap_cons, List.flatMap_nil, List.flatten_cons, List.flatten_nil, List.nil_append, List.append_nil])) rfl (fun h => nomatch h) (fun a50 c50 e50 hr50' => ?_)   -- 50
            have hx50 : ((l ++ lm) ++ [kMk, kMk]).length = l.length + lm.length + 2 := by rw [List.length_append, hx46] <;> rfl
            refine lt_pure rfl trivial (val_assign rfl) rfl ?_   -- 8
            exact lt_done (fun w hm => ⟨(a50, c50, e50), hr50', ⟨rfl, rfl, rfl, rfl, rfl, trivial⟩, hm.only (.cons _ (.cons_cons _ (.cons_cons _ (List.nil_sublist _))))⟩)
          refine lt_alt ?_ ?_
          · -- first 5
            refine lt_val rfl trivial (val_load_all 1 rfl rfl Tryd.isAgg43 Tryd.sizeOf43 (by show (List.map vU8 kMk).length = _; rw [List.length_map]; exact kMk_len)) rfl (fun h => nomatch h) ?_   -- 47
            refine lt_alt ?_ ?_
            · -- first 4
              refine lt_append (k := l.length + lm.length) (xs := (l ++ lm).flatMap fun d => d.map vU8) rfl trivial (acts_row (acts_append (size := 32) (bytes := 32) 0 rfl rfl rfl hr44' rfl Tryd.underlying32 hDi hDz hDsz hDby rfl (by decide) (fun w hm => (hr1.mem hm)) (flatMap_size' rfl hd1) (one_dgs _) (by omega) (by omega)) rfl (by simp only [List.flatMap_append, List.flatMap_cons, List.flatMap_nil, List.flatten_cons, List.flatten_nil, List.nil_append, List.append_nil])) rfl (fun h => nomatch h) (fun a46 c46 e46 hr46' => ?_)   -- 46
              have hx46 : (l ++ lm).length = l.length + lm.length := by rw [List.length_append] <;> rfl
              refine lt_make (fun b => .slice (some ⟨b, 0, none⟩) 2 2) rfl trivial (acts_buildSlice (cs := [kMk.map vU8, kMk.map vU8].flatten) Tryd.underlying32 Tryd.sizeOf43 zD rfl rfl (fill_aggs [kMk.map vU8, kMk.map vU8] (by decide) rfl (by simp only [List.forall_mem_cons, List.length_map]; exact ⟨kMk_len, kMk_len, fun _ h => by cases h⟩))) rfl (fun h => nomatch h) (fun b49 hb49 => ?_)   -- 49
              refine lt_append (k := l.length + lm.length + 2) (xs := ((l ++ lm) ++ [kMk, kMk]).flatMap fun d => d.map vU8) rfl trivial (acts_row (acts_append (size := 32) (bytes := 32) 1 rfl rfl rfl hr46' rfl Tryd.underlying32 hDi hDz hDsz hDby rfl (by decide) (fun w hm => (Rd.blk (hm.at (i := 0) rfl))) (by simp only [List.flatten_cons, List.flatten_nil, List.append_nil, List.length_append, List.length_map, kMk_len, kMk_len]) (fun u hu => by simp only [List.flatten_cons, List.flatten_nil, List.append_nil, List.mem_append] at hu; rcases hu with hu | hu <;> exact one_u8s _ u hu) (by omega) (by omega)) rfl (by simp only [List.flatMap_append, List.flatMap_cons, List.flatMap_nil, List.flatten_cons, List.flatten_nil, List.nil_append, List.append_nil])) rfl (fun h => nomatch h) (fun a50 c50 e50 hr50' => ?_)   -- 50
              have hx50 : ((l ++ lm) ++ [kMk, kMk]).length = l.length + lm.length + 2 := by rw [List.length_append, hx46] <;> rfl
              refine lt_pure rfl trivial (val_assign rfl) rfl ?_   -- 8
              exact lt_done (fun w hm => ⟨(a50, c50, e50), hr50', ⟨rfl, rfl, rfl, rfl, rfl, trivial⟩, hm.only (.cons _ (.cons_cons _ (.cons_cons _ (List.nil_sublist _))))⟩)
            refine lt_alt ?_ ?_
            · -- first 7
              refine lt_make (fun b => .slice (some ⟨b, 0, none⟩) 2 2) rfl trivial (acts_buildSlice (cs := [kMk.map vU8, kMk.map vU8].flatten) Tryd.underlying32 Tryd.sizeOf43 zD rfl rfl (fill_aggs [kMk.map vU8, kMk.map vU8] (by decide) rfl (by simp only [List.forall_mem_cons, List.length_map]; exact ⟨kMk_len, kMk_len, fun _ h => by cases h⟩))) rfl (fun h => nomatch h) (fun b49 hb49 => ?_)   -- 49
              refine lt_append (k := l.length + lm.length) (xs := (l ++ lm).flatMap fun d => d.map vU8) rfl trivial (acts_row (acts_append (size := 32) (bytes := 32) 1 rfl rfl rfl hr44' rfl Tryd.underlying32 hDi hDz hDsz hDby rfl (by decide) (fun w hm => (hr1.mem hm)) (flatMap_size' rfl hd1) (one_dgs _) (by omega) (by omega)) rfl (by simp only [List.flatMap_append, List.flatMap_cons, List.flatMap_nil, List.flatten_cons, List.flatten_nil, List.nil_append, List.append_nil])) rfl (fun h => nomatch h) (fun a46 c46 e46 hr46' => ?_)   -- 46
              have hx46 : (l ++ lm).length = l.length + lm.length := by rw [List.length_append] <;> rfl
              refine lt_append (k := l.length + lm.length + 2) (xs := ((l ++ lm) ++ [kMk, kMk]).flatMap fun d => d.map vU8) rfl trivial (acts_row (acts_append (size := 32) (bytes := 32) 1 rfl rfl rfl hr46' rfl Tryd.underlying32 hDi hDz hDsz hDby rfl (by decide) (fun w hm => (Rd.blk (hm.at (i := 0) rfl))) (by simp only [List.flatten_cons, List.flatten_nil, List.append_nil, List.length_append, List.length_map, kMk_len, kMk_len]) (fun u hu => by simp only [List.flatten_cons, List.flatten_nil, List.append_nil, List.mem_append] at hu; rcases hu with hu | hu <;> exact one_u8s _ u hu) (by omega) (by omega)) rfl (by simp only [List.flatMap_append, List.flatMap_cons, List.flatMap_nil, List.flatten_cons, List.flatten_nil, List.nil_append, List.append_nil])) rfl (fun h => nomatch h) (fun a50 c50 e50 hr50' => ?_)   -- 50
              have hx50 : ((l ++ lm) ++ [kMk, kMk]).length = l.length + lm.length + 2 := by rw [List.length_append, hx46] <;> rfl
              refine lt_pure rfl trivial (val_assign rfl) rfl ?_   -- 8
              exact lt_done (fun w hm => ⟨(a50, c50, e50), hr50', ⟨rfl, rfl, rfl, rfl, rfl, trivial⟩, hm.only (.cons _ (.cons_cons _ (.cons_cons _ (List.nil_sublist _))))⟩)
            exact lt_stop
          exact lt_stop
        refine lt_alt ?_ ?_
        · -- first 5
          refine lt_val rfl trivial (val_load_all 1 rfl rfl Tryd.isAgg43 Tryd.sizeOf43 (by show (List.map vU8 kMk).length = _; rw [List.length_map]; exact kMk_len)) rfl (fun h => nomatch h) ?_   -- 47
          refine lt_alt ?_ ?_
          · -- first 2
            refine lt_append (k := l.length) (xs := l.flatMap fun d => d.map vU8) rfl trivial (acts_row (acts_append (size := 32) (bytes := 32) 0 rfl rfl rfl (RowE.full (n := 0) (size := 32) rfl (by decide)) rfl Tryd.underlying32 hDi hDz hDsz hDby rfl (by decide) (fun w hm => (hr.mem hm)) (flatMap_size' rfl hdl) (one_dgs _) (by omega) (by omega)) (Nat.zero_add _) (by simp only [List.flatMap_append, List.flatMap_cons, List.flatMap_nil, List.flatten_cons, List.flatten_nil, List.nil_append, List.append_nil])) rfl (fun h => nomatch h) (fun a44 c44 e44 hr44' => ?_)   -- 44
            refine lt_alt ?_ ?_
            · -- first 4
              refine lt_append (k := l.length + lm.length) (xs := (l ++ lm).flatMap fun d => d.map vU8) rfl trivial (acts_row (acts_append (size := 32) (bytes := 32) 0 rfl rfl rfl hr44' rfl Tryd.underlying32 hDi hDz hDsz hDby rfl (by decide) (fun w hm => (hr1.mem hm)) (flatMap_size' rfl hd1) (one_dgs _) (by omega) (by omega)) rfl (by simp only [List.flatMap_append, List.flatMap_cons, List.flatMap_nil, List.flatten_cons, List.flatten_nil, List.nil_append, List.append_nil])) rfl (fun h => nomatch h) (fun a46 c46 e46 hr46' => ?_)   -- 46
              have hx46 : (l ++ lm).length = l.length + lm.length := by rw [List.length_append] <;> rfl
              refine lt_make (fun b => .slice (some ⟨b, 0, none⟩) 2 2) rfl trivial (acts_buildSlice (cs := [kMk.map vU8, kMk.map vU8].flatten) Tryd.underlying32 Tryd.sizeOf43 zD rfl rfl (fill_aggs [kMk.map vU8, kMk.map vU8] (by decide) rfl (by simp only [List.forall_mem_cons, List.length_map]; exact ⟨kMk_len, kMk_len, fun _ h => by cases h⟩))) rfl (fun h => nomatch h) (fun b49 hb49 => ?_)   -- 49
              refine lt_append (k := l.length + lm.length + 2) (xs := ((l ++ lm) ++ [kMk, kMk]).flatMap fun d => d.map vU8) rfl trivial (acts_row (acts_append (size := 32) (bytes := 32) 1 rfl rfl rfl hr46' rfl Tryd.underlying32 hDi hDz hDsz hDby rfl (by decide) (fun w hm => (Rd.blk (hm.at (i := 0) rfl))) (by simp only [List.flatten_cons, List.flatten_nil, List.append_nil, List.length_append, List.length_map, kMk_len, kMk_len]) (fun u hu => by simp only [List.flatten_cons, List.flatten_nil, List.append_nil, List.mem_append] at hu; rcases hu with hu | hu <;> exact one_u8s _ u hu) (by omega) (by omega)) rfl (by simp only [List.flatMap_append, List.flatMap_cons, List.flatMap_nil, List.flatten_cons, List.flatten_nil, List.nil_append, List.append_nil])) rfl (fun h => nomatch h) (fun a50 c50 e50 hr50' => ?_)   -- 50
              have hx50 : ((l ++ lm) ++ [kMk, kMk]).length = l.length + lm.length + 2 := by rw [List.length_append, hx46] <;> rfl
              refine lt_pure rfl trivial (val_assign rfl) rfl ?_   -- 8
              exact lt_done (fun w hm => ⟨(a50, c50, e50), hr50', ⟨rfl, rfl, rfl, rfl, rfl, trivial⟩, hm.only (.cons _ (.cons_cons _ (.cons_cons _ (List.nil_sublist _))))⟩)
            refine lt_alt ?_ ?_
            · -- first 7
              refine lt_make (fun b => .slice (some ⟨b, 0, none⟩) 2 2) rfl trivial (acts_buildSlice (cs := [kMk.map vU8, kMk.map vU8].flatten) Tryd.underlying32 Tryd.sizeOf43 zD rfl rfl (fill_aggs [kMk.map vU8, kMk.map vU8] (by decide) rfl (by simp only [List.forall_mem_cons, List.length_map]; exact ⟨kMk_len, kMk_len, fun _ h => by cases h⟩))) rfl (fun h => nomatch h) (fun b49 hb49 => ?_)   -- 49
              refine lt_append (k := l.length + lm.length) (xs := (l ++ lm).flatMap fun d => d.map vU8) rfl trivial (acts_row (acts_append (size := 32) (bytes := 32) 1 rfl rfl rfl hr44' rfl Tryd.underlying32 hDi hDz hDsz hDby rfl (by decide) (fun w hm => (hr1.mem hm)) (flatMap_size' rfl hd1) (one_dgs _) (by omega) (by omega)) rfl (by simp only [List.flatMap_append, List.flatMap_cons, List.flatMap_nil, List.flatten_cons, List.flatten_nil, List.nil_append, List.append_nil])) rfl (fun h => nomatch h) (fun a46 c46 e46 hr46' => ?_)   -- 46
              have hx46 : (l ++ lm).length = l.length + lm.length := by rw [List.length_append] <;> rfl
              refine lt_append (k := l.length + lm.length + 2) (xs := ((l ++ lm) ++ [kMk, kMk]).flatMap fun d => d.map vU8) rfl trivial (acts_row (acts_append (size := 32) (bytes := 32) 1 rfl rfl rfl hr46' rfl Tryd.underlying32 hDi hDz hDsz hDby rfl (by decide) (fun w hm => (Rd.blk (hm.at (i := 0) rfl))) (by simp only [List.flatten_cons, List.flatten_nil, List.append_nil, List.length_append, List.length_map, kMk_len, kMk_len]) (fun u hu => by simp only [List.flatten_cons, List.flatten_nil, List.append_nil, List.mem_append] at hu; rcases hu with hu | hu <;> exact one_u8s _ u hu) (by omega) (by omega)) rfl (by simp only [List.flatMap_append, List.flatMap_cons, List.flatMap_nil, List.flatten_cons, List.flatten_nil, List.nil_append, List.append_nil])) rfl (fun h => nomatch h) (fun a50 c50 e50 hr50' => ?_)   -- 50
              have hx50 : ((l ++ lm) ++ [kMk, kMk]).length = l.length + lm.length + 2 := by rw [List.length_append, hx46] <;> rfl
              refine lt_pure rfl trivial (val_assign rfl) rfl ?_   -- 8
              exact lt_done (fun w hm => ⟨(a50, c50, e50), hr50', ⟨rfl, rfl, rfl, rfl, rfl, trivial⟩, hm.only (.cons _ (.cons_cons _ (.cons_cons _ (List.nil_sublist _))))⟩)
            exact lt_stop
          refine lt_alt ?_ ?_
          · -- first 7
            refine lt_make (fun b => .slice (some ⟨b, 0, none⟩) 2 2) rfl trivial (acts_buildSlice (cs := [kMk.map vU8, kMk.map vU8].flatten) Tryd.underlying32 Tryd.sizeOf43 zD rfl rfl (fill_aggs [kMk.map vU8, kMk.map vU8] (by decide) rfl (by simp only [List.forall_mem_cons, List.length_map]; exact ⟨kMk_len, kMk_len, fun _ h => by cases h⟩))) rfl (fun h => nomatch h) (fun b49 hb49 => ?_)   -- 49
            refine lt_append (k := l.length) (xs := l.flatMap fun d => d.map vU8) rfl trivial (acts_row (acts_append (size := 32) (bytes := 32) 1 rfl rfl rfl (RowE.full (n := 0) (size := 32) rfl (by decide)) rfl Tryd.underlying32 hDi hDz hDsz hDby rfl (by decide) (fun w hm => (hr.mem hm)) (flatMap_size' rfl hdl) (one_dgs _) (by omega) (by omega)) (Nat.zero_add _) (by simp only [List.flatMap_append, List.flatMap_cons, List.flatMap_nil, List.flatten_cons, List.flatten_nil, List.nil_append, List.append_nil])) rfl (fun h => nomatch h) (fun a44 c44 e44 hr44' => ?_)   -- 44
            refine lt_append (k := l.length + lm.length) (xs := (l ++ lm).flatMap fun d => d.map vU8) rfl trivial (acts_row (acts_append (size := 32) (bytes := 32) 1 rfl rfl rfl hr44' rfl Tryd.underlying32 hDi hDz hDsz hDby rfl (by decide) (fun w hm => (hr1.mem hm)) (flatMap_size' rfl hd1) (one_dgs _) (by omega) (by omega)) rfl (by simp only [List.flatMap_append, List.flatMap_cons, List.flatMap_nil, List.flatten_cons, List.flatten_nil, List.nil_append, List.append_nil])) rfl (fun h => nomatch h) (fun a46 c46 e46 hr46' => ?_)   -- 46
            have hx46 : (l ++ lm).length = l.length + lm.length := by rw [List.length_append] <;> rfl
            refine lt_append (k := l.length + lm.length + 2) (xs := ((l ++ lm) ++ [kMk, kMk]).flatMap fun d => d.map vU8) rfl trivial (acts_row (acts_append (size := 32) (bytes := 32) 1 rfl rfl rfl hr46' rfl Tryd.underlying32 hDi hDz hDsz hDby rfl (by decide) (fun w hm => (Rd.blk (hm.at (i := 0) rfl))) (by simp only [List.flatten_cons, List.flatten_nil, List.append_nil, List.length_append, List.length_map, kMk_len, kMk_len]) (fun u hu => by simp only [List.flatten_cons, List.flatten_nil, List.append_nil, List.mem_append] at hu; rcases hu with hu | hu <;> exact one_u8s _ u hu) (by omega) (by omega)) rfl (by simp only [List.flatMap_append, List.flatMap_cons, List.flatMap_nil, List.flatten_cons, List.flatten_nil, List.nil_append, List.append_nil])) rfl (fun h => nomatch h) (fun a50 c50 e50 hr50' => ?_)   -- 50
            have hx50 : ((l ++ lm) ++ [kMk, kMk]).length = l.length + lm.length + 2 := by rw [List.length_append, hx46] <;> rfl
            refine lt_pure rfl trivial (val_assign rfl) rfl ?_   -- 8
            exact lt_done (fun w hm => ⟨(a50, c50, e50), hr50', ⟨rfl, rfl, rfl, rfl, rfl, trivial⟩, hm.only (.cons _ (.cons_cons _ (.cons_cons _ (List.nil_sublist _))))⟩)
          exact lt_stop
        exact lt_stop
      exact lt_stop
    refine lt_alt ?_ ?_
    · -- first 5
      refine lt_val rfl trivial (val_load_all 0 rfl rfl Tryd.isAgg43 Tryd.sizeOf43 (by show (List.map vU8 kMk).length = _; rw [List.length_map]; exact kMk_len)) rfl (fun _ _ h => h) ?_   -- 47
      refine lt_alt ?_ ?_
      · -- first 0
        refine lt_make (fun b => .slice (some ⟨b, 0, none⟩) 0 0) rfl trivial (acts_buildSlice (cs := [].flatten) Tryd.underlying32 Tryd.sizeOf43 zD rfl rfl (fill_aggs [] (by decide) rfl (fun _ h => by cases h))) rfl (fun h => nomatch h) (fun b42 hb42 => ?_)   -- 42
        refine lt_alt ?_ ?_
        · -- first 2
          refine lt_append (k := l.length) (xs := l.flatMap fun d => d.map vU8) rfl trivial (acts_row (acts_append (size := 32) (bytes := 32) 0 rfl rfl rfl (RowE.full (n := 0) (size := 32) rfl (by decide)) rfl Tryd.underlying32 hDi hDz hDsz hDby rfl (by decide) (fun w hm => (hr.mem hm)) (flatMap_size' rfl hdl) (one_dgs _) (by omega) (by omega)) (Nat.zero_add _) (by simp only [List.flatMap_append, List.flatMap_cons, List.flatMap_nil, List.flatten_cons, List.flatten_nil, List.nil_append, List.append_nil])) rfl (fun h => nomatch h) (fun a44 c44 e44 hr44' => ?_)   -- 44
          refine lt_alt ?_ ?_
          · -- first 4
            refine lt_append (k := l.length + lm.length) (xs := (l ++ lm).flatMap fun d => d.map vU8) rfl trivial (acts_row (acts_append (size := 32) (bytes := 32) 0 rfl rfl rfl hr44' rfl Tryd.underlying32 hDi hDz hDsz hDby rfl (by decide) (fun w hm => (hr1.mem hm)) (flatMap_size' rfl hd1) (one_dgs _) (by omega) (by omega)) rfl (by simp only [List.flatMap_append, List.flatMap_cons, List.flatMap_nil, List.flatten_cons, List.flatten_nil, List.nil_append, List.append_nil])) rfl (fun h => nomatch h) (fun a46 c46 e46 hr46' => ?_)   -- 46
            have hx46 : (l ++ lm).length = l.length + lm.length := by rw [List.length_append] <;> rfl
            refine lt_val rfl trivial (val_load_all 1 rfl rfl Tryd.isAgg43 Tryd.sizeOf43 (by show (List.map vU8 kMk).length = _; rw [List.length_map]; exact kMk_len)) rfl (fun h => nomatch h) ?_   -- 48
            refine lt_make (fun b => .slice (some ⟨b, 0, none⟩) 2 2) rfl trivial (acts_buildSlice (cs := [kMk.map vU8, kMk.map vU8].flatten) Tryd.underlying32 Tryd.sizeOf43 zD rfl rfl (fill_aggs [kMk.map vU8, kMk.map vU8] (by decide) rfl (by simp only [List.forall_mem_cons, List.length_map]; exact ⟨kMk_len, kMk_len, fun _ h => by cases h⟩))) rfl (fun h => nomatch h) (fun b49 hb49 => ?_)   -- 49
            refine lt_append (k := l.length + lm.length + 2) (xs := ((l ++ lm) ++ [kMk, kMk]).flatMap fun d => d.map vU8) rfl trivial (acts_row (acts_append (size := 32) (bytes := 32) 1 rfl rfl rfl hr46' rfl Tryd.underlying32 hDi hDz hDsz hDby rfl (by decide) (fun w hm => (Rd.blk (hm.at (i := 0) rfl))) (by simp only [List.flatten_cons, List.flatten_nil, List.append_nil, List.length_append, List.length_map, kMk_len, kMk_len]) (fun u hu => by simp only [List.flatten_cons, List.flatten_nil, List.append_nil, List.mem_append] at hu; rcases hu with hu | hu <;> exact one_u8s _ u hu) (by omega) (by omega)) rfl (by simp only [List.flatMap_append, List.flatMap_cons, List.flatMap_nil, List.flatten_cons, List.flatten_nil, List.nil_append, List.append_nil])) rfl (fun h => nomatch h) (fun a50 c50 e50 hr50' => ?_)   -- 50
            have hx50 : ((l ++ lm) ++ [kMk, kMk]).length = l.length + lm.length + 2 := by rw [List.length_append, hx46] <;> rfl
            refine lt_pure rfl trivial (val_assign rfl) rfl ?_   -- 8
            exact lt_done (fun w hm => ⟨(a50, c50, e50), hr50', ⟨rfl, rfl, rfl, rfl, rfl, trivial⟩, hm.only (.cons _ (.cons_cons _ (.cons_cons _ (List.nil_sublist _))))⟩)
          refine lt_alt ?_ ?_
          · -- first 6
            refine lt_val rfl trivial (val_load_all 1 rfl rfl Tryd.isAgg43 Tryd.sizeOf43 (by show (List.map vU8 kMk).length = _; rw [List.length_map]; exact kMk_len)) rfl (fun h => nomatch h) ?_   -- 48
            refine lt_alt ?_ ?_
            · -- first 4
              refine lt_append (k := l.length + lm.length) (xs := (l ++ lm).flatMap fun d => d.map vU8) rfl trivial (acts_row (acts_append (size := 32) (bytes := 32) 0 rfl rfl rfl hr44' rfl Tryd.underlying32 hDi hDz hDsz hDby rfl (by decide) (fun w hm => (hr1.mem hm)) (flatMap_size' rfl hd1) (one_dgs _) (by omega) (by omega)) rfl (by simp only [List.flatMap_append, List.flatMap_cons, List.flatMap_nil, List.flatten_cons, List.flatten_nil, List.nil_append, List.append_nil])) rfl (fun h => nomatch h) (fun a46 c46 e46 hr46' => ?_)   -- 46
              have hx46 : (l ++ lm).length = l.length + lm.length := by rw [List.length_append] <;> rfl
              refine lt_make (fun b => .slice (some ⟨b, 0, none⟩) 2 2) rfl trivial (acts_buildSlice (cs := [kMk.map vU8, kMk.map vU8].flatten) Tryd.underlying32 Tryd.sizeOf43 zD rfl rfl (fill_aggs [kMk.map vU8, kMk.map vU8] (by decide) rfl (by simp only [List.forall_mem_cons, List.length_map]; exact ⟨kMk_len, kMk_len, fun _ h => by cases h⟩))) rfl (fun h => nomatch h) (fun b49 hb49 => ?_)   -- 49
              refine lt_append (k := l.length + lm.length + 2) (xs := ((l ++ lm) ++ [kMk, kMk]).flatMap fun d => d.map vU8) rfl trivial (acts_row (acts_append (size := 32) (bytes := 32) 1 rfl rfl rfl hr46' rfl Tryd.underlying32 hDi hDz hDsz hDby rfl (by decide) (fun w hm => (Rd.blk (hm.at (i := 0) rfl))) (by simp only [List.flatten_cons, List.flatten_nil, List.append_nil, List.length_append, List.length_map, kMk_len, kMk_len]) (fun u hu => by simp only [List.flatten_cons, List.flatten_nil, List.append_nil, List.mem_append] at hu; rcases hu with hu | hu <;> exact one_u8s _ u hu) (by omega) (by omega)) rfl (by simp only [List.flatMap_append, List.flatMap_cons, List.flatMap_nil, List.flatten_cons, List.flatten_nil, List.nil_append, List.append_nil])) rfl (fun h => nomatch h) (fun a50 c50 e50 hr50' => ?_)   -- 50
              have hx50 : ((l ++ lm) ++ [kMk, kMk]).length = l.length + lm.length + 2 := by rw [List.length_append, hx46] <;> rfl
              refine lt_pure rfl trivial (val_assign rfl) rfl ?_   -- 8
              exact lt_done (fun w hm => ⟨(a50, c50, e50), hr50', ⟨rfl, rfl, rfl, rfl, rfl, trivial⟩, hm.only (.cons _ (.cons_cons _ (.cons_cons _ (List.nil_sublist _))))⟩)
            refine lt_alt ?_ ?_
            · -- first 7
              refine lt_make (fun b => .slice (some ⟨b, 0, none⟩) 2 2) rfl trivial (acts_buildSlice (cs := [kMk.map vU8, kMk.map vU8].flatten) Tryd.underlying32 Tryd.sizeOf43 zD rfl rfl (fill_aggs [kMk.map vU8, kMk.map vU8] (by decide) rfl (by simp only [List.forall_mem_cons, List.length_map]; exact ⟨kMk_len, kMk_len, fun _ h => by cases h⟩))) rfl (fun h => nomatch h) (fun b49 hb49 => ?_)   -- 49
              refine lt_append (k := l.length + lm.length) (xs := (l ++ lm).flatMap fun d => d.map vU8) rfl trivial (acts_row (acts_append (size := 32) (bytes := 32) 1 rfl rfl rfl hr44' rfl Tryd.underlying32 hDi hDz hDsz hDby rfl (by decide) (fun w hm => (hr1.mem hm)) (flatMap_size' rfl hd1) (one_dgs _) (by omega) (by omega)) rfl (by simp only [List.flatMap_append, List.flatMap_cons, List.flatMap_nil, List.flatten_cons, List.flatten_nil, List.nil_append, List.append_nil])) rfl (fun h => nomatch h) (fun a46 c46 e46 hr46' => ?_)   -- 46
              have hx46 : (l ++ lm).length = l.length + lm.length := by rw [List.length_append] <;> rfl
              refine lt_append (k := l.length + lm.length + 2) (xs := ((l ++ lm) ++ [kMk, kMk]).flatMap fun d => d.map vU8) rfl trivial (acts_row (acts_append (size := 32) (bytes := 32) 1 rfl rfl rfl hr46' rfl Tryd.underlying32 hDi hDz hDsz hDby rfl (by decide) (fun w hm => (Rd.blk (hm.at (i := 0) rfl))) (by simp only [List.flatten_cons, List.flatten_nil, List.append_nil, List.length_append, List.length_map, kMk_len, kMk_len]) (fun u hu => by simp only [List.flatten_cons, List.flatten_nil, List.append_nil, List.mem_append] at hu; rcases hu with hu | hu <;> exact one_u8s _ u hu) (by omega) (by omega)) rfl (by simp only [List.flatMap_append, List.flatMap_cons, List.flatMap_nil, List.flatten_cons, List.flatten_nil, List.nil_append, List.append_nil])) rfl (fun h => nomatch h) (fun a50 c50 e50 hr50' => ?_)   -- 50
              have hx50 : ((l ++ lm) ++ [kMk, kMk]).length = l.length + lm.length + 2 := by rw [List.length_append, hx46] <;> rfl
              refine lt_pure rfl trivial (val_assign rfl) rfl ?_   -- 8
              exact lt_done (fun w hm => ⟨(a50, c50, e50), hr50', ⟨rfl, rfl, rfl, rfl, rfl, trivial⟩, hm.only (.cons _ (.cons_cons _ (.cons_cons _ (List.nil_sublist _))))⟩)
            exact lt_stop
          exact lt_stop
        refine lt_alt ?_ ?_
        · -- first 6
          refine lt_val rfl trivial (val_load_all 1 rfl rfl Tryd.isAgg43 Tryd.sizeOf43 (by show (List.map vU8 kMk).length = _; rw [List.length_map]; exact kMk_len)) rfl (fun h => nomatch h) ?_   -- 48
          refine lt_alt ?_ ?_
          · -- first 2
            refine lt_append (k := l.length) (xs := l.flatMap fun d => d.map vU8) rfl trivial (acts_row (acts_append (size := 32) (bytes := 32) 0 rfl rfl rfl (RowE.full (n := 0) (size := 32) rfl (by decide)) rfl Tryd.underlying32 hDi hDz hDsz hDby rfl (by decide) (fun w hm => (hr.mem hm)) (flatMap_size' rfl hdl) (one_dgs _) (by omega) (by omega)) (Nat.zero_add _) (by simp only [List.flatMap_append, List.flatMap_cons, List.flatMap_nil, List.flatten_cons, List.flatten_nil, List.nil_append, List.append_nil])) rfl (fun h => nomatch h) (fun a44 c44 e44 hr44' => ?_)   -- 44
            refine lt_alt ?_ ?_
            · -- first 4
              refine lt_append (k := l.length + lm.length) (xs := (l ++ lm).flatMap fun d => d.map vU8) rfl trivial (acts_row (acts_append (size := 32) (bytes := 32) 0 rfl rfl rfl hr44' rfl Tryd.underlying32 hDi hDz hDsz hDby rfl (by decide) (fun w hm => (hr1.mem hm)) (flatMap_size' rfl hd1) (one_dgs _) (by omega) (by omega)) rfl (by simp only [List.flatMap_append, List.flatMap_cons, List.flatMap_nil, List.flatten_cons, List.flatten_nil, List.nil_append, List.append_nil])) rfl (fun h => nomatch h) (fun a46 c46 e46 hr46' => ?_)   -- 46
              have hx46 : (l ++ lm).length = l.length + lm.length := by rw [List.length_append] <;> rfl
              refine lt_make (fun b => .slice (some ⟨b, 0, none⟩) 2 2) rfl trivial (acts_buildSlice (cs := [kMk.map vU8, kMk.map vU8].flatten) Tryd.underlying32 Tryd.sizeOf43 zD rfl rfl (fill_aggs [kMk.map vU8, kMk.map vU8] (by decide) rfl (by simp only [List.forall_mem_cons, List.length_map]; exact ⟨kMk_len, kMk_len, fun _ h => by cases h⟩))) rfl (fun h => nomatch h) (fun b49 hb49 => ?_)   -- 49
              refine lt_append (k := l.length + lm.length + 2) (xs := ((l ++ lm) ++ [kMk, kMk]).flatMap fun d => d.map vU8) rfl trivial (acts_row (acts_append (size := 32) (bytes := 32) 1 rfl rfl rfl hr46' rfl Tryd.underlying32 hDi hDz hDsz hDby rfl (by decide) (fun w hm => (Rd.blk (hm.at (i := 0) rfl))) (by simp only [List.flatten_cons, List.flatten_nil, List.append_nil, List.length_append, List.length_map, kMk_len, kMk_len]) (fun u hu => by simp only [List.flatten_cons, List.flatten_nil, List.append_nil, List.mem_append] at hu; rcases hu with hu | hu <;> exact one_u8s _ u hu) (by omega) (by omega)) rfl (by simp only [List.flatMap_append, List.flatMap_cons, List.flatMap_nil, List.flatten_cons, List.flatten_nil, List.nil_append, List.append_nil])) rfl (fun h => nomatch h) (fun a50 c50 e50 hr50' => ?_)   -- 50
              have hx50 : ((l ++ lm) ++ [kMk, kMk]).length = l.length + lm.length + 2 := by rw [List.length_append, hx46] <;> rfl
              refine lt_pure rfl trivial (val_assign rfl) rfl ?_   -- 8
              exact lt_done (fun w hm => ⟨(a50, c50, e50), hr50', ⟨rfl, rfl, rfl, rfl, rfl, trivial⟩, hm.only (.cons _ (.cons_cons _ (.cons_cons _ (List.nil_sublist _))))⟩)
            refine lt_alt ?_ ?_
            · -- first 7
              refine lt_make (fun b => .slice (some ⟨b, 0, none⟩) 2 2) rfl trivial (acts_buildSlice (cs := [kMk.map vU8, kMk.map vU8].flatten) Tryd.underlying32 Tryd.sizeOf43 zD rfl rfl (fill_aggs [kMk.map vU8, kMk.map vU8] (by decide) rfl (by simp only [List.forall_mem_cons, List.length_map]; exact ⟨kMk_len, kMk_len, fun _ h => by cases h⟩))) rfl (fun h => nomatch h) (fun b49 hb49 => ?_)   -- 49
              refine lt_append (k := l.length + lm.length) (xs := (l ++ lm).flatMap fun d => d.map vU8) rfl trivial (acts_row (acts_append (size := 32) (bytes := 32) 1 rfl rfl rfl hr44' rfl Tryd.underlying32 hDi hDz hDsz hDby rfl (by decide) (fun w hm => (hr1.mem hm)) (flatMap_size' rfl hd1) (one_dgs _) (by omega) (by omega)) rfl (by simp only [List.flatMap_append, List.flatMap_cons, List.flatMap_nil, List.flatten_cons, List.flatten_nil, List.nil_append, List.append_nil])) rfl (fun h => nomatch h) (fun a46 c46 e46 hr46' => ?_)   -- 46
              have hx46 : (l ++ lm).length = l.length + lm.length := by rw [List.length_append] <;> rfl
              refine lt_append (k := l.length + lm.length + 2) (xs := ((l ++ lm) ++ [kMk, kMk]).flatMap fun d => d.map vU8) rfl trivial (acts_row (acts_append (size := 32) (bytes := 32) 1 rfl rfl rfl hr46' rfl Tryd.underlying32 hDi hDz hDsz hDby rfl (by decide) (fun w hm => (Rd.blk (hm.at (i := 0) rfl))) (by simp only [List.flatten_cons, List.flatten_nil, List.append_nil, List.length_append, List.length_map, kMk_len, kMk_len]) (fun u hu => by simp only [List.flatten_cons, List.flatten_nil, List.append_nil, List.mem_append] at hu; rcases hu with hu | hu <;> exact one_u8s _ u hu) (by omega) (by omega)) rfl (by simp only [List.flatMap_append, List.flatMap_cons, List.flatMap_nil, List.flatten_cons, List.flatten_nil, List.nil_append, List.append_nil])) rfl (fun h => nomatch h) (fun a50 c50 e50 hr50' => ?_)   -- 50
              have hx50 : ((l ++ lm) ++ [kMk, kMk]).length = l.length + lm.length + 2 := by rw [List.length_append, hx46] <;> rfl
              refine lt_pure rfl trivial (val_assign rfl) rfl ?_   -- 8
              exact lt_done (fun w hm => ⟨(a50, c50, e50), hr50', ⟨rfl, rfl, rfl, rfl, rfl, trivial⟩, hm.only (.cons _ (.cons_cons _ (.cons_cons _ (List.nil_sublist _))))⟩)
            exact lt_stop
          refine lt_alt ?_ ?_
          · -- first 7
            refine lt_make (fun b => .slice (some ⟨b, 0, none⟩) 2 2) rfl trivial (acts_buildSlice (cs := [kMk.map vU8, kMk.map vU8].flatten) Tryd.underlying32 Tryd.sizeOf43 zD rfl rfl (fill_aggs [kMk.map vU8, kMk.map vU8] (by decide) rfl (by simp only [List.forall_mem_cons, List.length_map]; exact ⟨kMk_len, kMk_len, fun _ h => by cases h⟩))) rfl (fun h => nomatch h) (fun b49 hb49 => ?_)   -- 49
            refine lt_append (k := l.length) (xs := l.flatMap fun d => d.map vU8) rfl trivial (acts_row (acts_append (size := 32) (bytes := 32) 1 rfl rfl rfl (RowE.full (n := 0) (size := 32) rfl (by decide)) rfl Tryd.underlying32 hDi hDz hDsz hDby rfl (by decide) (fun w hm => (hr.mem hm)) (flatMap_size' rfl hdl) (one_dgs _) (by omega) (by omega)) (Nat.zero_add _) (by simp only [List.flatMap_append, List.flatMap_cons, List.flatMap_nil, List.flatten_cons, List.flatten_nil, List.nil_append, List.append_nil])) rfl (fun h => nomatch h) (fun a44 c44 e44 hr44' => ?_)   -- 44
            refine lt_append (k := l.length + lm.length) (xs := (l ++ lm).flatMap fun d => d.map vU8) rfl trivial (acts_row (acts_append (size := 32) (bytes := 32) 1 rfl rfl rfl hr44' rfl Tryd.underlying32 hDi hDz hDsz hDby rfl (by decide) (fun w hm => (hr1.mem hm)) (flatMap_size' rfl hd1) (one_dgs _) (by omega) (by omega)) rfl (by simp only [List.flatMap_append, List.flatMap_cons, List.flatMap_nil, List.flatten_cons, List.flatten_nil, List.nil_append, List.append_nil])) rfl (fun h => nomatch h) (fun a46 c46 e46 hr46' => ?_)   -- 46
            have hx46 : (l ++ lm).length = l.length + lm.length := by rw [List.length_append] <;> rfl
            refine lt_append (k := l.length + lm.length + 2) (xs := ((l ++ lm) ++ [kMk, kMk]).flatMap fun d => d.map vU8) rfl trivial (acts_row (acts_append (size := 32) (bytes := 32) 1 rfl rfl rfl hr46' rfl Tryd.underlying32 hDi hDz hDsz hDby rfl (by decide) (fun w hm => (Rd.blk (hm.at (i := 0) rfl))) (by simp only [List.flatten_cons, List.flatten_nil, List.append_nil, List.length_append, List.length_map, kMk_len, kMk_len]) (fun u hu => by simp only [List.flatten_cons, List.flatten_nil, List.append_nil, List.mem_append] at hu; rcases hu with hu | hu <;> exact one_u8s _ u hu) (by omega) (by omega)) rfl (by simp only [List.flatMap_append, List.flatMap_cons, List.flatMap_nil, List.flatten_cons, List.flatten_nil, List.nil_append, List.append_nil])) rfl (fun h => nomatch h) (fun a50 c50 e50 hr50' => ?_)   -- 50
            have hx50 : ((l ++ lm) ++ [kMk, kMk]).length = l.length + lm.length + 2 := by rw [List.length_append, hx46] <;> rfl
            refine lt_pure rfl trivial (val_assign rfl) rfl ?_   -- 8
            exact lt_done (fun w hm => ⟨(a50, c50, e50), hr50', ⟨rfl, rfl, rfl, rfl, rfl, trivial⟩, hm.only (.cons _ (.cons_cons _ (.cons_cons _ (List.nil_sublist _))))⟩)
          exact lt_stop
        exact lt_stop
      refine lt_alt ?_ ?_
      · -- first 6
        refine lt_val rfl trivial (val_load_all 0 rfl rfl Tryd.isAgg43 Tryd.sizeOf43 (by show (List.map vU8 kMk).length = _; rw [List.length_map]; exact kMk_len)) rfl (fun _ _ h => h) ?_   -- 48
        refine lt_alt ?_ ?_
        · -- first 0
          refine lt_make (fun b => .slice (some ⟨b, 0, none⟩) 0 0) rfl trivial (acts_buildSlice (cs := [].flatten) Tryd.underlying32 Tryd.sizeOf43 zD rfl rfl (fill_aggs [] (by decide) rfl (fun _ h => by cases h))) rfl (fun h => nomatch h) (fun b42 hb42 => ?_)   -- 42
          refine lt_alt ?_ ?_
          · -- first 2
            refine lt_append (k := l.length) (xs := l.flatMap fun d => d.map vU8) rfl trivial (acts_row (acts_append (size := 32) (bytes := 32) 0 rfl rfl rfl (RowE.full (n := 0) (size := 32) rfl (by decide)) rfl Tryd.underlying32 hDi hDz hDsz hDby rfl (by decide) (fun w hm => (hr.mem hm)) (flatMap_size' rfl hdl) (one_dgs _) (by omega) (by omega)) (Nat.zero_add _) (by simp only [List.flatMap_append, List.flatMap_cons, List.flatMap_nil, List.flatten_cons, List.flatten_nil, List.nil_append, List.append_nil])) rfl (fun h => nomatch h) (fun a44 c44 e44 hr44' => ?_)   -- 44
            refine lt_alt ?_ ?_
            · -- first 4
              refine lt_append (k := l.length + lm.length) (xs := (l ++ lm).flatMap fun d => d.map vU8) rfl trivial (acts_row (acts_append (size := 32) (bytes := 32) 0 rfl rfl rfl hr44' rfl Tryd.underlying32 hDi hDz hDsz hDby rfl (by decide) (fun w hm => (hr1.mem hm)) (flatMap_size' rfl hd1) (one_dgs _) (by omega) (by omega)) rfl (by simp only [List.flatMap_append, List.flatMap_cons, List.flatMap_nil, List.flatten_cons, List.flatten_nil, List.nil_append, List.append_nil])) rfl (fun h => nomatch h) (fun a46 c46 e46 hr46' => ?_)   -- 46
              have hx46 : (l ++ lm).length = l.length + lm.length := by rw [List.length_append] <;> rfl
              refine lt_make (fun b => .slice (some ⟨b, 0, none⟩) 2 2) rfl trivial (acts_buildSlice (cs := [kMk.map vU8, kMk.map vU8].flatten) Tryd.underlying32 Tryd.sizeOf43 zD rfl rfl (fill_aggs [kMk.map vU8, kMk.map vU8] (by decide) rfl (by simp only [List.forall_mem_cons, List.length_map]; exact ⟨kMk_len, kMk_len, fun _ h => by cases h⟩))) rfl (fun h => nomatch h) (fun b49 hb49 => ?_)   -- 49
              refine lt_append (k := l.length + lm.length + 2) (xs := ((l ++ lm) ++ [kMk, kMk]).flatMap fun d => d.map vU8) rfl trivial (acts_row (acts_append (size := 32) (bytes := 32) 1 rfl rfl rfl hr46' rfl Tryd.underlying32 hDi hDz hDsz hDby rfl (by decide) (fun w hm => (Rd.blk (hm.at (i := 0) rfl))) (by simp only [List.flatten_cons, List.flatten_nil, List.append_nil, List.length_append, List.length_map, kMk_len, kMk_len]) (fun u hu => by simp only [List.flatten_cons, List.flatten_nil, List.append_nil, List.mem_append] at hu; rcases hu with hu | hu <;> exact one_u8s _ u hu) (by omega) (by omega)) rfl (by simp only [List.flatMap_append, List.flatMap_cons, List.flatMap_nil, List.flatten_cons, List.flatten_nil, List.nil_append, List.append_nil])) rfl (fun h => nomatch h) (fun a50 c50 e50 hr50' => ?_)   -- 50
              have hx50 : ((l ++ lm) ++ [kMk, kMk]).length = l.length + lm.length + 2 := by rw [List.length_append, hx46] <;> rfl
              refine lt_pure rfl trivial (val_assign rfl) rfl ?_   -- 8
              exact lt_done (fun w hm => ⟨(a50, c50, e50), hr50', ⟨rfl, rfl, rfl, rfl, rfl, trivial⟩, hm.only (.cons _ (.cons_cons _ (.cons_cons _ (List.nil_sublist _))))⟩)
            refine lt_alt ?_ ?_
            · -- first 7
              refine lt_make (fun b => .slice (some ⟨b, 0, none⟩) 2 2) rfl trivial (acts_buildSlice (cs := [kMk.map vU8, kMk.map vU8].flatten) Tryd.underlying32 Tryd.sizeOf43 zD rfl rfl (fill_aggs [kMk.map vU8, kMk.map vU8] (by decide) rfl (by simp only [List.forall_mem_cons, List.length_map]; exact ⟨kMk_len, kMk_len, fun _ h => by cases h⟩))) rfl (fun h => nomatch h) (fun b49 hb49 => ?_)   -- 49
              refine lt_append (k := l.length + lm.length) (xs := (l ++ lm).flatMap fun d => d.map vU8) rfl trivial (acts_row (acts_append (size := 32) (bytes := 32) 1 rfl rfl rfl hr44' rfl Tryd.underlying32 hDi hDz hDsz hDby rfl (by decide) (fun w hm => (hr1.mem hm)) (flatMap_size' rfl hd1) (one_dgs _) (by omega) (by omega)) rfl (by simp only [List.flatMap_append, List.flatMap_cons, List.flatMap_nil, List.flatten_cons, List.flatten_nil, List.nil_append, List.append_nil])) rfl (fun h => nomatch h) (fun a46 c46 e46 hr46' => ?_)   -- 46
              have hx46 : (l ++ lm).length = l.length + lm.length := by rw [List.length_append] <;> rfl
              refine lt_append (k := l.length + lm.length + 2) (xs := ((l ++ lm) ++ [kMk, kMk]).flatMap fun d => d.map vU8) rfl trivial (acts_row (acts_append (size := 32) (bytes := 32) 1 rfl rfl rfl hr46' rfl Tryd.underlying32 hDi hDz hDsz hDby rfl (by decide) (fun w hm => (Rd.blk (hm.at (i := 0) rfl))) (by simp only [List.flatten_cons, List.flatten_nil, List.append_nil, List.length_append, List.length_map, kMk_len, kMk_len]) (fun u hu => by simp only [List.flatten_cons, List.flatten_nil, List.append_nil, List.mem_append] at hu; rcases hu with hu | hu <;> exact one_u8s _ u hu) (by omega) (by omega)) rfl (by simp only [List.flatMap_append, List.flatMap_cons, List.flatMap_nil, List.flatten_cons, List.flatten_nil, List.nil_append, List.append_nil])) rfl (fun h => nomatch h) (fun a50 c50 e50 hr50' => ?_)   -- 50
              have hx50 : ((l ++ lm) ++ [kMk, kMk]).length = l.length + lm.length + 2 := by rw [List.length_append, hx46] <;> rfl
              refine lt_pure rfl trivial (val_assign rfl) rfl ?_   -- 8
              exact lt_done (fun w hm => ⟨(a50, c50, e50), hr50', ⟨rfl, rfl, rfl, rfl, rfl, trivial⟩, hm.only (.cons _ (.cons_cons _ (.cons_cons _ (List.nil_sublist _))))⟩)
            exact lt_stop
          refine lt_alt ?_ ?_
          · -- first 7
            refine lt_make (fun b => .slice (some ⟨b, 0, none⟩) 2 2) rfl trivial (acts_buildSlice (cs := [kMk.map vU8, kMk.map vU8].flatten) Tryd.underlying32 Tryd.sizeOf43 zD rfl rfl (fill_aggs [kMk.map vU8, kMk.map vU8] (by decide) rfl (by simp only [List.forall_mem_cons, List.length_map]; exact ⟨kMk_len, kMk_len, fun _ h => by cases h⟩))) rfl (fun h => nomatch h) (fun b49 hb49 => ?_)   -- 49
            refine lt_append (k := l.length) (xs := l.flatMap fun d => d.map vU8) rfl trivial (acts_row (acts_append (size := 32) (bytes := 32) 1 rfl rfl rfl (RowE.full (n := 0) (size := 32) rfl (by decide)) rfl Tryd.underlying32 hDi hDz hDsz hDby rfl (by decide) (fun w hm => (hr.mem hm)) (flatMap_size' rfl hdl) (one_dgs _) (by omega) (by omega)) (Nat.zero_add _) (by simp only [List.flatMap_append, List.flatMap_cons, List.flatMap_nil, List.flatten_cons, List.flatten_nil, List.nil_append, List.append_nil])) rfl (fun h => nomatch h) (fun a44 c44 e44 hr44' => ?_)   -- 44
            refine lt_append (k := l.length + lm.length) (xs := (l ++ lm).flatMap fun d => d.map vU8) rfl trivial (acts_row (acts_append (size := 32) (bytes := 32) 1 rfl rfl rfl hr44' rfl Tryd.underlying32 hDi hDz hDsz hDby rfl (by decide) (fun w hm => (hr1.mem hm)) (flatMap_size' rfl hd1) (one_dgs _) (by omega) (by omega)) rfl (by simp only [List.flatMap_append, List.flatMap_cons, List.flatMap_nil, List.flatten_cons, List.flatten_nil, List.nil_append, List.append_nil])) rfl (fun h => nomatch h) (fun a46 c46 e46 hr46' => ?_)   -- 46
            have hx46 : (l ++ lm).length = l.length + lm.length := by rw [List.length_append] <;> rfl
            refine lt_append (k := l.length + lm.length + 2) (xs := ((l ++ lm) ++ [kMk, kMk]).flatMap fun d => d.map vU8) rfl trivial (acts_row (acts_append (size := 32) (bytes := 32) 1 rfl rfl rfl hr46' rfl Tryd.underlying32 hDi hDz hDsz hDby rfl (by decide) (fun w hm => (Rd.blk (hm.at (i := 0) rfl))) (by simp only [List.flatten_cons, List.flatten_nil, List.append_nil, List.length_append, List.length_map, kMk_len, kMk_len]) (fun u hu => by simp only [List.flatten_cons, List.flatten_nil, List.append_nil, List.mem_append] at hu; rcases hu with hu | hu <;> exact one_u8s _ u hu) (by omega) (by omega)) rfl (by simp only [List.flatMap_append, List.flatMap_cons, List.flatMap_nil, List.flatten_cons, List.flatten_nil, List.nil_append, List.append_nil])) rfl (fun h => nomatch h) (fun a50 c50 e50 hr50' => ?_)   -- 50
            have hx50 : ((l ++ lm) ++ [kMk, kMk]).length = l.length + lm.length + 2 := by rw [List.length_append, hx46] <;> rfl
            refine lt_pure rfl trivial (val_assign rfl) rfl ?_   -- 8
            exact lt_done (fun w hm => ⟨(a50, c50, e50), hr50', ⟨rfl, rfl, rfl, rfl, rfl, trivial⟩, hm.only (.cons _ (.cons_cons _ (.cons_cons _ (List.nil_sublist _))))⟩)
          exact lt_stop
        refine lt_alt ?_ ?_
        · -- first 7
          refine lt_make (fun b => .slice (some ⟨b, 0, none⟩) 2 2) rfl trivial (acts_buildSlice (cs := [kMk.map vU8, kMk.map vU8].flatten) Tryd.underlying32 Tryd.sizeOf43 zD rfl rfl (fill_aggs [kMk.map vU8, kMk.map vU8] (by decide) rfl (by simp only [List.forall_mem_cons, List.length_map]; exact ⟨kMk_len, kMk_len, fun _ h => by cases h⟩))) rfl (fun h => nomatch h) (fun b49 hb49 => ?_)   -- 49
          refine lt_make (fun b => .slice (some ⟨b, 0, none⟩) 0 0) rfl trivial (acts_buildSlice (cs := [].flatten) Tryd.underlying32 Tryd.sizeOf43 zD rfl rfl (fill_aggs [] (by decide) rfl (fun _ h => by cases h))) rfl (fun h => nomatch h) (fun b42 hb42 => ?_)   -- 42
          refine lt_append (k := l.length) (xs := l.flatMap fun d => d.map vU8) rfl trivial (acts_row (acts_append (size := 32) (bytes := 32) 0 rfl rfl rfl (RowE.full (n := 0) (size := 32) rfl (by decide)) rfl Tryd.underlying32 hDi hDz hDsz hDby rfl (by decide) (fun w hm => (hr.mem hm)) (flatMap_size' rfl hdl) (one_dgs _) (by omega) (by omega)) (Nat.zero_add _) (by simp only [List.flatMap_append, List.flatMap_cons, List.flatMap_nil, List.flatten_cons, List.flatten_nil, List.nil_append, List.append_nil])) rfl (fun h => nomatch h) (fun a44 c44 e44 hr44' => ?_)   -- 44
          refine lt_append (k := l.length + lm.length) (xs := (l ++ lm).flatMap fun d => d.map vU8) rfl trivial (acts_row (acts_append (size := 32) (bytes := 32) 0 rfl rfl rfl hr44' rfl Tryd.underlying32 hDi hDz hDsz hDby rfl (by decide) (fun w hm => (hr1.mem hm)) (flatMap_size' rfl hd1) (one_dgs _) (by omega) (by omega)) rfl (by simp only [List.flatMap_append, List.flatMap_cons, List.flatMap_nil, List.flatten_cons, List.flatten_nil, List.nil_append, List.append_nil])) rfl (fun h => nomatch h) (fun a46 c46 e46 hr46' => ?_)   -- 46
          have hx46 : (l ++ lm).length = l.length + lm.length := by rw [List.length_append] <;> rfl
          refine lt_append (k := l.length + lm.length + 2) (xs := ((l ++ lm) ++ [kMk, kMk]).flatMap fun d => d.map vU8) rfl trivial (acts_row (acts_append (size := 32) (bytes := 32) 0 rfl rfl rfl hr46' rfl Tryd.underlying32 hDi hDz hDsz hDby rfl (by decide) (fun w hm => (Rd.blk (hm.at (i := 1) rfl))) (by simp only [List.flatten_cons, List.flatten_nil, List.append_nil, List.length_append, List.length_map, kMk_len, kMk_len]) (fun u hu => by simp only [List.flatten_cons, List.flatten_nil, List.append_nil, List.mem_append] at hu; rcases hu with hu | hu <;> exact one_u8s _ u hu) (by omega) (by omega)) rfl (by simp only [List.flatMap_append, List.flatMap_cons, List.flatMap_nil, List.flatten_cons, List.flatten_nil, List.nil_append, List.append_nil])) rfl (fun h => nomatch h) (fun a50 c50 e50 hr50' => ?_)   -- 50
          have hx50 : ((l ++ lm) ++ [kMk, kMk]).length = l.length + lm.length + 2 := by rw [List.length_append, hx46] <;> rfl
          refine lt_pure rfl trivial (val_assign rfl) rfl ?_   -- 8
          exact lt_done (fun w hm => ⟨(a50, c50, e50), hr50', ⟨rfl, rfl, rfl, rfl, rfl, trivial⟩, hm.only (.cons_cons _ (.cons _ (.cons_cons _ (List.nil_sublist _))))⟩)
        exact lt_stop
      exact lt_stop
    refine lt_alt ?_ ?_
    · -- first 6
      refine lt_val rfl trivial (val_load_all 0 rfl rfl Tryd.isAgg43 Tryd.sizeOf43 (by show (List.map vU8 kMk).length = _; rw [List.length_map]; exact kMk_len)) rfl (fun _ _ h => h) ?_   -- 48
      refine lt_alt ?_ ?_
      · -- first 0
        refine lt_make (fun b => .slice (some ⟨b, 0, none⟩) 0 0) rfl trivial (acts_buildSlice (cs := [].flatten) Tryd.underlying32 Tryd.sizeOf43 zD rfl rfl (fill_aggs [] (by decide) rfl (fun _ h => by cases h))) rfl (fun h => nomatch h) (fun b42 hb42 => ?_)   -- 42
        refine lt_alt ?_ ?_
        · -- first 2
          refine lt_append (k := l.length) (xs := l.flatMap fun d => d.map vU8) rfl trivial (acts_row (acts_append (size := 32) (bytes := 32) 0 rfl rfl rfl (RowE.full (n := 0) (size := 32) rfl (by decide)) rfl Tryd.underlying32 hDi hDz hDsz hDby rfl (by decide) (fun w hm => (hr.mem hm)) (flatMap_size' rfl hdl) (one_dgs _) (by omega) (by omega)) (Nat.zero_add _) (by simp only [List.flatMap_append, List.flatMap_cons, List.flatMap_nil, List.flatten_cons, List.flatten_nil, List.nil_append, List.append_nil])) rfl (fun h => nomatch h) (fun a44 c44 e44 hr44' => ?_)   -- 44
          refine lt_alt ?_ ?_
          · -- first 4
            refine lt_append (k := l.length + lm.length) (xs := (l ++ lm).flatMap fun d => d.map vU8) rfl trivial (acts_row (acts_append (size := 32) (bytes := 32) 0 rfl rfl rfl hr44' rfl Tryd.underlying32 hDi hDz hDsz hDby rfl (by decide) (fun w hm => (hr1.mem hm)) (flatMap_size' rfl hd1) (one_dgs _) (by omega) (by omega)) rfl (by simp only [List.flatMap_append, List.flatMap_cons, List.flatMap_nil, List.flatten_cons, List.flatten_nil, List.nil_append, List.append_nil])) rfl (fun h => nomatch h) (fun a46 c46 e46 hr46' => ?_)   -- 46
            have hx46 : (l ++ lm).length = l.length + lm.length := by rw [List.length_append] <;> rfl
            refine lt_val rfl trivial (val_load_all 1 rfl rfl Tryd.isAgg43 Tryd.sizeOf43 (by show (List.map vU8 kMk).length = _; rw [List.length_map]; exact kMk_len)) rfl (fun h => nomatch h) ?_   -- 47
            refine lt_make (fun b => .slice (some ⟨b, 0, none⟩) 2 2) rfl trivial (acts_buildSlice (cs := [kMk.map vU8, kMk.map vU8].flatten) Tryd.underlying32 Tryd.sizeOf43 zD rfl rfl (fill_aggs [kMk.map vU8, kMk.map vU8] (by decide) rfl (by simp only [List.forall_mem_cons, List.length_map]; exact ⟨kMk_len, kMk_len, fun _ h => by cases h⟩))) rfl (fun h => nomatch h) (fun b49 hb49 => ?_)   -- 49
            refine lt_append (k := l.length + lm.length + 2) (xs := ((l ++ lm) ++ [kMk, kMk]).flatMap fun d => d.map vU8) rfl trivial (acts_row (acts_append (size := 32) (bytes := 32) 1 rfl rfl rfl hr46' rfl Tryd.underlying32 hDi hDz hDsz hDby rfl (by decide) (fun w hm => (Rd.blk (hm.at (i := 0) rfl))) (by simp only [List.flatten_cons, List.flatten_nil, List.append_nil, List.length_append, List.length_map, kMk_len, kMk_len]) (fun u hu => by simp only [List.flatten_cons, List.flatten_nil, List.append_nil, List.mem_append] at hu; rcases hu with hu | hu <;> exact one_u8s _ u hu) (by omega) (by omega)) rfl (by simp only [List.flatMap_append, List.flatMap_cons, List.flatMap_nil, List.flatten_cons, List.flatten_nil, List.nil_append, List.append_nil])) rfl (fun h => nomatch h) (fun a50 c50 e50 hr50' => ?_)   -- 50
            have hx50 : ((l ++ lm) ++ [kMk, kMk]).length = l.length + lm.length + 2 := by rw [List.length_append, hx46] <;> rfl
            refine lt_pure rfl trivial (val_assign rfl) rfl ?_   -- 8
            exact lt_done (fun w hm => ⟨(a50, c50, e50), hr50', ⟨rfl, rfl, rfl, rfl, rfl, trivial⟩, hm.only (.cons _ (.cons_cons _ (.cons_cons _ (List.nil_sublist _))))⟩)
          refine lt_alt ?_ ?_
          · -- first 5
            refine lt_val rfl trivial (val_load_all 1 rfl rfl Tryd.isAgg43 Tryd.sizeOf43 (by show (List.map vU8 kMk).length = _; rw [List.length_map]; exact kMk_len)) rfl (fun h => nomatch h) ?_   -- 47
            refine lt_alt ?_ ?_
            · -- first 4
              refine lt_append (k := l.length + lm.length) (xs := (l ++ lm).flatMap fun d => d.map vU8) rfl trivial (acts_row (acts_append (size := 32) (bytes := 32) 0 rfl rfl rfl hr44' rfl Tryd.underlying32 hDi hDz hDsz hDby rfl (by decide) (fun w hm => (hr1.mem hm)) (flatMap_size' rfl hd1) (one_dgs _) (by omega) (by omega)) rfl (by simp only [List.flatMap_append, List.flatMap_cons, List.flatMap_nil, List.flatten_cons, List.flatten_nil, List.nil_append, List.append_nil])) rfl (fun h => nomatch h) (fun a46 c46 e46 hr46' => ?_)   -- 46
              have hx46 : (l ++ lm).length = l.length + lm.length := by rw [List.length_append] <;> rfl
              refine lt_make (fun b => .slice (some ⟨b, 0, none⟩) 2 2) rfl trivial (acts_buildSlice (cs := [kMk.map vU8, kMk.map vU8].flatten) Tryd.underlying32 Tryd.sizeOf43 zD rfl rfl (fill_aggs [kMk.map vU8, kMk.map vU8] (by decide) rfl (by simp only [List.forall_mem_cons, List.length_map]; exact ⟨kMk_len, kMk_len, fun _ h => by cases h⟩))) rfl (fun h => nomatch h) (fun b49 hb49 => ?_)   -- 49
              refine lt_append (k := l.length + lm.length + 2) (xs := ((l ++ lm) ++ [kMk, kMk]).flatMap fun d => d.map vU8) rfl trivial (acts_row (acts_append (size := 32) (bytes := 32) 1 rfl rfl rfl hr46' rfl Tryd.underlying32 hDi hDz hDsz hDby rfl (by decide) (fun w hm => (Rd.blk (hm.at (i := 0) rfl))) (by simp only [List.flatten_cons, List.flatten_nil, List.append_nil, List.length_append, List.length_map, kMk_len, kMk_len]) (fun u hu => by simp only [List.flatten_cons, List.flatten_nil, List.append_nil, List.mem_append] at hu; rcases hu with hu | hu <;> exact one_u8s _ u hu) (by omega) (by omega)) rfl (by simp only [List.flatMap_append, List.flatMap_cons, List.flatMap_nil, List.flatten_cons, List.flatten_nil, List.nil_append, List.append_nil])) rfl (fun h => nomatch h) (fun a50 c50 e50 hr50' => ?_)   -- 50
              have hx50 : ((l ++ lm) ++ [kMk, kMk]).length = l.length + lm.length + 2 := by rw [List.length_append, hx46] <;> rfl
              refine lt_pure rfl trivial (val_assign rfl) rfl ?_   -- 8
              exact lt_done (fun w hm => ⟨(a50, c50, e50), hr50', ⟨rfl, rfl, rfl, rfl, rfl, trivial⟩, hm.only (.cons _ (.cons_cons _ (.cons_cons _ (List.nil_sublist _))))⟩)
            refine lt_alt ?_ ?_
            · -- first 7
              refine lt_make (fun b => .slice (some ⟨b, 0, none⟩) 2 2) rfl trivial (acts_buildSlice (cs := [kMk.map vU8, kMk.map vU8].flatten) Tryd.underlying32 Tryd.sizeOf43 zD rfl rfl (fill_aggs [kMk.map vU8, kMk.map vU8] (by decide) rfl (by simp only [List.forall_mem_cons, List.length_map]; exact ⟨kMk_len, kMk_len, fun _ h => by cases h⟩))) rfl (fun h => nomatch h) (fun b49 hb49 => ?_)   -- 49
              refine lt_append (k := l.length + lm.length) (xs := (l ++ lm).flatMap fun d => d.map vU8) rfl trivial (acts_row (acts_append (size := 32) (bytes := 32) 1 rfl rfl rfl hr44' rfl Tryd.underlying32 hDi hDz hDsz hDby rfl (by decide) (fun w hm => (hr1.mem hm)) (flatMap_size' rfl hd1) (one_dgs _) (by omega) (by omega)) rfl (by simp only [List.flatMap_append, List.flatMap_cons, List.flatMap_nil, List.flatten_cons, List.flatten_nil, List.nil_append, List.append_nil])) rfl (fun h => nomatch h) (fun a46 c46 e46 hr46' => ?_)   -- 46
              have hx46 : (l ++ lm).length = l.length + lm.length := by rw [List.length_append] <;> rfl
              refine lt_append (k := l.length + lm.length + 2) (xs := ((l ++ lm) ++ [kMk, kMk]).flatMap fun d => d.map vU8) rfl trivial (acts_row (acts_append (size := 32) (bytes := 32) 1 rfl rfl rfl hr46' rfl Tryd.underlying32 hDi hDz hDsz hDby rfl (by decide) (fun w hm => (Rd.blk (hm.at (i := 0) rfl))) (by simp only [List.flatten_cons, List.flatten_nil, List.append_nil, List.length_append, List.length_map, kMk_len, kMk_len]) (fun u hu => by simp only [List.flatten_cons, List.flatten_nil, List.append_nil, List.mem_append] at hu; rcases hu with hu | hu <;> exact one_u8s _ u hu) (by omega) (by omega)) rfl (by simp only [List.flatMap_append, List.flatMap_cons, List.flatMap_nil, List.flatten_cons, List.flatten_nil, List.nil_append, List.append_nil])) rfl (fun h => nomatch h) (fun a50 c50 e50 hr50' => ?_)   -- 50
              have hx50 : ((l ++ lm) ++ [kMk, kMk]).length = l.length + lm.length + 2 := by rw [List.length_append, hx46] <;> rfl
              refine lt_pure rfl trivial (val_assign rfl) rfl ?_   -- 8
              exact lt_done (fun w hm => ⟨(a50, c50, e50), hr50', ⟨rfl, rfl, rfl, rfl, rfl, trivial⟩, hm.only (.cons _ (.cons_cons _ (.cons_cons _ (List.nil_sublist _))))⟩)
            exact lt_stop
          exact lt_stop
        refine lt_alt ?_ ?_
        · -- first 5
          refine lt_val rfl trivial (val_load_all 1 rfl rfl Tryd.isAgg43 Tryd.sizeOf43 (by show (List.map vU8 kMk).length = _; rw [List.length_map]; exact kMk_len)) rfl (fun h => nomatch h) ?_   -- 47
          refine lt_alt ?_ ?_
          · -- first 2
            refine lt_append (k := l.length) (xs := l.flatMap fun d => d.map vU8) rfl trivial (acts_row (acts_append (size := 32) (bytes := 32) 0 rfl rfl rfl (RowE.full (n := 0) (size := 32) rfl (by decide)) rfl Tryd.underlying32 hDi hDz hDsz hDby rfl (by decide) (fun w hm => (hr.mem hm)) (flatMap_size' rfl hdl) (one_dgs _) (by omega) (by omega)) (Nat.zero_add _) (by simp only [List.flatMap_append, List.flatMap_cons, List.flatMap_nil, List.flatten_cons, List.flatten_nil, List.nil_append, List.append_nil])) rfl (fun h => nomatch h) (fun a44 c44 e44 hr44' => ?_)   -- 44
            refine lt_alt ?_ ?_
            · -- first 4
              refine lt_append (k := l.length + lm.length) (xs := (l ++ lm).flatMap fun d => d.map vU8) rfl trivial (acts_row (acts_append (size := 32) (bytes := 32) 0 rfl rfl rfl hr44' rfl Tryd.underlying32 hDi hDz hDsz hDby rfl (by decide) (fun w hm => (hr1.mem hm)) (flatMap_size' rfl hd1) (one_dgs _) (by omega) (by omega)) rfl (by simp only [List.flatMap_append, List.flatMap_cons, List.flatMap_nil, List.flatten_cons, List.flatten_nil, List.nil_append, List.append_nil])) rfl (fun h => nomatch h) (fun a46 c46 e46 hr46' => ?_)   -- 46
              have hx46 : (l ++ lm).length = l.length + lm.length := by rw [List.length_append] <;> rfl
              refine lt_make (fun b => .slice (some ⟨b, 0, none⟩) 2 2) rfl trivial (acts_buildSlice (cs := [kMk.map vU8, kMk.map vU8].flatten) Tryd.underlying32 Tryd.sizeOf43 zD rfl rfl (fill_aggs [kMk.map vU8, kMk.map vU8] (by decide) rfl (by simp only [List.forall_mem_cons, List.length_map]; exact ⟨kMk_len, kMk_len, fun _ h => by cases h⟩))) rfl (fun h => nomatch h) (fun b49 hb49 => ?_)   -- 49
              refine lt_append (k := l.length + lm.length + 2) (xs := ((l ++ lm) ++ [kMk, kMk]).flatMap fun d => d.map vU8) rfl trivial (acts_row (acts_append (size := 32) (bytes := 32) 1 rfl rfl rfl hr46' rfl Tryd.underlying32 hDi hDz hDsz hDby rfl (by decide) (fun w hm => (Rd.blk (hm.at (i := 0) rfl))) (by simp only [List.flatten_cons, List.flatten_nil, List.append_nil, List.length_append, List.length_map, kMk_len, kMk_len]) (fun u hu => by simp only [List.flatten_cons, List.flatten_nil, List.append_nil, List.mem_append] at hu; rcases hu with hu | hu <;> exact one_u8s _ u hu) (by omega) (by omega)) rfl (by simp only [List.flatMap_append, List.flatMap_cons, List.flatMap_nil, List.flatten_cons, List.flatten_nil, List.nil_append, List.append_nil])) rfl (fun h => nomatch h) (fun a50 c50 e50 hr50' => ?_)   -- 50
              have hx50 : ((l ++ lm) ++ [kMk, kMk]).length = l.length + lm.length + 2 := by rw [List.length_append, hx46] <;> rfl
              refine lt_pure rfl trivial (val_assign rfl) rfl ?_   -- 8
              exact lt_done (fun w hm => ⟨(a50, c50, e50), hr50', ⟨rfl, rfl, rfl, rfl, rfl, trivial⟩, hm.only (.cons _ (.cons_cons _ (.cons_cons _ (List.nil_sublist _))))⟩)
            refine lt_alt ?_ ?_
            · -- first 7
              refine lt_make (fun b => .slice (some ⟨b, 0, none⟩) 2 2) rfl trivial (acts_buildSlice (cs := [kMk.map vU8, kMk.map vU8].flatten) Tryd.underlying32 Tryd.sizeOf43 zD rfl rfl (fill_aggs [kMk.map vU8, kMk.map vU8] (by decide) rfl (by simp only [List.forall_mem_cons, List.length_map]; exact ⟨kMk_len, kMk_len, fun _ h => by cases h⟩))) rfl (fun h => nomatch h) (fun b49 hb49 => ?_)   -- 49
              refine lt_append (k := l.length + lm.length) (xs := (l ++ lm).flatMap fun d => d.map vU8) rfl trivial (acts_row (acts_append (size := 32) (bytes := 32) 1 rfl rfl rfl hr44' rfl Tryd.underlying32 hDi hDz hDsz hDby rfl (by decide) (fun w hm => (hr1.mem hm)) (flatMap_size' rfl hd1) (one_dgs _) (by omega) (by omega)) rfl (by simp only [List.flatMap_append, List.flatMap_cons, List.flatMap_nil, List.flatten_cons, List.flatten_nil, List.nil_append, List.append_nil])) rfl (fun h => nomatch h) (fun a46 c46 e46 hr46' => ?_)   -- 46
              have hx46 : (l ++ lm).length = l.length + lm.length := by rw [List.length_append] <;> rfl
              refine lt_append (k := l.length + lm.length + 2) (xs := ((l ++ lm) ++ [kMk, kMk]).flatMap fun d => d.map vU8) rfl trivial (acts_row (acts_append (size := 32) (bytes := 32) 1 rfl rfl rfl hr46' rfl Tryd.underlying32 hDi hDz hDsz hDby rfl (by decide) (fun w hm => (Rd.blk (hm.at (i := 0) rfl))) (by simp only [List.flatten_cons, List.flatten_nil, List.append_nil, List.length_append, List.length_map, kMk_len, kMk_len]) (fun u hu => by simp only [List.flatten_cons, List.flatten_nil, List.append_nil, List.mem_append] at hu; rcases hu with hu | hu <;> exact one_u8s _ u hu) (by omega) (by omega)) rfl (by simp only [List.flatMap_append, List.flatMap_cons, List.flatMap_nil, List.flatten_cons, List.flatten_nil, List.nil_append, List.append_nil])) rfl (fun h => nomatch h) (fun a50 c50 e50 hr50' => ?_)   -- 50
              have hx50 : ((l ++ lm) ++ [kMk, kMk]).length = l.length + lm.length + 2 := by rw [List.length_append, hx46] <;> rfl
              refine lt_pure rfl trivial (val_assign rfl) rfl ?_   -- 8
              exact lt_done (fun w hm => ⟨(a50, c50, e50), hr50', ⟨rfl, rfl, rfl, rfl, rfl, trivial⟩, hm.only (.cons _ (.cons_cons _ (.cons_cons _ (List.nil_sublist _))))⟩)
            exact lt_stop
          refine lt_alt ?_ ?_
          · -- first 7
            refine lt_make (fun b => .slice (some ⟨b, 0, none⟩) 2 2) rfl trivial (acts_buildSlice (cs := [kMk.map vU8, kMk.map vU8].flatten) Tryd.underlying32 Tryd.sizeOf43 zD rfl rfl (fill_aggs [kMk.map vU8, kMk.map vU8] (by decide) rfl (by simp only [List.forall_mem_cons, List.length_map]; exact ⟨kMk_len, kMk_len, fun _ h => by cases h⟩))) rfl (fun h => nomatch h) (fun b49 hb49 => ?_)   -- 49
            refine lt_append (k := l.length) (xs := l.flatMap fun d => d.map vU8) rfl trivial (acts_row (acts_append (size := 32) (bytes := 32) 1 rfl rfl rfl (RowE.full (n := 0) (size := 32) rfl (by decide)) rfl Tryd.underlying32 hDi hDz hDsz hDby rfl (by decide) (fun w hm => (hr.mem hm)) (flatMap_size' rfl hdl) (one_dgs _) (by omega) (by omega)) (Nat.zero_add _) (by simp only [List.flatMap_append, List.flatMap_cons, List.flatMap_nil, List.flatten_cons, List.flatten_nil, List.nil_append, List.append_nil])) rfl (fun h => nomatch h) (fun a44 c44 e44 hr44' => ?_)   -- 44
            refine lt_append (k := l.length + lm.length) (xs := (l ++ lm).flatMap fun d => d.map vU8) rfl trivial (acts_row (acts_append (size := 32) (bytes := 32) 1 rfl rfl rfl hr44' rfl Tryd.underlying32 hDi hDz hDsz hDby rfl (by decide) (fun w hm => (hr1.mem hm)) (flatMap_size' rfl hd1) (one_dgs _) (by omega) (by omega)) rfl (by simp only [List.flatMap_append, List.flatMap_cons, List.flatMap_nil, List.flatten_cons, List.flatten_nil, List.nil_append, List.append_nil])) rfl (fun h => nomatch h) (fun a46 c46 e46 hr46' => ?_)   -- 46
            have hx46 : (l ++ lm).length = l.length + lm.length := by rw [List.length_append] <;> rfl
            refine lt_append (k := l.length + lm.length + 2) (xs := ((l ++ lm) ++ [kMk, kMk]).flatMap fun d => d.map vU8) rfl trivial (acts_row (acts_append (size := 32) (bytes := 32) 1 rfl rfl rfl hr46' rfl Tryd.underlying32 hDi hDz hDsz hDby rfl (by decide) (fun w hm => (Rd.blk (hm.at (i := 0) rfl))) (by simp only [List.flatten_cons, List.flatten_nil, List.append_nil, List.length_append, List.length_map, kMk_len, kMk_len]) (fun u hu => by simp only [List.flatten_cons, List.flatten_nil, List.append_nil, List.mem_append] at hu; rcases hu with hu | hu <;> exact one_u8s _ u hu) (by omega) (by omega)) rfl (by simp only [List.flatMap_append, List.flatMap_cons, List.flatMap_nil, List.flatten_cons, List.flatten_nil, List.nil_append, List.append_nil])) rfl (fun h => nomatch h) (fun a50 c50 e50 hr50' => ?_)   -- 50
            have hx50 : ((l ++ lm) ++ [kMk, kMk]).length = l.length + lm.length + 2 := by rw [List.length_append, hx46] <;> rfl
            refine lt_pure rfl trivial (val_assign rfl) rfl ?_   -- 8
            exact lt_done (fun w hm => ⟨(a50, c50, e50), hr50', ⟨rfl, rfl, rfl, rfl, rfl, trivial⟩, hm.only (.cons _ (.cons_cons _ (.cons_cons _ (List.nil_sublist _))))⟩)
          exact lt_stop
        exact lt_stop
      refine lt_alt ?_ ?_
      · -- first 5
        refine lt_val rfl trivial (val_load_all 0 rfl rfl Tryd.isAgg43 Tryd.sizeOf43 (by show (List.map vU8 kMk).length = _; rw [List.length_map]; exact kMk_len)) rfl (fun _ _ h => h) ?_   -- 47
        refine lt_alt ?_ ?_
        · -- first 0
          refine lt_make (fun b => .slice (some ⟨b, 0, none⟩) 0 0) rfl trivial (acts_buildSlice (cs := [].flatten) Tryd.underlying32 Tryd.sizeOf43 zD rfl rfl (fill_aggs [] (by decide) rfl (fun _ h => by cases h))) rfl (fun h => nomatch h) (fun b42 hb42 => ?_)   -- 42
          refine lt_alt ?_ ?_
          · -- first 2
            refine lt_append (k := l.length) (xs := l.flatMap fun d => d.map vU8) rfl trivial (acts_row (acts_append (size := 32) (bytes := 32) 0 rfl rfl rfl (RowE.full (n := 0) (size := 32) rfl (by decide)) rfl Tryd.underlying32 hDi hDz hDsz hDby rfl (by decide) (fun w hm => (hr.mem hm)) (flatMap_size' rfl hdl) (one_dgs _) (by omega) (by omega)) (Nat.zero_add _) (by simp only [List.flatMap_append, List.flatMap_cons, List.flatMap_nil, List.flatten_cons, List.flatten_nil, List.nil_append, List.append_nil])) rfl (fun h => nomatch h) (fun a44 c44 e44 hr44' => ?_)   -- 44
            refine lt_alt ?_ ?_
            · -- first 4
              refine lt_append (k := l.length + lm.length) (xs := (l ++ lm).flatMap fun d => d.map vU8) rfl trivial (acts_row (acts_append (size := 32) (bytes := 32) 0 rfl rfl rfl hr44' rfl Tryd.underlying32 hDi hDz hDsz hDby rfl (by decide) (fun w hm => (hr1.mem hm)) (flatMap_size' rfl hd1) (one_dgs _) (by omega) (by omega)) rfl (by simp only [List.flatMap_append, List.flatMap_cons, List.flatMap_nil, List.flatten_cons, List.flatten_nil, List.nil_append, List.append_nil])) rfl (fun h => nomatch h) (fun a46 c46 e46 hr46' => ?_)   -- 46
              have hx46 : (l ++ lm).length = l.length + lm.length := by rw [List.length_append] <;> rfl
              refine lt_make (fun b => .slice (some ⟨b, 0, none⟩) 2 2) rfl trivial (acts_buildSlice (cs := [kMk.map vU8, kMk.map vU8].flatten) Tryd.underlying32 Tryd.sizeOf43 zD rfl rfl (fill_aggs [kMk.map vU8, kMk.map vU8] (by decide) rfl (by simp only [List.forall_mem_cons, List.length_map]; exact ⟨kMk_len, kMk_len, fun _ h => by cases h⟩))) rfl (fun h => nomatch h) (fun b49 hb49 => ?_)   -- 49
              refine lt_append (k := l.length + lm.length + 2) (xs := ((l ++ lm) ++ [kMk, kMk]).flatMap fun d => d.map vU8) rfl trivial (acts_row (acts_append (size := 32) (bytes := 32) 1 rfl rfl rfl hr46' rfl Tryd.underlying32 hDi hDz hDsz hDby rfl (by decide) (fun w hm => (Rd.blk (hm.at (i := 0) rfl))) (by simp only [List.flatten_cons, List.flatten_nil, List.append_nil, List.length_append, List.length_map, kMk_len, kMk_len]) (fun u hu => by simp only [List.flatten_cons, List.flatten_nil, List.append_nil, List.mem_append] at hu; rcases hu with hu | hu <;> exact one_u8s _ u hu) (by omega) (by omega)) rfl (by simp only [List.flatMap_append, List.flatMap_cons, List.flatMap_nil, List.flatten_cons, List.flatten_nil, List.nil_append, List.append_nil])) rfl (fun h => nomatch h) (fun a50 c50 e50 hr50' => ?_)   -- 50
              have hx50 : ((l ++ lm) ++ [kMk, kMk]).length = l.length + lm.length + 2 := by rw [List.length_append, hx46] <;> rfl
              refine lt_pure rfl trivial (val_assign rfl) rfl ?_   -- 8
              exact lt_done (fun w hm => ⟨(a50, c50, e50), hr50', ⟨rfl, rfl, rfl, rfl, rfl, trivial⟩, hm.only (.cons _ (.cons_cons _ (.cons_cons _ (List.nil_sublist _))))⟩)
            refine lt_alt ?_ ?_
            · -- first 7
              refine lt_make (fun b => .slice (some ⟨b, 0, none⟩) 2 2) rfl trivial (acts_buildSlice (cs := [kMk.map vU8, kMk.map vU8].flatten) Tryd.underlying32 Tryd.sizeOf43 zD rfl rfl (fill_aggs [kMk.map vU8, kMk.map vU8] (by decide) rfl (by simp only [List.forall_mem_cons, List.length_map]; exact ⟨kMk_len, kMk_len, fun _ h => by cases h⟩))) rfl (fun h => nomatch h) (fun b49 hb49 => ?_)   -- 49
              refine lt_append (k := l.length + lm.length) (xs := (l ++ lm).flatMap fun d => d.map vU8) rfl trivial (acts_row (acts_append (size := 32) (bytes := 32) 1 rfl rfl rfl hr44' rfl Tryd.underlying32 hDi hDz hDsz hDby rfl (by decide) (fun w hm => (hr1.mem hm)) (flatMap_size' rfl hd1) (one_dgs _) (by omega) (by omega)) rfl (by simp only [List.flatMap_append, List.flatMap_cons, List.flatMap_nil, List.flatten_cons, List.flatten_nil, List.nil_append, List.append_nil])) rfl (fun h => nomatch h) (fun a46 c46 e46 hr46' => ?_)   -- 46
              have hx46 : (l ++ lm).length = l.length + lm.length := by rw [List.length_append] <;> rfl
              refine lt_append (k := l.length + lm.length + 2) (xs := ((l ++ lm) ++ [kMk, kMk]).flatMap fun d => d.map vU8) rfl trivial (acts_row (acts_append (size := 32) (bytes := 32) 1 rfl rfl rfl hr46' rfl Tryd.underlying32 hDi hDz hDsz hDby rfl (by decide) (fun w hm => (Rd.blk (hm.at (i := 0) rfl))) (by simp only [List.flatten_cons, List.flatten_nil, List.append_nil, List.length_append, List.length_map, kMk_len, kMk_len]) (fun u hu => by simp only [List.flatten_cons, List.flatten_nil, List.append_nil, List.mem_append] at hu; rcases hu with hu | hu <;> exact one_u8s _ u hu) (by omega) (by omega)) rfl (by simp only [List.flatMap_append, List.flatMap_cons, List.flatMap_nil, List.flatten_cons, List.flatten_nil, List.nil_append, List.append_nil])) rfl (fun h => nomatch h) (fun a50 c50 e50 hr50' => ?_)   -- 50
              have hx50 : ((l ++ lm) ++ [kMk, kMk]).length = l.length + lm.length + 2 := by rw [List.length_append, hx46] <;> rfl
              refine lt_pure rfl trivial (val_assign rfl) rfl ?_   -- 8
              exact lt_done (fun w hm => ⟨(a50, c50, e50), hr50', ⟨rfl, rfl, rfl, rfl, rfl, trivial⟩, hm.only (.cons _ (.cons_cons _ (.cons_cons _ (List.nil_sublist _))))⟩)
            exact lt_stop
          refine lt_alt ?_ ?_
          · -- first 7
            refine lt_make (fun b => .slice (some ⟨b, 0, none⟩) 2 2) rfl trivial (acts_buildSlice (cs := [kMk.map vU8, kMk.map vU8].flatten) Tryd.underlying32 Tryd.sizeOf43 zD rfl rfl (fill_aggs [kMk.map vU8, kMk.map vU8] (by decide) rfl (by simp only [List.forall_mem_cons, List.length_map]; exact ⟨kMk_len, kMk_len, fun _ h => by cases h⟩))) rfl (fun h => nomatch h) (fun b49 hb49 => ?_)   -- 49
            refine lt_append (k := l.length) (xs := l.flatMap fun d => d.map vU8) rfl trivial (acts_row (acts_append (size := 32) (bytes := 32) 1 rfl rfl rfl (RowE.full (n := 0) (size := 32) rfl (by decide)) rfl Tryd.underlying32 hDi hDz hDsz hDby rfl (by decide) (fun w hm => (hr.mem hm)) (flatMap_size' rfl hdl) (one_dgs _) (by omega) (by omega)) (Nat.zero_add _) (by simp only [List.flatMap_append, List.flatMap_cons, List.flatMap_nil, List.flatten_cons, List.flatten_nil, List.nil_append, List.append_nil])) rfl (fun h => nomatch h) (fun a44 c44 e44 hr44' => ?_)   -- 44
            refine lt_append (k := l.length + lm.length) (xs := (l ++ lm).flatMap fun d => d.map vU8) rfl trivial (acts_row (acts_append (size := 32) (bytes := 32) 1 rfl rfl rfl hr44' rfl Tryd.underlying32 hDi hDz hDsz hDby rfl (by decide) (fun w hm => (hr1.mem hm)) (flatMap_size' rfl hd1) (one_dgs _) (by omega) (by omega)) rfl (by simp only [List.flatMap_append, List.flatMap_cons, List.flatMap_nil, List.flatten_cons, List.flatten_nil, List.nil_append, List.append_nil])) rfl (fun h => nomatch h) (fun a46 c46 e46 hr46' => ?_)   -- 46
            have hx46 : (l ++ lm).length = l.length + lm.length := by rw [List.length_append] <;> rfl
            refine lt_append (k := l.length + lm.length + 2) (xs := ((l ++ lm) ++ [kMk, kMk]).flatMap fun d => d.map vU8) rfl trivial (acts_row (acts_append (size := 32) (bytes := 32) 1 rfl rfl rfl hr46' rfl Tryd.underlying32 hDi hDz hDsz hDby rfl (by decide) (fun w hm => (Rd.blk (hm.at (i := 0) rfl))) (by simp only [List.flatten_cons, List.flatten_nil, List.append_nil, List.length_append, List.length_map, kMk_len, kMk_len]) (fun u hu => by simp only [List.flatten_cons, List.flatten_nil, List.append_nil, List.mem_append] at hu; rcases hu with hu | hu <;> exact one_u8s _ u hu) (by omega) (by omega)) rfl (by simp only [List.flatMap_append, List.flatMap_cons, List.flatMap_nil, List.flatten_cons, List.flatten_nil, List.nil_append, List.append_nil])) rfl (fun h => nomatch h) (fun a50 c50 e50 hr50' => ?_)   -- 50
            have hx50 : ((l ++ lm) ++ [kMk, kMk]).length = l.length + lm.length + 2 := by rw [List.length_append, hx46] <;> rfl
            refine lt_pure rfl trivial (val_assign rfl) rfl ?_   -- 8
            exact lt_done (fun w hm => ⟨(a50, c50, e50), hr50', ⟨rfl, rfl, rfl, rfl, rfl, trivial⟩, hm.only (.cons _ (.cons_cons _ (.cons_cons _ (List.nil_sublist _))))⟩)
          exact lt_stop
        refine lt_alt ?_ ?_
        · -- first 7
          refine lt_make (fun b => .slice (some ⟨b, 0, none⟩) 2 2) rfl trivial (acts_buildSlice (cs := [kMk.map vU8, kMk.map vU8].flatten) Tryd.underlying32 Tryd.sizeOf43 zD rfl rfl (fill_aggs [kMk.map vU8, kMk.map vU8] (by decide) rfl (by simp only [List.forall_mem_cons, List.length_map]; exact ⟨kMk_len, kMk_len, fun _ h => by cases h⟩))) rfl (fun h => nomatch h) (fun b49 hb49 => ?_)   -- 49
          refine lt_make (fun b => .slice (some ⟨b, 0, none⟩) 0 0) rfl trivial (acts_buildSlice (cs := [].flatten) Tryd.underlying32 Tryd.sizeOf43 zD rfl rfl (fill_aggs [] (by decide) rfl (fun _ h => by cases h))) rfl (fun h => nomatch h) (fun b42 hb42 => ?_)   -- 42
          refine lt_append (k := l.length) (xs := l.flatMap fun d => d.map vU8) rfl trivial (acts_row (acts_append (size := 32) (bytes := 32) 0 rfl rfl rfl (RowE.full (n := 0) (size := 32) rfl (by decide)) rfl Tryd.underlying32 hDi hDz hDsz hDby rfl (by decide) (fun w hm => (hr.mem hm)) (flatMap_size' rfl hdl) (one_dgs _) (by omega) (by omega)) (Nat.zero_add _) (by simp only [List.flatMap_append, List.flatMap_cons, List.flatMap_nil, List.flatten_cons, List.flatten_nil, List.nil_append, List.append_nil])) rfl (fun h => nomatch h) (fun a44 c44 e44 hr44' => ?_)   -- 44
          refine lt_append (k := l.length + lm.length) (xs := (l ++ lm).flatMap fun d => d.map vU8) rfl trivial (acts_row (acts_append (size := 32) (bytes := 32) 0 rfl rfl rfl hr44' rfl Tryd.underlying32 hDi hDz hDsz hDby rfl (by decide) (fun w hm => (hr1.mem hm)) (flatMap_size' rfl hd1) (one_dgs _) (by omega) (by omega)) rfl (by simp only [List.flatMap_append, List.flatMap_cons, List.flatMap_nil, List.flatten_cons, List.flatten_nil, List.nil_append, List.append_nil])) rfl (fun h => nomatch h) (fun a46 c46 e46 hr46' => ?_)   -- 46
          have hx46 : (l ++ lm).length = l.length + lm.length := by rw [List.length_append] <;> rfl
          refine lt_append (k := l.length + lm.length + 2) (xs := ((l ++ lm) ++ [kMk, kMk]).flatMap fun d => d.map vU8) rfl trivial (acts_row (acts_append (size := 32) (bytes := 32) 0 rfl rfl rfl hr46' rfl Tryd.underlying32 hDi hDz hDsz hDby rfl (by decide) (fun w hm => (Rd.blk (hm.at (i := 1) rfl))) (by simp only [List.flatten_cons, List.flatten_nil, List.append_nil, List.length_append, List.length_map, kMk_len, kMk_len]) (fun u hu => by simp only [List.flatten_cons, List.flatten_nil, List.append_nil, List.mem_append] at hu; rcases hu with hu | hu <;> exact one_u8s _ u hu) (by omega) (by omega)) rfl (by simp only [List.flatMap_append, List.flatMap_cons, List.flatMap_nil, List.flatten_cons, List.flatten_nil, List.nil_append, List.append_nil])) rfl (fun h => nomatch h) (fun a50 c50 e50 hr50' => ?_)   -- 50
          have hx50 : ((l ++ lm) ++ [kMk, kMk]).length = l.length + lm.length + 2 := by rw [List.length_append, hx46] <;> rfl
          refine lt_pure rfl trivial (val_assign rfl) rfl ?_   -- 8
          exact lt_done (fun w hm => ⟨(a50, c50, e50), hr50', ⟨rfl, rfl, rfl, rfl, rfl, trivial⟩, hm.only (.cons_cons _ (.cons _ (.cons_cons _ (List.nil_sublist _))))⟩)
        exact lt_stop
      exact lt_stop
    exact lt_stop
  · -- rest
    rintro ⟨af, cf, ef⟩ hrf
    simp only at hrf ⊢
    have hcf := hrf.le
    obtain ⟨bf, restf, rfl, rfl⟩ := rowBlk32 hrf (by omega)
    refine sw_seq ?_
    refine sw_region ?_
    refine ow_val (val_move rfl) rfl ?_   -- 51
    refine ow_val (val_move rfl) rfl ?_   -- 52
    refine ow_val (val_len rfl Tryd.underlying32) rfl ?_   -- 53
    refine ow_val (val_slice_hi l.length rfl rfl Tryd.underlying32 Tryd.sizeOf43 (by omega) (by omega)) rfl ?_   -- 54
    refine ow_val (val_assign rfl) rfl ?_   -- 9
    refine ow_nil (into ?_)
    refine sw_seq ?_
    refine sw_region ?_
    refine ow_val (val_move rfl) rfl ?_   -- 56
    refine ow_call_tail (σ := Nat × List Ent) (fun q9 => .tuple #[vPtr q9.1, vInt ((0 : Nat) : Int)]) (fun q9 => q9.2) (fun q9 => TrOn 95 75 k q9.2 q9.1 []) (callsTo Tryd.func13 rfl (by kernel_rfl) rfl) rfl (fun w hm => new_tr k h1 h2 w) ?_   -- 57
    rintro ⟨b57, es57⟩ htr57
    simp only at htr57 ⊢
    refine ow_val (val_move rfl) rfl ?_   -- 55
    refine ow_val (val_extract rfl rfl) rfl ?_   -- 58
    refine ow_val (val_extract rfl rfl) rfl ?_   -- 59
    refine ow_val (val_assign rfl) rfl ?_   -- 10
    refine ow_val (val_assign rfl) rfl ?_   -- 11
    refine ow_nil (into ?_)
    refine sw_seq ?_
    refine sw_region ?_
    refine ow_val (val_move rfl) rfl ?_   -- 61
    refine ow_val (val_move rfl) rfl ?_   -- 62
    refine ow_call_tail (σ := Nat × List Ent) (fun q9 => .tuple #[vPtr q9.1, vInt ((0 : Nat) : Int)]) (fun q9 => q9.2) (fun q9 => TrOn 95 75 k (es57 ++ q9.2) q9.1 l) (callsTo Tryd.func16 rfl (by kernel_rfl) rfl) rfl (fun w hm => (append_tr k h1 h2 w (hK.mem0 hm) es57 (hm.heldSub (.cons _ (.cons _ (List.Sublist.refl _)))) b57 [] htr57 (by assumption) (by assumption) (some ⟨bf, 0, none⟩) l.length cf l rfl hdl (Rd.preD2 (Rd.pre (Rd.blk (hm.at (i := 0) rfl)))) (by omega) (by omega) hfl (by omega)).mono fun _ _ ⟨u, he, q9, hu, hi, hm'⟩ => ⟨u, he, q9, hu, hi.cast (List.nil_append _), hm'⟩) ?_   -- 63
    rintro ⟨b63, es63⟩ htr63
    simp only at htr63 ⊢
    refine ow_val (val_move rfl) rfl ?_   -- 60
    refine ow_val (val_extract rfl rfl) rfl ?_   -- 64
    refine ow_val (val_extract rfl rfl) rfl ?_   -- 65
    refine ow_val (val_assign rfl) rfl ?_   -- 12
    refine ow_val (val_assign rfl) rfl ?_   -- 13
    refine ow_nil (into ?_)
    refine sw_seq ?_
    refine sw_region ?_
    refine ow_val (val_move rfl) rfl ?_   -- 67
    refine ow_val (val_move rfl) rfl ?_   -- 68
    refine ow_val (val_move rfl) rfl ?_   -- 69
    refine ow_val (val_len rfl Tryd.underlying32) rfl ?_   -- 70
    refine ow_val (val_move rfl) rfl ?_   -- 71
    refine ow_val (val_len rfl Tryd.underlying32) rfl ?_   -- 72
    refine ow_val (val_move rfl) rfl ?_   -- 73
    refine ow_val (val_len rfl Tryd.underlying32) rfl ?_   -- 74
    refine ow_val (val_add_int ((l.length + lm.length : Nat) : Int) rfl rfl (by omega) (by omega)) rfl ?_   -- 75
    refine ow_val (val_slice_cut l.length (l.length + lm.length) rfl rfl rfl Tryd.underlying32 Tryd.sizeOf43 rfl rfl (by omega) (by omega)) rfl ?_   -- 76
    refine ow_call_tail (σ := Nat × List Ent) (fun q9 => .tuple #[vPtr q9.1, vInt ((0 : Nat) : Int)]) (fun q9 => q9.2) (fun q9 => TrOn 95 75 k ((es57 ++ es63) ++ q9.2) q9.1 (l ++ lm : List (List UInt8))) (callsTo Tryd.func16 rfl (by kernel_rfl) rfl) rfl (fun w hm => append_tr k h1 h2 w (hK.mem0 hm) (es57 ++ es63) (hm.heldSub (.cons _ (.cons _ (List.Sublist.refl _)))) b63 l htr63 (by assumption) (by assumption) (Sx.cut (some ⟨bf, 0, none⟩) cf l.length 32) (l.length + lm.length - l.length) (cf - l.length) lm (by omega) hd1 (Rd.mid (Rd.pre (Rd.blk (hm.at (i := 0) rfl))) hF (by omega)) (by omega) (by omega) hf1 (by omega)) ?_   -- 77
    rintro ⟨b77, es77⟩ htr77
    simp only at htr77 ⊢
    refine ow_val (val_move rfl) rfl ?_   -- 66
    refine ow_val (val_extract rfl rfl) rfl ?_   -- 78
    refine ow_val (val_extract rfl rfl) rfl ?_   -- 79
    refine ow_val (val_assign rfl) rfl ?_   -- 14
    refine ow_val (val_assign rfl) rfl ?_   -- 15
    refine ow_nil (into ?_)
    refine sw_seq ?_
    refine sw_seq ?_
    refine sw_region ?_
    refine ow_val (val_move rfl) rfl ?_   -- 80
    refine ow_val ((val_neq_int rfl rfl).to (v' := .bool false) (congrArg Value.bool (decide_eq_false (fun h => h (by simp))))) rfl ?_   -- 81
    refine ow_val (val_move rfl) rfl ?_   -- 82
    refine ow_guard_yes rfl rfl rfl ?_
    refine ow_val (val_move rfl) rfl ?_   -- 83
    refine ow_guard_yes rfl rfl rfl ?_
    refine ow_val ((val_neq_int rfl rfl).to (v' := .bool false) (congrArg Value.bool (decide_eq_false (fun h => h (by simp))))) rfl ?_   -- 84
    refine ow_val (val_pick_false rfl rfl) rfl ?_   -- 85
    refine ow_val (val_move rfl) rfl ?_   -- 86
    refine ow_guard_yes rfl rfl rfl ?_
    refine ow_val (val_move rfl) rfl ?_   -- 87
    refine ow_guard_yes rfl rfl rfl ?_
    refine ow_val ((val_neq_int rfl rfl).to (v' := .bool false) (congrArg Value.bool (decide_eq_false (fun h => h (by simp))))) rfl ?_   -- 88
    refine ow_val (val_pick_false rfl rfl) rfl ?_   -- 89
    refine ow_nil (into ?_)
    refine sw_false rfl rfl ?_
    refine sw_skip (into ?_)
    refine sw_seq ?_
    refine sw_region ?_
    refine ow_make (acts_buildSlice (cs := [].flatten) Tryd.underlying32 Tryd.sizeOf43 zD rfl rfl (fill_aggs [] (by decide) rfl (fun _ h => by cases h))) rfl (fun b90 hb90 => ?_)   -- 90
    refine ow_val (val_move rfl) rfl ?_   -- 91
    refine ow_append' (k := l.length) (xs := l.flatMap fun d => d.map vU8) (acts_row (acts_append (size := 32) (bytes := 32) 0 rfl rfl rfl (RowE.full (n := 0) (size := 32) rfl (by decide)) rfl Tryd.underlying32 hDi hDz hDsz hDby rfl (by decide) (fun w hm => (hr.mem hm)) (flatMap_size' rfl hdl) (one_dgs _) (by omega) (by omega)) (Nat.zero_add _) (by simp only [List.flatMap_append, List.flatMap_cons, List.flatMap_nil, List.flatten_cons, List.flatten_nil, List.nil_append, List.append_nil])) rfl (fun a92 c92 e92 hr92' => ?_)   -- 92
    refine ow_val (val_move rfl) rfl ?_   -- 93
    refine ow_append' (k := l.length + lm.length) (xs := (l ++ lm).flatMap fun d => d.map vU8) (acts_row (acts_append (size := 32) (bytes := 32) 0 rfl rfl rfl hr92' rfl Tryd.underlying32 hDi hDz hDsz hDby rfl (by decide) (fun w hm => (hr1.mem hm)) (flatMap_size' rfl hd1) (one_dgs _) (by omega) (by omega)) rfl (by simp only [List.flatMap_append, List.flatMap_cons, List.flatMap_nil, List.flatten_cons, List.flatten_nil, List.nil_append, List.append_nil])) rfl (fun a94 c94 e94 hr94' => ?_)   -- 94
    have hx94 : (l ++ lm).length = l.length + lm.length := by rw [List.length_append] <;> rfl
    refine ow_val (val_assign rfl) rfl ?_   -- 16
    refine ow_nil (into ?_)
    refine sw_seq ?_
    refine sw_seq ?_
    refine sw_region ?_
    refine ow_val (val_move rfl) rfl ?_   -- 95
    refine ow_val (val_len rfl Tryd.underlying32) rfl ?_   -- 96
    refine ow_val (val_move rfl) rfl ?_   -- 97
    refine ow_nil (into ?_)
    refine sw_block ?_
    refine sw_loop (σ := Nat) (fun i => i ≤ l.length + lm.length) (fun i => [(97, vInt (i : Int)), (96, vInt ((l.length + lm.length : Nat) : Int)), (95, .slice a94 (l.length + lm.length) c94), (0, vInt (k : Int)), (1, .slice a l.length c), (2, .slice a1 lm.length c1), (7, .pointer (some ⟨b7, 0, none⟩)), (8, .slice (some ⟨bf, 0, none⟩) (l.length + lm.length + 2) cf), (9, .slice (some ⟨bf, 0, none⟩) l.length cf), (10, vPtr b57), (12, vPtr b63), (14, vPtr b77), (16, .slice a94 (l.length + lm.length) c94)]) (fun _ => Mem w [] (e94 :: some (bf, blk ((((l ++ lm) ++ [kMk, kMk]).flatMap fun d => d.map vU8) ++ restf) 43) :: some (b7, blk (kMk.map vU8) 43) :: ((es57 ++ es63) ++ es77))) (fun i => l.length + lm.length - i) 0 (Nat.zero_le _) ⟨rfl, rfl, rfl, rfl, rfl, rfl, rfl, rfl, rfl, rfl, rfl, rfl, rfl, trivial⟩ (fun w hm => hm.only (.cons_cons _ (.cons_cons _ (.cons_cons _ (List.Sublist.refl _))))) ?_
    intro i hi
    refine sw_seq ?_
    refine sw_region ?_
    refine ow_val (val_lss_int rfl rfl) rfl ?_   -- 98
    refine ow_nil (into ?_)
    refine sw_seq ?_
    refine sw_if rfl (fun h0 => ?_) (fun h0 => ?_)
    · -- then
      obtain ⟨b9, o9, rfl⟩ := rowAddr32 hr94' (by omega)
      refine sw_skip (into ?_)
      refine sw_seq ?_
      refine sw_block ?_
      refine sw_seq ?_
      refine sw_region ?_
      refine ow_val (val_move rfl) rfl ?_   -- 99
      refine ow_val (val_indexAddr_slice (i) (o9 + i * 32) rfl rfl Tryd.underlying32 Tryd.sizeOf43 (by omega) (by omega) (by omega)) rfl ?_   -- 100
      refine ow_val (val_load_elem (cells := fun d => d.map vU8) (l := (l ++ lm)) (o := o9) (i := i) rfl Tryd.isAgg43 Tryd.sizeOf43 (fun x hx => by rw [List.length_map]; exact (both hdl hd1) x hx) (by omega) (by omega) (fun w' hm => hr94'.rdAt hm (i := 0) rfl)) rfl ?_   -- 101
      refine ow_new (acts_alloc zD) rfl (fun b18 hb18 => ?_)   -- 18
      refine ow_val (val_assign rfl) rfl ?_   -- 17
      refine ow_do_eq (does_store_all 0 rfl rfl rfl (one_u8s _) Tryd.sizeOf43 (by show (List.map vU8 ((l ++ lm).getD i default)).length = _; rw [List.length_map]; exact (both hdl hd1 _ (getD_mem (by omega)))) (by show (List.map vU8 zeros32).length = _; rw [List.length_map]; exact zeros32_len)) ?_
      refine ow_nil (into ?_)
      refine sw_seq ?_
      refine sw_region_lex _ [] [(0, 0), (1, 0), (2, 0), (3, 1), (4, 1), (5, 0)] (by kernel_rfl) (by kernel_rfl) (fun _ _ _ h => h) (fun _ h => h) (fun _ h => h.drawn _) ?_
      refine lw_pure rfl (val_move rfl) rfl ?_   -- 102
      refine lw_pure rfl (val_move rfl) rfl ?_   -- 103
      refine lw_pure rfl (val_indexAddr_slice (i) (i * 32) rfl rfl Tryd.underlying32 Tryd.sizeOf43 (by omega) (by omega) (by omega)) rfl ?_   -- 104
      refine lw_held rfl (val_load_elem (cells := fun d => d.map vU8) (l := ((l ++ lm) ++ [kMk, kMk])) (o := 0) (i := i) rfl Tryd.isAgg43 Tryd.sizeOf43 (fun x hx => by rw [List.length_map]; exact hF x hx) (by omega) (by omega) (fun w' hm => Rd.pre (Rd.blk (hm.at (i := 2) rfl)))) rfl ?_   -- 105
      refine lw_held rfl (val_load_all 0 rfl rfl Tryd.isAgg43 Tryd.sizeOf43 (by show (List.map vU8 ((l ++ lm).getD i default)).length = _; rw [List.length_map]; exact (both hdl hd1 _ (getD_mem (by omega))))) rfl ?_   -- 106
      refine lw_pure rfl ((val_neq_u8s rfl rfl Tryd.eqGuardType43 Tryd.underlying43 Tryd.underlying5 Tryd.sizeOf5 Tryd.isAgg5 (hF _ (getD_mem (by omega))) (both hdl hd1 _ (getD_mem (by omega)))).to (congrArg Value.bool (show (!_) = false by rw [decide_eq_true (full_get (by omega))]; rfl))) rfl ?_   -- 107
      refine lw_nil (into ?_)
      refine sw_false rfl rfl ?_
      refine sw_skip (into ?_)
      refine sw_region ?_
      refine ow_val (val_add_int ((i + 1 : Nat) : Int) rfl rfl (by omega) (by omega)) rfl ?_   -- 108
      refine ow_val (val_move rfl) rfl ?_   -- 97
      exact ow_nil (fun w hm => ⟨i + 1, by omega, by omega, ⟨rfl, rfl, rfl, rfl, rfl, rfl, rfl, rfl, rfl, rfl, rfl, rfl, rfl, trivial⟩, hm.only (.cons _ (.cons_cons _ (.cons_cons _ (.cons_cons _ (List.Sublist.refl _)))))⟩)
    · -- else
      refine sw_exit (into ?_)
      refine sw_seq ?_
      refine sw_seq ?_
      refine sw_region_lex _ [] [(0, 0), (1, 0), (2, 0), (3, 0), (4, 1), (5, 1), (6, 0), (7, 0), (8, 0), (9, 0), (10, 0), (11, 0), (12, 0), (13, 1), (14, 1), (15, 0), (16, 0)] (by kernel_rfl) (by kernel_rfl) (fun _ _ _ h => h) (fun _ h => h) (fun _ h => h.drawn _) ?_
      refine lw_pure rfl (val_move rfl) rfl ?_   -- 109
      refine lw_pure rfl (val_move rfl) rfl ?_   -- 110
      refine lw_pure rfl (val_len rfl Tryd.underlying32) rfl ?_   -- 111
      refine lw_pure rfl (val_indexAddr_slice (l.length + lm.length) ((l.length + lm.length) * 32) rfl rfl Tryd.underlying32 Tryd.sizeOf43 (by omega) (by omega) (by omega)) rfl ?_   -- 112
      refine lw_held rfl (val_load_elem (cells := fun d => d.map vU8) (l := ((l ++ lm) ++ [kMk, kMk])) (o := 0) (i := l.length + lm.length) rfl Tryd.isAgg43 Tryd.sizeOf43 (fun x hx => by rw [List.length_map]; exact hF x hx) (by omega) (by omega) (fun w' hm => Rd.pre (Rd.blk (hm.at (i := 1) rfl)))) rfl ?_   -- 113
      refine lw_held rfl (val_load_all 2 rfl rfl Tryd.isAgg43 Tryd.sizeOf43 (by show (List.map vU8 kMk).length = _; rw [List.length_map]; exact kMk_len)) rfl ?_   -- 114
      refine lw_pure rfl ((val_neq_u8s rfl rfl Tryd.eqGuardType43 Tryd.underlying43 Tryd.underlying5 Tryd.sizeOf5 Tryd.isAgg5 (hF _ (getD_mem (by omega))) kMk_len).to (congrArg Value.bool (show (!_) = false by rw [decide_eq_true (mark_get (by omega) (by omega))]; rfl))) rfl ?_   -- 115
      refine lw_pure rfl (val_move rfl) rfl ?_   -- 116
      refine lwg_pure rfl (wg rfl rfl) (val_move rfl) rfl ?_   -- 117
      refine lwg_pure rfl (wg rfl rfl) (val_move rfl) rfl ?_   -- 118
      refine lwg_pure rfl (wg rfl rfl) (val_len rfl Tryd.underlying32) rfl ?_   -- 119
      refine lwg_pure rfl (wg rfl rfl) (val_add_int ((l.length + lm.length + 1 : Nat) : Int) rfl rfl (by omega) (by omega)) rfl ?_   -- 120
      refine lwg_pure rfl (wg rfl rfl) (val_indexAddr_slice (l.length + lm.length + 1) ((l.length + lm.length + 1) * 32) rfl rfl Tryd.underlying32 Tryd.sizeOf43 (by omega) (by omega) (by omega)) rfl ?_   -- 121
      refine lwg_held rfl (wg rfl rfl) (val_load_elem (cells := fun d => d.map vU8) (l := ((l ++ lm) ++ [kMk, kMk])) (o := 0) (i := l.length + lm.length + 1) rfl Tryd.isAgg43 Tryd.sizeOf43 (fun x hx => by rw [List.length_map]; exact hF x hx) (by omega) (by omega) (fun w' hm => Rd.pre (Rd.blk (hm.at (i := 1) rfl)))) rfl ?_   -- 122
      refine lwg_held rfl (wg rfl rfl) (val_load_all 2 rfl rfl Tryd.isAgg43 Tryd.sizeOf43 (by show (List.map vU8 kMk).length = _; rw [List.length_map]; exact kMk_len)) rfl ?_   -- 123
      refine lwg_pure rfl (wg rfl rfl) ((val_neq_u8s rfl rfl Tryd.eqGuardType43 Tryd.underlying43 Tryd.underlying5 Tryd.sizeOf5 Tryd.isAgg5 (hF _ (getD_mem (by omega))) kMk_len).to (congrArg Value.bool (show (!_) = false by rw [decide_eq_true (mark_get (by omega) (by omega))]; rfl))) rfl ?_   -- 124
      refine lw_pure rfl (val_pick_false rfl rfl) rfl ?_   -- 125
      refine lw_nil (into ?_)
      refine sw_false rfl rfl ?_
      refine sw_skip (into ?_)
      refine sw_seq ?_
      refine sw_seq ?_
      refine sw_region ?_
      refine ow_val (val_move rfl) rfl ?_   -- 126
      refine ow_val (val_len rfl Tryd.underlying32) rfl ?_   -- 127
      refine ow_val (val_move rfl) rfl ?_   -- 128
      refine ow_nil (into ?_)
      refine sw_block ?_
      refine sw_loop (σ := Nat) (fun i => i ≤ l.length + lm.length + 2) (fun i => [(128, vInt (i : Int)), (127, vInt ((l.length + lm.length + 2 : Nat) : Int)), (0, vInt (k : Int)), (1, .slice a l.length c), (2, .slice a1 lm.length c1), (7, .pointer (some ⟨b7, 0, none⟩)), (8, .slice (some ⟨bf, 0, none⟩) (l.length + lm.length + 2) cf), (9, .slice (some ⟨bf, 0, none⟩) l.length cf), (10, vPtr b57), (12, vPtr b63), (14, vPtr b77), (16, .slice a94 (l.length + lm.length) c94)]) (fun i => Mem w [] (e94 :: some (bf, blk (((wro ((l ++ lm) ++ [kMk, kMk]) i).flatMap fun d => d.map vU8) ++ restf) 43) :: some (b7, blk (kMk.map vU8) 43) :: ((es57 ++ es63) ++ es77))) (fun i => l.length + lm.length + 2 - i) 0 (Nat.zero_le _) ⟨rfl, rfl, rfl, rfl, rfl, rfl, rfl, rfl, rfl, rfl, rfl, rfl, trivial⟩ (fun w hm => by rw [wro_zero]; exact hm) ?_
      intro i hi
      refine sw_seq ?_
      refine sw_region ?_
      refine ow_val (val_lss_int rfl rfl) rfl ?_   -- 129
      refine ow_nil (into ?_)
      refine sw_seq ?_
      refine sw_if rfl (fun h0b => ?_) (fun h0b => ?_)
      · -- then
        refine sw_skip (into ?_)
        refine sw_seq ?_
        refine sw_block ?_
        refine sw_seq ?_
        refine sw_region ?_
        refine ow_val (val_move rfl) rfl ?_   -- 130
        refine ow_val (val_assign rfl) rfl ?_   -- 19
        refine ow_nil (into ?_)
        refine sw_region ?_
        refine ow_val (val_move rfl) rfl ?_   -- 131
        refine ow_val (val_move rfl) rfl ?_   -- 132
        refine ow_val (val_move rfl) rfl ?_   -- 133
        refine ow_val (val_conv_n_u8 i Tryd.underlying3 Tryd.underlying5 rfl rfl) rfl ?_   -- 134
        refine ow_val (val_build' (cs := (bD i).map vU8) rfl (by kernel_rfl)) rfl ?_   -- 135
        refine ow_val (val_indexAddr_slice (i) (i * 32) rfl rfl Tryd.underlying32 Tryd.sizeOf43 (by omega) (by omega) (by omega)) rfl ?_   -- 136
        refine ow_do (does_store_agg 1 rfl rfl rfl (one_u8s _) Tryd.sizeOf43 (by rw [List.length_map]; exact bD_len i) (by rw [List.length_append, flatMap_size' (wro_len (by omega)) (wro_all hF bD_len), hFn]; omega)) (fun _ _ => ?_)
        refine ow_nil (into ?_)
        refine sw_region ?_
        refine ow_val (val_add_int ((i + 1 : Nat) : Int) rfl rfl (by omega) (by omega)) rfl ?_   -- 137
        refine ow_val (val_move rfl) rfl ?_   -- 128
        exact ow_nil (fun w hm => ⟨i + 1, by omega, by omega, ⟨rfl, rfl, rfl, rfl, rfl, rfl, rfl, rfl, rfl, rfl, rfl, rfl, trivial⟩, by rw [← wro_set (by omega), ← set_dgs _ restf _ _ (wro_all hF bD_len) (bD_len i) (by rw [wro_len (by omega)]; omega)]; exact hm⟩)
      · -- else
        obtain rfl : i = ((l ++ lm) ++ [kMk, kMk]).length := by omega
        obtain ⟨G, hG⟩ : ∃ z, ((wro ((l ++ lm) ++ [kMk, kMk]) (((l ++ lm) ++ [kMk, kMk])).length).take l.length) = z := ⟨_, rfl⟩
        have hGd : ∀ d ∈ G, d.length = 32 := fun d hd => by rw [← hG] at hd; obtain ⟨i, rfl⟩ := wro_take (by omega) d hd; exact bD_len i
        have hGf : ∀ d ∈ G, fm (k : Int) d = true := fun d hd => by rw [← hG] at hd; obtain ⟨i, rfl⟩ := wro_take (by omega) d hd; exact bD_fm h1 h2 i
        have hGn : G.length = l.length := by rw [← hG, List.length_take, wro_len (Nat.le_refl _)]; omega
        have hGr : ∀ {w : World}, w.heap[bf]? = some (blk (((wro ((l ++ lm) ++ [kMk, kMk]) ((l ++ lm) ++ [kMk, kMk]).length).flatMap fun d => d.map vU8) ++ restf) 43) → Rd w (some ⟨bf, 0, none⟩) (G.flatMap fun d => d.map vU8) := fun h => by have h9 := rdTakeD (Rd.pre (Rd.blk h)) l.length; rwa [hG] at h9
        refine sw_exit (into ?_)
        refine sw_seq ?_
        refine sw_region ?_
        refine ow_val (val_move rfl) rfl ?_   -- 139
        refine ow_val (val_move rfl) rfl ?_   -- 140
        refine ow_call_tail (σ := Nat × List Ent) (fun q9 => .tuple #[vPtr q9.1, vInt ((0 : Nat) : Int)]) (fun q9 => q9.2) (fun q9 => TrOn 95 75 k (((es57 ++ es63) ++ es77) ++ q9.2) q9.1 G) (callsTo Tryd.func16 rfl (by kernel_rfl) rfl) rfl (fun w hm => (append_tr k h1 h2 w (hK.mem0 hm) (((es57 ++ es63) ++ es77)) (hm.heldSub (.cons _ (.cons _ (.cons _ (List.Sublist.refl _))))) b57 [] ((htr57.left (T' := es63)).left (T' := es77)) (by assumption) (by assumption) (some ⟨bf, 0, none⟩) l.length cf G hGn hGd (hGr (hm.at (i := 1) rfl)) (by omega) (by omega) hGf (by omega)).mono fun _ _ ⟨u, he, q9, hu, hi, hm'⟩ => ⟨u, he, q9, hu, hi.cast (List.nil_append _), hm'⟩) ?_   -- 141
        rintro ⟨b141, es141⟩ htr141
        simp only at htr141 ⊢
        refine ow_val (val_move rfl) rfl ?_   -- 138
        refine ow_val (val_extract rfl rfl) rfl ?_   -- 142
        refine ow_val (val_extract rfl rfl) rfl ?_   -- 143
        refine ow_val (val_assign rfl) rfl ?_   -- 20
        refine ow_val (val_assign rfl) rfl ?_   -- 11
        refine ow_nil (into ?_)
        refine sw_seq ?_
        refine sw_seq ?_
        refine sw_region ?_
        refine ow_val (val_move rfl) rfl ?_   -- 144
        refine ow_val ((val_neq_int rfl rfl).to (v' := .bool false) (congrArg Value.bool (decide_eq_false (fun h => h (by simp))))) rfl ?_   -- 145
        refine ow_val (val_move rfl) rfl ?_   -- 146
        refine ow_guard_yes rfl rfl rfl ?_
        refine ow_val (val_move rfl) rfl ?_   -- 147
        refine ow_guard_yes rfl rfl rfl ?_
        refine ow_val (val_move rfl) rfl ?_   -- 148
        refine ow_guard_yes rfl rfl rfl ?_
        refine ow_val (val_move rfl) rfl ?_   -- 149
        refine ow_guard_yes rfl rfl rfl ?_
        refine ow_call_pure (v := .bool true) (callsTo Tryd.func15 rfl (by kernel_rfl) rfl) rfl (fun w hm => reads_any k h1 h2 w (hK.mem0 hm) b63 l (((htr63.left (T' := es77)).left (T' := es141)).is (hm.heldSub (.cons _ (.cons _ (.cons _ (List.Sublist.refl _)))))) (by omega) a l.length c rfl hdl hfl (hr.mem hm) (by omega) (by omega)) ?_   -- 150
        refine ow_guard_yes rfl rfl rfl ?_
        refine ow_val (val_not rfl) rfl ?_   -- 151
        refine ow_val (val_pick_false rfl rfl) rfl ?_   -- 152
        refine ow_val (val_move rfl) rfl ?_   -- 153
        refine ow_guard_yes rfl rfl rfl ?_
        refine ow_val (val_move rfl) rfl ?_   -- 154
        refine ow_guard_yes rfl rfl rfl ?_
        refine ow_val (val_move rfl) rfl ?_   -- 155
        refine ow_guard_yes rfl rfl rfl ?_
        refine ow_val (val_move rfl) rfl ?_   -- 156
        refine ow_guard_yes rfl rfl rfl ?_
        refine ow_call_pure (v := .bool true) (callsTo Tryd.func15 rfl (by kernel_rfl) rfl) rfl (fun w hm => reads_any k h1 h2 w (hK.mem0 hm) b77 ((l ++ lm : List (List UInt8))) ((htr77.left (T' := es141)).is (hm.heldSub (.cons _ (.cons _ (.cons _ (List.Sublist.refl _)))))) (by omega) a94 (l.length + lm.length) c94 hx94 (both hdl hd1) (both hfl hf1) (hr94'.rdAt hm (i := 0) rfl) hr94'.le (by omega)) ?_   -- 157
        refine ow_guard_yes rfl rfl rfl ?_
        refine ow_val (val_not rfl) rfl ?_   -- 158
        refine ow_val (val_pick_false rfl rfl) rfl ?_   -- 159
        refine ow_nil (into ?_)
        refine sw_false rfl rfl ?_
        refine sw_skip (into ?_)
        refine sw_seq ?_
        refine sw_region ?_
        refine ow_val (val_move rfl) rfl ?_   -- 160
        refine ow_val (val_move rfl) rfl ?_   -- 161
        refine ow_make (acts_buildSlice (cs := [].flatten) Tryd.underlying32 Tryd.sizeOf43 zD rfl rfl (fill_aggs [] (by decide) rfl (fun _ h => by cases h))) rfl (fun b162 hb162 => ?_)   -- 162
        refine ow_val (val_move rfl) rfl ?_   -- 163
        refine ow_append' (k := l.length) (xs := G.flatMap fun d => d.map vU8) (acts_row (acts_append (size := 32) (bytes := 32) 0 rfl rfl rfl (RowE.full (n := 0) (size := 32) rfl (by decide)) rfl Tryd.underlying32 hDi hDz hDsz hDby rfl (by decide) (fun w hm => (hGr (hm.at (i := 2) rfl))) (flatMap_size' hGn hGd) (one_dgs _) (by omega) (by omega)) (Nat.zero_add _) (by simp only [List.flatMap_append, List.flatMap_cons, List.flatMap_nil, List.flatten_cons, List.flatten_nil, List.nil_append, List.append_nil])) rfl (fun a164 c164 e164 hr164' => ?_)   -- 164
        refine ow_call_pure (v := .bool true) (callsTo Tryd.func15 rfl (by kernel_rfl) rfl) rfl (fun w hm => reads_any k h1 h2 w (hK.mem0 hm) b141 G (htr141.is (hm.heldSub (.cons _ (.cons _ (.cons _ (.cons _ (List.Sublist.refl _))))))) (by omega) a164 l.length c164 hGn hGd hGf (hr164'.rdAt hm (i := 0) rfl) hr164'.le (by omega)) ?_   -- 165
        refine ow_val (val_move rfl) rfl ?_   -- 166
        refine ow_guard_yes rfl rfl rfl ?_
        refine ow_val (val_move rfl) rfl ?_   -- 167
        refine ow_guard_yes rfl rfl rfl ?_
        refine ow_val (val_move rfl) rfl ?_   -- 168
        refine ow_guard_yes rfl rfl rfl ?_
        refine ow_call_pure (v := .bool true) (callsTo Tryd.func15 rfl (by kernel_rfl) rfl) rfl (fun w hm => reads_any k h1 h2 w (hK.mem0 hm) b57 [] ((((htr57.left (T' := es63)).left (T' := es77)).left (T' := es141)).is (hm.heldSub (.cons _ (.cons _ (.cons _ (.cons _ (List.Sublist.refl _))))))) (by omega) none 0 0 rfl (fun _ h => by cases h) (fun _ h => by cases h) (Rd.nil _ _) (Nat.le_refl _) (by decide)) ?_   -- 169
        refine ow_val (val_pick_true rfl rfl) rfl ?_   -- 170
        refine ow_val (val_assign rfl) rfl ?_   -- 6
        refine ow_nil (into ?_)
        exact sw_ret (fun w hm => ret_one _ rfl rfl ⟨rfl, hm.forgetAll⟩)

theorem mtreeKeeps_any (v0 : Int) (w : World) (hK : KW w) (a : Option Addr) (c : Nat) (l : List (List UInt8)) (hdl : ∀ d ∈ l, d.length = 32) (hr : Rd w a (l.flatMap fun d => d.map vU8)) (hc : l.length ≤ c) (hl : l.length < 4611686018427387904) (a1 : Option Addr) (c1 : Nat) (lm : List (List UInt8)) (hd1 : ∀ d ∈ lm, d.length = 32) (hr1 : Rd w a1 (lm.flatMap fun d => d.map vU8)) (hc1 : lm.length ≤ c1) (hl1 : lm.length < 4611686018427387904) : Calls Tryd.prog 6 #[vInt v0, .slice a l.length c, .slice a1 lm.length c1] w fun e w' => ∃ v, e = .returned v ∧ v = .bool true ∧ Mem w [] [] w' := by
  cases hq0 : fitO v0 l with
  | false => exact keeps_a v0 w hK a c l hdl hr hc hl a1 c1 lm hd1 hr1 hc1 hl1 hq0
  | true =>
    cases hq1 : fitO v0 lm with
    | false => exact keeps_b v0 w hK a c l hdl hr hc hl a1 c1 lm hd1 hr1 hc1 hl1 hq0 hq1
    | true =>
      by_cases h5 : l.length + lm.length ≤ 400
      · have h9 := wd_iff.1 (fitO_iff.1 hq0).1
        obtain ⟨k, rfl⟩ : ∃ k : Nat, v0 = (k : Int) := ⟨v0.toNat, by omega⟩
        exact keeps_main k (by omega) (by omega) w hK a c l hdl hr hc hl a1 c1 lm hd1 hr1 hc1 hl1 hq0 hq1 h5
      · exact keeps_c v0 w hK a c l hdl hr hc hl a1 c1 lm hd1 hr1 hc1 hl1 hq0 hq1 h5
end Go.Proofs.YtcappcjogcekkaaDoor
