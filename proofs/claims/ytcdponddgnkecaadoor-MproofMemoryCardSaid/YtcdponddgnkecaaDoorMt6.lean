import Derived.Test.YtcdponddgnkecaaDoorMt5
import Derived.Test.YtcdponddgnkecaaDoorProg
set_option linter.unusedVariables false
set_option linter.unusedSimpArgs false
namespace Go.Proofs.YtcdponddgnkecaaDoor
open Go.Sx Go.Ps
theorem append_nil (a : Option Addr) (m c : Nat) (w : World) : Calls Tryd.prog 37 #[.pointer none, .slice a m c] w fun e w' => ∃ v, e = .returned v ∧ v = .tuple #[.pointer none, vInt ((5 : Nat) : Int)] ∧ Mem w [] [] w' := by
  refine calls_of_sw (vs := [.pointer none, .slice a m c]) Tryd.func37 rfl Tryd.ntmps37 rfl (SW.begin ?_)
  refine sw_seq ?_
  refine sw_region ?_
  refine ow_val (val_assign rfl) rfl ?_
  refine ow_val (val_assign rfl) rfl ?_
  refine ow_nil (into ?_)
  refine sw_seq ?_
  refine sw_seq ?_
  refine sw_region ?_
  refine ow_val (val_move rfl) rfl ?_
  refine ow_val (val_eql_nilptr Tryd.underlying25 rfl rfl) rfl ?_
  refine ow_nil (into ?_)
  refine sw_true rfl rfl ?_
  refine sw_seq ?_
  refine sw_region ?_
  refine ow_val (val_assign rfl) rfl ?_
  refine ow_val (val_assign rfl) rfl ?_
  refine ow_nil (into ?_)
  refine sw_ret (fun w hm => ?_)
  try dsimp only [thenP, blockP, Nat.beq, cond]
  exact ret_two _ _ rfl rfl rfl ⟨rfl, hm.forgetAll⟩

theorem append_bad (k : Nat) (h1 : 1 ≤ k) (h2 : k ≤ 32) (w : World) (hK : KW w) (b : Nat) (l : List (List UInt8)) (ps0 : List Pk) (a : Option Addr) (c : Nat) (ht : TreeAt 110 79 k w b l ps0 a c) (hdl : ∀ x ∈ l, x.length = 32) (hfl : ∀ x ∈ l, fm (k : Int) x = true) (a2 : Option Addr) (c2 : Nat) (ms : List (List UInt8)) (hml : ∀ d ∈ ms, d.length = 32) (hmr : Rd w a2 (ms.flatMap fun d => d.map vU8)) (hmc : ms.length ≤ c2) (hm63 : ms.length < 9223372036854775808) (hbig : l.length + ms.length + 1 ≤ 4611686018427387903) (hbad : ¬ ∀ d ∈ ms, fm (k : Int) d = true) : Calls Tryd.prog 37 #[vPtr b, .slice a2 ms.length c2] w fun e w' => ∃ v, e = .returned v ∧ v = .tuple #[.pointer none, vInt ((3 : Nat) : Int)] ∧ Mem w [] [] w' := by
  refine calls_of_sw (vs := [vPtr b, .slice a2 ms.length c2]) Tryd.func37 rfl Tryd.ntmps37 rfl (SW.begin ?_)
  refine sw_seq ?_
  refine sw_region ?_
  refine ow_val (val_assign rfl) rfl ?_
  refine ow_val (val_assign rfl) rfl ?_
  refine ow_nil (into ?_)
  refine sw_seq ?_
  refine sw_seq ?_
  refine sw_region ?_
  refine ow_val (val_move rfl) rfl ?_
  refine ow_val (val_eql_nilptr Tryd.underlying25 rfl rfl) rfl ?_
  refine ow_nil (into ?_)
  refine sw_false rfl rfl ?_
  refine sw_skip (into ?_)
  refine sw_seq ?_
  refine sw_seq ?_
  refine sw_region ?_
  refine ow_val (val_move rfl) rfl ?_
  refine ow_val (val_len rfl Tryd.underlying22) rfl ?_
  refine ow_val (val_move rfl) rfl ?_
  refine ow_nil (into ?_)
  refine sw_block ?_
  refine sw_loop (σ := Nat) (fun j => j ≤ ms.length ∧ ∀ d ∈ ms.take j, fm (k : Int) d = true) (fun j => [(15, vInt (j : Int)), (14, vInt (ms.length : Int)), (13, .slice a2 ms.length c2), (1, .slice a2 ms.length c2), (0, vPtr b)]) (fun _ => Mem w [] []) (fun j => ms.length - j) 0 ⟨Nat.zero_le _, fun d hd => by simp at hd⟩ ⟨rfl, rfl, rfl, rfl, rfl, trivial⟩ (fun w hm => hm.forgetAll) ?_
  rintro j ⟨hj, hmf⟩
  refine sw_seq ?_
  refine sw_region ?_
  refine ow_val (val_lss_int rfl rfl) rfl ?_
  refine ow_nil (into ?_)
  refine sw_seq ?_
  refine sw_if rfl (fun h0 => ?_) (fun h0 => ?_)
  · -- then
    obtain ⟨bm, om, rfl⟩ := hmr.addr (by rw [flatMap_size ms (n := 32) (fun y hy => by rw [List.length_map]; exact hml y hy)]; omega)
    refine sw_skip (into ?_)
    refine sw_seq ?_
    refine sw_block ?_
    refine sw_seq ?_
    refine sw_region ?_
    refine ow_val (val_indexAddr_slice (j) (om + j * 32) rfl rfl Tryd.underlying22 Tryd.sizeOf41 (by omega) (by omega) (by omega)) rfl ?_
    refine ow_val (val_load_elem (cells := fun d => d.map vU8) (l := ms) (o := om) (i := j) rfl Tryd.isAgg41 Tryd.sizeOf41 (fun x hx => by rw [List.length_map]; exact hml x hx) (by omega) (by omega) (fun w' hm => hmr.mem hm)) rfl ?_
    refine ow_new (acts_alloc zD) rfl (fun b7 hb7 => ?_)
    refine ow_do_eq (does_store_all 0 rfl rfl rfl (one_u8s _) Tryd.sizeOf41 (by show (List.map vU8 (ms.getD j default)).length = _; rw [List.length_map]; exact (hml _ (getD_mem (by omega)))) (by show (List.map vU8 zeros32).length = _; rw [List.length_map]; exact zeros32_len)) ?_
    refine ow_nil (into ?_)
    refine sw_seq ?_
    by_cases hfp0 : fm (k : Int) (ms.getD j default) = false
    · -- yes
      skip
      refine sw_region_lex _ [] [(0, 0), (1, 0), (2, 0), (3, 1), (4, 1), (5, 2), (6, 0)] (by kernel_rfl) (by kernel_rfl) (fun _ _ _ h => h) (fun _ h => h) (fun _ h => h.drawn _) ?_
      refine lw_pure rfl (val_move rfl) rfl ?_
      refine lw_pure rfl (val_nilCheck rfl) rfl ?_
      refine lw_pure rfl (val_fieldAddr (m := 0) (e := 0) rfl Tryd.underlying79 rfl rfl Tryd.sizeOf3 rfl) rfl ?_
      refine lw_held rfl (val_load_old ht.blk (List.not_mem_nil) rfl Tryd.isAgg3 rfl) rfl ?_
      refine lw_held rfl (val_load_all 0 rfl rfl Tryd.isAgg41 Tryd.sizeOf41 (by show (List.map vU8 (ms.getD j default)).length = _; rw [List.length_map]; exact (hml _ (getD_mem (by omega))))) rfl ?_
      refine lw_call_pure rfl (callsTo Tryd.func61 rfl (by kernel_rfl) rfl) rfl (fun w hm => form_any (k : Int) (ms.getD j default) (hml _ (getD_mem (by omega))) w) ?_
      refine lw_pure rfl ((val_not rfl).to (congrArg Value.bool (show (!_) = true by rw [hfp0]; rfl))) rfl ?_
      refine lw_nil (into ?_)
      refine sw_true rfl rfl ?_
      refine sw_seq ?_
      refine sw_region ?_
      refine ow_val (val_assign rfl) rfl ?_
      refine ow_val (val_assign rfl) rfl ?_
      refine ow_nil (into ?_)
      refine sw_ret (fun w hm => ?_)
      try dsimp only [thenP, blockP, Nat.beq, cond]
      exact ret_two _ _ rfl rfl rfl ⟨rfl, hm.forgetAll⟩
    · -- no
      have hfp := (Bool.not_eq_false _).mp hfp0
      refine sw_region_lex _ [] [(0, 0), (1, 0), (2, 0), (3, 1), (4, 1), (5, 2), (6, 0)] (by kernel_rfl) (by kernel_rfl) (fun _ _ _ h => h) (fun _ h => h) (fun _ h => h.drawn _) ?_
      refine lw_pure rfl (val_move rfl) rfl ?_
      refine lw_pure rfl (val_nilCheck rfl) rfl ?_
      refine lw_pure rfl (val_fieldAddr (m := 0) (e := 0) rfl Tryd.underlying79 rfl rfl Tryd.sizeOf3 rfl) rfl ?_
      refine lw_held rfl (val_load_old ht.blk (List.not_mem_nil) rfl Tryd.isAgg3 rfl) rfl ?_
      refine lw_held rfl (val_load_all 0 rfl rfl Tryd.isAgg41 Tryd.sizeOf41 (by show (List.map vU8 (ms.getD j default)).length = _; rw [List.length_map]; exact (hml _ (getD_mem (by omega))))) rfl ?_
      refine lw_call_pure rfl (callsTo Tryd.func61 rfl (by kernel_rfl) rfl) rfl (fun w hm => form_any (k : Int) (ms.getD j default) (hml _ (getD_mem (by omega))) w) ?_
      refine lw_pure rfl ((val_not rfl).to (congrArg Value.bool (show (!_) = false by rw [(Bool.not_eq_false _).mp hfp0]; rfl))) rfl ?_
      refine lw_nil (into ?_)
      refine sw_false rfl rfl ?_
      refine sw_skip (into ?_)
      refine sw_region ?_
      refine ow_val (val_add_int ((j + 1 : Nat) : Int) rfl rfl (by omega) (by omega)) rfl ?_
      refine ow_val (val_move rfl) rfl ?_
      exact ow_nil (fun w hm => ⟨j + 1, ⟨by omega, fun d hd => by rw [List.take_succ_eq_append_getElem (by omega), List.mem_append] at hd; rcases hd with hd | hd; exact hmf d hd; rw [List.mem_singleton] at hd; subst hd; simpa [List.getD_eq_getElem?_getD, show j < ms.length by omega] using hfp⟩, by omega, ⟨rfl, rfl, rfl, rfl, rfl, trivial⟩, hm.forgetAll⟩)
  · -- else
    obtain rfl : j = ms.length := by omega
    rw [List.take_length] at hmf
    exact absurd hmf hbad

theorem kw_pos {w : World} (hK : KW w) : 0 < w.heap.size := by
  rcases Nat.lt_or_ge 0 w.heap.size with h | h
  · exact h
  · exfalso
    have h1 := hK 0 (by decide)
    have h2 : w.heap.size = 0 := by omega
    simp [World.cell?, h2] at h1
theorem ent_pos {w w' : World} {m : List Ent} {i j b : Nat} {o : Obj} {e : Ent} (hK : KW w) (hm : Mem w [] m w') (hp : pick m i = some (b, o)) (hq : pick m j = e) : 0 ∉ b :: keys [e] := fun h => by
  have hf : ∀ c, c ∈ keys m → c ≠ 0 := fun c hc h0 => by
    have h1 := kw_pos hK
    rcases hm.fresh c hc with h2 | h2
    · omega
    · cases h2
  rcases List.mem_cons.1 h with h | h
  · exact hf b (mem_keys (pick_mem hp)) h.symm
  · obtain ⟨y, hy⟩ := keys_one h
    exact hf 0 (mem_keys (pick_mem (hq.trans hy))) rfl
theorem ofNat_succ (a : Nat) : UInt64.ofNat a + 1 = UInt64.ofNat (a + 1) := by
  apply UInt64.toNat.inj
  rw [UInt64.toNat_add, UInt64.toNat_ofNat', UInt64.toNat_ofNat']
  show (a % 2 ^ 64 + 1) % 2 ^ 64 = _
  omega

theorem append_go (k : Nat) (h1 : 1 ≤ k) (h2 : k ≤ 32) (w : World) (hK : KW w) (b : Nat) (l : List (List UInt8)) (ps0 : List Pk) (a : Option Addr) (c : Nat) (ht : TreeAt 110 79 k w b l ps0 a c) (hdl : ∀ x ∈ l, x.length = 32) (hfl : ∀ x ∈ l, fm (k : Int) x = true) (a2 : Option Addr) (c2 : Nat) (ms : List (List UInt8)) (hml : ∀ d ∈ ms, d.length = 32) (hmr : Rd w a2 (ms.flatMap fun d => d.map vU8)) (hmc : ms.length ≤ c2) (hm63 : ms.length < 9223372036854775808) (hbig : l.length + ms.length + 1 ≤ 4611686018427387903) (hmsf : ∀ d ∈ ms, fm (k : Int) d = true) : Calls Tryd.prog 37 #[vPtr b, .slice a2 ms.length c2] w fun en w' => ∃ v, en = .returned v ∧ ∃ (b' : Nat) (ps' : List Pk) (a' : Option Addr) (c' : Nat) (es : List Ent), v = .tuple #[vPtr b', vInt ((0 : Nat) : Int)] ∧ (∀ w'', Held es w'' → (∀ x ∈ ps0, NodeIs 110 k w'' x.p x.b x.seg) → TreeAt 110 79 k w'' b' (l ++ ms) ps' a' c') ∧ Mem w [] es w' := by
  refine calls_of_sw (vs := [vPtr b, .slice a2 ms.length c2]) Tryd.func37 rfl Tryd.ntmps37 rfl (SW.begin ?_)
  refine sw_seq ?_
  refine sw_region ?_
  refine ow_val (val_assign rfl) rfl ?_
  refine ow_val (val_assign rfl) rfl ?_
  refine ow_nil (into ?_)
  refine sw_seq ?_
  refine sw_seq ?_
  refine sw_region ?_
  refine ow_val (val_move rfl) rfl ?_
  refine ow_val (val_eql_nilptr Tryd.underlying25 rfl rfl) rfl ?_
  refine ow_nil (into ?_)
  refine sw_false rfl rfl ?_
  refine sw_skip (into ?_)
  refine sw_seq ?_
  refine sw_seq ?_
  refine sw_region ?_
  refine ow_val (val_move rfl) rfl ?_
  refine ow_val (val_len rfl Tryd.underlying22) rfl ?_
  refine ow_val (val_move rfl) rfl ?_
  refine ow_nil (into ?_)
  refine sw_block ?_
  refine sw_loop (σ := Nat) (fun j => j ≤ ms.length) (fun j => [(15, vInt (j : Int)), (14, vInt (ms.length : Int)), (13, .slice a2 ms.length c2), (1, .slice a2 ms.length c2), (0, vPtr b)]) (fun _ => Mem w [] []) (fun j => ms.length - j) 0 (Nat.zero_le _) ⟨rfl, rfl, rfl, rfl, rfl, trivial⟩ (fun w hm => hm.forgetAll) ?_
  intro j hj
  refine sw_seq ?_
  refine sw_region ?_
  refine ow_val (val_lss_int rfl rfl) rfl ?_
  refine ow_nil (into ?_)
  refine sw_seq ?_
  refine sw_if rfl (fun h0 => ?_) (fun h0 => ?_)
  · -- then
    obtain ⟨bm, om, rfl⟩ := hmr.addr (by rw [flatMap_size ms (n := 32) (fun y hy => by rw [List.length_map]; exact hml y hy)]; omega)
    refine sw_skip (into ?_)
    refine sw_seq ?_
    refine sw_block ?_
    refine sw_seq ?_
    refine sw_region ?_
    refine ow_val (val_indexAddr_slice (j) (om + j * 32) rfl rfl Tryd.underlying22 Tryd.sizeOf41 (by omega) (by omega) (by omega)) rfl ?_
    refine ow_val (val_load_elem (cells := fun d => d.map vU8) (l := ms) (o := om) (i := j) rfl Tryd.isAgg41 Tryd.sizeOf41 (fun x hx => by rw [List.length_map]; exact hml x hx) (by omega) (by omega) (fun w' hm => hmr.mem hm)) rfl ?_
    refine ow_new (acts_alloc zD) rfl (fun b7 hb7 => ?_)
    refine ow_do_eq (does_store_all 0 rfl rfl rfl (one_u8s _) Tryd.sizeOf41 (by show (List.map vU8 (ms.getD j default)).length = _; rw [List.length_map]; exact (hml _ (getD_mem (by omega)))) (by show (List.map vU8 zeros32).length = _; rw [List.length_map]; exact zeros32_len)) ?_
    refine ow_nil (into ?_)
    refine sw_seq ?_
    refine sw_region_lex _ [] [(0, 0), (1, 0), (2, 0), (3, 1), (4, 1), (5, 2), (6, 0)] (by kernel_rfl) (by kernel_rfl) (fun _ _ _ h => h) (fun _ h => h) (fun _ h => h.drawn _) ?_
    refine lw_pure rfl (val_move rfl) rfl ?_
    refine lw_pure rfl (val_nilCheck rfl) rfl ?_
    refine lw_pure rfl (val_fieldAddr (m := 0) (e := 0) rfl Tryd.underlying79 rfl rfl Tryd.sizeOf3 rfl) rfl ?_
    refine lw_held rfl (val_load_old ht.blk (List.not_mem_nil) rfl Tryd.isAgg3 rfl) rfl ?_
    refine lw_held rfl (val_load_all 0 rfl rfl Tryd.isAgg41 Tryd.sizeOf41 (by show (List.map vU8 (ms.getD j default)).length = _; rw [List.length_map]; exact (hml _ (getD_mem (by omega))))) rfl ?_
    refine lw_call_pure (v := .bool true) rfl (callsTo Tryd.func61 rfl (by kernel_rfl) rfl) rfl (fun w hm => form_is (hmsf _ (getD_mem (by omega))) (hml _ (getD_mem (by omega))) w) ?_
    refine lw_pure rfl (val_not rfl) rfl ?_
    refine lw_nil (into ?_)
    refine sw_false rfl rfl ?_
    refine sw_skip (into ?_)
    refine sw_region ?_
    refine ow_val (val_add_int ((j + 1 : Nat) : Int) rfl rfl (by omega) (by omega)) rfl ?_
    refine ow_val (val_move rfl) rfl ?_
    exact ow_nil (fun w hm => ⟨j + 1, by omega, by omega, ⟨rfl, rfl, rfl, rfl, rfl, trivial⟩, hm.forgetAll⟩)
  · -- else
    refine sw_exit (into ?_)
    refine sw_seq ?_
    refine sw_region_tree (Mem w [] []) [] (.one 0 0 (.one 1 0 (.one 2 0 (.one 4 0 (.one 5 0 (.one 6 0 (.one 8 0 (.one 9 0 (.one 10 0 (.one 3 1 (.one 7 1 (.one 11 1 (.one 12 2 (.one 13 0 (.one 14 2 (.one 15 0 .done)))))))))))))))) (by kernel_rfl) (by kernel_rfl) (fun _ _ _ h => h) (fun _ h => h.only (List.nil_sublist _)) (fun _ h => h.drawn _) ?_
    refine lt_pure rfl trivial (val_move rfl) rfl ?_
    refine lt_pure rfl trivial (val_nilCheck rfl) rfl ?_
    refine lt_pure rfl trivial (val_fieldAddr (m := 0) (e := 0) rfl Tryd.underlying79 rfl rfl Tryd.sizeOf3 rfl) rfl ?_
    refine lt_pure rfl trivial (val_move rfl) rfl ?_
    refine lt_pure rfl trivial (val_nilCheck rfl) rfl ?_
    refine lt_pure rfl trivial (val_fieldAddr (m := 0) (e := 1) rfl Tryd.underlying79 rfl rfl Tryd.sizeOf23 rfl) rfl ?_
    refine lt_pure rfl trivial (val_move rfl) rfl ?_
    refine lt_pure rfl trivial (val_nilCheck rfl) rfl ?_
    refine lt_pure rfl trivial (val_fieldAddr (m := 0) (e := 2) rfl Tryd.underlying79 rfl rfl Tryd.sizeOf77 rfl) rfl ?_
    refine lt_held rfl trivial (val_load_old ht.blk (List.not_mem_nil) rfl Tryd.isAgg3 rfl) rfl ?_
    refine lt_held rfl trivial (val_load_old ht.blk (List.not_mem_nil) rfl Tryd.isAgg23 rfl) rfl ?_
    refine lt_held rfl trivial (val_load_old ht.blk (List.not_mem_nil) rfl Tryd.isAgg77 rfl) rfl ?_
    refine lt_call_row (E := 93) (size := 1) (k := ps0.length) (xs := ps0.map fun x => vPtr x.b) rfl trivial (callsTo Tryd.func65 rfl (by kernel_rfl) rfl) rfl (fun w hm => cloneP_any a c ps0 (Nat.le_trans (peaks_few ht.pk (by omega)) (by decide)) w (ht.rd.mem hm)) (fun _ _ _ h => h.only (List.nil_sublist _)) (fun a39 c39 e39 hr39 => ?_)
    refine lt_pure rfl trivial (val_build' (cs := treeC k (UInt64.ofNat l.length) (.slice a39 ps0.length c39)) rfl (by kernel_rfl)) rfl ?_
    refine lt_make (fun b => .pointer (some ⟨b, 0, none⟩)) rfl trivial (acts_box rfl) rfl (fun _ _ _ h => h.only (List.nil_sublist _)) (fun b41 hb41 => ?_)
    refine lt_pure rfl trivial (val_assign rfl) rfl ?_
    refine lt_done (into ?_)
    refine sw_seq ?_
    refine sw_seq ?_
    refine sw_region ?_
    refine ow_val (val_move rfl) rfl ?_
    refine ow_val (val_len rfl Tryd.underlying22) rfl ?_
    refine ow_val (val_move rfl) rfl ?_
    refine ow_nil (into ?_)
    refine sw_block ?_
    refine sw_loop (σ := Nat × List Pk × Option Addr × Nat × Ent × List Ent) (fun t => t.1 ≤ ms.length ∧ RowE (.slice t.2.2.1 t.2.1.length t.2.2.2.1) 93 1 t.2.1.length (t.2.1.map fun x => vPtr x.b) t.2.2.2.2.1 ∧ Peaks t.2.1 (l ++ ms.take t.1) ∧ ∀ w'', Held t.2.2.2.2.2 w'' → (∀ x ∈ ps0, NodeIs 110 k w'' x.p x.b x.seg) → (∀ x ∈ t.2.1, NodeIs 110 k w'' x.p x.b x.seg)) (fun t => [(44, vInt (t.1 : Int)), (43, vInt (ms.length : Int)), (42, .slice a2 ms.length c2), (8, vPtr b41)]) (fun t => Mem w [] (some (b41, blk (treeC k (UInt64.ofNat (l.length + t.1)) (.slice t.2.2.1 t.2.1.length t.2.2.2.1)) 79) :: t.2.2.2.2.1 :: t.2.2.2.2.2)) (fun t => ms.length - t.1) (0, ps0, a39, c39, e39, []) ⟨Nat.zero_le _, hr39, by dsimp only; rw [List.take_zero, List.append_nil]; exact ht.pk, fun _ _ hn => hn⟩ ⟨rfl, rfl, rfl, rfl, trivial⟩ (fun w hm => hm.only (.cons_cons _ (.cons_cons _ (List.nil_sublist _)))) ?_
    rintro ⟨j, ps, a1, c1, e1, es⟩ ⟨hj, hrow, hpk, hnd⟩
    simp only at hj hrow hpk hnd ⊢
    refine sw_seq ?_
    refine sw_region ?_
    refine ow_val (val_lss_int rfl rfl) rfl ?_
    refine ow_nil (into ?_)
    refine sw_seq ?_
    refine sw_if rfl (fun h1q => ?_) (fun h1q => ?_)
    · -- then
      obtain ⟨bm, om, rfl⟩ := hmr.addr (by rw [flatMap_size ms (n := 32) (fun y hy => by rw [List.length_map]; exact hml y hy)]; omega)
      refine sw_skip (into ?_)
      refine sw_seq ?_
      refine sw_block ?_
      refine sw_seq ?_
      refine sw_region ?_
      refine ow_val (val_indexAddr_slice (j) (om + j * 32) rfl rfl Tryd.underlying22 Tryd.sizeOf41 (by omega) (by omega) (by omega)) rfl ?_
      refine ow_val (val_load_elem (cells := fun d => d.map vU8) (l := ms) (o := om) (i := j) rfl Tryd.isAgg41 Tryd.sizeOf41 (fun x hx => by rw [List.length_map]; exact hml x hx) (by omega) (by omega) (fun w' hm => hmr.mem hm)) rfl ?_
      refine ow_new (acts_alloc zD) rfl (fun b10 hb10 => ?_)
      refine ow_do_eq (does_store_all 0 rfl rfl rfl (one_u8s _) Tryd.sizeOf41 (by show (List.map vU8 (ms.getD j default)).length = _; rw [List.length_map]; exact (hml _ (getD_mem (by omega)))) (by show (List.map vU8 zeros32).length = _; rw [List.length_map]; exact zeros32_len)) ?_
      refine ow_nil (into ?_)
      refine sw_region ?_
      refine ow_val (val_move rfl) rfl ?_
      refine ow_val (val_load_all 0 rfl rfl Tryd.isAgg41 Tryd.sizeOf41 (by show (List.map vU8 (ms.getD j default)).length = _; rw [List.length_map]; exact (hml _ (getD_mem (by omega))))) rfl ?_
      refine ow_call_wrT (σ := List Pk × Option Addr × Nat × Ent × List Ent) (v := .tuple #[]) 1 2 (fun s => blk (treeC k (UInt64.ofNat (l.length + j) + 1) (.slice s.2.1 s.1.length s.2.2.1)) 79) (fun s => s.2.2.2.1) (fun s => s.2.2.2.2) (fun s => RowE (.slice s.2.1 s.1.length s.2.2.1) 93 1 s.1.length (s.1.map fun x => vPtr x.b) s.2.2.2.1 ∧ Peaks s.1 (l ++ ms.take j ++ [(ms.getD j default)]) ∧ ∀ w'', Held s.2.2.2.2 w'' → (∀ x ∈ ps, NodeIs 110 k w'' x.p x.b x.seg) → (∀ x ∈ s.1, NodeIs 110 k w'' x.p x.b x.seg)) rfl rfl (by decide) (callsTo Tryd.func66 rfl (by kernel_rfl) rfl) rfl (fun w' hm hs => (add_any k h1 h2 w' (hK.mem0 hm) b41 _ ps (l ++ ms.take j) (ms.getD j default) (hml _ (getD_mem (by omega))) (hmsf _ (getD_mem (by omega))) hpk (by rw [List.length_append, List.length_take]; omega) (fun y hy => (List.mem_append.1 hy).elim (hdl y) (fun h => hml y (List.mem_of_mem_take h))) (fun y hy => (List.mem_append.1 hy).elim (hfl y) (fun h => hmsf y (List.mem_of_mem_take h))) a1 c1 e1 hrow hs (hnd w' (hm.heldSub (.cons _ (.cons _ (.cons _ (List.Sublist.refl _))))) (fun y hy => (ht.nodes y hy).mem hm)) (ent_pos hK hm (i := 1) (j := 2) rfl rfl)).mono fun _ _ ⟨v, he, hv, ps', a', c', e', es', h1, h2, h3, hm'⟩ => ⟨v, he, hv, (ps', a', c', e', es'), ⟨h1, h2, h3⟩, hm'⟩) ?_
      rintro ⟨ps', a', c', e', es'⟩ ⟨hrow', hpk', hnd'⟩
      simp only at hrow' hpk' hnd' ⊢
      refine ow_nil (into ?_)
      refine sw_region ?_
      refine ow_val (val_add_int ((j + 1 : Nat) : Int) rfl rfl (by omega) (by omega)) rfl ?_
      refine ow_val (val_move rfl) rfl ?_
      exact ow_nil (fun w hm => ⟨(j + 1, ps', a', c', e', es ++ es'), ⟨by dsimp only; omega, hrow', by dsimp only; rw [List.take_succ_eq_append_getElem (by omega), ← List.append_assoc]; simpa [List.getD_eq_getElem?_getD, show j < ms.length by omega] using hpk', fun w'' hh hn => hnd' w'' (hh.sub (List.sublist_append_right _ _)) (hnd w'' (hh.sub (List.sublist_append_left _ _)) hn)⟩, by dsimp only; omega, ⟨rfl, rfl, rfl, rfl, trivial⟩, by dsimp only; rw [← Nat.add_assoc, ← ofNat_succ]; exact hm.only (.cons _ (List.Sublist.refl _))⟩)
    · -- else
      obtain rfl : j = ms.length := by omega
      rw [List.take_length] at hpk
      refine sw_exit (into ?_)
      refine sw_seq ?_
      refine sw_region ?_
      refine ow_val (val_move rfl) rfl ?_
      refine ow_val (val_assign rfl) rfl ?_
      refine ow_val (val_assign rfl) rfl ?_
      refine ow_nil (into ?_)
      exact sw_ret (fun w hm => ret_two _ _ rfl rfl rfl ⟨b41, ps, a1, c1, _, rfl, fun w'' hh hn => ⟨hpk, hnd w'' (hh.sub (.cons _ (.cons _ (List.Sublist.refl _)))) hn, by rw [List.length_append]; exact hh b41 _ List.mem_cons_self, hrow.held (hh.sub (.cons _ (.cons_cons _ (List.nil_sublist _)))), hrow.le⟩, hm⟩)
end Go.Proofs.YtcdponddgnkecaaDoor
