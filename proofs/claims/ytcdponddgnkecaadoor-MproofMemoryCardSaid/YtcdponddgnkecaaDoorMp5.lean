import Derived.Test.YtcdponddgnkecaaDoorMp4
import Derived.Test.YtcdponddgnkecaaDoorMp2
import Derived.Test.YtcdponddgnkecaaDoorProg
set_option linter.unusedVariables false
set_option linter.unusedSimpArgs false
namespace Go.Proofs.YtcdponddgnkecaaDoor
open Go.Sx Go.Ps
theorem incl_okU (k : Nat) (h1 : 1 ≤ k) (h2 : k ≤ 32) (b : Nat) (l : List (List UInt8)) (hdl : ∀ d ∈ l, d.length = 32) (hfl : ∀ d ∈ l, fm (k : Int) d = true) (hl : l.length * 32 ≤ 140737488351232) (i n : UInt64) (w : World) (hK : KW w) (ht : TreeIs 110 79 k w b l) (h : i.toNat < n.toNat ∧ n.toNat ≤ l.length) (P : List (List UInt8)) (hP : incL k (seg l 0 n.toNat) i.toNat = P) : Calls Tryd.prog 16 #[vPtr b, vU64 i, vU64 n] w fun e w' => ∃ u, e = .returned u ∧ ∃ s e', u = .tuple #[s, vInt ((0 : Nat) : Int)] ∧ RowE s 41 32 P.length (P.flatMap fun d => d.map vU8) e' ∧ Mem w [] [e'] w' := by
  have h9 := incl_go k h1 h2 b l hdl hfl hl i.toNat n.toNat w hK ht h.1 h.2 P hP
  rw [UInt64.ofNat_toNat, UInt64.ofNat_toNat] at h9; exact h9
theorem incl_noU (k : Nat) (b : Nat) (l : List (List UInt8)) (i n : UInt64) (w : World) (ht : TreeIs 110 79 k w b l) (hl : l.length < 9223372036854775808) (h : ¬ (i.toNat < n.toNat ∧ n.toNat ≤ l.length)) : Calls Tryd.prog 16 #[vPtr b, vU64 i, vU64 n] w fun e w' => ∃ v, e = .returned v ∧ v = .tuple #[.slice none 0 0, vInt ((4 : Nat) : Int)] ∧ Mem w [] [] w' := by
  by_cases h1 : i < n
  · exact incl_big k b l i n w ht h1 (UInt64.lt_iff_toNat_lt.2 (by rw [of_nat (by omega)]; have h9 := UInt64.lt_iff_toNat_lt.1 h1; omega))
  · exact incl_no k b l i n w ht h1

theorem dinc_okU (k : Nat) (h1 : 1 ≤ k) (h2 : k ≤ 32) (i n : UInt64) (w : World) (a : Option Addr) (m c : Nat) (l : List (List UInt8)) (hlm : l.length = m) (hdl : ∀ d ∈ l, d.length = 32) (hfl : ∀ d ∈ l, fm (k : Int) d = true) (hr : Rd w a (l.flatMap fun d => d.map vU8)) (hc : m ≤ c) (hb : m * 32 ≤ 140737488351232) (h : i.toNat < n.toNat ∧ n.toNat ≤ l.length) (P : List (List UInt8)) (hP : incL k (seg l 0 n.toNat) i.toNat = P) : Calls Tryd.prog 17 #[vInt (k : Int), .slice a m c, vU64 i, vU64 n] w fun e w' => ∃ u, e = .returned u ∧ ∃ s e', u = .tuple #[s, vInt ((0 : Nat) : Int)] ∧ RowE s 41 32 P.length (P.flatMap fun d => d.map vU8) e' ∧ Mem w [] [e'] w' := by
  subst hlm
  have h9 := dinc_go k h1 h2 i.toNat n.toNat w a c l hdl hfl hr hc hb h.1 h.2 P hP
  rw [UInt64.ofNat_toNat, UInt64.ofNat_toNat] at h9; exact h9
theorem dinc_noU (k : Nat) (i n : UInt64) (w : World) (a : Option Addr) (m c : Nat) (l : List (List UInt8)) (hlm : l.length = m) (hdl : ∀ d ∈ l, d.length = 32) (hfl : ∀ d ∈ l, fm (k : Int) d = true) (hr : Rd w a (l.flatMap fun d => d.map vU8)) (hc : m ≤ c) (hb : m * 32 ≤ 140737488351232) (h : ¬ (i.toNat < n.toNat ∧ n.toNat ≤ l.length)) : Calls Tryd.prog 17 #[vInt (k : Int), .slice a m c, vU64 i, vU64 n] w fun e w' => ∃ v, e = .returned v ∧ v = .tuple #[.slice none 0 0, vInt ((4 : Nat) : Int)] ∧ Mem w [] [] w' := by
  subst hlm
  by_cases h1 : n ≤ i
  · exact dinc_no k i n w a c l hdl hfl hr hc hb h1
  · exact dinc_big k i n w a c l hdl hfl hr hc hb h1 (UInt64.lt_iff_toNat_lt.2 (by rw [of_nat (by omega)]; have h9 := mt UInt64.le_iff_toNat_le.2 h1; omega))

theorem cons_okU (k : Nat) (h1 : 1 ≤ k) (h2 : k ≤ 32) (b : Nat) (l : List (List UInt8)) (hdl : ∀ d ∈ l, d.length = 32) (hfl : ∀ d ∈ l, fm (k : Int) d = true) (hl : l.length * 32 ≤ 140737488351232) (i n : UInt64) (w : World) (hK : KW w) (ht : TreeIs 110 79 k w b l) (h : i.toNat ≤ n.toNat ∧ n.toNat ≤ l.length) (P : List (List UInt8)) (hP : conO k l i.toNat n.toNat = P) : Calls Tryd.prog 19 #[vPtr b, vU64 i, vU64 n] w fun e w' => ∃ u, e = .returned u ∧ ∃ s e', u = .tuple #[s, vInt ((0 : Nat) : Int)] ∧ RowE s 41 32 P.length (P.flatMap fun d => d.map vU8) e' ∧ Mem w [] [e'] w' := by
  have h9 := cons_any k h1 h2 b l hdl hfl hl i.toNat n.toNat w hK ht h.1 h.2 P hP
  rw [UInt64.ofNat_toNat, UInt64.ofNat_toNat] at h9; exact h9
theorem cons_noU (k : Nat) (b : Nat) (l : List (List UInt8)) (i n : UInt64) (w : World) (ht : TreeIs 110 79 k w b l) (hl : l.length < 9223372036854775808) (h : ¬ (i.toNat ≤ n.toNat ∧ n.toNat ≤ l.length)) : Calls Tryd.prog 19 #[vPtr b, vU64 i, vU64 n] w fun e w' => ∃ v, e = .returned v ∧ v = .tuple #[.slice none 0 0, vInt ((4 : Nat) : Int)] ∧ Mem w [] [] w' := by
  by_cases h1 : i ≤ n
  · exact cons_big k b l i n w ht h1 (UInt64.lt_iff_toNat_lt.2 (by rw [of_nat (by omega)]; have h9 := UInt64.le_iff_toNat_le.1 h1; omega))
  · exact cons_no k b l i n w ht h1

theorem dcon_okU (k : Nat) (h1 : 1 ≤ k) (h2 : k ≤ 32) (i n : UInt64) (w : World) (a : Option Addr) (m c : Nat) (l : List (List UInt8)) (hlm : l.length = m) (hdl : ∀ d ∈ l, d.length = 32) (hfl : ∀ d ∈ l, fm (k : Int) d = true) (hr : Rd w a (l.flatMap fun d => d.map vU8)) (hc : m ≤ c) (hb : m * 32 ≤ 140737488351232) (h : i.toNat ≤ n.toNat ∧ n.toNat ≤ l.length) (P : List (List UInt8)) (hP : sinL k (seg l 0 n.toNat) i.toNat = P) : Calls Tryd.prog 20 #[vInt (k : Int), .slice a m c, vU64 i, vU64 n] w fun e w' => ∃ u, e = .returned u ∧ ∃ s e', u = .tuple #[s, vInt ((0 : Nat) : Int)] ∧ RowE s 41 32 P.length (P.flatMap fun d => d.map vU8) e' ∧ Mem w [] [e'] w' := by
  subst hlm
  have h9 := dcon_go k h1 h2 i.toNat n.toNat w a c l hdl hfl hr hc hb h.1 h.2 P hP
  rw [UInt64.ofNat_toNat, UInt64.ofNat_toNat] at h9; exact h9
theorem dcon_noU (k : Nat) (i n : UInt64) (w : World) (a : Option Addr) (m c : Nat) (l : List (List UInt8)) (hlm : l.length = m) (hdl : ∀ d ∈ l, d.length = 32) (hfl : ∀ d ∈ l, fm (k : Int) d = true) (hr : Rd w a (l.flatMap fun d => d.map vU8)) (hc : m ≤ c) (hb : m * 32 ≤ 140737488351232) (h : ¬ (i.toNat ≤ n.toNat ∧ n.toNat ≤ l.length)) : Calls Tryd.prog 20 #[vInt (k : Int), .slice a m c, vU64 i, vU64 n] w fun e w' => ∃ v, e = .returned v ∧ v = .tuple #[.slice none 0 0, vInt ((4 : Nat) : Int)] ∧ Mem w [] [] w' := by
  subst hlm
  by_cases h1 : n < i
  · exact dcon_no k i n w a c l hdl hfl hr hc hb h1
  · exact dcon_big k i n w a c l hdl hfl hr hc hb h1 (UInt64.lt_iff_toNat_lt.2 (by rw [of_nat (by omega)]; have h9 := mt UInt64.lt_iff_toNat_lt.2 h1; omega))

/-- Leaves cut to the width. -/
def cutL (k : Nat) (l : List (List UInt8)) : List (List UInt8) := l.map (cutw k)
theorem fm_cutw {k : Nat} (h1 : 1 ≤ k) (h2 : k ≤ 32) {d : List UInt8} (hd : d.length = 32) : fm (k : Int) (cutw k d) = true := by
  simp only [fm, wd_of h1 h2, Bool.true_and, Int.toNat_natCast]
  refine decide_eq_true ?_
  rw [cutw, cutw, List.take_left' (by rw [List.length_take]; omega)]
theorem cutL_ok {k : Nat} (h1 : 1 ≤ k) (h2 : k ≤ 32) {l : List (List UInt8)} (h : ∀ d ∈ l, d.length = 32) : (∀ d ∈ cutL k l, d.length = 32) ∧ ∀ d ∈ cutL k l, fm (k : Int) d = true :=
  ⟨fun d hd => by obtain ⟨e, he, rfl⟩ := List.mem_map.1 hd; exact cutw_len (h e he) h2, fun d hd => by obtain ⟨e, he, rfl⟩ := List.mem_map.1 hd; exact fm_cutw h1 h2 (h e he)⟩
theorem cutL_len (k : Nat) (l : List (List UInt8)) : (cutL k l).length = l.length := List.length_map _
theorem cutL_take {k : Nat} {l : List (List UInt8)} {j : Nat} (h : j < l.length) : (cutL k l).take j ++ [cutw k (l.getD j default)] = (cutL k l).take (j + 1) := by
  rw [← take_succ_getD (by rw [cutL_len]; exact h)]
  congr 2
  rw [cutL, List.getD_eq_getElem?_getD, List.getD_eq_getElem?_getD, List.getElem?_map, List.getElem?_eq_getElem h]; rfl

theorem tree_no (v0 : Int) (hwd : wd v0 = false) (w : World) (a : Option Addr) (m c : Nat) : Calls Tryd.prog 15 #[vInt v0, .slice a m c] w fun e w' => ∃ v, e = .returned v ∧ v = .tuple #[.pointer none, .slice none 0 0, .bool false] ∧ Mem w [] [] w' := by
  refine calls_of_sw (vs := [vInt v0, .slice a m c]) Tryd.func15 rfl Tryd.ntmps15 rfl (SW.begin ?_)
  refine sw_seq ?_
  refine sw_region ?_
  refine ow_val (val_assign rfl) rfl ?_
  refine ow_val (val_assign rfl) rfl ?_
  refine ow_val (val_assign rfl) rfl ?_
  refine ow_nil (into ?_)
  refine sw_seq ?_
  refine sw_seq ?_
  refine sw_region ?_
  refine ow_val (val_move rfl) rfl ?_
  refine ow_call_pure (v := .bool false) (callsTo Tryd.func42 rfl (by kernel_rfl) rfl) rfl (fun w hm => rwidth_is hwd w) ?_
  refine ow_val (val_not rfl) rfl ?_
  refine ow_nil (into ?_)
  refine sw_true rfl rfl ?_
  refine sw_seq ?_
  refine sw_region ?_
  refine ow_val (val_assign rfl) rfl ?_
  refine ow_val (val_assign rfl) rfl ?_
  refine ow_val (val_assign rfl) rfl ?_
  refine ow_nil (into ?_)
  refine sw_ret (fun w hm => ?_)
  try dsimp only [thenP, blockP, Nat.beq, cond]
  exact ret_ttt rfl rfl rfl rfl ⟨rfl, hm.forgetAll⟩

theorem tree_0 (k : Nat) (h1 : 1 ≤ k) (h2 : k ≤ 32) (w : World) (hK : KW w) (a : Option Addr) (c : Nat) (l : List (List UInt8)) (hdl : ∀ d ∈ l, d.length = 32) (hr : Rd w a (l.flatMap fun d => d.map vU8)) (hc : l.length ≤ c) (hb : l.length * 32 ≤ 140737488351232) : Calls Tryd.prog 15 #[vInt (k : Int), .slice a l.length c] w fun e w' => ∃ u, e = .returned u ∧ ∃ s : Nat × Option Addr × Nat × List Ent, u = .tuple #[vPtr s.1, .slice s.2.1 l.length s.2.2.1, .bool true] ∧ (TrOn 110 79 k s.2.2.2 s.1 (cutL k l) ∧ RdOn s.2.2.2 s.2.1 ((cutL k l).flatMap fun d => d.map vU8) ∧ l.length ≤ s.2.2.1 ∧ (0 < l.length → ∃ b o, s.2.1 = some ⟨b, o, none⟩)) ∧ Mem w [] s.2.2.2 w' := by
  obtain ⟨tiD, hDi, hDz, hDsz, hDby⟩ := info_parts iDg
  have hwd : wd (k : Int) = true := wd_iff.2 (by omega)
  have hcl := cutL_ok h1 h2 hdl
  have hn0 : ∀ d ∈ ([] : List (List UInt8)), d.length = 32 := fun _ h => by cases h
  have hn1 : ∀ d ∈ ([] : List (List UInt8)), fm (k : Int) d = true := fun _ h => by cases h
  have hnn : ([] : List (List UInt8)).length = 0 := rfl
  have hcn := cutL_len k l
  have hcf : ∀ d ∈ cutL k l, fm (k : Int) d = true := hcl.2
  have hcd : ∀ d ∈ cutL k l, d.length = 32 := hcl.1
  refine calls_of_sw (vs := [vInt (k : Int), .slice a l.length c]) Tryd.func15 rfl Tryd.ntmps15 rfl (SW.begin ?_)
  refine sw_seq ?_
  refine sw_region ?_
  refine ow_val (val_assign rfl) rfl ?_
  refine ow_val (val_assign rfl) rfl ?_
  refine ow_val (val_assign rfl) rfl ?_
  refine ow_nil (into ?_)
  refine sw_seq ?_
  refine sw_seq ?_
  refine sw_region ?_
  refine ow_val (val_move rfl) rfl ?_
  refine ow_call_pure (v := .bool true) (callsTo Tryd.func42 rfl (by kernel_rfl) rfl) rfl (fun w hm => rwidth_is hwd w) ?_
  refine ow_val (val_not rfl) rfl ?_
  refine ow_nil (into ?_)
  refine sw_false rfl rfl ?_
  refine sw_skip (into ?_)
  refine sw_seq ?_
  refine sw_region ?_
  refine ow_val (val_assign rfl) rfl ?_
  refine ow_nil (into ?_)
  refine sw_seq ?_
  refine sw_seq ?_
  refine sw_region ?_
  refine ow_val (val_move rfl) rfl ?_
  refine ow_val (val_len rfl Tryd.underlying22) rfl ?_
  refine ow_val (val_move rfl) rfl ?_
  refine ow_nil (into ?_)
  refine sw_block ?_
  refine sw_loop (σ := Nat × Option Addr × Nat × Ent) (fun t => t.1 ≤ l.length ∧ RowE (.slice t.2.1 t.1 t.2.2.1) 41 32 t.1 (((cutL k l).take t.1).flatMap fun d => d.map vU8) t.2.2.2) (fun t => [(18, vInt (t.1 : Int)), (17, vInt (l.length : Int)), (16, .slice a l.length c), (7, .slice t.2.1 t.1 t.2.2.1), (0, vInt (k : Int))]) (fun t => Mem w [] [t.2.2.2]) (fun t => l.length - t.1) (0, none, 0, none) ⟨Nat.zero_le _, RowE.nil _ _⟩ ⟨rfl, rfl, rfl, rfl, rfl, trivial⟩ (fun w hm => hm.place) ?_
  rintro ⟨j, a7, c7, e7⟩ ⟨hj, hrow⟩
  simp only at hj hrow ⊢
  have hjt : ((cutL k l).take j).length = j := by rw [List.length_take, cutL_len]; omega
  refine sw_seq ?_
  refine sw_region ?_
  refine ow_val (val_lss_int rfl rfl) rfl ?_
  refine ow_nil (into ?_)
  refine sw_seq ?_
  refine sw_if rfl (fun h0 => ?_) (fun h0 => ?_)
  · -- then
    obtain ⟨ba, oa, rfl⟩ := hr.addr (by rw [flatMap_size' rfl hdl]; omega)
    obtain ⟨d, hd⟩ : ∃ z, l.getD j default = z := ⟨_, rfl⟩
    have hd0 : d.length = 32 := by rw [← hd]; exact hdl _ (getD_mem (by omega))
    refine sw_skip (into ?_)
    refine sw_seq ?_
    refine sw_block ?_
    refine sw_seq ?_
    refine sw_region ?_
    refine ow_val (val_indexAddr_slice (j) (oa + j * 32) rfl rfl Tryd.underlying22 Tryd.sizeOf41 (by omega) (by omega) (by omega)) rfl ?_
    refine ow_val ((val_load_elem (cells := fun d => d.map vU8) (l := l) (o := oa) (i := j) rfl Tryd.isAgg41 Tryd.sizeOf41 (fun x hx => by rw [List.length_map]; exact hdl x hx) (by omega) (by omega) (fun w' hm => hr.mem hm)).to (v' := .agg (d.map vU8).toArray) (by rw [hd])) rfl ?_
    refine ow_new (acts_alloc zD) rfl (fun b9 hb9 => ?_)
    refine ow_do_eq (does_store_all 0 rfl rfl rfl (one_u8s _) Tryd.sizeOf41 (by show (List.map vU8 d).length = _; rw [List.length_map]; exact hd0) (by show (List.map vU8 zeros32).length = _; rw [List.length_map]; exact zeros32_len)) ?_
    refine ow_nil (into ?_)
    refine sw_seq ?_
    refine sw_seq ?_
    refine sw_region ?_
    refine ow_val (val_move rfl) rfl ?_
    refine ow_val (val_assign rfl) rfl ?_
    refine ow_nil (into ?_)
    refine sw_block ?_
    refine sw_loop (σ := Nat) (fun q => k + q ≤ 32) (fun q => [(10, vInt ((k + q : Nat) : Int)), (9, .pointer (some ⟨b9, 0, none⟩)), (18, vInt (j : Int)), (17, vInt (l.length : Int)), (16, .slice (some ⟨ba, oa, none⟩) l.length c), (7, .slice a7 j c7), (0, vInt (k : Int))]) (fun q => Mem w [] [some (b9, blk ((cutFrom d k q).map vU8) 41), e7]) (fun q => 32 - q) 0 h2 ⟨rfl, rfl, rfl, rfl, rfl, rfl, rfl, trivial⟩ (fun w hm => hm) ?_
    intro q hq
    refine sw_seq ?_
    refine sw_seq ?_
    refine sw_region ?_
    refine ow_val (val_move rfl) rfl ?_
    refine ow_val (val_lss_int rfl rfl) rfl ?_
    refine ow_nil (into ?_)
    refine sw_if rfl (fun h0b => ?_) (fun h0b => ?_)
    · -- then
      refine sw_skip (into ?_)
      refine sw_seq ?_
      refine sw_block ?_
      refine sw_region ?_
      refine ow_val (val_move rfl) rfl ?_
      refine ow_val (val_indexAddr (k + q) (k + q) rfl rfl Tryd.underlying41 Tryd.sizeOf5 (by omega) (by omega) (by omega)) rfl ?_
      refine ow_do (does_store_map (V := vU8) 0 rfl rfl rfl rfl Tryd.sizeOf5 (by rw [cutFrom_len, hd0]; omega)) (fun _ _ => ?_)
      refine ow_nil (into ?_)
      refine sw_region ?_
      refine ow_val (val_move rfl) rfl ?_
      refine ow_val (val_add_int ((k + q + 1 : Nat) : Int) rfl rfl (by omega) (by omega)) rfl ?_
      refine ow_val (val_assign rfl) rfl ?_
      exact ow_nil (fun w hm => ⟨q + 1, by omega, by omega, ⟨rfl, rfl, rfl, rfl, rfl, rfl, rfl, trivial⟩, hm⟩)
    · -- else
      obtain rfl : q = 32 - k := by omega
      rw [cutFrom_all _ k hd0 h2]
      refine sw_exit (into ?_)
      refine sw_region ?_
      refine ow_val (val_move rfl) rfl ?_
      refine ow_val (val_load_all 0 rfl rfl Tryd.isAgg41 Tryd.sizeOf41 (by show (List.map vU8 (cutw k d)).length = _; rw [List.length_map]; exact (cutw_len hd0 h2))) rfl ?_
      refine ow_make (acts_buildSlice (cs := [((cutw k d)).map vU8].flatten) Tryd.underlying22 Tryd.sizeOf41 zD rfl rfl (fill_aggs [((cutw k d)).map vU8] (by decide) rfl (by simp only [List.forall_mem_cons, List.length_map]; exact ⟨(cutw_len hd0 h2), fun _ h => by cases h⟩))) rfl (fun b31 hb31 => ?_)
      refine ow_append' (k := j + 1) (xs := (((cutL k l).take j) ++ [(cutw k d)]).flatMap fun d => d.map vU8) (acts_row (acts_append (size := 32) (bytes := 32) 2 rfl rfl rfl hrow rfl Tryd.underlying22 hDi hDz hDsz hDby rfl (by decide) (fun w hm => (Rd.blk (hm.at (i := 0) rfl))) (by simp only [List.flatten_cons, List.flatten_nil, List.append_nil, List.length_append, List.length_map, (cutw_len hd0 h2)]) (fun u hu => by simp only [List.flatten_cons, List.flatten_nil, List.append_nil, List.mem_append] at hu; rcases hu with hu <;> exact one_u8s _ u hu) (by omega) (by omega)) rfl (by simp only [List.flatMap_append, List.flatMap_cons, List.flatMap_nil, List.flatten_cons, List.flatten_nil, List.nil_append, List.append_nil])) rfl (fun a32 c32 e32 hr32' => ?_)
      have hx32 : (((cutL k l).take j) ++ [(cutw k d)]).length = j + 1 := by rw [List.length_append, hjt] <;> rfl
      refine ow_val (val_assign rfl) rfl ?_
      refine ow_nil (into ?_)
      refine sw_region ?_
      refine ow_val (val_add_int ((j + 1 : Nat) : Int) rfl rfl (by omega) (by omega)) rfl ?_
      refine ow_val (val_move rfl) rfl ?_
      exact ow_nil (fun w hm => ⟨(j + 1, a32, c32, e32), ⟨by dsimp only; omega, hr32'.cong rfl rfl (congrArg (fun z : List (List UInt8) => z.flatMap fun d => d.map vU8) (by rw [← hd]; exact cutL_take (by omega)))⟩, by dsimp only; omega, ⟨rfl, rfl, rfl, rfl, rfl, trivial⟩, hm.only (.cons _ (.cons _ (.cons_cons _ (List.nil_sublist _))))⟩)
  · -- else
    obtain rfl : l.length = j := by omega
    rw [List.take_of_length_le (by rw [cutL_len]; exact Nat.le_refl _)] at hrow
    refine sw_exit (into ?_)
    refine sw_seq ?_
    refine sw_region ?_
    refine ow_val (val_move rfl) rfl ?_
    refine ow_call_tail (σ := Nat × List Ent) (fun q9 => .tuple #[vPtr q9.1, vInt ((0 : Nat) : Int)]) (fun q9 => q9.2) (fun q9 => TrOn 110 79 k q9.2 q9.1 []) (callsTo Tryd.func36 rfl (by kernel_rfl) rfl) rfl (fun w hm => new_tr k h1 h2 w) ?_
    rintro ⟨b36, es36⟩ htr36
    simp only at htr36 ⊢
    refine ow_val (val_move rfl) rfl ?_
    refine ow_val (val_extract rfl rfl) rfl ?_
    refine ow_val (val_extract rfl rfl) rfl ?_
    refine ow_val (val_assign rfl) rfl ?_
    refine ow_val (val_assign rfl) rfl ?_
    refine ow_nil (into ?_)
    refine sw_seq ?_
    refine sw_seq ?_
    refine sw_region ?_
    refine ow_val (val_move rfl) rfl ?_
    refine ow_val ((val_neq_int rfl rfl).to (v' := .bool false) (congrArg Value.bool (decide_eq_false (fun h => h (by simp))))) rfl ?_
    refine ow_val (val_move rfl) rfl ?_
    refine ow_guard_yes rfl rfl rfl ?_
    refine ow_val (val_move rfl) rfl ?_
    refine ow_guard_yes rfl rfl rfl ?_
    refine ow_val (val_eql_nilptr Tryd.underlying25 rfl rfl) rfl ?_
    refine ow_val (val_pick_false rfl rfl) rfl ?_
    refine ow_nil (into ?_)
    refine sw_false rfl rfl ?_
    refine sw_skip (into ?_)
    refine sw_seq ?_
    refine sw_region ?_
    refine ow_val (val_move rfl) rfl ?_
    refine ow_val (val_move rfl) rfl ?_
    refine ow_call_tail (σ := Nat × List Ent) (fun q9 => .tuple #[vPtr q9.1, vInt ((0 : Nat) : Int)]) (fun q9 => q9.2) (fun q9 => TrOn 110 79 k (es36 ++ q9.2) q9.1 (cutL k l)) (callsTo Tryd.func37 rfl (by kernel_rfl) rfl) rfl (fun w hm => (append_tr k h1 h2 w (hK.mem0 hm) es36 (hm.heldSub (.cons _ (List.Sublist.refl _))) b36 [] htr36 hn0 hn1 a7 l.length c7 (cutL k l) (cutL_len k l) hcl.1 (hrow.rdAt hm (i := 0) rfl) hrow.le (by omega) hcl.2 (by rw [hnn]; omega)).mono fun _ _ ⟨u, he, q9, hu, hi, hm'⟩ => ⟨u, he, q9, hu, hi.cast (List.nil_append _), hm'⟩) ?_
    rintro ⟨b49, es49⟩ htr49
    simp only at htr49 ⊢
    refine ow_val (val_move rfl) rfl ?_
    refine ow_val (val_extract rfl rfl) rfl ?_
    refine ow_val (val_extract rfl rfl) rfl ?_
    refine ow_val (val_assign rfl) rfl ?_
    refine ow_val (val_assign rfl) rfl ?_
    refine ow_nil (into ?_)
    refine sw_seq ?_
    refine sw_seq ?_
    refine sw_region ?_
    refine ow_val (val_move rfl) rfl ?_
    refine ow_val ((val_neq_int rfl rfl).to (v' := .bool false) (congrArg Value.bool (decide_eq_false (fun h => h (by simp))))) rfl ?_
    refine ow_nil (into ?_)
    refine sw_false rfl rfl ?_
    refine sw_skip (into ?_)
    refine sw_seq ?_
    refine sw_region ?_
    refine ow_val (val_move rfl) rfl ?_
    refine ow_val (val_move rfl) rfl ?_
    refine ow_val (val_assign rfl) rfl ?_
    refine ow_val (val_assign rfl) rfl ?_
    refine ow_val (val_assign rfl) rfl ?_
    refine ow_nil (into ?_)
    exact sw_ret (fun w hm => ret_ttt rfl rfl rfl rfl ⟨(b49, a7, c7, e7 :: (es36 ++ es49)), rfl, ⟨htr49.sub (.cons _ (List.Sublist.refl _)), fun w hh => hrow.held (hh.sub (.cons_cons _ (List.nil_sublist _))), hrow.le, fun h9 => rowAddr32 hrow h9⟩, hm⟩)

theorem tree_is (k : Nat) (h1 : 1 ≤ k) (h2 : k ≤ 32) (w : World) (hK : KW w) (a : Option Addr) (m c : Nat) (l : List (List UInt8)) (hlm : l.length = m) (hdl : ∀ d ∈ l, d.length = 32) (hr : Rd w a (l.flatMap fun d => d.map vU8)) (hc : m ≤ c) (hl : m < 9223372036854775808) (hb : m * 32 ≤ 140737488351232) {L : List (List UInt8)} (hL : cutL k l = L) : Calls Tryd.prog 15 #[vInt (k : Int), .slice a m c] w fun e w' => ∃ u, e = .returned u ∧ ∃ s : Nat × Option Addr × Nat × List Ent, u = .tuple #[vPtr s.1, .slice s.2.1 L.length s.2.2.1, .bool true] ∧ (TrOn 110 79 k s.2.2.2 s.1 L ∧ RdOn s.2.2.2 s.2.1 (L.flatMap fun d => d.map vU8) ∧ L.length ≤ s.2.2.1 ∧ (0 < L.length → ∃ b o, s.2.1 = some ⟨b, o, none⟩)) ∧ Mem w [] s.2.2.2 w' := by
  subst hlm; subst hL
  rw [cutL_len]; exact tree_0 k h1 h2 w hK a c l hdl hr hc hb
end Go.Proofs.YtcdponddgnkecaaDoor
