import Derived.Test.YtcdponddgnkecaaDoorMp8
import Derived.Test.YtcdponddgnkecaaDoorPMr
import Derived.Test.YtcdponddgnkecaaDoorProg
set_option linter.unusedVariables false
set_option linter.unusedSimpArgs false
namespace Go.Proofs.YtcdponddgnkecaaDoor
open Go.Sx Go.Ps
theorem cut_some {b o c k m : Nat} : Sx.cut (some ⟨b, o, none⟩) c k m = some ⟨b, if c = k then o else o + k * m, none⟩ := by
  unfold Sx.cut; split
  · rfl
  · simp [Addr.add]

theorem lnd_any (k : Nat) (h1 : 1 ≤ k) (h2 : k ≤ 32) (l r : List UInt8) (hll : l.length = 32) (hrl : r.length = 32) (hlf : fm (k : Int) l = true) (hrf : fm (k : Int) r = true) (w : World) (hK : KW w) : Calls Tryd.prog 56 #[vInt (k : Int), .agg ((l).map vU8).toArray, .agg ((r).map vU8).toArray] w fun e w' => ∃ v, e = .returned v ∧ v = .agg ((nd k l r).map vU8).toArray ∧ Mem w [] [] w' := by
  refine calls_of_sw (vs := [vInt (k : Int), .agg ((l).map vU8).toArray, .agg ((r).map vU8).toArray]) Tryd.func56 rfl Tryd.ntmps56 rfl (SW.begin ?_)
  refine sw_seq ?_
  refine sw_region ?_
  refine ow_new (acts_box rfl) rfl (fun b4 hb4 => ?_)   -- 4
  refine ow_new (acts_box rfl) rfl (fun b5 hb5 => ?_)   -- 5
  refine ow_new (acts_alloc zD) rfl (fun b6 hb6 => ?_)   -- 6
  refine ow_nil (into ?_)
  refine sw_seq ?_
  refine sw_region ?_
  refine ow_val (val_move rfl) rfl ?_   -- 10
  refine ow_val (val_load_all 2 rfl rfl Tryd.isAgg41 Tryd.sizeOf41 (by show (List.map vU8 l).length = _; rw [List.length_map]; exact hll)) rfl ?_   -- 11
  refine ow_val (val_load_all 1 rfl rfl Tryd.isAgg41 Tryd.sizeOf41 (by show (List.map vU8 r).length = _; rw [List.length_map]; exact hrl)) rfl ?_   -- 12
  refine ow_call_pure (v := .tuple #[.agg ((nd k l r).map vU8).toArray, vInt ((0 : Nat) : Int)]) (callsTo Tryd.func29 rfl (by kernel_rfl) rfl) rfl (fun w hm => (by have h := node_any w (hK.mem0 hm) (k : Int) l r hll hrl; rw [digO_node h1 h2 hlf hrf] at h; exact h)) ?_   -- 13
  refine ow_val (val_move rfl) rfl ?_   -- 9
  refine ow_val (val_extract rfl rfl) rfl ?_   -- 14
  refine ow_val (val_extract rfl rfl) rfl ?_   -- 15
  refine ow_new (acts_alloc zD) rfl (fun b7 hb7 => ?_)   -- 7
  refine ow_do_eq (does_store_all 0 rfl rfl rfl (one_u8s _) Tryd.sizeOf41 (by show (List.map vU8 (nd k l r)).length = _; rw [List.length_map]; exact (nd_len _ _ _ h2)) (by show (List.map vU8 zeros32).length = _; rw [List.length_map]; exact zeros32_len)) ?_
  refine ow_val (val_assign rfl) rfl ?_   -- 8
  refine ow_nil (into ?_)
  refine sw_seq ?_
  refine sw_seq ?_
  refine sw_region ?_
  refine ow_val (val_move rfl) rfl ?_   -- 16
  refine ow_val ((val_neq_int rfl rfl).to (v' := .bool false) (congrArg Value.bool (decide_eq_false (fun h => h (by simp))))) rfl ?_   -- 17
  refine ow_nil (into ?_)
  refine sw_false rfl rfl ?_
  refine sw_skip (into ?_)
  refine sw_seq ?_
  refine sw_region ?_
  refine ow_val (val_load_all 0 rfl rfl Tryd.isAgg41 Tryd.sizeOf41 (by show (List.map vU8 (nd k l r)).length = _; rw [List.length_map]; exact (nd_len _ _ _ h2))) rfl ?_   -- 19
  refine ow_do_eq (does_store_all 1 rfl rfl rfl (one_u8s _) Tryd.sizeOf41 (by show (List.map vU8 (nd k l r)).length = _; rw [List.length_map]; exact (nd_len _ _ _ h2)) (by show (List.map vU8 zeros32).length = _; rw [List.length_map]; exact zeros32_len)) ?_
  refine ow_nil (into ?_)
  exact sw_ret (fun w hm => ret_cell 1 rfl rfl hm rfl Tryd.isAgg41 Tryd.sizeOf41 (by rw [List.length_map]; exact nd_len _ _ _ h2) ⟨rfl, hm.forgetAll⟩)

theorem both_A (k : Nat) (h1 : 1 ≤ k) (h2 : k ≤ 32) (m n : UInt64) (o : List UInt8) (ho : o.length = 32) (hof : fm (k : Int) o = true) (w : World) (hK : KW w) (a : Option Addr) (c : Nat) (l : List (List UInt8)) (hdl : ∀ d ∈ l, d.length = 32) (hfl : ∀ d ∈ l, fm (k : Int) d = true) (hr : Rd w a (l.flatMap fun d => d.map vU8)) (hc : l.length ≤ c) (hb : l.length * 32 ≤ 140737488351232) (S : List (List UInt8)) (hSn : S.length = n.toNat) (hSd : ∀ d ∈ S, d.length = 32) (hSf : ∀ d ∈ S, fm (k : Int) d = true) (hm1 : 1 ≤ m.toNat) (hmn : m.toNat < n.toNat) (hQ : conL k S m.toNat true = l) (ho2 : lg k (S.take m.toNat) = o) (hp : ¬ m.toNat &&& (m.toNat - 1) = 0) : Calls Tryd.prog 27 #[vInt (k : Int), vU64 m, vU64 n, .agg ((o).map vU8).toArray, .slice a l.length c] w fun e w' => ∃ v, e = .returned v ∧ v = .tuple #[.agg ((o).map vU8).toArray, .agg ((lg k S).map vU8).toArray, .bool true] ∧ Mem w [] [] w' := by
  obtain ⟨tiD, hDi, hDz, hDsz, hDby⟩ := info_parts iDg
  have hm1' : (m - UInt64.ofNat (Int.toNat 1)).toNat = m.toNat - 1 := UInt64.toNat_sub_of_le _ _ (UInt64.le_iff_toNat_le.2 hm1)
  have hn1' : (n - UInt64.ofNat (Int.toNat 1)).toNat = n.toNat - 1 := UInt64.toNat_sub_of_le _ _ (UInt64.le_iff_toNat_le.2 (show 1 ≤ n.toNat by omega))
  have hpw : (m &&& (m - UInt64.ofNat (Int.toNat 1))).toNat = m.toNat &&& (m.toNat - 1) := by rw [UInt64.toNat_and, hm1']
  have hlp : 1 ≤ l.length := by rw [← hQ]; exact List.length_pos_iff.2 (conL_ne (by omega) (by omega))
  have hst := One.start (k := k) hSn hm1 hmn hSd hSf
  have hXd := hdl
  have hXf := hfl
  refine calls_of_sw (vs := [vInt (k : Int), vU64 m, vU64 n, .agg ((o).map vU8).toArray, .slice a l.length c]) Tryd.func27 rfl Tryd.ntmps27 rfl (SW.begin ?_)
  refine sw_seq ?_
  refine sw_region ?_
  refine ow_new (acts_box rfl) rfl (fun b8 hb8 => ?_)   -- 8
  refine ow_new (acts_alloc zD) rfl (fun b10 hb10 => ?_)   -- 10
  refine ow_new (acts_alloc zD) rfl (fun b11 hb11 => ?_)   -- 11
  refine ow_val (val_assign rfl) rfl ?_   -- 12
  refine ow_nil (into ?_)
  refine sw_seq ?_
  refine sw_seq ?_
  refine sw_region ?_
  refine ow_val (val_move rfl) rfl ?_   -- 19
  refine ow_val (val_move rfl) rfl ?_   -- 20
  refine ow_val (val_sub_u64 rfl rfl) rfl ?_   -- 21
  refine ow_val (val_and_u64 rfl rfl) rfl ?_   -- 22
  refine ow_val ((val_eql_u64 rfl rfl).to (congrArg Value.bool (decide_eq_false ((fun h => hp (hpw.symm.trans (congrArg UInt64.toNat h))))))) rfl ?_   -- 23
  refine ow_nil (into ?_)
  refine sw_false rfl rfl ?_
  refine sw_skip (into ?_)
  refine sw_seq ?_
  refine sw_seq ?_
  refine sw_region ?_
  refine ow_val (val_move rfl) rfl ?_   -- 28
  refine ow_val (val_len rfl Tryd.underlying22) rfl ?_   -- 29
  refine ow_val ((val_eql_int rfl rfl).to (congrArg Value.bool (decide_eq_false (by omega)))) rfl ?_   -- 30
  refine ow_nil (into ?_)
  refine sw_false rfl rfl ?_
  refine sw_skip (into ?_)
  refine sw_seq ?_
  refine sw_region ?_
  refine ow_val (val_move rfl) rfl ?_   -- 33
  refine ow_val (val_sub_u64 rfl rfl) rfl ?_   -- 34
  refine ow_val (val_move rfl) rfl ?_   -- 35
  refine ow_val (val_sub_u64 rfl rfl) rfl ?_   -- 36
  refine ow_val (val_assign rfl) rfl ?_   -- 13
  refine ow_val (val_assign rfl) rfl ?_   -- 14
  refine ow_nil (into ?_)
  refine sw_seq ?_
  refine sw_block ?_
  refine sw_loop (σ := UInt64 × UInt64 × List (List UInt8)) (fun t => One k S m.toNat t.2.2 t.1.toNat t.2.1.toNat) (fun t => [(14, vU64 t.2.1), (13, vU64 t.1), (4, .slice a l.length c), (11, .pointer (some ⟨b11, 0, none⟩)), (10, .pointer (some ⟨b10, 0, none⟩)), (0, vInt (k : Int))]) (fun _ => Mem w [] [some (b11, blk (zeros32.map vU8) 41), some (b10, blk (zeros32.map vU8) 41)]) (fun t => t.1.toNat) (m - UInt64.ofNat (Int.toNat 1), n - UInt64.ofNat (Int.toNat 1), S) (by rw [hm1', hn1']; exact hst) ⟨rfl, rfl, rfl, rfl, rfl, rfl, trivial⟩ (fun w hm => hm.only (.cons_cons _ (.cons_cons _ (List.nil_sublist _)))) ?_
  rintro ⟨f, s, Lv⟩ hone
  simp only at hone ⊢
  have hlv := hone.lv
  have hlt := hone.lt
  have hfq : (f / UInt64.ofNat (Int.toNat 2)).toNat = f.toNat / 2 := UInt64.toNat_div _ _
  have hsq : (s / UInt64.ofNat (Int.toNat 2)).toNat = s.toNat / 2 := UInt64.toNat_div _ _
  have hfm : (f % UInt64.ofNat (Int.toNat 2)).toNat = f.toNat % 2 := UInt64.toNat_mod _ _
  refine sw_seq ?_
  refine sw_seq ?_
  refine sw_region ?_
  refine ow_val (val_move rfl) rfl ?_   -- 37
  refine ow_val (val_rem_u64 rfl rfl (by decide)) rfl ?_   -- 38
  refine ow_val (val_eql_u64 rfl rfl) rfl ?_   -- 39
  refine ow_nil (into ?_)
  refine sw_if rfl (fun h0 => ?_) (fun h0 => ?_)
  · -- then
    have hf1 : f.toNat % 2 = 1 := hfm.symm.trans (congrArg UInt64.toNat h0)
    refine sw_skip (into ?_)
    refine sw_block ?_
    refine sw_region ?_
    refine ow_val (val_move rfl) rfl ?_   -- 40
    refine ow_val (val_quo_u64 rfl rfl (by decide)) rfl ?_   -- 41
    refine ow_val (val_move rfl) rfl ?_   -- 42
    refine ow_val (val_quo_u64 rfl rfl (by decide)) rfl ?_   -- 43
    refine ow_val (val_assign rfl) rfl ?_   -- 13
    refine ow_val (val_assign rfl) rfl ?_   -- 14
    exact ow_nil (fun w hm => ⟨(f / UInt64.ofNat (Int.toNat 2), s / UInt64.ofNat (Int.toNat 2), upL k Lv), by dsimp only; rw [hfq, hsq]; exact hone.step h1 h2 hf1, by dsimp only; rw [hfq]; omega, ⟨rfl, rfl, rfl, rfl, rfl, rfl, trivial⟩, hm.only (.cons_cons _ (.cons_cons _ (List.nil_sublist _)))⟩)
  · -- else
    have hf0 : f.toNat % 2 = 0 := by
      have h9 : ¬ f.toNat % 2 = 1 := fun h => h0 (UInt64.toNat.inj (hfm.trans (h.trans (show 1 = (UInt64.ofNat (Int.toNat 1)).toNat from rfl))))
      omega
    have htw := hone.two hf0
    rw [ho2] at htw
    obtain ⟨R, hR⟩ : ∃ R, incL k Lv f.toNat = R := ⟨_, rfl⟩
    rw [hR] at htw
    have hPR : l = Lv.getD f.toNat default :: R := by rw [← hR]; exact hQ.symm.trans (hone.no hf0 hp)
    have hRn : l.length = R.length + 1 := by rw [hPR]; rfl
    have hRd : ∀ d ∈ R, d.length = 32 := fun d hd => hXd d (by rw [hPR]; exact List.mem_cons_of_mem _ hd)
    have hRf : ∀ d ∈ R, fm (k : Int) d = true := fun d hd => hXf d (by rw [hPR]; exact List.mem_cons_of_mem _ hd)
    obtain ⟨bp, op, rfl⟩ := hr.addr (by rw [flatMap_size' rfl hdl]; omega)
    obtain ⟨o9, ho9⟩ : ∃ z, (if c = 1 then op else op + 1 * 32) = z := ⟨_, rfl⟩
    have rdR : ∀ {w : World}, Rd w (some ⟨bp, op, none⟩) (l.flatMap fun d => d.map vU8) → Rd w (some ⟨bp, o9, none⟩) (R.flatMap fun d => d.map vU8) := fun h => by
      have h7 := rdCutD h hXd hc (k := 1)
      rw [hPR, cut_some, ho9] at h7; exact h7
    have hg0 : l.getD 0 default = Lv.getD f.toNat default := by rw [hPR]; rfl
    have hg1 : (Lv.take (f.toNat + 1)).getD f.toNat default = Lv.getD f.toNat default := getD_take' (by omega)
    refine sw_exit (into ?_)
    refine sw_seq ?_
    refine sw_region_tree (Mem w [] [some (b11, blk (zeros32.map vU8) 41), some (b10, blk (zeros32.map vU8) 41)]) [] (.one 0 0 (.one 1 0 (.one 3 0 (.one 4 0 (.one 2 1 (.one 5 1 (.alt 6 (.one 7 2 (.one 8 2 (.one 9 2 .done))) (.alt 7 (.one 6 2 (.one 8 2 (.one 9 2 .done))) .stop)))))))) (by kernel_rfl) (by kernel_rfl) (fun _ _ _ h => h) (fun _ h => h.only (.cons_cons _ (.cons_cons _ (List.nil_sublist _)))) (fun _ h => h.drawn _) ?_
    refine lt_pure rfl trivial (val_move rfl) rfl ?_   -- 44
    refine lt_pure rfl trivial (val_indexAddr_slice (0) (op) rfl rfl Tryd.underlying22 Tryd.sizeOf41 (by omega) (by omega) (by omega)) rfl ?_   -- 45
    refine lt_pure rfl trivial (val_move rfl) rfl ?_   -- 47
    refine lt_pure rfl trivial (val_indexAddr_slice (0) (op) rfl rfl Tryd.underlying22 Tryd.sizeOf41 (by omega) (by omega) (by omega)) rfl ?_   -- 48
    refine lt_held rfl trivial (val_load_elem (cells := fun d => d.map vU8) (l := l) (o := op) (i := 0) rfl Tryd.isAgg41 Tryd.sizeOf41 (fun x hx => by rw [List.length_map]; exact hXd x hx) (by omega) (by omega) (fun w' hm => hr.mem hm)) rfl ?_   -- 46
    refine lt_held rfl trivial (val_load_elem (cells := fun d => d.map vU8) (l := l) (o := op) (i := 0) rfl Tryd.isAgg41 Tryd.sizeOf41 (fun x hx => by rw [List.length_map]; exact hXd x hx) (by omega) (by omega) (fun w' hm => hr.mem hm)) rfl ?_   -- 49
    refine lt_alt ?_ ?_
    · -- first 6
      refine lt_make (fun b => .pointer (some ⟨b, 0, none⟩)) rfl trivial (acts_alloc zD) rfl (fun _ _ _ h => h.only (.cons _ (.cons_cons _ (.cons_cons _ (List.nil_sublist _))))) (fun b15 hb15 => ?_)   -- 15
      refine lt_make (fun b => .pointer (some ⟨b, 0, none⟩)) rfl trivial (acts_alloc zD) rfl (fun _ _ _ h => h.only (.cons _ (.cons _ (.cons_cons _ (.cons_cons _ (List.nil_sublist _)))))) (fun b16 hb16 => ?_)   -- 16
      refine lt_do rfl trivial (does_store_all 1 rfl rfl rfl (one_u8s _) Tryd.sizeOf41 (by show (List.map vU8 (l.getD 0 default)).length = _; rw [List.length_map]; exact (hXd _ (getD_mem (by omega)))) (by show (List.map vU8 zeros32).length = _; rw [List.length_map]; exact zeros32_len)) (fun _ _ _ _ h => h.only (.cons _ (.cons _ (.cons_cons _ (.cons_cons _ (List.nil_sublist _)))))) (fun _ _ => ?_)
      refine lt_do rfl trivial (does_store_all 0 rfl rfl rfl (one_u8s _) Tryd.sizeOf41 (by show (List.map vU8 (l.getD 0 default)).length = _; rw [List.length_map]; exact (hXd _ (getD_mem (by omega)))) (by show (List.map vU8 zeros32).length = _; rw [List.length_map]; exact zeros32_len)) (fun _ _ _ _ h => h.only (.cons _ (.cons _ (.cons_cons _ (.cons_cons _ (List.nil_sublist _)))))) (fun _ _ => ?_)
      refine lt_done (into ?_)
      refine sw_seq ?_
      refine sw_seq ?_
      refine sw_region ?_
      refine ow_val (val_move rfl) rfl ?_   -- 50
      refine ow_val ((val_slice_lo 1 rfl rfl Tryd.underlying22 Tryd.sizeOf41 rfl (by omega) (by have h9 := hc; omega)).to (v' := .slice (some ⟨bp, o9, none⟩) R.length (c - 1)) (by rw [ho9, show l.length - 1 = R.length by omega])) rfl ?_   -- 51
      refine ow_val (val_len rfl Tryd.underlying22) rfl ?_   -- 52
      refine ow_val (val_move rfl) rfl ?_   -- 53
      refine ow_nil (into ?_)
      refine sw_block ?_
      refine sw_loop (σ := UInt64 × UInt64 × Nat × List (List UInt8) × List (List UInt8)) (fun t => Two k (lg k S) o R t.2.2.1 t.2.2.2.1 t.2.2.2.2 t.1.toNat t.2.1.toNat) (fun t => [(53, vInt (t.2.2.1 : Int)), (52, vInt (R.length : Int)), (51, .slice (some ⟨bp, o9, none⟩) R.length (c - 1)), (14, vU64 t.2.1), (13, vU64 t.1), (16, .pointer (some ⟨b16, 0, none⟩)), (15, .pointer (some ⟨b15, 0, none⟩)), (11, .pointer (some ⟨b11, 0, none⟩)), (10, .pointer (some ⟨b10, 0, none⟩)), (0, vInt (k : Int))]) (fun t => Mem w [] [some (b16, blk ((t.2.2.2.1.getD t.1.toNat default).map vU8) 41), some (b15, blk ((t.2.2.2.2.getD t.1.toNat default).map vU8) 41), some (b11, blk (zeros32.map vU8) 41), some (b10, blk (zeros32.map vU8) 41)]) (fun t => R.length - t.2.2.1) (f, s, 0, Lv, Lv.take (f.toNat + 1)) htw ⟨rfl, rfl, rfl, rfl, rfl, rfl, rfl, rfl, rfl, rfl, trivial⟩ (fun w hm => by dsimp only; rw [hg1, ← hg0]; exact hm.only (.cons_cons _ (.cons_cons _ (.cons_cons _ (.cons_cons _ (List.nil_sublist _)))))) ?_
      clear htw hone hPR hg0 hg1 hR hlv hlt hfq hsq hfm hf0
      clear h0
      rintro ⟨f, s, q, Lv, Ov⟩ htw
      simp only at htw ⊢
      have hle := htw.le
      have hqP := htw.qP
      have hfq : (f / UInt64.ofNat (Int.toNat 2)).toNat = f.toNat / 2 := UInt64.toNat_div _ _
      have hsq : (s / UInt64.ofNat (Int.toNat 2)).toNat = s.toNat / 2 := UInt64.toNat_div _ _
      have hfm : (f % UInt64.ofNat (Int.toNat 2)).toNat = f.toNat % 2 := UInt64.toNat_mod _ _
      refine sw_seq ?_
      refine sw_region ?_
      refine ow_val (val_lss_int rfl rfl) rfl ?_   -- 54
      refine ow_nil (into ?_)
      refine sw_seq ?_
      refine sw_if rfl (fun h0q => ?_) (fun h0q => ?_)
      · -- then
        refine sw_skip (into ?_)
        refine sw_seq ?_
        refine sw_block ?_
        refine sw_seq ?_
        refine sw_region ?_
        refine ow_val (val_indexAddr_slice (q) (o9 + q * 32) rfl rfl Tryd.underlying22 Tryd.sizeOf41 (by omega) (by omega) (by omega)) rfl ?_   -- 55
        refine ow_val (val_load_elem (cells := fun d => d.map vU8) (l := R) (o := o9) (i := q) rfl Tryd.isAgg41 Tryd.sizeOf41 (fun x hx => by rw [List.length_map]; exact hRd x hx) (by omega) (by omega) (fun w' hm => rdR (hr.mem hm))) rfl ?_   -- 56
        refine ow_new (acts_alloc zD) rfl (fun b18 hb18 => ?_)   -- 18
        refine ow_do_eq (does_store_all 0 rfl rfl rfl (one_u8s _) Tryd.sizeOf41 (by show (List.map vU8 (R.getD q default)).length = _; rw [List.length_map]; exact (hRd _ (getD_mem (by omega)))) (by show (List.map vU8 zeros32).length = _; rw [List.length_map]; exact zeros32_len)) ?_
        refine ow_nil (into ?_)
        refine sw_seq ?_
        refine sw_seq ?_
        refine sw_region ?_
        refine ow_val (val_move rfl) rfl ?_   -- 57
        refine ow_val ((val_eql_u64 rfl rfl).to (congrArg Value.bool (decide_eq_false ((fun h => absurd (congrArg UInt64.toNat h) (by have h9 := htw.pos (by omega); show ¬ s.toNat = 0; omega)))))) rfl ?_   -- 58
        refine ow_nil (into ?_)
        refine sw_false rfl rfl ?_
        refine sw_skip (into ?_)
        refine sw_seq ?_
        refine sw_seq ?_
        rcases (show f.toNat % 2 = 1 ∨ (f.toNat % 2 = 0 ∧ f.toNat = s.toNat) ∨ (f.toNat % 2 = 0 ∧ f.toNat < s.toNat) by omega) with hp1 | ⟨hp1, hp2⟩ | ⟨hp1, hp2⟩
        · -- case
          obtain ⟨a0, ha0⟩ : ∃ z, Ov.getD f.toNat default = z := ⟨_, rfl⟩
          obtain ⟨b0, hb0⟩ : ∃ z, Lv.getD f.toNat default = z := ⟨_, rfl⟩
          rw [ha0, hb0]
          have ha0l : a0.length = 32 := by rw [← ha0]; exact htw.od _ (getD_mem (by rw [htw.ov]; omega))
          have ha0f : fm (k : Int) a0 = true := by rw [← ha0]; exact htw.og _ (getD_mem (by rw [htw.ov]; omega))
          have hb0l : b0.length = 32 := by rw [← hb0]; exact htw.ld _ (getD_mem (by rw [htw.lv]; omega))
          have hb0f : fm (k : Int) b0 = true := by rw [← hb0]; exact htw.lf _ (getD_mem (by rw [htw.lv]; omega))
          refine sw_region ?_
          refine ow_val (val_move rfl) rfl ?_   -- 61
          refine ow_val (val_rem_u64 rfl rfl (by decide)) rfl ?_   -- 62
          refine ow_val ((val_eql_u64 rfl rfl).to (congrArg Value.bool (decide_eq_true ((UInt64.toNat.inj (hfm.trans (hp1.trans (show 1 = (UInt64.ofNat (Int.toNat 1)).toNat from rfl)))))))) rfl ?_   -- 63
          refine ow_val (val_move rfl) rfl ?_   -- 64
          first | refine ow_guard_no rfl rfl rfl rfl rfl ?_ | refine ow_guard_none rfl rfl rfl rfl rfl ?_
          first | refine ow_guard_no rfl rfl rfl rfl rfl ?_ | refine ow_guard_none rfl rfl rfl rfl rfl ?_
          first | refine ow_guard_no rfl rfl rfl rfl rfl ?_ | refine ow_guard_none rfl rfl rfl rfl rfl ?_
          refine ow_val (val_pick_true rfl rfl) rfl ?_   -- 68
          refine ow_nil (into ?_)
          refine sw_true rfl rfl ?_
          refine sw_seq ?_
          refine sw_region_lex _ [8, 9] [(0, 0), (4, 0), (1, 1), (2, 1), (5, 1), (6, 1), (3, 2), (7, 2), (8, 2), (9, 2)] (by kernel_rfl) (by kernel_rfl) (fun _ _ _ h => h) (fun _ h => h) (fun _ h => h.drawn _) ?_
          refine lw_pure rfl (val_move rfl) rfl ?_   -- 69
          refine lw_pure rfl (val_move rfl) rfl ?_   -- 73
          refine lw_held rfl (val_load_all 0 rfl rfl Tryd.isAgg41 Tryd.sizeOf41 (by show (List.map vU8 (R.getD q default)).length = _; rw [List.length_map]; exact (hRd _ (getD_mem (by omega))))) rfl ?_   -- 70
          refine lw_held rfl (val_load_all 2 rfl rfl Tryd.isAgg41 Tryd.sizeOf41 (by show (List.map vU8 a0).length = _; rw [List.length_map]; exact ha0l)) rfl ?_   -- 71
          refine lw_held rfl (val_load_all 0 rfl rfl Tryd.isAgg41 Tryd.sizeOf41 (by show (List.map vU8 (R.getD q default)).length = _; rw [List.length_map]; exact (hRd _ (getD_mem (by omega))))) rfl ?_   -- 74
          refine lw_held rfl (val_load_all 1 rfl rfl Tryd.isAgg41 Tryd.sizeOf41 (by show (List.map vU8 b0).length = _; rw [List.length_map]; exact hb0l)) rfl ?_   -- 75
          refine lw_call_pure (v := .agg ((nd k (R.getD q default) a0).map vU8).toArray) rfl (callsTo Tryd.func56 rfl (by kernel_rfl) rfl) rfl (fun w hm => lnd_any k h1 h2 (R.getD q default) a0 (hRd _ (getD_mem (by omega))) ha0l (hRf _ (getD_mem (by omega))) ha0f w (hK.mem0 hm)) ?_   -- 72
          refine lw_call_pure (v := .agg ((nd k (R.getD q default) b0).map vU8).toArray) rfl (callsTo Tryd.func56 rfl (by kernel_rfl) rfl) rfl (fun w hm => lnd_any k h1 h2 (R.getD q default) b0 (hRd _ (getD_mem (by omega))) hb0l (hRf _ (getD_mem (by omega))) hb0f w (hK.mem0 hm)) ?_   -- 76
          refine lw_do rfl (does_store_all 2 rfl rfl rfl (one_u8s _) Tryd.sizeOf41 (by show (List.map vU8 (nd k (R.getD q default) a0)).length = _; rw [List.length_map]; exact (nd_len _ _ _ h2)) (by show (List.map vU8 a0).length = _; rw [List.length_map]; exact ha0l)) (fun h => nomatch h) (fun _ _ => ?_)
          refine lw_do rfl (does_store_all 1 rfl rfl rfl (one_u8s _) Tryd.sizeOf41 (by show (List.map vU8 (nd k (R.getD q default) b0)).length = _; rw [List.length_map]; exact (nd_len _ _ _ h2)) (by show (List.map vU8 b0).length = _; rw [List.length_map]; exact hb0l)) (fun h => nomatch h) (fun _ _ => ?_)
          refine lw_nil (into ?_)
          refine sw_block ?_
          refine sw_loop (σ := UInt64 × UInt64 × List (List UInt8) × List (List UInt8)) (fun t => Two k (lg k S) o R q t.2.2.1 t.2.2.2 t.1.toNat t.2.1.toNat ∧ t.2.2.1.getD t.1.toNat default = b0 ∧ t.2.2.2.getD t.1.toNat default = a0 ∧ (t.1.toNat % 2 = 0 → t.1.toNat = t.2.1.toNat ∧ 0 < t.1.toNat)) (fun t => [(14, vU64 t.2.1), (13, vU64 t.1), (53, vInt (q : Int)), (52, vInt (R.length : Int)), (51, .slice (some ⟨bp, o9, none⟩) R.length (c - 1)), (16, .pointer (some ⟨b16, 0, none⟩)), (15, .pointer (some ⟨b15, 0, none⟩)), (11, .pointer (some ⟨b11, 0, none⟩)), (10, .pointer (some ⟨b10, 0, none⟩)), (0, vInt (k : Int))]) (fun _ => Mem w [] [some (b16, blk ((nd k (R.getD q default) b0).map vU8) 41), some (b15, blk ((nd k (R.getD q default) a0).map vU8) 41), some (b11, blk (zeros32.map vU8) 41), some (b10, blk (zeros32.map vU8) 41)]) (fun t => t.1.toNat) (f, s, Lv, Ov) ⟨htw, hb0, ha0, fun h => absurd (show f.toNat % 2 = 0 from h) (by omega)⟩ ⟨rfl, rfl, rfl, rfl, rfl, rfl, rfl, rfl, rfl, rfl, trivial⟩ (fun w hm => hm.only (.cons _ (.cons_cons _ (.cons_cons _ (.cons_cons _ (.cons_cons _ (List.nil_sublist _))))))) ?_
          clear htw hb0 ha0 hfq hsq hfm hle hp1
          rintro ⟨f, s, Lv, Ov⟩ ⟨htw, hb0, ha0, hen⟩
          simp only at htw hb0 ha0 hen ⊢
          have hle := htw.le
          have hfq : (f / UInt64.ofNat (Int.toNat 2)).toNat = f.toNat / 2 := UInt64.toNat_div _ _
          have hsq : (s / UInt64.ofNat (Int.toNat 2)).toNat = s.toNat / 2 := UInt64.toNat_div _ _
          have hfm : (f % UInt64.ofNat (Int.toNat 2)).toNat = f.toNat % 2 := UInt64.toNat_mod _ _
          refine sw_seq ?_
          refine sw_seq ?_
          by_cases hp3 : f.toNat % 2 = 0
          · -- case
            refine sw_region ?_
            refine ow_val (val_move rfl) rfl ?_   -- 77
            refine ow_val (val_rem_u64 rfl rfl (by decide)) rfl ?_   -- 78
            refine ow_val ((val_eql_u64 rfl rfl).to (congrArg Value.bool (decide_eq_true ((UInt64.toNat.inj (hfm.trans (hp3.trans (show 0 = (UInt64.ofNat (Int.toNat 0)).toNat from rfl)))))))) rfl ?_   -- 79
            refine ow_val (val_move rfl) rfl ?_   -- 80
            refine ow_guard_yes rfl rfl rfl ?_
            refine ow_val (val_move rfl) rfl ?_   -- 81
            refine ow_guard_yes rfl rfl rfl ?_
            refine ow_val ((val_gtr_u64 rfl rfl).to (congrArg Value.bool (decide_eq_true ((UInt64.lt_iff_toNat_lt.2 (show (UInt64.ofNat (Int.toNat 0)).toNat < f.toNat from (hen hp3).2)))))) rfl ?_   -- 82
            refine ow_val (val_pick_true rfl rfl) rfl ?_   -- 83
            refine ow_nil (into ?_)
            refine sw_true rfl rfl ?_
            refine sw_skip (into ?_)
            refine sw_block ?_
            refine sw_region ?_
            refine ow_val (val_move rfl) rfl ?_   -- 84
            refine ow_val (val_quo_u64 rfl rfl (by decide)) rfl ?_   -- 85
            refine ow_val (val_move rfl) rfl ?_   -- 86
            refine ow_val (val_quo_u64 rfl rfl (by decide)) rfl ?_   -- 87
            refine ow_val (val_assign rfl) rfl ?_   -- 13
            refine ow_val (val_assign rfl) rfl ?_   -- 14
            exact ow_nil (fun w hm => ⟨(f / UInt64.ofNat (Int.toNat 2), s / UInt64.ofNat (Int.toNat 2), upL k Lv, upL k Ov), ⟨by dsimp only; rw [hfq, hsq]; exact (htw.skip h1 h2 hp3 (hen hp3).1 (hen hp3).2).1, by dsimp only; rw [hfq, (htw.skip h1 h2 hp3 (hen hp3).1 (hen hp3).2).2.1]; exact hb0, by dsimp only; rw [hfq, (htw.skip h1 h2 hp3 (hen hp3).1 (hen hp3).2).2.2]; exact ha0, fun _ => by dsimp only; rw [hfq, hsq]; have h9 := hen hp3; omega⟩, by dsimp only; rw [hfq]; have h9 := hen hp3; omega, ⟨rfl, rfl, rfl, rfl, rfl, rfl, rfl, rfl, rfl, rfl, trivial⟩, hm.only (.cons_cons _ (.cons_cons _ (.cons_cons _ (.cons_cons _ (List.nil_sublist _)))))⟩)
          · -- case
            have hTo' := htw.odd h1 h2 (by omega)
            rw [hb0, ha0] at hTo'
            have hTo := hTo'
            refine sw_region ?_
            refine ow_val (val_move rfl) rfl ?_   -- 77
            refine ow_val (val_rem_u64 rfl rfl (by decide)) rfl ?_   -- 78
            refine ow_val ((val_eql_u64 rfl rfl).to (congrArg Value.bool (decide_eq_false ((fun h => hp3 (hfm.symm.trans (congrArg UInt64.toNat h))))))) rfl ?_   -- 79
            refine ow_val (val_move rfl) rfl ?_   -- 80
            first | refine ow_guard_no rfl rfl rfl rfl rfl ?_ | refine ow_guard_none rfl rfl rfl rfl rfl ?_
            first | refine ow_guard_no rfl rfl rfl rfl rfl ?_ | refine ow_guard_none rfl rfl rfl rfl rfl ?_
            refine ow_val (val_pick_false rfl rfl) rfl ?_   -- 83
            refine ow_nil (into ?_)
            refine sw_false rfl rfl ?_
            refine sw_exit (into ?_)
            refine sw_region ?_
            refine ow_val (val_move rfl) rfl ?_   -- 92
            refine ow_val (val_quo_u64 rfl rfl (by decide)) rfl ?_   -- 93
            refine ow_val (val_move rfl) rfl ?_   -- 94
            refine ow_val (val_quo_u64 rfl rfl (by decide)) rfl ?_   -- 95
            refine ow_val (val_assign rfl) rfl ?_   -- 13
            refine ow_val (val_assign rfl) rfl ?_   -- 14
            refine ow_nil (into ?_)
            refine sw_region ?_
            refine ow_val (val_add_int ((q + 1 : Nat) : Int) rfl rfl (by omega) (by omega)) rfl ?_   -- 96
            refine ow_val (val_move rfl) rfl ?_   -- 53
            exact ow_nil (fun w hm => ⟨(f / UInt64.ofNat (Int.toNat 2), s / UInt64.ofNat (Int.toNat 2), q + 1, upL k Lv, upL k Ov), by dsimp only; rw [hfq, hsq]; exact hTo.1, by dsimp only; omega, ⟨rfl, rfl, rfl, rfl, rfl, rfl, rfl, rfl, rfl, rfl, trivial⟩, by dsimp only; rw [hfq, hTo.2.1, hTo.2.2]; exact hm.only (.cons_cons _ (.cons_cons _ (.cons_cons _ (.cons_cons _ (List.nil_sublist _)))))⟩)
        · -- case
          obtain ⟨a0, ha0⟩ : ∃ z, Ov.getD f.toNat default = z := ⟨_, rfl⟩
          obtain ⟨b0, hb0⟩ : ∃ z, Lv.getD f.toNat default = z := ⟨_, rfl⟩
          rw [ha0, hb0]
          have ha0l : a0.length = 32 := by rw [← ha0]; exact htw.od _ (getD_mem (by rw [htw.ov]; omega))
          have ha0f : fm (k : Int) a0 = true := by rw [← ha0]; exact htw.og _ (getD_mem (by rw [htw.ov]; omega))
          have hb0l : b0.length = 32 := by rw [← hb0]; exact htw.ld _ (getD_mem (by rw [htw.lv]; omega))
          have hb0f : fm (k : Int) b0 = true := by rw [← hb0]; exact htw.lf _ (getD_mem (by rw [htw.lv]; omega))
          refine sw_region ?_
          refine ow_val (val_move rfl) rfl ?_   -- 61
          refine ow_val (val_rem_u64 rfl rfl (by decide)) rfl ?_   -- 62
          refine ow_val ((val_eql_u64 rfl rfl).to (congrArg Value.bool (decide_eq_false ((fun h => absurd (hfm.symm.trans (congrArg UInt64.toNat h)) (by rw [hp1]; decide)))))) rfl ?_   -- 63
          refine ow_val (val_move rfl) rfl ?_   -- 64
          refine ow_guard_yes rfl rfl rfl ?_
          refine ow_val (val_move rfl) rfl ?_   -- 65
          refine ow_guard_yes rfl rfl rfl ?_
          refine ow_val (val_move rfl) rfl ?_   -- 66
          refine ow_guard_yes rfl rfl rfl ?_
          refine ow_val ((val_eql_u64 rfl rfl).to (congrArg Value.bool (decide_eq_true ((UInt64.toNat.inj hp2))))) rfl ?_   -- 67
          refine ow_val (val_pick_false rfl rfl) rfl ?_   -- 68
          refine ow_nil (into ?_)
          refine sw_true rfl rfl ?_
          refine sw_seq ?_
          refine sw_region_lex _ [8, 9] [(0, 0), (4, 0), (1, 1), (2, 1), (5, 1), (6, 1), (3, 2), (7, 2), (8, 2), (9, 2)] (by kernel_rfl) (by kernel_rfl) (fun _ _ _ h => h) (fun _ h => h) (fun _ h => h.drawn _) ?_
          refine lw_pure rfl (val_move rfl) rfl ?_   -- 69
          refine lw_pure rfl (val_move rfl) rfl ?_   -- 73
          refine lw_held rfl (val_load_all 0 rfl rfl Tryd.isAgg41 Tryd.sizeOf41 (by show (List.map vU8 (R.getD q default)).length = _; rw [List.length_map]; exact (hRd _ (getD_mem (by omega))))) rfl ?_   -- 70
          refine lw_held rfl (val_load_all 2 rfl rfl Tryd.isAgg41 Tryd.sizeOf41 (by show (List.map vU8 a0).length = _; rw [List.length_map]; exact ha0l)) rfl ?_   -- 71
          refine lw_held rfl (val_load_all 0 rfl rfl Tryd.isAgg41 Tryd.sizeOf41 (by show (List.map vU8 (R.getD q default)).length = _; rw [List.length_map]; exact (hRd _ (getD_mem (by omega))))) rfl ?_   -- 74
          refine lw_held rfl (val_load_all 1 rfl rfl Tryd.isAgg41 Tryd.sizeOf41 (by show (List.map vU8 b0).length = _; rw [List.length_map]; exact hb0l)) rfl ?_   -- 75
          refine lw_call_pure (v := .agg ((nd k (R.getD q default) a0).map vU8).toArray) rfl (callsTo Tryd.func56 rfl (by kernel_rfl) rfl) rfl (fun w hm => lnd_any k h1 h2 (R.getD q default) a0 (hRd _ (getD_mem (by omega))) ha0l (hRf _ (getD_mem (by omega))) ha0f w (hK.mem0 hm)) ?_   -- 72
          refine lw_call_pure (v := .agg ((nd k (R.getD q default) b0).map vU8).toArray) rfl (callsTo Tryd.func56 rfl (by kernel_rfl) rfl) rfl (fun w hm => lnd_any k h1 h2 (R.getD q default) b0 (hRd _ (getD_mem (by omega))) hb0l (hRf _ (getD_mem (by omega))) hb0f w (hK.mem0 hm)) ?_   -- 76
          refine lw_do rfl (does_store_all 2 rfl rfl rfl (one_u8s _) Tryd.sizeOf41 (by show (List.map vU8 (nd k (R.getD q default) a0)).length = _; rw [List.length_map]; exact (nd_len _ _ _ h2)) (by show (List.map vU8 a0).length = _; rw [List.length_map]; exact ha0l)) (fun h => nomatch h) (fun _ _ => ?_)
          refine lw_do rfl (does_store_all 1 rfl rfl rfl (one_u8s _) Tryd.sizeOf41 (by show (List.map vU8 (nd k (R.getD q default) b0)).length = _; rw [List.length_map]; exact (nd_len _ _ _ h2)) (by show (List.map vU8 b0).length = _; rw [List.length_map]; exact hb0l)) (fun h => nomatch h) (fun _ _ => ?_)
          refine lw_nil (into ?_)
          refine sw_block ?_
          refine sw_loop (σ := UInt64 × UInt64 × List (List UInt8) × List (List UInt8)) (fun t => Two k (lg k S) o R q t.2.2.1 t.2.2.2 t.1.toNat t.2.1.toNat ∧ t.2.2.1.getD t.1.toNat default = b0 ∧ t.2.2.2.getD t.1.toNat default = a0 ∧ (t.1.toNat % 2 = 0 → t.1.toNat = t.2.1.toNat ∧ 0 < t.1.toNat)) (fun t => [(14, vU64 t.2.1), (13, vU64 t.1), (53, vInt (q : Int)), (52, vInt (R.length : Int)), (51, .slice (some ⟨bp, o9, none⟩) R.length (c - 1)), (16, .pointer (some ⟨b16, 0, none⟩)), (15, .pointer (some ⟨b15, 0, none⟩)), (11, .pointer (some ⟨b11, 0, none⟩)), (10, .pointer (some ⟨b10, 0, none⟩)), (0, vInt (k : Int))]) (fun _ => Mem w [] [some (b16, blk ((nd k (R.getD q default) b0).map vU8) 41), some (b15, blk ((nd k (R.getD q default) a0).map vU8) 41), some (b11, blk (zeros32.map vU8) 41), some (b10, blk (zeros32.map vU8) 41)]) (fun t => t.1.toNat) (f, s, Lv, Ov) ⟨htw, hb0, ha0, fun _ => ⟨hp2, by have h9 := htw.pos (by omega); show 0 < f.toNat; omega⟩⟩ ⟨rfl, rfl, rfl, rfl, rfl, rfl, rfl, rfl, rfl, rfl, trivial⟩ (fun w hm => hm.only (.cons _ (.cons_cons _ (.cons_cons _ (.cons_cons _ (.cons_cons _ (List.nil_sublist _))))))) ?_
          clear htw hb0 ha0 hfq hsq hfm hle hp1
          rintro ⟨f, s, Lv, Ov⟩ ⟨htw, hb0, ha0, hen⟩
          simp only at htw hb0 ha0 hen ⊢
          have hle := htw.le
          have hfq : (f / UInt64.ofNat (Int.toNat 2)).toNat = f.toNat / 2 := UInt64.toNat_div _ _
          have hsq : (s / UInt64.ofNat (Int.toNat 2)).toNat = s.toNat / 2 := UInt64.toNat_div _ _
          have hfm : (f % UInt64.ofNat (Int.toNat 2)).toNat = f.toNat % 2 := UInt64.toNat_mod _ _
          refine sw_seq ?_
          refine sw_seq ?_
          by_cases hp3 : f.toNat % 2 = 0
          · -- case
            refine sw_region ?_
            refine ow_val (val_move rfl) rfl ?_   -- 77
            refine ow_val (val_rem_u64 rfl rfl (by decide)) rfl ?_   -- 78
            refine ow_val ((val_eql_u64 rfl rfl).to (congrArg Value.bool (decide_eq_true ((UInt64.toNat.inj (hfm.trans (hp3.trans (show 0 = (UInt64.ofNat (Int.toNat 0)).toNat from rfl)))))))) rfl ?_   -- 79
            refine ow_val (val_move rfl) rfl ?_   -- 80
            refine ow_guard_yes rfl rfl rfl ?_
            refine ow_val (val_move rfl) rfl ?_   -- 81
            refine ow_guard_yes rfl rfl rfl ?_
            refine ow_val ((val_gtr_u64 rfl rfl).to (congrArg Value.bool (decide_eq_true ((UInt64.lt_iff_toNat_lt.2 (show (UInt64.ofNat (Int.toNat 0)).toNat < f.toNat from (hen hp3).2)))))) rfl ?_   -- 82
            refine ow_val (val_pick_true rfl rfl) rfl ?_   -- 83
            refine ow_nil (into ?_)
            refine sw_true rfl rfl ?_
            refine sw_skip (into ?_)
            refine sw_block ?_
            refine sw_region ?_
            refine ow_val (val_move rfl) rfl ?_   -- 84
            refine ow_val (val_quo_u64 rfl rfl (by decide)) rfl ?_   -- 85
            refine ow_val (val_move rfl) rfl ?_   -- 86
            refine ow_val (val_quo_u64 rfl rfl (by decide)) rfl ?_   -- 87
            refine ow_val (val_assign rfl) rfl ?_   -- 13
            refine ow_val (val_assign rfl) rfl ?_   -- 14
            exact ow_nil (fun w hm => ⟨(f / UInt64.ofNat (Int.toNat 2), s / UInt64.ofNat (Int.toNat 2), upL k Lv, upL k Ov), ⟨by dsimp only; rw [hfq, hsq]; exact (htw.skip h1 h2 hp3 (hen hp3).1 (hen hp3).2).1, by dsimp only; rw [hfq, (htw.skip h1 h2 hp3 (hen hp3).1 (hen hp3).2).2.1]; exact hb0, by dsimp only; rw [hfq, (htw.skip h1 h2 hp3 (hen hp3).1 (hen hp3).2).2.2]; exact ha0, fun _ => by dsimp only; rw [hfq, hsq]; have h9 := hen hp3; omega⟩, by dsimp only; rw [hfq]; have h9 := hen hp3; omega, ⟨rfl, rfl, rfl, rfl, rfl, rfl, rfl, rfl, rfl, rfl, trivial⟩, hm.only (.cons_cons _ (.cons_cons _ (.cons_cons _ (.cons_cons _ (List.nil_sublist _)))))⟩)
          · -- case
            have hTo' := htw.odd h1 h2 (by omega)
            rw [hb0, ha0] at hTo'
            have hTo := hTo'
            refine sw_region ?_
            refine ow_val (val_move rfl) rfl ?_   -- 77
            refine ow_val (val_rem_u64 rfl rfl (by decide)) rfl ?_   -- 78
            refine ow_val ((val_eql_u64 rfl rfl).to (congrArg Value.bool (decide_eq_false ((fun h => hp3 (hfm.symm.trans (congrArg UInt64.toNat h))))))) rfl ?_   -- 79
            refine ow_val (val_move rfl) rfl ?_   -- 80
            first | refine ow_guard_no rfl rfl rfl rfl rfl ?_ | refine ow_guard_none rfl rfl rfl rfl rfl ?_
            first | refine ow_guard_no rfl rfl rfl rfl rfl ?_ | refine ow_guard_none rfl rfl rfl rfl rfl ?_
            refine ow_val (val_pick_false rfl rfl) rfl ?_   -- 83
            refine ow_nil (into ?_)
            refine sw_false rfl rfl ?_
            refine sw_exit (into ?_)
            refine sw_region ?_
            refine ow_val (val_move rfl) rfl ?_   -- 92
            refine ow_val (val_quo_u64 rfl rfl (by decide)) rfl ?_   -- 93
            refine ow_val (val_move rfl) rfl ?_   -- 94
            refine ow_val (val_quo_u64 rfl rfl (by decide)) rfl ?_   -- 95
            refine ow_val (val_assign rfl) rfl ?_   -- 13
            refine ow_val (val_assign rfl) rfl ?_   -- 14
            refine ow_nil (into ?_)
            refine sw_region ?_
            refine ow_val (val_add_int ((q + 1 : Nat) : Int) rfl rfl (by omega) (by omega)) rfl ?_   -- 96
            refine ow_val (val_move rfl) rfl ?_   -- 53
            exact ow_nil (fun w hm => ⟨(f / UInt64.ofNat (Int.toNat 2), s / UInt64.ofNat (Int.toNat 2), q + 1, upL k Lv, upL k Ov), by dsimp only; rw [hfq, hsq]; exact hTo.1, by dsimp only; omega, ⟨rfl, rfl, rfl, rfl, rfl, rfl, rfl, rfl, rfl, rfl, trivial⟩, by dsimp only; rw [hfq, hTo.2.1, hTo.2.2]; exact hm.only (.cons_cons _ (.cons_cons _ (.cons_cons _ (.cons_cons _ (List.nil_sublist _)))))⟩)
        · -- case
          have hTe := htw.even h1 h2 hp1 hp2
          refine sw_region ?_
          refine ow_val (val_move rfl) rfl ?_   -- 61
          refine ow_val (val_rem_u64 rfl rfl (by decide)) rfl ?_   -- 62
          refine ow_val ((val_eql_u64 rfl rfl).to (congrArg Value.bool (decide_eq_false ((fun h => absurd (hfm.symm.trans (congrArg UInt64.toNat h)) (by rw [hp1]; decide)))))) rfl ?_   -- 63
          refine ow_val (val_move rfl) rfl ?_   -- 64
          refine ow_guard_yes rfl rfl rfl ?_
          refine ow_val (val_move rfl) rfl ?_   -- 65
          refine ow_guard_yes rfl rfl rfl ?_
          refine ow_val (val_move rfl) rfl ?_   -- 66
          refine ow_guard_yes rfl rfl rfl ?_
          refine ow_val ((val_eql_u64 rfl rfl).to (congrArg Value.bool (decide_eq_false ((fun h => absurd (congrArg UInt64.toNat h) (by omega)))))) rfl ?_   -- 67
          refine ow_val (val_pick_false rfl rfl) rfl ?_   -- 68
          refine ow_nil (into ?_)
          refine sw_false rfl rfl ?_
          refine sw_region ?_
          refine ow_val (val_move rfl) rfl ?_   -- 88
          refine ow_val (val_load_all 1 rfl rfl Tryd.isAgg41 Tryd.sizeOf41 (by show (List.map vU8 (Lv.getD f.toNat default)).length = _; rw [List.length_map]; exact (htw.ld _ (getD_mem (by rw [htw.lv]; omega))))) rfl ?_   -- 89
          refine ow_val (val_load_all 0 rfl rfl Tryd.isAgg41 Tryd.sizeOf41 (by show (List.map vU8 (R.getD q default)).length = _; rw [List.length_map]; exact (hRd _ (getD_mem (by omega))))) rfl ?_   -- 90
          refine ow_call_pure (v := .agg ((nd k (Lv.getD f.toNat default) (R.getD q default)).map vU8).toArray) (callsTo Tryd.func56 rfl (by kernel_rfl) rfl) rfl (fun w hm => lnd_any k h1 h2 (Lv.getD f.toNat default) (R.getD q default) (htw.ld _ (getD_mem (by rw [htw.lv]; omega))) (hRd _ (getD_mem (by omega))) (htw.lf _ (getD_mem (by rw [htw.lv]; omega))) (hRf _ (getD_mem (by omega))) w (hK.mem0 hm)) ?_   -- 91
          refine ow_do_eq (does_store_all 1 rfl rfl rfl (one_u8s _) Tryd.sizeOf41 (by show (List.map vU8 (nd k (Lv.getD f.toNat default) (R.getD q default))).length = _; rw [List.length_map]; exact (nd_len _ _ _ h2)) (by show (List.map vU8 (Lv.getD f.toNat default)).length = _; rw [List.length_map]; exact (htw.ld _ (getD_mem (by rw [htw.lv]; omega))))) ?_
          refine ow_nil (into ?_)
          refine sw_region ?_
          refine ow_val (val_move rfl) rfl ?_   -- 92
          refine ow_val (val_quo_u64 rfl rfl (by decide)) rfl ?_   -- 93
          refine ow_val (val_move rfl) rfl ?_   -- 94
          refine ow_val (val_quo_u64 rfl rfl (by decide)) rfl ?_   -- 95
          refine ow_val (val_assign rfl) rfl ?_   -- 13
          refine ow_val (val_assign rfl) rfl ?_   -- 14
          refine ow_nil (into ?_)
          refine sw_region ?_
          refine ow_val (val_add_int ((q + 1 : Nat) : Int) rfl rfl (by omega) (by omega)) rfl ?_   -- 96
          refine ow_val (val_move rfl) rfl ?_   -- 53
          exact ow_nil (fun w hm => ⟨(f / UInt64.ofNat (Int.toNat 2), s / UInt64.ofNat (Int.toNat 2), q + 1, upL k Lv, upL k Ov), by dsimp only; rw [hfq, hsq]; exact hTe.1, by dsimp only; omega, ⟨rfl, rfl, rfl, rfl, rfl, rfl, rfl, rfl, rfl, rfl, trivial⟩, by dsimp only; rw [hfq, hTe.2.1, hTe.2.2]; exact hm.only (.cons _ (.cons_cons _ (.cons_cons _ (.cons_cons _ (.cons_cons _ (List.nil_sublist _))))))⟩)
      · -- else
        have hfin := htw.fin (by omega)
        refine sw_exit (into ?_)
        refine sw_seq ?_
        refine sw_region_tree _ [4, 5] (.one 2 0 (.one 3 0 (.one 0 1 (.alt 1 (.one 4 2 (.one 5 2 (.one 6 0 .done))) (.alt 4 (.one 1 2 (.one 5 2 (.one 6 0 .done))) .stop))))) (by kernel_rfl) (by kernel_rfl) (fun _ _ _ h => h) (fun _ h => h) (fun _ h => h.drawn _) ?_
        refine lt_pure rfl trivial (val_move rfl) rfl ?_   -- 99
        refine lt_pure rfl trivial ((val_eql_u64 rfl rfl).to (congrArg Value.bool (decide_eq_true ((UInt64.toNat.inj (hfin.1.trans (show 0 = (UInt64.ofNat (Int.toNat 0)).toNat from rfl))))))) rfl ?_   -- 100
        refine lt_held rfl trivial (val_load_all 1 rfl rfl Tryd.isAgg41 Tryd.sizeOf41 (by show (List.map vU8 (Ov.getD f.toNat default)).length = _; rw [List.length_map]; exact (htw.od _ (getD_mem (by rw [htw.ov]; omega))))) rfl ?_   -- 97
        refine lt_alt ?_ ?_
        · -- first 1
          refine lt_val rfl trivial (val_load_all 0 rfl rfl Tryd.isAgg41 Tryd.sizeOf41 (by show (List.map vU8 (Lv.getD f.toNat default)).length = _; rw [List.length_map]; exact (htw.ld _ (getD_mem (by rw [htw.lv]; omega))))) rfl (fun _ _ h => h) ?_   -- 98
          refine lt_do rfl trivial (does_store_all 3 rfl rfl rfl (one_u8s _) Tryd.sizeOf41 (by show (List.map vU8 (Ov.getD f.toNat default)).length = _; rw [List.length_map]; exact (htw.od _ (getD_mem (by rw [htw.ov]; omega)))) (by show (List.map vU8 zeros32).length = _; rw [List.length_map]; exact zeros32_len)) (fun h => nomatch h) (fun _ _ => ?_)
          refine lt_do rfl trivial (does_store_all 2 rfl rfl rfl (one_u8s _) Tryd.sizeOf41 (by show (List.map vU8 (Lv.getD f.toNat default)).length = _; rw [List.length_map]; exact (htw.ld _ (getD_mem (by rw [htw.lv]; omega)))) (by show (List.map vU8 zeros32).length = _; rw [List.length_map]; exact zeros32_len)) (fun h => nomatch h) (fun _ _ => ?_)
          refine lt_pure rfl trivial (val_assign rfl) rfl ?_   -- 12
          refine lt_done (into ?_)
          refine sw_ret (fun w hm => ?_)
          try dsimp only [thenP, blockP, Nat.beq, cond]
          exact ret_cct 2 3 rfl rfl rfl rfl hm rfl rfl Tryd.isAgg41 Tryd.sizeOf41 Tryd.isAgg41 Tryd.sizeOf41 (by show (List.map vU8 (Ov.getD f.toNat default)).length = _; rw [List.length_map]; exact (htw.od _ (getD_mem (by rw [htw.ov]; omega)))) (by show (List.map vU8 (Lv.getD f.toNat default)).length = _; rw [List.length_map]; exact (htw.ld _ (getD_mem (by rw [htw.lv]; omega)))) ⟨by rw [hfin.2.1, hfin.2.2] <;> rfl, hm.forgetAll⟩
        refine lt_alt ?_ ?_
        · -- first 4
          refine lt_do rfl trivial (does_store_all 3 rfl rfl rfl (one_u8s _) Tryd.sizeOf41 (by show (List.map vU8 (Ov.getD f.toNat default)).length = _; rw [List.length_map]; exact (htw.od _ (getD_mem (by rw [htw.ov]; omega)))) (by show (List.map vU8 zeros32).length = _; rw [List.length_map]; exact zeros32_len)) (fun h => nomatch h) (fun _ _ => ?_)
          refine lt_val rfl trivial (val_load_all 0 rfl rfl Tryd.isAgg41 Tryd.sizeOf41 (by show (List.map vU8 (Lv.getD f.toNat default)).length = _; rw [List.length_map]; exact (htw.ld _ (getD_mem (by rw [htw.lv]; omega))))) rfl (fun h => nomatch h) ?_   -- 98
          refine lt_do rfl trivial (does_store_all 2 rfl rfl rfl (one_u8s _) Tryd.sizeOf41 (by show (List.map vU8 (Lv.getD f.toNat default)).length = _; rw [List.length_map]; exact (htw.ld _ (getD_mem (by rw [htw.lv]; omega)))) (by show (List.map vU8 zeros32).length = _; rw [List.length_map]; exact zeros32_len)) (fun h => nomatch h) (fun _ _ => ?_)
          refine lt_pure rfl trivial (val_assign rfl) rfl ?_   -- 12
          refine lt_done (into ?_)
          refine sw_ret (fun w hm => ?_)
          try dsimp only [thenP, blockP, Nat.beq, cond]
          exact ret_cct 2 3 rfl rfl rfl rfl hm rfl rfl Tryd.isAgg41 Tryd.sizeOf41 Tryd.isAgg41 Tryd.sizeOf41 (by show (List.map vU8 (Ov.getD f.toNat default)).length = _; rw [List.length_map]; exact (htw.od _ (getD_mem (by rw [htw.ov]; omega)))) (by show (List.map vU8 (Lv.getD f.toNat default)).length = _; rw [List.length_map]; exact (htw.ld _ (getD_mem (by rw [htw.lv]; omega)))) ⟨by rw [hfin.2.1, hfin.2.2] <;> rfl, hm.forgetAll⟩
        exact lt_stop
    refine lt_alt ?_ ?_
    · -- first 7
      refine lt_make (fun b => .pointer (some ⟨b, 0, none⟩)) rfl trivial (acts_alloc zD) rfl (fun _ _ _ h => h.only (.cons _ (.cons_cons _ (.cons_cons _ (List.nil_sublist _))))) (fun b16 hb16 => ?_)   -- 16
      refine lt_make (fun b => .pointer (some ⟨b, 0, none⟩)) rfl trivial (acts_alloc zD) rfl (fun _ _ _ h => h.only (.cons _ (.cons _ (.cons_cons _ (.cons_cons _ (List.nil_sublist _)))))) (fun b15 hb15 => ?_)   -- 15
      refine lt_do rfl trivial (does_store_all 0 rfl rfl rfl (one_u8s _) Tryd.sizeOf41 (by show (List.map vU8 (l.getD 0 default)).length = _; rw [List.length_map]; exact (hXd _ (getD_mem (by omega)))) (by show (List.map vU8 zeros32).length = _; rw [List.length_map]; exact zeros32_len)) (fun _ _ _ _ h => h.only (.cons _ (.cons _ (.cons_cons _ (.cons_cons _ (List.nil_sublist _)))))) (fun _ _ => ?_)
      refine lt_do rfl trivial (does_store_all 1 rfl rfl rfl (one_u8s _) Tryd.sizeOf41 (by show (List.map vU8 (l.getD 0 default)).length = _; rw [List.length_map]; exact (hXd _ (getD_mem (by omega)))) (by show (List.map vU8 zeros32).length = _; rw [List.length_map]; exact zeros32_len)) (fun _ _ _ _ h => h.only (.cons _ (.cons _ (.cons_cons _ (.cons_cons _ (List.nil_sublist _)))))) (fun _ _ => ?_)
      refine lt_done (into ?_)
      refine sw_seq ?_
      refine sw_seq ?_
      refine sw_region ?_
      refine ow_val (val_move rfl) rfl ?_   -- 50
      refine ow_val ((val_slice_lo 1 rfl rfl Tryd.underlying22 Tryd.sizeOf41 rfl (by omega) (by have h9 := hc; omega)).to (v' := .slice (some ⟨bp, o9, none⟩) R.length (c - 1)) (by rw [ho9, show l.length - 1 = R.length by omega])) rfl ?_   -- 51
      refine ow_val (val_len rfl Tryd.underlying22) rfl ?_   -- 52
      refine ow_val (val_move rfl) rfl ?_   -- 53
      refine ow_nil (into ?_)
      refine sw_block ?_
      refine sw_loop (σ := UInt64 × UInt64 × Nat × List (List UInt8) × List (List UInt8)) (fun t => Two k (lg k S) o R t.2.2.1 t.2.2.2.1 t.2.2.2.2 t.1.toNat t.2.1.toNat) (fun t => [(53, vInt (t.2.2.1 : Int)), (52, vInt (R.length : Int)), (51, .slice (some ⟨bp, o9, none⟩) R.length (c - 1)), (14, vU64 t.2.1), (13, vU64 t.1), (16, .pointer (some ⟨b16, 0, none⟩)), (15, .pointer (some ⟨b15, 0, none⟩)), (11, .pointer (some ⟨b11, 0, none⟩)), (10, .pointer (some ⟨b10, 0, none⟩)), (0, vInt (k : Int))]) (fun t => Mem w [] [some (b16, blk ((t.2.2.2.1.getD t.1.toNat default).map vU8) 41), some (b15, blk ((t.2.2.2.2.getD t.1.toNat default).map vU8) 41), some (b11, blk (zeros32.map vU8) 41), some (b10, blk (zeros32.map vU8) 41)]) (fun t => R.length - t.2.2.1) (f, s, 0, Lv, Lv.take (f.toNat + 1)) htw ⟨rfl, rfl, rfl, rfl, rfl, rfl, rfl, rfl, rfl, rfl, trivial⟩ (fun w hm => by dsimp only; rw [hg1, ← hg0]; exact (hm.only (.cons_cons _ (.cons_cons _ (.cons_cons _ (.cons_cons _ (List.nil_sublist _)))))).perm (List.Perm.swap _ _ _)) ?_
      clear htw hone hPR hg0 hg1 hR hlv hlt hfq hsq hfm hf0
      clear h0
      rintro ⟨f, s, q, Lv, Ov⟩ htw
      simp only at htw ⊢
      have hle := htw.le
      have hqP := htw.qP
      have hfq : (f / UInt64.ofNat (Int.toNat 2)).toNat = f.toNat / 2 := UInt64.toNat_div _ _
      have hsq : (s / UInt64.ofNat (Int.toNat 2)).toNat = s.toNat / 2 := UInt64.toNat_div _ _
      have hfm : (f % UInt64.ofNat (Int.toNat 2)).toNat = f.toNat % 2 := UInt64.toNat_mod _ _
      refine sw_seq ?_
      refine sw_region ?_
      refine ow_val (val_lss_int rfl rfl) rfl ?_   -- 54
      refine ow_nil (into ?_)
      refine sw_seq ?_
      refine sw_if rfl (fun h0q => ?_) (fun h0q => ?_)
      · -- then
        refine sw_skip (into ?_)
        refine sw_seq ?_
        refine sw_block ?_
        refine sw_seq ?_
        refine sw_region ?_
        refine ow_val (val_indexAddr_slice (q) (o9 + q * 32) rfl rfl Tryd.underlying22 Tryd.sizeOf41 (by omega) (by omega) (by omega)) rfl ?_   -- 55
        refine ow_val (val_load_elem (cells := fun d => d.map vU8) (l := R) (o := o9) (i := q) rfl Tryd.isAgg41 Tryd.sizeOf41 (fun x hx => by rw [List.length_map]; exact hRd x hx) (by omega) (by omega) (fun w' hm => rdR (hr.mem hm))) rfl ?_   -- 56
        refine ow_new (acts_alloc zD) rfl (fun b18 hb18 => ?_)   -- 18
        refine ow_do_eq (does_store_all 0 rfl rfl rfl (one_u8s _) Tryd.sizeOf41 (by show (List.map vU8 (R.getD q default)).length = _; rw [List.length_map]; exact (hRd _ (getD_mem (by omega)))) (by show (List.map vU8 zeros32).length = _; rw [List.length_map]; exact zeros32_len)) ?_
        refine ow_nil (into ?_)
        refine sw_seq ?_
        refine sw_seq ?_
        refine sw_region ?_
        refine ow_val (val_move rfl) rfl ?_   -- 57
        refine ow_val ((val_eql_u64 rfl rfl).to (congrArg Value.bool (decide_eq_false ((fun h => absurd (congrArg UInt64.toNat h) (by have h9 := htw.pos (by omega); show ¬ s.toNat = 0; omega)))))) rfl ?_   -- 58
        refine ow_nil (into ?_)
        refine sw_false rfl rfl ?_
        refine sw_skip (into ?_)
        refine sw_seq ?_
        refine sw_seq ?_
        rcases (show f.toNat % 2 = 1 ∨ (f.toNat % 2 = 0 ∧ f.toNat = s.toNat) ∨ (f.toNat % 2 = 0 ∧ f.toNat < s.toNat) by omega) with hp1 | ⟨hp1, hp2⟩ | ⟨hp1, hp2⟩
        · -- case
          obtain ⟨a0, ha0⟩ : ∃ z, Ov.getD f.toNat default = z := ⟨_, rfl⟩
          obtain ⟨b0, hb0⟩ : ∃ z, Lv.getD f.toNat default = z := ⟨_, rfl⟩
          rw [ha0, hb0]
          have ha0l : a0.length = 32 := by rw [← ha0]; exact htw.od _ (getD_mem (by rw [htw.ov]; omega))
          have ha0f : fm (k : Int) a0 = true := by rw [← ha0]; exact htw.og _ (getD_mem (by rw [htw.ov]; omega))
          have hb0l : b0.length = 32 := by rw [← hb0]; exact htw.ld _ (getD_mem (by rw [htw.lv]; omega))
          have hb0f : fm (k : Int) b0 = true := by rw [← hb0]; exact htw.lf _ (getD_mem (by rw [htw.lv]; omega))
          refine sw_region ?_
          refine ow_val (val_move rfl) rfl ?_   -- 61
          refine ow_val (val_rem_u64 rfl rfl (by decide)) rfl ?_   -- 62
          refine ow_val ((val_eql_u64 rfl rfl).to (congrArg Value.bool (decide_eq_true ((UInt64.toNat.inj (hfm.trans (hp1.trans (show 1 = (UInt64.ofNat (Int.toNat 1)).toNat from rfl)))))))) rfl ?_   -- 63
          refine ow_val (val_move rfl) rfl ?_   -- 64
          first | refine ow_guard_no rfl rfl rfl rfl rfl ?_ | refine ow_guard_none rfl rfl rfl rfl rfl ?_
          first | refine ow_guard_no rfl rfl rfl rfl rfl ?_ | refine ow_guard_none rfl rfl rfl rfl rfl ?_
          first | refine ow_guard_no rfl rfl rfl rfl rfl ?_ | refine ow_guard_none rfl rfl rfl rfl rfl ?_
          refine ow_val (val_pick_true rfl rfl) rfl ?_   -- 68
          refine ow_nil (into ?_)
          refine sw_true rfl rfl ?_
          refine sw_seq ?_
          refine sw_region_lex _ [8, 9] [(0, 0), (4, 0), (1, 1), (2, 1), (5, 1), (6, 1), (3, 2), (7, 2), (8, 2), (9, 2)] (by kernel_rfl) (by kernel_rfl) (fun _ _ _ h => h) (fun _ h => h) (fun _ h => h.drawn _) ?_
          refine lw_pure rfl (val_move rfl) rfl ?_   -- 69
          refine lw_pure rfl (val_move rfl) rfl ?_   -- 73
          refine lw_held rfl (val_load_all 0 rfl rfl Tryd.isAgg41 Tryd.sizeOf41 (by show (List.map vU8 (R.getD q default)).length = _; rw [List.length_map]; exact (hRd _ (getD_mem (by omega))))) rfl ?_   -- 70
          refine lw_held rfl (val_load_all 2 rfl rfl Tryd.isAgg41 Tryd.sizeOf41 (by show (List.map vU8 a0).length = _; rw [List.length_map]; exact ha0l)) rfl ?_   -- 71
          refine lw_held rfl (val_load_all 0 rfl rfl Tryd.isAgg41 Tryd.sizeOf41 (by show (List.map vU8 (R.getD q default)).length = _; rw [List.length_map]; exact (hRd _ (getD_mem (by omega))))) rfl ?_   -- 74
          refine lw_held rfl (val_load_all 1 rfl rfl Tryd.isAgg41 Tryd.sizeOf41 (by show (List.map vU8 b0).length = _; rw [List.length_map]; exact hb0l)) rfl ?_   -- 75
          refine lw_call_pure (v := .agg ((nd k (R.getD q default) a0).map vU8).toArray) rfl (callsTo Tryd.func56 rfl (by kernel_rfl) rfl) rfl (fun w hm => lnd_any k h1 h2 (R.getD q default) a0 (hRd _ (getD_mem (by omega))) ha0l (hRf _ (getD_mem (by omega))) ha0f w (hK.mem0 hm)) ?_   -- 72
          refine lw_call_pure (v := .agg ((nd k (R.getD q default) b0).map vU8).toArray) rfl (callsTo Tryd.func56 rfl (by kernel_rfl) rfl) rfl (fun w hm => lnd_any k h1 h2 (R.getD q default) b0 (hRd _ (getD_mem (by omega))) hb0l (hRf _ (getD_mem (by omega))) hb0f w (hK.mem0 hm)) ?_   -- 76
          refine lw_do rfl (does_store_all 2 rfl rfl rfl (one_u8s _) Tryd.sizeOf41 (by show (List.map vU8 (nd k (R.getD q default) a0)).length = _; rw [List.length_map]; exact (nd_len _ _ _ h2)) (by show (List.map vU8 a0).length = _; rw [List.length_map]; exact ha0l)) (fun h => nomatch h) (fun _ _ => ?_)
          refine lw_do rfl (does_store_all 1 rfl rfl rfl (one_u8s _) Tryd.sizeOf41 (by show (List.map vU8 (nd k (R.getD q default) b0)).length = _; rw [List.length_map]; exact (nd_len _ _ _ h2)) (by show (List.map vU8 b0).length = _; rw [List.length_map]; exact hb0l)) (fun h => nomatch h) (fun _ _ => ?_)
          refine lw_nil (into ?_)
          refine sw_block ?_
          refine sw_loop (σ := UInt64 × UInt64 × List (List UInt8) × List (List UInt8)) (fun t => Two k (lg k S) o R q t.2.2.1 t.2.2.2 t.1.toNat t.2.1.toNat ∧ t.2.2.1.getD t.1.toNat default = b0 ∧ t.2.2.2.getD t.1.toNat default = a0 ∧ (t.1.toNat % 2 = 0 → t.1.toNat = t.2.1.toNat ∧ 0 < t.1.toNat)) (fun t => [(14, vU64 t.2.1), (13, vU64 t.1), (53, vInt (q : Int)), (52, vInt (R.length : Int)), (51, .slice (some ⟨bp, o9, none⟩) R.length (c - 1)), (16, .pointer (some ⟨b16, 0, none⟩)), (15, .pointer (some ⟨b15, 0, none⟩)), (11, .pointer (some ⟨b11, 0, none⟩)), (10, .pointer (some ⟨b10, 0, none⟩)), (0, vInt (k : Int))]) (fun _ => Mem w [] [some (b16, blk ((nd k (R.getD q default) b0).map vU8) 41), some (b15, blk ((nd k (R.getD q default) a0).map vU8) 41), some (b11, blk (zeros32.map vU8) 41), some (b10, blk (zeros32.map vU8) 41)]) (fun t => t.1.toNat) (f, s, Lv, Ov) ⟨htw, hb0, ha0, fun h => absurd (show f.toNat % 2 = 0 from h) (by omega)⟩ ⟨rfl, rfl, rfl, rfl, rfl, rfl, rfl, rfl, rfl, rfl, trivial⟩ (fun w hm => hm.only (.cons _ (.cons_cons _ (.cons_cons _ (.cons_cons _ (.cons_cons _ (List.nil_sublist _))))))) ?_
          clear htw hb0 ha0 hfq hsq hfm hle hp1
          rintro ⟨f, s, Lv, Ov⟩ ⟨htw, hb0, ha0, hen⟩
          simp only at htw hb0 ha0 hen ⊢
          have hle := htw.le
          have hfq : (f / UInt64.ofNat (Int.toNat 2)).toNat = f.toNat / 2 := UInt64.toNat_div _ _
          have hsq : (s / UInt64.ofNat (Int.toNat 2)).toNat = s.toNat / 2 := UInt64.toNat_div _ _
          have hfm : (f % UInt64.ofNat (Int.toNat 2)).toNat = f.toNat % 2 := UInt64.toNat_mod _ _
          refine sw_seq ?_
          refine sw_seq ?_
          by_cases hp3 : f.toNat % 2 = 0
          · -- case
            refine sw_region ?_
            refine ow_val (val_move rfl) rfl ?_   -- 77
            refine ow_val (val_rem_u64 rfl rfl (by decide)) rfl ?_   -- 78
            refine ow_val ((val_eql_u64 rfl rfl).to (congrArg Value.bool (decide_eq_true ((UInt64.toNat.inj (hfm.trans (hp3.trans (show 0 = (UInt64.ofNat (Int.toNat 0)).toNat from rfl)))))))) rfl ?_   -- 79
            refine ow_val (val_move rfl) rfl ?_   -- 80
            refine ow_guard_yes rfl rfl rfl ?_
            refine ow_val (val_move rfl) rfl ?_   -- 81
            refine ow_guard_yes rfl rfl rfl ?_
            refine ow_val ((val_gtr_u64 rfl rfl).to (congrArg Value.bool (decide_eq_true ((UInt64.lt_iff_toNat_lt.2 (show (UInt64.ofNat (Int.toNat 0)).toNat < f.toNat from (hen hp3).2)))))) rfl ?_   -- 82
            refine ow_val (val_pick_true rfl rfl) rfl ?_   -- 83
            refine ow_nil (into ?_)
            refine sw_true rfl rfl ?_
            refine sw_skip (into ?_)
            refine sw_block ?_
            refine sw_region ?_
            refine ow_val (val_move rfl) rfl ?_   -- 84
            refine ow_val (val_quo_u64 rfl rfl (by decide)) rfl ?_   -- 85
            refine ow_val (val_move rfl) rfl ?_   -- 86
            refine ow_val (val_quo_u64 rfl rfl (by decide)) rfl ?_   -- 87
            refine ow_val (val_assign rfl) rfl ?_   -- 13
            refine ow_val (val_assign rfl) rfl ?_   -- 14
            exact ow_nil (fun w hm => ⟨(f / UInt64.ofNat (Int.toNat 2), s / UInt64.ofNat (Int.toNat 2), upL k Lv, upL k Ov), ⟨by dsimp only; rw [hfq, hsq]; exact (htw.skip h1 h2 hp3 (hen hp3).1 (hen hp3).2).1, by dsimp only; rw [hfq, (htw.skip h1 h2 hp3 (hen hp3).1 (hen hp3).2).2.1]; exact hb0, by dsimp only; rw [hfq, (htw.skip h1 h2 hp3 (hen hp3).1 (hen hp3).2).2.2]; exact ha0, fun _ => by dsimp only; rw [hfq, hsq]; have h9 := hen hp3; omega⟩, by dsimp only; rw [hfq]; have h9 := hen hp3; omega, ⟨rfl, rfl, rfl, rfl, rfl, rfl, rfl, rfl, rfl, rfl, trivial⟩, hm.only (.cons_cons _ (.cons_cons _ (.cons_cons _ (.cons_cons _ (List.nil_sublist _)))))⟩)
          · -- case
            have hTo' := htw.odd h1 h2 (by omega)
            rw [hb0, ha0] at hTo'
            have hTo := hTo'
            refine sw_region ?_
            refine ow_val (val_move rfl) rfl ?_   -- 77
            refine ow_val (val_rem_u64 rfl rfl (by decide)) rfl ?_   -- 78
            refine ow_val ((val_eql_u64 rfl rfl).to (congrArg Value.bool (decide_eq_false ((fun h => hp3 (hfm.symm.trans (congrArg UInt64.toNat h))))))) rfl ?_   -- 79
            refine ow_val (val_move rfl) rfl ?_   -- 80
            first | refine ow_guard_no rfl rfl rfl rfl rfl ?_ | refine ow_guard_none rfl rfl rfl rfl rfl ?_
            first | refine ow_guard_no rfl rfl rfl rfl rfl ?_ | refine ow_guard_none rfl rfl rfl rfl rfl ?_
            refine ow_val (val_pick_false rfl rfl) rfl ?_   -- 83
            refine ow_nil (into ?_)
            refine sw_false rfl rfl ?_
            refine sw_exit (into ?_)
            refine sw_region ?_
            refine ow_val (val_move rfl) rfl ?_   -- 92
            refine ow_val (val_quo_u64 rfl rfl (by decide)) rfl ?_   -- 93
            refine ow_val (val_move rfl) rfl ?_   -- 94
            refine ow_val (val_quo_u64 rfl rfl (by decide)) rfl ?_   -- 95
            refine ow_val (val_assign rfl) rfl ?_   -- 13
            refine ow_val (val_assign rfl) rfl ?_   -- 14
            refine ow_nil (into ?_)
            refine sw_region ?_
            refine ow_val (val_add_int ((q + 1 : Nat) : Int) rfl rfl (by omega) (by omega)) rfl ?_   -- 96
            refine ow_val (val_move rfl) rfl ?_   -- 53
            exact ow_nil (fun w hm => ⟨(f / UInt64.ofNat (Int.toNat 2), s / UInt64.ofNat (Int.toNat 2), q + 1, upL k Lv, upL k Ov), by dsimp only; rw [hfq, hsq]; exact hTo.1, by dsimp only; omega, ⟨rfl, rfl, rfl, rfl, rfl, rfl, rfl, rfl, rfl, rfl, trivial⟩, by dsimp only; rw [hfq, hTo.2.1, hTo.2.2]; exact hm.only (.cons_cons _ (.cons_cons _ (.cons_cons _ (.cons_cons _ (List.nil_sublist _)))))⟩)
        · -- case
          obtain ⟨a0, ha0⟩ : ∃ z, Ov.getD f.toNat default = z := ⟨_, rfl⟩
          obtain ⟨b0, hb0⟩ : ∃ z, Lv.getD f.toNat default = z := ⟨_, rfl⟩
          rw [ha0, hb0]
          have ha0l : a0.length = 32 := by rw [← ha0]; exact htw.od _ (getD_mem (by rw [htw.ov]; omega))
          have ha0f : fm (k : Int) a0 = true := by rw [← ha0]; exact htw.og _ (getD_mem (by rw [htw.ov]; omega))
          have hb0l : b0.length = 32 := by rw [← hb0]; exact htw.ld _ (getD_mem (by rw [htw.lv]; omega))
          have hb0f : fm (k : Int) b0 = true := by rw [← hb0]; exact htw.lf _ (getD_mem (by rw [htw.lv]; omega))
          refine sw_region ?_
          refine ow_val (val_move rfl) rfl ?_   -- 61
          refine ow_val (val_rem_u64 rfl rfl (by decide)) rfl ?_   -- 62
          refine ow_val ((val_eql_u64 rfl rfl).to (congrArg Value.bool (decide_eq_false ((fun h => absurd (hfm.symm.trans (congrArg UInt64.toNat h)) (by rw [hp1]; decide)))))) rfl ?_   -- 63
          refine ow_val (val_move rfl) rfl ?_   -- 64
          refine ow_guard_yes rfl rfl rfl ?_
          refine ow_val (val_move rfl) rfl ?_   -- 65
          refine ow_guard_yes rfl rfl rfl ?_
          refine ow_val (val_move rfl) rfl ?_   -- 66
          refine ow_guard_yes rfl rfl rfl ?_
          refine ow_val ((val_eql_u64 rfl rfl).to (congrArg Value.bool (decide_eq_true ((UInt64.toNat.inj hp2))))) rfl ?_   -- 67
          refine ow_val (val_pick_false rfl rfl) rfl ?_   -- 68
          refine ow_nil (into ?_)
          refine sw_true rfl rfl ?_
          refine sw_seq ?_
          refine sw_region_lex _ [8, 9] [(0, 0), (4, 0), (1, 1), (2, 1), (5, 1), (6, 1), (3, 2), (7, 2), (8, 2), (9, 2)] (by kernel_rfl) (by kernel_rfl) (fun _ _ _ h => h) (fun _ h => h) (fun _ h => h.drawn _) ?_
          refine lw_pure rfl (val_move rfl) rfl ?_   -- 69
          refine lw_pure rfl (val_move rfl) rfl ?_   -- 73
          refine lw_held rfl (val_load_all 0 rfl rfl Tryd.isAgg41 Tryd.sizeOf41 (by show (List.map vU8 (R.getD q default)).length = _; rw [List.length_map]; exact (hRd _ (getD_mem (by omega))))) rfl ?_   -- 70
          refine lw_held rfl (val_load_all 2 rfl rfl Tryd.isAgg41 Tryd.sizeOf41 (by show (List.map vU8 a0).length = _; rw [List.length_map]; exact ha0l)) rfl ?_   -- 71
          refine lw_held rfl (val_load_all 0 rfl rfl Tryd.isAgg41 Tryd.sizeOf41 (by show (List.map vU8 (R.getD q default)).length = _; rw [List.length_map]; exact (hRd _ (getD_mem (by omega))))) rfl ?_   -- 74
          refine lw_held rfl (val_load_all 1 rfl rfl Tryd.isAgg41 Tryd.sizeOf41 (by show (List.map vU8 b0).length = _; rw [List.length_map]; exact hb0l)) rfl ?_   -- 75
          refine lw_call_pure (v := .agg ((nd k (R.getD q default) a0).map vU8).toArray) rfl (callsTo Tryd.func56 rfl (by kernel_rfl) rfl) rfl (fun w hm => lnd_any k h1 h2 (R.getD q default) a0 (hRd _ (getD_mem (by omega))) ha0l (hRf _ (getD_mem (by omega))) ha0f w (hK.mem0 hm)) ?_   -- 72
          refine lw_call_pure (v := .agg ((nd k (R.getD q default) b0).map vU8).toArray) rfl (callsTo Tryd.func56 rfl (by kernel_rfl) rfl) rfl (fun w hm => lnd_any k h1 h2 (R.getD q default) b0 (hRd _ (getD_mem (by omega))) hb0l (hRf _ (getD_mem (by omega))) hb0f w (hK.mem0 hm)) ?_   -- 76
          refine lw_do rfl (does_store_all 2 rfl rfl rfl (one_u8s _) Tryd.sizeOf41 (by show (List.map vU8 (nd k (R.getD q default) a0)).length = _; rw [List.length_map]; exact (nd_len _ _ _ h2)) (by show (List.map vU8 a0).length = _; rw [List.length_map]; exact ha0l)) (fun h => nomatch h) (fun _ _ => ?_)
          refine lw_do rfl (does_store_all 1 rfl rfl rfl (one_u8s _) Tryd.sizeOf41 (by show (List.map vU8 (nd k (R.getD q default) b0)).length = _; rw [List.length_map]; exact (nd_len _ _ _ h2)) (by show (List.map vU8 b0).length = _; rw [List.length_map]; exact hb0l)) (fun h => nomatch h) (fun _ _ => ?_)
          refine lw_nil (into ?_)
          refine sw_block ?_
          refine sw_loop (σ := UInt64 × UInt64 × List (List UInt8) × List (List UInt8)) (fun t => Two k (lg k S) o R q t.2.2.1 t.2.2.2 t.1.toNat t.2.1.toNat ∧ t.2.2.1.getD t.1.toNat default = b0 ∧ t.2.2.2.getD t.1.toNat default = a0 ∧ (t.1.toNat % 2 = 0 → t.1.toNat = t.2.1.toNat ∧ 0 < t.1.toNat)) (fun t => [(14, vU64 t.2.1), (13, vU64 t.1), (53, vInt (q : Int)), (52, vInt (R.length : Int)), (51, .slice (some ⟨bp, o9, none⟩) R.length (c - 1)), (16, .pointer (some ⟨b16, 0, none⟩)), (15, .pointer (some ⟨b15, 0, none⟩)), (11, .pointer (some ⟨b11, 0, none⟩)), (10, .pointer (some ⟨b10, 0, none⟩)), (0, vInt (k : Int))]) (fun _ => Mem w [] [some (b16, blk ((nd k (R.getD q default) b0).map vU8) 41), some (b15, blk ((nd k (R.getD q default) a0).map vU8) 41), some (b11, blk (zeros32.map vU8) 41), some (b10, blk (zeros32.map vU8) 41)]) (fun t => t.1.toNat) (f, s, Lv, Ov) ⟨htw, hb0, ha0, fun _ => ⟨hp2, by have h9 := htw.pos (by omega); show 0 < f.toNat; omega⟩⟩ ⟨rfl, rfl, rfl, rfl, rfl, rfl, rfl, rfl, rfl, rfl, trivial⟩ (fun w hm => hm.only (.cons _ (.cons_cons _ (.cons_cons _ (.cons_cons _ (.cons_cons _ (List.nil_sublist _))))))) ?_
          clear htw hb0 ha0 hfq hsq hfm hle hp1
          rintro ⟨f, s, Lv, Ov⟩ ⟨htw, hb0, ha0, hen⟩
          simp only at htw hb0 ha0 hen ⊢
          have hle := htw.le
          have hfq : (f / UInt64.ofNat (Int.toNat 2)).toNat = f.toNat / 2 := UInt64.toNat_div _ _
          have hsq : (s / UInt64.ofNat (Int.toNat 2)).toNat = s.toNat / 2 := UInt64.toNat_div _ _
          have hfm : (f % UInt64.ofNat (Int.toNat 2)).toNat = f.toNat % 2 := UInt64.toNat_mod _ _
          refine sw_seq ?_
          refine sw_seq ?_
          by_cases hp3 : f.toNat % 2 = 0
          · -- case
            refine sw_region ?_
            refine ow_val (val_move rfl) rfl ?_   -- 77
            refine ow_val (val_rem_u64 rfl rfl (by decide)) rfl ?_   -- 78
            refine ow_val ((val_eql_u64 rfl rfl).to (congrArg Value.bool (decide_eq_true ((UInt64.toNat.inj (hfm.trans (hp3.trans (show 0 = (UInt64.ofNat (Int.toNat 0)).toNat from rfl)))))))) rfl ?_   -- 79
            refine ow_val (val_move rfl) rfl ?_   -- 80
            refine ow_guard_yes rfl rfl rfl ?_
            refine ow_val (val_move rfl) rfl ?_   -- 81
            refine ow_guard_yes rfl rfl rfl ?_
            refine ow_val ((val_gtr_u64 rfl rfl).to (congrArg Value.bool (decide_eq_true ((UInt64.lt_iff_toNat_lt.2 (show (UInt64.ofNat (Int.toNat 0)).toNat < f.toNat from (hen hp3).2)))))) rfl ?_   -- 82
            refine ow_val (val_pick_true rfl rfl) rfl ?_   -- 83
            refine ow_nil (into ?_)
            refine sw_true rfl rfl ?_
            refine sw_skip (into ?_)
            refine sw_block ?_
            refine sw_region ?_
            refine ow_val (val_move rfl) rfl ?_   -- 84
            refine ow_val (val_quo_u64 rfl rfl (by decide)) rfl ?_   -- 85
            refine ow_val (val_move rfl) rfl ?_   -- 86
            refine ow_val (val_quo_u64 rfl rfl (by decide)) rfl ?_   -- 87
            refine ow_val (val_assign rfl) rfl ?_   -- 13
            refine ow_val (val_assign rfl) rfl ?_   -- 14
            exact ow_nil (fun w hm => ⟨(f / UInt64.ofNat (Int.toNat 2), s / UInt64.ofNat (Int.toNat 2), upL k Lv, upL k Ov), ⟨by dsimp only; rw [hfq, hsq]; exact (htw.skip h1 h2 hp3 (hen hp3).1 (hen hp3).2).1, by dsimp only; rw [hfq, (htw.skip h1 h2 hp3 (hen hp3).1 (hen hp3).2).2.1]; exact hb0, by dsimp only; rw [hfq, (htw.skip h1 h2 hp3 (hen hp3).1 (hen hp3).2).2.2]; exact ha0, fun _ => by dsimp only; rw [hfq, hsq]; have h9 := hen hp3; omega⟩, by dsimp only; rw [hfq]; have h9 := hen hp3; omega, ⟨rfl, rfl, rfl, rfl, rfl, rfl, rfl, rfl, rfl, rfl, trivial⟩, hm.only (.cons_cons _ (.cons_cons _ (.cons_cons _ (.cons_cons _ (List.nil_sublist _)))))⟩)
          · -- case
            have hTo' := htw.odd h1 h2 (by omega)
            rw [hb0, ha0] at hTo'
            have hTo := hTo'
            refine sw_region ?_
            refine ow_val (val_move rfl) rfl ?_   -- 77
            refine ow_val (val_rem_u64 rfl rfl (by decide)) rfl ?_   -- 78
            refine ow_val ((val_eql_u64 rfl rfl).to (congrArg Value.bool (decide_eq_false ((fun h => hp3 (hfm.symm.trans (congrArg UInt64.toNat h))))))) rfl ?_   -- 79
            refine ow_val (val_move rfl) rfl ?_   -- 80
            first | refine ow_guard_no rfl rfl rfl rfl rfl ?_ | refine ow_guard_none rfl rfl rfl rfl rfl ?_
            first | refine ow_guard_no rfl rfl rfl rfl rfl ?_ | refine ow_guard_none rfl rfl rfl rfl rfl ?_
            refine ow_val (val_pick_false rfl rfl) rfl ?_   -- 83
            refine ow_nil (into ?_)
            refine sw_false rfl rfl ?_
            refine sw_exit (into ?_)
            refine sw_region ?_
            refine ow_val (val_move rfl) rfl ?_   -- 92
            refine ow_val (val_quo_u64 rfl rfl (by decide)) rfl ?_   -- 93
            refine ow_val (val_move rfl) rfl ?_   -- 94
            refine ow_val (val_quo_u64 rfl rfl (by decide)) rfl ?_   -- 95
            refine ow_val (val_assign rfl) rfl ?_   -- 13
            refine ow_val (val_assign rfl) rfl ?_   -- 14
            refine ow_nil (into ?_)
            refine sw_region ?_
            refine ow_val (val_add_int ((q + 1 : Nat) : Int) rfl rfl (by omega) (by omega)) rfl ?_   -- 96
            refine ow_val (val_move rfl) rfl ?_   -- 53
            exact ow_nil (fun w hm => ⟨(f / UInt64.ofNat (Int.toNat 2), s / UInt64.ofNat (Int.toNat 2), q + 1, upL k Lv, upL k Ov), by dsimp only; rw [hfq, hsq]; exact hTo.1, by dsimp only; omega, ⟨rfl, rfl, rfl, rfl, rfl, rfl, rfl, rfl, rfl, rfl, trivial⟩, by dsimp only; rw [hfq, hTo.2.1, hTo.2.2]; exact hm.only (.cons_cons _ (.cons_cons _ (.cons_cons _ (.cons_cons _ (List.nil_sublist _)))))⟩)
        · -- case
          have hTe := htw.even h1 h2 hp1 hp2
          refine sw_region ?_
          refine ow_val (val_move rfl) rfl ?_   -- 61
          refine ow_val (val_rem_u64 rfl rfl (by decide)) rfl ?_   -- 62
          refine ow_val ((val_eql_u64 rfl rfl).to (congrArg Value.bool (decide_eq_false ((fun h => absurd (hfm.symm.trans (congrArg UInt64.toNat h)) (by rw [hp1]; decide)))))) rfl ?_   -- 63
          refine ow_val (val_move rfl) rfl ?_   -- 64
          refine ow_guard_yes rfl rfl rfl ?_
          refine ow_val (val_move rfl) rfl ?_   -- 65
          refine ow_guard_yes rfl rfl rfl ?_
          refine ow_val (val_move rfl) rfl ?_   -- 66
          refine ow_guard_yes rfl rfl rfl ?_
          refine ow_val ((val_eql_u64 rfl rfl).to (congrArg Value.bool (decide_eq_false ((fun h => absurd (congrArg UInt64.toNat h) (by omega)))))) rfl ?_   -- 67
          refine ow_val (val_pick_false rfl rfl) rfl ?_   -- 68
          refine ow_nil (into ?_)
          refine sw_false rfl rfl ?_
          refine sw_region ?_
          refine ow_val (val_move rfl) rfl ?_   -- 88
          refine ow_val (val_load_all 1 rfl rfl Tryd.isAgg41 Tryd.sizeOf41 (by show (List.map vU8 (Lv.getD f.toNat default)).length = _; rw [List.length_map]; exact (htw.ld _ (getD_mem (by rw [htw.lv]; omega))))) rfl ?_   -- 89
          refine ow_val (val_load_all 0 rfl rfl Tryd.isAgg41 Tryd.sizeOf41 (by show (List.map vU8 (R.getD q default)).length = _; rw [List.length_map]; exact (hRd _ (getD_mem (by omega))))) rfl ?_   -- 90
          refine ow_call_pure (v := .agg ((nd k (Lv.getD f.toNat default) (R.getD q default)).map vU8).toArray) (callsTo Tryd.func56 rfl (by kernel_rfl) rfl) rfl (fun w hm => lnd_any k h1 h2 (Lv.getD f.toNat default) (R.getD q default) (htw.ld _ (getD_mem (by rw [htw.lv]; omega))) (hRd _ (getD_mem (by omega))) (htw.lf _ (getD_mem (by rw [htw.lv]; omega))) (hRf _ (getD_mem (by omega))) w (hK.mem0 hm)) ?_   -- 91
          refine ow_do_eq (does_store_all 1 rfl rfl rfl (one_u8s _) Tryd.sizeOf41 (by show (List.map vU8 (nd k (Lv.getD f.toNat default) (R.getD q default))).length = _; rw [List.length_map]; exact (nd_len _ _ _ h2)) (by show (List.map vU8 (Lv.getD f.toNat default)).length = _; rw [List.length_map]; exact (htw.ld _ (getD_mem (by rw [htw.lv]; omega))))) ?_
          refine ow_nil (into ?_)
          refine sw_region ?_
          refine ow_val (val_move rfl) rfl ?_   -- 92
          refine ow_val (val_quo_u64 rfl rfl (by decide)) rfl ?_   -- 93
          refine ow_val (val_move rfl) rfl ?_   -- 94
          refine ow_val (val_quo_u64 rfl rfl (by decide)) rfl ?_   -- 95
          refine ow_val (val_assign rfl) rfl ?_   -- 13
          refine ow_val (val_assign rfl) rfl ?_   -- 14
          refine ow_nil (into ?_)
          refine sw_region ?_
          refine ow_val (val_add_int ((q + 1 : Nat) : Int) rfl rfl (by omega) (by omega)) rfl ?_   -- 96
          refine ow_val (val_move rfl) rfl ?_   -- 53
          exact ow_nil (fun w hm => ⟨(f / UInt64.ofNat (Int.toNat 2), s / UInt64.ofNat (Int.toNat 2), q + 1, upL k Lv, upL k Ov), by dsimp only; rw [hfq, hsq]; exact hTe.1, by dsimp only; omega, ⟨rfl, rfl, rfl, rfl, rfl, rfl, rfl, rfl, rfl, rfl, trivial⟩, by dsimp only; rw [hfq, hTe.2.1, hTe.2.2]; exact hm.only (.cons _ (.cons_cons _ (.cons_cons _ (.cons_cons _ (.cons_cons _ (List.nil_sublist _))))))⟩)
      · -- else
        have hfin := htw.fin (by omega)
        refine sw_exit (into ?_)
        refine sw_seq ?_
        refine sw_region_tree _ [4, 5] (.one 2 0 (.one 3 0 (.one 0 1 (.alt 1 (.one 4 2 (.one 5 2 (.one 6 0 .done))) (.alt 4 (.one 1 2 (.one 5 2 (.one 6 0 .done))) .stop))))) (by kernel_rfl) (by kernel_rfl) (fun _ _ _ h => h) (fun _ h => h) (fun _ h => h.drawn _) ?_
        refine lt_pure rfl trivial (val_move rfl) rfl ?_   -- 99
        refine lt_pure rfl trivial ((val_eql_u64 rfl rfl).to (congrArg Value.bool (decide_eq_true ((UInt64.toNat.inj (hfin.1.trans (show 0 = (UInt64.ofNat (Int.toNat 0)).toNat from rfl))))))) rfl ?_   -- 100
        refine lt_held rfl trivial (val_load_all 1 rfl rfl Tryd.isAgg41 Tryd.sizeOf41 (by show (List.map vU8 (Ov.getD f.toNat default)).length = _; rw [List.length_map]; exact (htw.od _ (getD_mem (by rw [htw.ov]; omega))))) rfl ?_   -- 97
        refine lt_alt ?_ ?_
        · -- first 1
          refine lt_val rfl trivial (val_load_all 0 rfl rfl Tryd.isAgg41 Tryd.sizeOf41 (by show (List.map vU8 (Lv.getD f.toNat default)).length = _; rw [List.length_map]; exact (htw.ld _ (getD_mem (by rw [htw.lv]; omega))))) rfl (fun _ _ h => h) ?_   -- 98
          refine lt_do rfl trivial (does_store_all 3 rfl rfl rfl (one_u8s _) Tryd.sizeOf41 (by show (List.map vU8 (Ov.getD f.toNat default)).length = _; rw [List.length_map]; exact (htw.od _ (getD_mem (by rw [htw.ov]; omega)))) (by show (List.map vU8 zeros32).length = _; rw [List.length_map]; exact zeros32_len)) (fun h => nomatch h) (fun _ _ => ?_)
          refine lt_do rfl trivial (does_store_all 2 rfl rfl rfl (one_u8s _) Tryd.sizeOf41 (by show (List.map vU8 (Lv.getD f.toNat default)).length = _; rw [List.length_map]; exact (htw.ld _ (getD_mem (by rw [htw.lv]; omega)))) (by show (List.map vU8 zeros32).length = _; rw [List.length_map]; exact zeros32_len)) (fun h => nomatch h) (fun _ _ => ?_)
          refine lt_pure rfl trivial (val_assign rfl) rfl ?_   -- 12
          refine lt_done (into ?_)
          refine sw_ret (fun w hm => ?_)
          try dsimp only [thenP, blockP, Nat.beq, cond]
          exact ret_cct 2 3 rfl rfl rfl rfl hm rfl rfl Tryd.isAgg41 Tryd.sizeOf41 Tryd.isAgg41 Tryd.sizeOf41 (by show (List.map vU8 (Ov.getD f.toNat default)).length = _; rw [List.length_map]; exact (htw.od _ (getD_mem (by rw [htw.ov]; omega)))) (by show (List.map vU8 (Lv.getD f.toNat default)).length = _; rw [List.length_map]; exact (htw.ld _ (getD_mem (by rw [htw.lv]; omega)))) ⟨by rw [hfin.2.1, hfin.2.2] <;> rfl, hm.forgetAll⟩
        refine lt_alt ?_ ?_
        · -- first 4
          refine lt_do rfl trivial (does_store_all 3 rfl rfl rfl (one_u8s _) Tryd.sizeOf41 (by show (List.map vU8 (Ov.getD f.toNat default)).length = _; rw [List.length_map]; exact (htw.od _ (getD_mem (by rw [htw.ov]; omega)))) (by show (List.map vU8 zeros32).length = _; rw [List.length_map]; exact zeros32_len)) (fun h => nomatch h) (fun _ _ => ?_)
          refine lt_val rfl trivial (val_load_all 0 rfl rfl Tryd.isAgg41 Tryd.sizeOf41 (by show (List.map vU8 (Lv.getD f.toNat default)).length = _; rw [List.length_map]; exact (htw.ld _ (getD_mem (by rw [htw.lv]; omega))))) rfl (fun h => nomatch h) ?_   -- 98
          refine lt_do rfl trivial (does_store_all 2 rfl rfl rfl (one_u8s _) Tryd.sizeOf41 (by show (List.map vU8 (Lv.getD f.toNat default)).length = _; rw [List.length_map]; exact (htw.ld _ (getD_mem (by rw [htw.lv]; omega)))) (by show (List.map vU8 zeros32).length = _; rw [List.length_map]; exact zeros32_len)) (fun h => nomatch h) (fun _ _ => ?_)
          refine lt_pure rfl trivial (val_assign rfl) rfl ?_   -- 12
          refine lt_done (into ?_)
          refine sw_ret (fun w hm => ?_)
          try dsimp only [thenP, blockP, Nat.beq, cond]
          exact ret_cct 2 3 rfl rfl rfl rfl hm rfl rfl Tryd.isAgg41 Tryd.sizeOf41 Tryd.isAgg41 Tryd.sizeOf41 (by show (List.map vU8 (Ov.getD f.toNat default)).length = _; rw [List.length_map]; exact (htw.od _ (getD_mem (by rw [htw.ov]; omega)))) (by show (List.map vU8 (Lv.getD f.toNat default)).length = _; rw [List.length_map]; exact (htw.ld _ (getD_mem (by rw [htw.lv]; omega)))) ⟨by rw [hfin.2.1, hfin.2.2] <;> rfl, hm.forgetAll⟩
        exact lt_stop
    exact lt_stop

theorem both_B (k : Nat) (h1 : 1 ≤ k) (h2 : k ≤ 32) (m n : UInt64) (o : List UInt8) (ho : o.length = 32) (hof : fm (k : Int) o = true) (w : World) (hK : KW w) (a : Option Addr) (c : Nat) (l : List (List UInt8)) (hdl : ∀ d ∈ l, d.length = 32) (hfl : ∀ d ∈ l, fm (k : Int) d = true) (hr : Rd w a (l.flatMap fun d => d.map vU8)) (hc : l.length ≤ c) (hb : l.length * 32 ≤ 140737488351232) (S : List (List UInt8)) (hSn : S.length = n.toNat) (hSd : ∀ d ∈ S, d.length = 32) (hSf : ∀ d ∈ S, fm (k : Int) d = true) (hm1 : 1 ≤ m.toNat) (hmn : m.toNat < n.toNat) (hQ : conL k S m.toNat true = l) (ho2 : lg k (S.take m.toNat) = o) (hp : m.toNat &&& (m.toNat - 1) = 0) : Calls Tryd.prog 27 #[vInt (k : Int), vU64 m, vU64 n, .agg ((o).map vU8).toArray, .slice a l.length c] w fun e w' => ∃ v, e = .returned v ∧ v = .tuple #[.agg ((o).map vU8).toArray, .agg ((lg k S).map vU8).toArray, .bool true] ∧ Mem w [] [] w' := by
  obtain ⟨tiD, hDi, hDz, hDsz, hDby⟩ := info_parts iDg
  have hm1' : (m - UInt64.ofNat (Int.toNat 1)).toNat = m.toNat - 1 := UInt64.toNat_sub_of_le _ _ (UInt64.le_iff_toNat_le.2 hm1)
  have hn1' : (n - UInt64.ofNat (Int.toNat 1)).toNat = n.toNat - 1 := UInt64.toNat_sub_of_le _ _ (UInt64.le_iff_toNat_le.2 (show 1 ≤ n.toNat by omega))
  have hpw : (m &&& (m - UInt64.ofNat (Int.toNat 1))).toNat = m.toNat &&& (m.toNat - 1) := by rw [UInt64.toNat_and, hm1']
  have hlp : 1 ≤ l.length := by rw [← hQ]; exact List.length_pos_iff.2 (conL_ne (by omega) (by omega))
  have hst := One.start (k := k) hSn hm1 hmn hSd hSf
  obtain ⟨PP, hPP⟩ : ∃ P, [o] ++ l = P := ⟨_, rfl⟩
  have hXd : ∀ d ∈ PP, d.length = 32 := by rw [← hPP]; exact both (fun d hd => by rw [List.mem_singleton.1 hd]; exact ho) hdl
  have hXf : ∀ d ∈ PP, fm (k : Int) d = true := by rw [← hPP]; exact both (fun d hd => by rw [List.mem_singleton.1 hd]; exact hof) hfl
  have hPn : 1 + l.length = PP.length := by rw [← hPP, List.length_append]; rfl
  refine calls_of_sw (vs := [vInt (k : Int), vU64 m, vU64 n, .agg ((o).map vU8).toArray, .slice a l.length c]) Tryd.func27 rfl Tryd.ntmps27 rfl (SW.begin ?_)
  refine sw_seq ?_
  refine sw_region ?_
  refine ow_new (acts_box rfl) rfl (fun b8 hb8 => ?_)   -- 8
  refine ow_new (acts_alloc zD) rfl (fun b10 hb10 => ?_)   -- 10
  refine ow_new (acts_alloc zD) rfl (fun b11 hb11 => ?_)   -- 11
  refine ow_val (val_assign rfl) rfl ?_   -- 12
  refine ow_nil (into ?_)
  refine sw_seq ?_
  refine sw_seq ?_
  refine sw_region ?_
  refine ow_val (val_move rfl) rfl ?_   -- 19
  refine ow_val (val_move rfl) rfl ?_   -- 20
  refine ow_val (val_sub_u64 rfl rfl) rfl ?_   -- 21
  refine ow_val (val_and_u64 rfl rfl) rfl ?_   -- 22
  refine ow_val ((val_eql_u64 rfl rfl).to (congrArg Value.bool (decide_eq_true ((UInt64.toNat.inj (hpw.trans (hp.trans (show 0 = (UInt64.ofNat (Int.toNat 0)).toNat from rfl)))))))) rfl ?_   -- 23
  refine ow_nil (into ?_)
  refine sw_true rfl rfl ?_
  refine sw_region ?_
  refine ow_val (val_load_all 2 rfl rfl Tryd.isAgg41 Tryd.sizeOf41 (by show (List.map vU8 o).length = _; rw [List.length_map]; exact ho)) rfl ?_   -- 24
  refine ow_make (acts_buildSlice (cs := [o.map vU8].flatten) Tryd.underlying22 Tryd.sizeOf41 zD rfl rfl (fill_aggs [o.map vU8] (by decide) rfl (by simp only [List.forall_mem_cons, List.length_map]; exact ⟨ho, fun _ h => by cases h⟩))) rfl (fun b25 hb25 => ?_)   -- 25
  refine ow_val (val_move rfl) rfl ?_   -- 26
  refine ow_append' (k := PP.length) (xs := PP.flatMap fun d => d.map vU8) (acts_row (acts_append (size := 32) (bytes := 32) 0 rfl rfl rfl (RowE.full (n := 1) (size := 32) (by simp [ho]) (by decide)) rfl Tryd.underlying22 hDi hDz hDsz hDby rfl (by decide) (fun w hm => hr.mem hm) (flatMap_size' rfl hdl) (one_dgs _) (by omega) (by omega)) hPn (by rw [← hPP]; simp only [List.flatMap_append, List.flatMap_cons, List.flatMap_nil, List.flatten_cons, List.flatten_nil, List.nil_append, List.append_nil])) rfl (fun a27 c27 e27 hr27' => ?_)   -- 27
  refine ow_val (val_assign rfl) rfl ?_   -- 4
  refine ow_nil (into ?_)
  refine sw_seq ?_
  refine sw_seq ?_
  refine sw_region ?_
  refine ow_val (val_move rfl) rfl ?_   -- 28
  refine ow_val (val_len rfl Tryd.underlying22) rfl ?_   -- 29
  refine ow_val ((val_eql_int rfl rfl).to (congrArg Value.bool (decide_eq_false (by omega)))) rfl ?_   -- 30
  refine ow_nil (into ?_)
  refine sw_false rfl rfl ?_
  refine sw_skip (into ?_)
  refine sw_seq ?_
  refine sw_region ?_
  refine ow_val (val_move rfl) rfl ?_   -- 33
  refine ow_val (val_sub_u64 rfl rfl) rfl ?_   -- 34
  refine ow_val (val_move rfl) rfl ?_   -- 35
  refine ow_val (val_sub_u64 rfl rfl) rfl ?_   -- 36
  refine ow_val (val_assign rfl) rfl ?_   -- 13
  refine ow_val (val_assign rfl) rfl ?_   -- 14
  refine ow_nil (into ?_)
  refine sw_seq ?_
  refine sw_block ?_
  refine sw_loop (σ := UInt64 × UInt64 × List (List UInt8)) (fun t => One k S m.toNat t.2.2 t.1.toNat t.2.1.toNat) (fun t => [(14, vU64 t.2.1), (13, vU64 t.1), (4, .slice a27 PP.length c27), (11, .pointer (some ⟨b11, 0, none⟩)), (10, .pointer (some ⟨b10, 0, none⟩)), (0, vInt (k : Int))]) (fun _ => Mem w [] [e27, some (b11, blk (zeros32.map vU8) 41), some (b10, blk (zeros32.map vU8) 41)]) (fun t => t.1.toNat) (m - UInt64.ofNat (Int.toNat 1), n - UInt64.ofNat (Int.toNat 1), S) (by rw [hm1', hn1']; exact hst) ⟨rfl, rfl, rfl, rfl, rfl, rfl, trivial⟩ (fun w hm => hm.only (.cons_cons _ (.cons_cons _ (.cons_cons _ (List.nil_sublist _))))) ?_
  rintro ⟨f, s, Lv⟩ hone
  simp only at hone ⊢
  have hlv := hone.lv
  have hlt := hone.lt
  have hfq : (f / UInt64.ofNat (Int.toNat 2)).toNat = f.toNat / 2 := UInt64.toNat_div _ _
  have hsq : (s / UInt64.ofNat (Int.toNat 2)).toNat = s.toNat / 2 := UInt64.toNat_div _ _
  have hfm : (f % UInt64.ofNat (Int.toNat 2)).toNat = f.toNat % 2 := UInt64.toNat_mod _ _
  refine sw_seq ?_
  refine sw_seq ?_
  refine sw_region ?_
  refine ow_val (val_move rfl) rfl ?_   -- 37
  refine ow_val (val_rem_u64 rfl rfl (by decide)) rfl ?_   -- 38
  refine ow_val (val_eql_u64 rfl rfl) rfl ?_   -- 39
  refine ow_nil (into ?_)
  refine sw_if rfl (fun h0 => ?_) (fun h0 => ?_)
  · -- then
    have hf1 : f.toNat % 2 = 1 := hfm.symm.trans (congrArg UInt64.toNat h0)
    refine sw_skip (into ?_)
    refine sw_block ?_
    refine sw_region ?_
    refine ow_val (val_move rfl) rfl ?_   -- 40
    refine ow_val (val_quo_u64 rfl rfl (by decide)) rfl ?_   -- 41
    refine ow_val (val_move rfl) rfl ?_   -- 42
    refine ow_val (val_quo_u64 rfl rfl (by decide)) rfl ?_   -- 43
    refine ow_val (val_assign rfl) rfl ?_   -- 13
    refine ow_val (val_assign rfl) rfl ?_   -- 14
    exact ow_nil (fun w hm => ⟨(f / UInt64.ofNat (Int.toNat 2), s / UInt64.ofNat (Int.toNat 2), upL k Lv), by dsimp only; rw [hfq, hsq]; exact hone.step h1 h2 hf1, by dsimp only; rw [hfq]; omega, ⟨rfl, rfl, rfl, rfl, rfl, rfl, trivial⟩, hm.only (.cons_cons _ (.cons_cons _ (.cons_cons _ (List.nil_sublist _))))⟩)
  · -- else
    have hf0 : f.toNat % 2 = 0 := by
      have h9 : ¬ f.toNat % 2 = 1 := fun h => h0 (UInt64.toNat.inj (hfm.trans (h.trans (show 1 = (UInt64.ofNat (Int.toNat 1)).toNat from rfl))))
      omega
    have htw := hone.two hf0
    rw [ho2] at htw
    obtain ⟨R, hR⟩ : ∃ R, incL k Lv f.toNat = R := ⟨_, rfl⟩
    rw [hR] at htw
    have hPR : PP = Lv.getD f.toNat default :: R := by rw [← hR]; exact by rw [← hPP, ← hQ, ← ho2]; exact hone.yes hf0 hp
    have hRn : PP.length = R.length + 1 := by rw [hPR]; rfl
    have hRd : ∀ d ∈ R, d.length = 32 := fun d hd => hXd d (by rw [hPR]; exact List.mem_cons_of_mem _ hd)
    have hRf : ∀ d ∈ R, fm (k : Int) d = true := fun d hd => hXf d (by rw [hPR]; exact List.mem_cons_of_mem _ hd)
    obtain ⟨bp, op, rfl⟩ := rowAddr32 hr27' (by omega)
    obtain ⟨o9, ho9⟩ : ∃ z, (if c27 = 1 then op else op + 1 * 32) = z := ⟨_, rfl⟩
    have rdR : ∀ {w : World}, Rd w (some ⟨bp, op, none⟩) (PP.flatMap fun d => d.map vU8) → Rd w (some ⟨bp, o9, none⟩) (R.flatMap fun d => d.map vU8) := fun h => by
      have h7 := rdCutD h hXd hr27'.le (k := 1)
      rw [hPR, cut_some, ho9] at h7; exact h7
    have hg0 : PP.getD 0 default = Lv.getD f.toNat default := by rw [hPR]; rfl
    have hg1 : (Lv.take (f.toNat + 1)).getD f.toNat default = Lv.getD f.toNat default := getD_take' (by omega)
    refine sw_exit (into ?_)
    refine sw_seq ?_
    refine sw_region_tree (Mem w [] [e27, some (b11, blk (zeros32.map vU8) 41), some (b10, blk (zeros32.map vU8) 41)]) [] (.one 0 0 (.one 1 0 (.one 3 0 (.one 4 0 (.one 2 1 (.one 5 1 (.alt 6 (.one 7 2 (.one 8 2 (.one 9 2 .done))) (.alt 7 (.one 6 2 (.one 8 2 (.one 9 2 .done))) .stop)))))))) (by kernel_rfl) (by kernel_rfl) (fun _ _ _ h => h) (fun _ h => h.only (.cons_cons _ (.cons_cons _ (.cons_cons _ (List.nil_sublist _))))) (fun _ h => h.drawn _) ?_
    refine lt_pure rfl trivial (val_move rfl) rfl ?_   -- 44
    refine lt_pure rfl trivial (val_indexAddr_slice (0) (op) rfl rfl Tryd.underlying22 Tryd.sizeOf41 (by omega) (by omega) (by omega)) rfl ?_   -- 45
    refine lt_pure rfl trivial (val_move rfl) rfl ?_   -- 47
    refine lt_pure rfl trivial (val_indexAddr_slice (0) (op) rfl rfl Tryd.underlying22 Tryd.sizeOf41 (by omega) (by omega) (by omega)) rfl ?_   -- 48
    refine lt_held rfl trivial (val_load_elem (cells := fun d => d.map vU8) (l := PP) (o := op) (i := 0) rfl Tryd.isAgg41 Tryd.sizeOf41 (fun x hx => by rw [List.length_map]; exact hXd x hx) (by omega) (by omega) (fun w' hm => hr27'.rdAt hm (i := 0) rfl)) rfl ?_   -- 46
    refine lt_held rfl trivial (val_load_elem (cells := fun d => d.map vU8) (l := PP) (o := op) (i := 0) rfl Tryd.isAgg41 Tryd.sizeOf41 (fun x hx => by rw [List.length_map]; exact hXd x hx) (by omega) (by omega) (fun w' hm => hr27'.rdAt hm (i := 0) rfl)) rfl ?_   -- 49
    refine lt_alt ?_ ?_
    · -- first 6
      refine lt_make (fun b => .pointer (some ⟨b, 0, none⟩)) rfl trivial (acts_alloc zD) rfl (fun _ _ _ h => h.only (.cons _ (.cons_cons _ (.cons_cons _ (.cons_cons _ (List.nil_sublist _)))))) (fun b15 hb15 => ?_)   -- 15
      refine lt_make (fun b => .pointer (some ⟨b, 0, none⟩)) rfl trivial (acts_alloc zD) rfl (fun _ _ _ h => h.only (.cons _ (.cons _ (.cons_cons _ (.cons_cons _ (.cons_cons _ (List.nil_sublist _))))))) (fun b16 hb16 => ?_)   -- 16
      refine lt_do rfl trivial (does_store_all 1 rfl rfl rfl (one_u8s _) Tryd.sizeOf41 (by show (List.map vU8 (PP.getD 0 default)).length = _; rw [List.length_map]; exact (hXd _ (getD_mem (by omega)))) (by show (List.map vU8 zeros32).length = _; rw [List.length_map]; exact zeros32_len)) (fun _ _ _ _ h => h.only (.cons _ (.cons _ (.cons_cons _ (.cons_cons _ (.cons_cons _ (List.nil_sublist _))))))) (fun _ _ => ?_)
      refine lt_do rfl trivial (does_store_all 0 rfl rfl rfl (one_u8s _) Tryd.sizeOf41 (by show (List.map vU8 (PP.getD 0 default)).length = _; rw [List.length_map]; exact (hXd _ (getD_mem (by omega)))) (by show (List.map vU8 zeros32).length = _; rw [List.length_map]; exact zeros32_len)) (fun _ _ _ _ h => h.only (.cons _ (.cons _ (.cons_cons _ (.cons_cons _ (.cons_cons _ (List.nil_sublist _))))))) (fun _ _ => ?_)
      refine lt_done (into ?_)
      refine sw_seq ?_
      refine sw_seq ?_
      refine sw_region ?_
      refine ow_val (val_move rfl) rfl ?_   -- 50
      refine ow_val ((val_slice_lo 1 rfl rfl Tryd.underlying22 Tryd.sizeOf41 rfl (by omega) (by have h9 := hr27'.le; omega)).to (v' := .slice (some ⟨bp, o9, none⟩) R.length (c27 - 1)) (by rw [ho9, show PP.length - 1 = R.length by omega])) rfl ?_   -- 51
      refine ow_val (val_len rfl Tryd.underlying22) rfl ?_   -- 52
      refine ow_val (val_move rfl) rfl ?_   -- 53
      refine ow_nil (into ?_)
      refine sw_block ?_
      refine sw_loop (σ := UInt64 × UInt64 × Nat × List (List UInt8) × List (List UInt8)) (fun t => Two k (lg k S) o R t.2.2.1 t.2.2.2.1 t.2.2.2.2 t.1.toNat t.2.1.toNat) (fun t => [(53, vInt (t.2.2.1 : Int)), (52, vInt (R.length : Int)), (51, .slice (some ⟨bp, o9, none⟩) R.length (c27 - 1)), (14, vU64 t.2.1), (13, vU64 t.1), (16, .pointer (some ⟨b16, 0, none⟩)), (15, .pointer (some ⟨b15, 0, none⟩)), (11, .pointer (some ⟨b11, 0, none⟩)), (10, .pointer (some ⟨b10, 0, none⟩)), (0, vInt (k : Int))]) (fun t => Mem w [] [some (b16, blk ((t.2.2.2.1.getD t.1.toNat default).map vU8) 41), some (b15, blk ((t.2.2.2.2.getD t.1.toNat default).map vU8) 41), e27, some (b11, blk (zeros32.map vU8) 41), some (b10, blk (zeros32.map vU8) 41)]) (fun t => R.length - t.2.2.1) (f, s, 0, Lv, Lv.take (f.toNat + 1)) htw ⟨rfl, rfl, rfl, rfl, rfl, rfl, rfl, rfl, rfl, rfl, trivial⟩ (fun w hm => by dsimp only; rw [hg1, ← hg0]; exact hm.only (.cons_cons _ (.cons_cons _ (.cons_cons _ (.cons_cons _ (.cons_cons _ (List.nil_sublist _))))))) ?_
      clear htw hone hPR hg0 hg1 hR hlv hlt hfq hsq hfm hf0
      clear h0
      rintro ⟨f, s, q, Lv, Ov⟩ htw
      simp only at htw ⊢
      have hle := htw.le
      have hqP := htw.qP
      have hfq : (f / UInt64.ofNat (Int.toNat 2)).toNat = f.toNat / 2 := UInt64.toNat_div _ _
      have hsq : (s / UInt64.ofNat (Int.toNat 2)).toNat = s.toNat / 2 := UInt64.toNat_div _ _
      have hfm : (f % UInt64.ofNat (Int.toNat 2)).toNat = f.toNat % 2 := UInt64.toNat_mod _ _
      refine sw_seq ?_
      refine sw_region ?_
      refine ow_val (val_lss_int rfl rfl) rfl ?_   -- 54
      refine ow_nil (into ?_)
      refine sw_seq ?_
      refine sw_if rfl (fun h0q => ?_) (fun h0q => ?_)
      · -- then
        refine sw_skip (into ?_)
        refine sw_seq ?_
        refine sw_block ?_
        refine sw_seq ?_
        refine sw_region ?_
        refine ow_val (val_indexAddr_slice (q) (o9 + q * 32) rfl rfl Tryd.underlying22 Tryd.sizeOf41 (by omega) (by omega) (by omega)) rfl ?_   -- 55
        refine ow_val (val_load_elem (cells := fun d => d.map vU8) (l := R) (o := o9) (i := q) rfl Tryd.isAgg41 Tryd.sizeOf41 (fun x hx => by rw [List.length_map]; exact hRd x hx) (by omega) (by omega) (fun w' hm => rdR (hr27'.rdAt hm (i := 2) rfl))) rfl ?_   -- 56
        refine ow_new (acts_alloc zD) rfl (fun b18 hb18 => ?_)   -- 18
        refine ow_do_eq (does_store_all 0 rfl rfl rfl (one_u8s _) Tryd.sizeOf41 (by show (List.map vU8 (R.getD q default)).length = _; rw [List.length_map]; exact (hRd _ (getD_mem (by omega)))) (by show (List.map vU8 zeros32).length = _; rw [List.length_map]; exact zeros32_len)) ?_
        refine ow_nil (into ?_)
        refine sw_seq ?_
        refine sw_seq ?_
        refine sw_region ?_
        refine ow_val (val_move rfl) rfl ?_   -- 57
        refine ow_val ((val_eql_u64 rfl rfl).to (congrArg Value.bool (decide_eq_false ((fun h => absurd (congrArg UInt64.toNat h) (by have h9 := htw.pos (by omega); show ¬ s.toNat = 0; omega)))))) rfl ?_   -- 58
        refine ow_nil (into ?_)
        refine sw_false rfl rfl ?_
        refine sw_skip (into ?_)
        refine sw_seq ?_
        refine sw_seq ?_
        rcases (show f.toNat % 2 = 1 ∨ (f.toNat % 2 = 0 ∧ f.toNat = s.toNat) ∨ (f.toNat % 2 = 0 ∧ f.toNat < s.toNat) by omega) with hp1 | ⟨hp1, hp2⟩ | ⟨hp1, hp2⟩
        · -- case
          obtain ⟨a0, ha0⟩ : ∃ z, Ov.getD f.toNat default = z := ⟨_, rfl⟩
          obtain ⟨b0, hb0⟩ : ∃ z, Lv.getD f.toNat default = z := ⟨_, rfl⟩
          rw [ha0, hb0]
          have ha0l : a0.length = 32 := by rw [← ha0]; exact htw.od _ (getD_mem (by rw [htw.ov]; omega))
          have ha0f : fm (k : Int) a0 = true := by rw [← ha0]; exact htw.og _ (getD_mem (by rw [htw.ov]; omega))
          have hb0l : b0.length = 32 := by rw [← hb0]; exact htw.ld _ (getD_mem (by rw [htw.lv]; omega))
          have hb0f : fm (k : Int) b0 = true := by rw [← hb0]; exact htw.lf _ (getD_mem (by rw [htw.lv]; omega))
          refine sw_region ?_
          refine ow_val (val_move rfl) rfl ?_   -- 61
          refine ow_val (val_rem_u64 rfl rfl (by decide)) rfl ?_   -- 62
          refine ow_val ((val_eql_u64 rfl rfl).to (congrArg Value.bool (decide_eq_true ((UInt64.toNat.inj (hfm.trans (hp1.trans (show 1 = (UInt64.ofNat (Int.toNat 1)).toNat from rfl)))))))) rfl ?_   -- 63
          refine ow_val (val_move rfl) rfl ?_   -- 64
          first | refine ow_guard_no rfl rfl rfl rfl rfl ?_ | refine ow_guard_none rfl rfl rfl rfl rfl ?_
          first | refine ow_guard_no rfl rfl rfl rfl rfl ?_ | refine ow_guard_none rfl rfl rfl rfl rfl ?_
          first | refine ow_guard_no rfl rfl rfl rfl rfl ?_ | refine ow_guard_none rfl rfl rfl rfl rfl ?_
          refine ow_val (val_pick_true rfl rfl) rfl ?_   -- 68
          refine ow_nil (into ?_)
          refine sw_true rfl rfl ?_
          refine sw_seq ?_
          refine sw_region_lex _ [8, 9] [(0, 0), (4, 0), (1, 1), (2, 1), (5, 1), (6, 1), (3, 2), (7, 2), (8, 2), (9, 2)] (by kernel_rfl) (by kernel_rfl) (fun _ _ _ h => h) (fun _ h => h) (fun _ h => h.drawn _) ?_
          refine lw_pure rfl (val_move rfl) rfl ?_   -- 69
          refine lw_pure rfl (val_move rfl) rfl ?_   -- 73
          refine lw_held rfl (val_load_all 0 rfl rfl Tryd.isAgg41 Tryd.sizeOf41 (by show (List.map vU8 (R.getD q default)).length = _; rw [List.length_map]; exact (hRd _ (getD_mem (by omega))))) rfl ?_   -- 70
          refine lw_held rfl (val_load_all 2 rfl rfl Tryd.isAgg41 Tryd.sizeOf41 (by show (List.map vU8 a0).length = _; rw [List.length_map]; exact ha0l)) rfl ?_   -- 71
          refine lw_held rfl (val_load_all 0 rfl rfl Tryd.isAgg41 Tryd.sizeOf41 (by show (List.map vU8 (R.getD q default)).length = _; rw [List.length_map]; exact (hRd _ (getD_mem (by omega))))) rfl ?_   -- 74
          refine lw_held rfl (val_load_all 1 rfl rfl Tryd.isAgg41 Tryd.sizeOf41 (by show (List.map vU8 b0).length = _; rw [List.length_map]; exact hb0l)) rfl ?_   -- 75
          refine lw_call_pure (v := .agg ((nd k (R.getD q default) a0).map vU8).toArray) rfl (callsTo Tryd.func56 rfl (by kernel_rfl) rfl) rfl (fun w hm => lnd_any k h1 h2 (R.getD q default) a0 (hRd _ (getD_mem (by omega))) ha0l (hRf _ (getD_mem (by omega))) ha0f w (hK.mem0 hm)) ?_   -- 72
          refine lw_call_pure (v := .agg ((nd k (R.getD q default) b0).map vU8).toArray) rfl (callsTo Tryd.func56 rfl (by kernel_rfl) rfl) rfl (fun w hm => lnd_any k h1 h2 (R.getD q default) b0 (hRd _ (getD_mem (by omega))) hb0l (hRf _ (getD_mem (by omega))) hb0f w (hK.mem0 hm)) ?_   -- 76
          refine lw_do rfl (does_store_all 2 rfl rfl rfl (one_u8s _) Tryd.sizeOf41 (by show (List.map vU8 (nd k (R.getD q default) a0)).length = _; rw [List.length_map]; exact (nd_len _ _ _ h2)) (by show (List.map vU8 a0).length = _; rw [List.length_map]; exact ha0l)) (fun h => nomatch h) (fun _ _ => ?_)
          refine lw_do rfl (does_store_all 1 rfl rfl rfl (one_u8s _) Tryd.sizeOf41 (by show (List.map vU8 (nd k (R.getD q default) b0)).length = _; rw [List.length_map]; exact (nd_len _ _ _ h2)) (by show (List.map vU8 b0).length = _; rw [List.length_map]; exact hb0l)) (fun h => nomatch h) (fun _ _ => ?_)
          refine lw_nil (into ?_)
          refine sw_block ?_
          refine sw_loop (σ := UInt64 × UInt64 × List (List UInt8) × List (List UInt8)) (fun t => Two k (lg k S) o R q t.2.2.1 t.2.2.2 t.1.toNat t.2.1.toNat ∧ t.2.2.1.getD t.1.toNat default = b0 ∧ t.2.2.2.getD t.1.toNat default = a0 ∧ (t.1.toNat % 2 = 0 → t.1.toNat = t.2.1.toNat ∧ 0 < t.1.toNat)) (fun t => [(14, vU64 t.2.1), (13, vU64 t.1), (53, vInt (q : Int)), (52, vInt (R.length : Int)), (51, .slice (some ⟨bp, o9, none⟩) R.length (c27 - 1)), (16, .pointer (some ⟨b16, 0, none⟩)), (15, .pointer (some ⟨b15, 0, none⟩)), (11, .pointer (some ⟨b11, 0, none⟩)), (10, .pointer (some ⟨b10, 0, none⟩)), (0, vInt (k : Int))]) (fun _ => Mem w [] [some (b16, blk ((nd k (R.getD q default) b0).map vU8) 41), some (b15, blk ((nd k (R.getD q default) a0).map vU8) 41), e27, some (b11, blk (zeros32.map vU8) 41), some (b10, blk (zeros32.map vU8) 41)]) (fun t => t.1.toNat) (f, s, Lv, Ov) ⟨htw, hb0, ha0, fun h => absurd (show f.toNat % 2 = 0 from h) (by omega)⟩ ⟨rfl, rfl, rfl, rfl, rfl, rfl, rfl, rfl, rfl, rfl, trivial⟩ (fun w hm => hm.only (.cons _ (.cons_cons _ (.cons_cons _ (.cons_cons _ (.cons_cons _ (.cons_cons _ (List.nil_sublist _)))))))) ?_
          clear htw hb0 ha0 hfq hsq hfm hle hp1
          rintro ⟨f, s, Lv, Ov⟩ ⟨htw, hb0, ha0, hen⟩
          simp only at htw hb0 ha0 hen ⊢
          have hle := htw.le
          have hfq : (f / UInt64.ofNat (Int.toNat 2)).toNat = f.toNat / 2 := UInt64.toNat_div _ _
          have hsq : (s / UInt64.ofNat (Int.toNat 2)).toNat = s.toNat / 2 := UInt64.toNat_div _ _
          have hfm : (f % UInt64.ofNat (Int.toNat 2)).toNat = f.toNat % 2 := UInt64.toNat_mod _ _
          refine sw_seq ?_
          refine sw_seq ?_
          by_cases hp3 : f.toNat % 2 = 0
          · -- case
            refine sw_region ?_
            refine ow_val (val_move rfl) rfl ?_   -- 77
            refine ow_val (val_rem_u64 rfl rfl (by decide)) rfl ?_   -- 78
            refine ow_val ((val_eql_u64 rfl rfl).to (congrArg Value.bool (decide_eq_true ((UInt64.toNat.inj (hfm.trans (hp3.trans (show 0 = (UInt64.ofNat (Int.toNat 0)).toNat from rfl)))))))) rfl ?_   -- 79
            refine ow_val (val_move rfl) rfl ?_   -- 80
            refine ow_guard_yes rfl rfl rfl ?_
            refine ow_val (val_move rfl) rfl ?_   -- 81
            refine ow_guard_yes rfl rfl rfl ?_
            refine ow_val ((val_gtr_u64 rfl rfl).to (congrArg Value.bool (decide_eq_true ((UInt64.lt_iff_toNat_lt.2 (show (UInt64.ofNat (Int.toNat 0)).toNat < f.toNat from (hen hp3).2)))))) rfl ?_   -- 82
            refine ow_val (val_pick_true rfl rfl) rfl ?_   -- 83
            refine ow_nil (into ?_)
            refine sw_true rfl rfl ?_
            refine sw_skip (into ?_)
            refine sw_block ?_
            refine sw_region ?_
            refine ow_val (val_move rfl) rfl ?_   -- 84
            refine ow_val (val_quo_u64 rfl rfl (by decide)) rfl ?_   -- 85
            refine ow_val (val_move rfl) rfl ?_   -- 86
            refine ow_val (val_quo_u64 rfl rfl (by decide)) rfl ?_   -- 87
            refine ow_val (val_assign rfl) rfl ?_   -- 13
            refine ow_val (val_assign rfl) rfl ?_   -- 14
            exact ow_nil (fun w hm => ⟨(f / UInt64.ofNat (Int.toNat 2), s / UInt64.ofNat (Int.toNat 2), upL k Lv, upL k Ov), ⟨by dsimp only; rw [hfq, hsq]; exact (htw.skip h1 h2 hp3 (hen hp3).1 (hen hp3).2).1, by dsimp only; rw [hfq, (htw.skip h1 h2 hp3 (hen hp3).1 (hen hp3).2).2.1]; exact hb0, by dsimp only; rw [hfq, (htw.skip h1 h2 hp3 (hen hp3).1 (hen hp3).2).2.2]; exact ha0, fun _ => by dsimp only; rw [hfq, hsq]; have h9 := hen hp3; omega⟩, by dsimp only; rw [hfq]; have h9 := hen hp3; omega, ⟨rfl, rfl, rfl, rfl, rfl, rfl, rfl, rfl, rfl, rfl, trivial⟩, hm.only (.cons_cons _ (.cons_cons _ (.cons_cons _ (.cons_cons _ (.cons_cons _ (List.nil_sublist _))))))⟩)
          · -- case
            have hTo' := htw.odd h1 h2 (by omega)
            rw [hb0, ha0] at hTo'
            have hTo := hTo'
            refine sw_region ?_
            refine ow_val (val_move rfl) rfl ?_   -- 77
            refine ow_val (val_rem_u64 rfl rfl (by decide)) rfl ?_   -- 78
            refine ow_val ((val_eql_u64 rfl rfl).to (congrArg Value.bool (decide_eq_false ((fun h => hp3 (hfm.symm.trans (congrArg UInt64.toNat h))))))) rfl ?_   -- 79
            refine ow_val (val_move rfl) rfl ?_   -- 80
            first | refine ow_guard_no rfl rfl rfl rfl rfl ?_ | refine ow_guard_none rfl rfl rfl rfl rfl ?_
            first | refine ow_guard_no rfl rfl rfl rfl rfl ?_ | refine ow_guard_none rfl rfl rfl rfl rfl ?_
            refine ow_val (val_pick_false rfl rfl) rfl ?_   -- 83
            refine ow_nil (into ?_)
            refine sw_false rfl rfl ?_
            refine sw_exit (into ?_)
            refine sw_region ?_
            refine ow_val (val_move rfl) rfl ?_   -- 92
            refine ow_val (val_quo_u64 rfl rfl (by decide)) rfl ?_   -- 93
            refine ow_val (val_move rfl) rfl ?_   -- 94
            refine ow_val (val_quo_u64 rfl rfl (by decide)) rfl ?_   -- 95
            refine ow_val (val_assign rfl) rfl ?_   -- 13
            refine ow_val (val_assign rfl) rfl ?_   -- 14
            refine ow_nil (into ?_)
            refine sw_region ?_
            refine ow_val (val_add_int ((q + 1 : Nat) : Int) rfl rfl (by omega) (by omega)) rfl ?_   -- 96
            refine ow_val (val_move rfl) rfl ?_   -- 53
            exact ow_nil (fun w hm => ⟨(f / UInt64.ofNat (Int.toNat 2), s / UInt64.ofNat (Int.toNat 2), q + 1, upL k Lv, upL k Ov), by dsimp only; rw [hfq, hsq]; exact hTo.1, by dsimp only; omega, ⟨rfl, rfl, rfl, rfl, rfl, rfl, rfl, rfl, rfl, rfl, trivial⟩, by dsimp only; rw [hfq, hTo.2.1, hTo.2.2]; exact hm.only (.cons_cons _ (.cons_cons _ (.cons_cons _ (.cons_cons _ (.cons_cons _ (List.nil_sublist _))))))⟩)
        · -- case
          obtain ⟨a0, ha0⟩ : ∃ z, Ov.getD f.toNat default = z := ⟨_, rfl⟩
          obtain ⟨b0, hb0⟩ : ∃ z, Lv.getD f.toNat default = z := ⟨_, rfl⟩
          rw [ha0, hb0]
          have ha0l : a0.length = 32 := by rw [← ha0]; exact htw.od _ (getD_mem (by rw [htw.ov]; omega))
          have ha0f : fm (k : Int) a0 = true := by rw [← ha0]; exact htw.og _ (getD_mem (by rw [htw.ov]; omega))
          have hb0l : b0.length = 32 := by rw [← hb0]; exact htw.ld _ (getD_mem (by rw [htw.lv]; omega))
          have hb0f : fm (k : Int) b0 = true := by rw [← hb0]; exact htw.lf _ (getD_mem (by rw [htw.lv]; omega))
          refine sw_region ?_
          refine ow_val (val_move rfl) rfl ?_   -- 61
          refine ow_val (val_rem_u64 rfl rfl (by decide)) rfl ?_   -- 62
          refine ow_val ((val_eql_u64 rfl rfl).to (congrArg Value.bool (decide_eq_false ((fun h => absurd (hfm.symm.trans (congrArg UInt64.toNat h)) (by rw [hp1]; decide)))))) rfl ?_   -- 63
          refine ow_val (val_move rfl) rfl ?_   -- 64
          refine ow_guard_yes rfl rfl rfl ?_
          refine ow_val (val_move rfl) rfl ?_   -- 65
          refine ow_guard_yes rfl rfl rfl ?_
          refine ow_val (val_move rfl) rfl ?_   -- 66
          refine ow_guard_yes rfl rfl rfl ?_
          refine ow_val ((val_eql_u64 rfl rfl).to (congrArg Value.bool (decide_eq_true ((UInt64.toNat.inj hp2))))) rfl ?_   -- 67
          refine ow_val (val_pick_false rfl rfl) rfl ?_   -- 68
          refine ow_nil (into ?_)
          refine sw_true rfl rfl ?_
          refine sw_seq ?_
          refine sw_region_lex _ [8, 9] [(0, 0), (4, 0), (1, 1), (2, 1), (5, 1), (6, 1), (3, 2), (7, 2), (8, 2), (9, 2)] (by kernel_rfl) (by kernel_rfl) (fun _ _ _ h => h) (fun _ h => h) (fun _ h => h.drawn _) ?_
          refine lw_pure rfl (val_move rfl) rfl ?_   -- 69
          refine lw_pure rfl (val_move rfl) rfl ?_   -- 73
          refine lw_held rfl (val_load_all 0 rfl rfl Tryd.isAgg41 Tryd.sizeOf41 (by show (List.map vU8 (R.getD q default)).length = _; rw [List.length_map]; exact (hRd _ (getD_mem (by omega))))) rfl ?_   -- 70
          refine lw_held rfl (val_load_all 2 rfl rfl Tryd.isAgg41 Tryd.sizeOf41 (by show (List.map vU8 a0).length = _; rw [List.length_map]; exact ha0l)) rfl ?_   -- 71
          refine lw_held rfl (val_load_all 0 rfl rfl Tryd.isAgg41 Tryd.sizeOf41 (by show (List.map vU8 (R.getD q default)).length = _; rw [List.length_map]; exact (hRd _ (getD_mem (by omega))))) rfl ?_   -- 74
          refine lw_held rfl (val_load_all 1 rfl rfl Tryd.isAgg41 Tryd.sizeOf41 (by show (List.map vU8 b0).length = _; rw [List.length_map]; exact hb0l)) rfl ?_   -- 75
          refine lw_call_pure (v := .agg ((nd k (R.getD q default) a0).map vU8).toArray) rfl (callsTo Tryd.func56 rfl (by kernel_rfl) rfl) rfl (fun w hm => lnd_any k h1 h2 (R.getD q default) a0 (hRd _ (getD_mem (by omega))) ha0l (hRf _ (getD_mem (by omega))) ha0f w (hK.mem0 hm)) ?_   -- 72
          refine lw_call_pure (v := .agg ((nd k (R.getD q default) b0).map vU8).toArray) rfl (callsTo Tryd.func56 rfl (by kernel_rfl) rfl) rfl (fun w hm => lnd_any k h1 h2 (R.getD q default) b0 (hRd _ (getD_mem (by omega))) hb0l (hRf _ (getD_mem (by omega))) hb0f w (hK.mem0 hm)) ?_   -- 76
          refine lw_do rfl (does_store_all 2 rfl rfl rfl (one_u8s _) Tryd.sizeOf41 (by show (List.map vU8 (nd k (R.getD q default) a0)).length = _; rw [List.length_map]; exact (nd_len _ _ _ h2)) (by show (List.map vU8 a0).length = _; rw [List.length_map]; exact ha0l)) (fun h => nomatch h) (fun _ _ => ?_)
          refine lw_do rfl (does_store_all 1 rfl rfl rfl (one_u8s _) Tryd.sizeOf41 (by show (List.map vU8 (nd k (R.getD q default) b0)).length = _; rw [List.length_map]; exact (nd_len _ _ _ h2)) (by show (List.map vU8 b0).length = _; rw [List.length_map]; exact hb0l)) (fun h => nomatch h) (fun _ _ => ?_)
          refine lw_nil (into ?_)
          refine sw_block ?_
          refine sw_loop (σ := UInt64 × UInt64 × List (List UInt8) × List (List UInt8)) (fun t => Two k (lg k S) o R q t.2.2.1 t.2.2.2 t.1.toNat t.2.1.toNat ∧ t.2.2.1.getD t.1.toNat default = b0 ∧ t.2.2.2.getD t.1.toNat default = a0 ∧ (t.1.toNat % 2 = 0 → t.1.toNat = t.2.1.toNat ∧ 0 < t.1.toNat)) (fun t => [(14, vU64 t.2.1), (13, vU64 t.1), (53, vInt (q : Int)), (52, vInt (R.length : Int)), (51, .slice (some ⟨bp, o9, none⟩) R.length (c27 - 1)), (16, .pointer (some ⟨b16, 0, none⟩)), (15, .pointer (some ⟨b15, 0, none⟩)), (11, .pointer (some ⟨b11, 0, none⟩)), (10, .pointer (some ⟨b10, 0, none⟩)), (0, vInt (k : Int))]) (fun _ => Mem w [] [some (b16, blk ((nd k (R.getD q default) b0).map vU8) 41), some (b15, blk ((nd k (R.getD q default) a0).map vU8) 41), e27, some (b11, blk (zeros32.map vU8) 41), some (b10, blk (zeros32.map vU8) 41)]) (fun t => t.1.toNat) (f, s, Lv, Ov) ⟨htw, hb0, ha0, fun _ => ⟨hp2, by have h9 := htw.pos (by omega); show 0 < f.toNat; omega⟩⟩ ⟨rfl, rfl, rfl, rfl, rfl, rfl, rfl, rfl, rfl, rfl, trivial⟩ (fun w hm => hm.only (.cons _ (.cons_cons _ (.cons_cons _ (.cons_cons _ (.cons_cons _ (.cons_cons _ (List.nil_sublist _)))))))) ?_
          clear htw hb0 ha0 hfq hsq hfm hle hp1
          rintro ⟨f, s, Lv, Ov⟩ ⟨htw, hb0, ha0, hen⟩
          simp only at htw hb0 ha0 hen ⊢
          have hle := htw.le
          have hfq : (f / UInt64.ofNat (Int.toNat 2)).toNat = f.toNat / 2 := UInt64.toNat_div _ _
          have hsq : (s / UInt64.ofNat (Int.toNat 2)).toNat = s.toNat / 2 := UInt64.toNat_div _ _
          have hfm : (f % UInt64.ofNat (Int.toNat 2)).toNat = f.toNat % 2 := UInt64.toNat_mod _ _
          refine sw_seq ?_
          refine sw_seq ?_
          by_cases hp3 : f.toNat % 2 = 0
          · -- case
            refine sw_region ?_
            refine ow_val (val_move rfl) rfl ?_   -- 77
            refine ow_val (val_rem_u64 rfl rfl (by decide)) rfl ?_   -- 78
            refine ow_val ((val_eql_u64 rfl rfl).to (congrArg Value.bool (decide_eq_true ((UInt64.toNat.inj (hfm.trans (hp3.trans (show 0 = (UInt64.ofNat (Int.toNat 0)).toNat from rfl)))))))) rfl ?_   -- 79
            refine ow_val (val_move rfl) rfl ?_   -- 80
            refine ow_guard_yes rfl rfl rfl ?_
            refine ow_val (val_move rfl) rfl ?_   -- 81
            refine ow_guard_yes rfl rfl rfl ?_
            refine ow_val ((val_gtr_u64 rfl rfl).to (congrArg Value.bool (decide_eq_true ((UInt64.lt_iff_toNat_lt.2 (show (UInt64.ofNat (Int.toNat 0)).toNat < f.toNat from (hen hp3).2)))))) rfl ?_   -- 82
            refine ow_val (val_pick_true rfl rfl) rfl ?_   -- 83
            refine ow_nil (into ?_)
            refine sw_true rfl rfl ?_
            refine sw_skip (into ?_)
            refine sw_block ?_
            refine sw_region ?_
            refine ow_val (val_move rfl) rfl ?_   -- 84
            refine ow_val (val_quo_u64 rfl rfl (by decide)) rfl ?_   -- 85
            refine ow_val (val_move rfl) rfl ?_   -- 86
            refine ow_val (val_quo_u64 rfl rfl (by decide)) rfl ?_   -- 87
            refine ow_val (val_assign rfl) rfl ?_   -- 13
            refine ow_val (val_assign rfl) rfl ?_   -- 14
            exact ow_nil (fun w hm => ⟨(f / UInt64.ofNat (Int.toNat 2), s / UInt64.ofNat (Int.toNat 2), upL k Lv, upL k Ov), ⟨by dsimp only; rw [hfq, hsq]; exact (htw.skip h1 h2 hp3 (hen hp3).1 (hen hp3).2).1, by dsimp only; rw [hfq, (htw.skip h1 h2 hp3 (hen hp3).1 (hen hp3).2).2.1]; exact hb0, by dsimp only; rw [hfq, (htw.skip h1 h2 hp3 (hen hp3).1 (hen hp3).2).2.2]; exact ha0, fun _ => by dsimp only; rw [hfq, hsq]; have h9 := hen hp3; omega⟩, by dsimp only; rw [hfq]; have h9 := hen hp3; omega, ⟨rfl, rfl, rfl, rfl, rfl, rfl, rfl, rfl, rfl, rfl, trivial⟩, hm.only (.cons_cons _ (.cons_cons _ (.cons_cons _ (.cons_cons _ (.cons_cons _ (List.nil_sublist _))))))⟩)
          · -- case
            have hTo' := htw.odd h1 h2 (by omega)
            rw [hb0, ha0] at hTo'
            have hTo := hTo'
            refine sw_region ?_
            refine ow_val (val_move rfl) rfl ?_   -- 77
            refine ow_val (val_rem_u64 rfl rfl (by decide)) rfl ?_   -- 78
            refine ow_val ((val_eql_u64 rfl rfl).to (congrArg Value.bool (decide_eq_false ((fun h => hp3 (hfm.symm.trans (congrArg UInt64.toNat h))))))) rfl ?_   -- 79
            refine ow_val (val_move rfl) rfl ?_   -- 80
            first | refine ow_guard_no rfl rfl rfl rfl rfl ?_ | refine ow_guard_none rfl rfl rfl rfl rfl ?_
            first | refine ow_guard_no rfl rfl rfl rfl rfl ?_ | refine ow_guard_none rfl rfl rfl rfl rfl ?_
            refine ow_val (val_pick_false rfl rfl) rfl ?_   -- 83
            refine ow_nil (into ?_)
            refine sw_false rfl rfl ?_
            refine sw_exit (into ?_)
            refine sw_region ?_
            refine ow_val (val_move rfl) rfl ?_   -- 92
            refine ow_val (val_quo_u64 rfl rfl (by decide)) rfl ?_   -- 93
            refine ow_val (val_move rfl) rfl ?_   -- 94
            refine ow_val (val_quo_u64 rfl rfl (by decide)) rfl ?_   -- 95
            refine ow_val (val_assign rfl) rfl ?_   -- 13
            refine ow_val (val_assign rfl) rfl ?_   -- 14
            refine ow_nil (into ?_)
            refine sw_region ?_
            refine ow_val (val_add_int ((q + 1 : Nat) : Int) rfl rfl (by omega) (by omega)) rfl ?_   -- 96
            refine ow_val (val_move rfl) rfl ?_   -- 53
            exact ow_nil (fun w hm => ⟨(f / UInt64.ofNat (Int.toNat 2), s / UInt64.ofNat (Int.toNat 2), q + 1, upL k Lv, upL k Ov), by dsimp only; rw [hfq, hsq]; exact hTo.1, by dsimp only; omega, ⟨rfl, rfl, rfl, rfl, rfl, rfl, rfl, rfl, rfl, rfl, trivial⟩, by dsimp only; rw [hfq, hTo.2.1, hTo.2.2]; exact hm.only (.cons_cons _ (.cons_cons _ (.cons_cons _ (.cons_cons _ (.cons_cons _ (List.nil_sublist _))))))⟩)
        · -- case
          have hTe := htw.even h1 h2 hp1 hp2
          refine sw_region ?_
          refine ow_val (val_move rfl) rfl ?_   -- 61
          refine ow_val (val_rem_u64 rfl rfl (by decide)) rfl ?_   -- 62
          refine ow_val ((val_eql_u64 rfl rfl).to (congrArg Value.bool (decide_eq_false ((fun h => absurd (hfm.symm.trans (congrArg UInt64.toNat h)) (by rw [hp1]; decide)))))) rfl ?_   -- 63
          refine ow_val (val_move rfl) rfl ?_   -- 64
          refine ow_guard_yes rfl rfl rfl ?_
          refine ow_val (val_move rfl) rfl ?_   -- 65
          refine ow_guard_yes rfl rfl rfl ?_
          refine ow_val (val_move rfl) rfl ?_   -- 66
          refine ow_guard_yes rfl rfl rfl ?_
          refine ow_val ((val_eql_u64 rfl rfl).to (congrArg Value.bool (decide_eq_false ((fun h => absurd (congrArg UInt64.toNat h) (by omega)))))) rfl ?_   -- 67
          refine ow_val (val_pick_false rfl rfl) rfl ?_   -- 68
          refine ow_nil (into ?_)
          refine sw_false rfl rfl ?_
          refine sw_region ?_
          refine ow_val (val_move rfl) rfl ?_   -- 88
          refine ow_val (val_load_all 1 rfl rfl Tryd.isAgg41 Tryd.sizeOf41 (by show (List.map vU8 (Lv.getD f.toNat default)).length = _; rw [List.length_map]; exact (htw.ld _ (getD_mem (by rw [htw.lv]; omega))))) rfl ?_   -- 89
          refine ow_val (val_load_all 0 rfl rfl Tryd.isAgg41 Tryd.sizeOf41 (by show (List.map vU8 (R.getD q default)).length = _; rw [List.length_map]; exact (hRd _ (getD_mem (by omega))))) rfl ?_   -- 90
          refine ow_call_pure (v := .agg ((nd k (Lv.getD f.toNat default) (R.getD q default)).map vU8).toArray) (callsTo Tryd.func56 rfl (by kernel_rfl) rfl) rfl (fun w hm => lnd_any k h1 h2 (Lv.getD f.toNat default) (R.getD q default) (htw.ld _ (getD_mem (by rw [htw.lv]; omega))) (hRd _ (getD_mem (by omega))) (htw.lf _ (getD_mem (by rw [htw.lv]; omega))) (hRf _ (getD_mem (by omega))) w (hK.mem0 hm)) ?_   -- 91
          refine ow_do_eq (does_store_all 1 rfl rfl rfl (one_u8s _) Tryd.sizeOf41 (by show (List.map vU8 (nd k (Lv.getD f.toNat default) (R.getD q default))).length = _; rw [List.length_map]; exact (nd_len _ _ _ h2)) (by show (List.map vU8 (Lv.getD f.toNat default)).length = _; rw [List.length_map]; exact (htw.ld _ (getD_mem (by rw [htw.lv]; omega))))) ?_
          refine ow_nil (into ?_)
          refine sw_region ?_
          refine ow_val (val_move rfl) rfl ?_   -- 92
          refine ow_val (val_quo_u64 rfl rfl (by decide)) rfl ?_   -- 93
          refine ow_val (val_move rfl) rfl ?_   -- 94
          refine ow_val (val_quo_u64 rfl rfl (by decide)) rfl ?_   -- 95
          refine ow_val (val_assign rfl) rfl ?_   -- 13
          refine ow_val (val_assign rfl) rfl ?_   -- 14
          refine ow_nil (into ?_)
          refine sw_region ?_
          refine ow_val (val_add_int ((q + 1 : Nat) : Int) rfl rfl (by omega) (by omega)) rfl ?_   -- 96
          refine ow_val (val_move rfl) rfl ?_   -- 53
          exact ow_nil (fun w hm => ⟨(f / UInt64.ofNat (Int.toNat 2), s / UInt64.ofNat (Int.toNat 2), q + 1, upL k Lv, upL k Ov), by dsimp only; rw [hfq, hsq]; exact hTe.1, by dsimp only; omega, ⟨rfl, rfl, rfl, rfl, rfl, rfl, rfl, rfl, rfl, rfl, trivial⟩, by dsimp only; rw [hfq, hTe.2.1, hTe.2.2]; exact hm.only (.cons _ (.cons_cons _ (.cons_cons _ (.cons_cons _ (.cons_cons _ (.cons_cons _ (List.nil_sublist _)))))))⟩)
      · -- else
        have hfin := htw.fin (by omega)
        refine sw_exit (into ?_)
        refine sw_seq ?_
        refine sw_region_tree _ [4, 5] (.one 2 0 (.one 3 0 (.one 0 1 (.alt 1 (.one 4 2 (.one 5 2 (.one 6 0 .done))) (.alt 4 (.one 1 2 (.one 5 2 (.one 6 0 .done))) .stop))))) (by kernel_rfl) (by kernel_rfl) (fun _ _ _ h => h) (fun _ h => h) (fun _ h => h.drawn _) ?_
        refine lt_pure rfl trivial (val_move rfl) rfl ?_   -- 99
        refine lt_pure rfl trivial ((val_eql_u64 rfl rfl).to (congrArg Value.bool (decide_eq_true ((UInt64.toNat.inj (hfin.1.trans (show 0 = (UInt64.ofNat (Int.toNat 0)).toNat from rfl))))))) rfl ?_   -- 100
        refine lt_held rfl trivial (val_load_all 1 rfl rfl Tryd.isAgg41 Tryd.sizeOf41 (by show (List.map vU8 (Ov.getD f.toNat default)).length = _; rw [List.length_map]; exact (htw.od _ (getD_mem (by rw [htw.ov]; omega))))) rfl ?_   -- 97
        refine lt_alt ?_ ?_
        · -- first 1
          refine lt_val rfl trivial (val_load_all 0 rfl rfl Tryd.isAgg41 Tryd.sizeOf41 (by show (List.map vU8 (Lv.getD f.toNat default)).length = _; rw [List.length_map]; exact (htw.ld _ (getD_mem (by rw [htw.lv]; omega))))) rfl (fun _ _ h => h) ?_   -- 98
          refine lt_do rfl trivial (does_store_all 4 rfl rfl rfl (one_u8s _) Tryd.sizeOf41 (by show (List.map vU8 (Ov.getD f.toNat default)).length = _; rw [List.length_map]; exact (htw.od _ (getD_mem (by rw [htw.ov]; omega)))) (by show (List.map vU8 zeros32).length = _; rw [List.length_map]; exact zeros32_len)) (fun h => nomatch h) (fun _ _ => ?_)
          refine lt_do rfl trivial (does_store_all 3 rfl rfl rfl (one_u8s _) Tryd.sizeOf41 (by show (List.map vU8 (Lv.getD f.toNat default)).length = _; rw [List.length_map]; exact (htw.ld _ (getD_mem (by rw [htw.lv]; omega)))) (by show (List.map vU8 zeros32).length = _; rw [List.length_map]; exact zeros32_len)) (fun h => nomatch h) (fun _ _ => ?_)
          refine lt_pure rfl trivial (val_assign rfl) rfl ?_   -- 12
          refine lt_done (into ?_)
          refine sw_ret (fun w hm => ?_)
          try dsimp only [thenP, blockP, Nat.beq, cond]
          exact ret_cct 3 4 rfl rfl rfl rfl hm rfl rfl Tryd.isAgg41 Tryd.sizeOf41 Tryd.isAgg41 Tryd.sizeOf41 (by show (List.map vU8 (Ov.getD f.toNat default)).length = _; rw [List.length_map]; exact (htw.od _ (getD_mem (by rw [htw.ov]; omega)))) (by show (List.map vU8 (Lv.getD f.toNat default)).length = _; rw [List.length_map]; exact (htw.ld _ (getD_mem (by rw [htw.lv]; omega)))) ⟨by rw [hfin.2.1, hfin.2.2] <;> rfl, hm.forgetAll⟩
        refine lt_alt ?_ ?_
        · -- first 4
          refine lt_do rfl trivial (does_store_all 4 rfl rfl rfl (one_u8s _) Tryd.sizeOf41 (by show (List.map vU8 (Ov.getD f.toNat default)).length = _; rw [List.length_map]; exact (htw.od _ (getD_mem (by rw [htw.ov]; omega)))) (by show (List.map vU8 zeros32).length = _; rw [List.length_map]; exact zeros32_len)) (fun h => nomatch h) (fun _ _ => ?_)
          refine lt_val rfl trivial (val_load_all 0 rfl rfl Tryd.isAgg41 Tryd.sizeOf41 (by show (List.map vU8 (Lv.getD f.toNat default)).length = _; rw [List.length_map]; exact (htw.ld _ (getD_mem (by rw [htw.lv]; omega))))) rfl (fun h => nomatch h) ?_   -- 98
          refine lt_do rfl trivial (does_store_all 3 rfl rfl rfl (one_u8s _) Tryd.sizeOf41 (by show (List.map vU8 (Lv.getD f.toNat default)).length = _; rw [List.length_map]; exact (htw.ld _ (getD_mem (by rw [htw.lv]; omega)))) (by show (List.map vU8 zeros32).length = _; rw [List.length_map]; exact zeros32_len)) (fun h => nomatch h) (fun _ _ => ?_)
          refine lt_pure rfl trivial (val_assign rfl) rfl ?_   -- 12
          refine lt_done (into ?_)
          refine sw_ret (fun w hm => ?_)
          try dsimp only [thenP, blockP, Nat.beq, cond]
          exact ret_cct 3 4 rfl rfl rfl rfl hm rfl rfl Tryd.isAgg41 Tryd.sizeOf41 Tryd.isAgg41 Tryd.sizeOf41 (by show (List.map vU8 (Ov.getD f.toNat default)).length = _; rw [List.length_map]; exact (htw.od _ (getD_mem (by rw [htw.ov]; omega)))) (by show (List.map vU8 (Lv.getD f.toNat default)).length = _; rw [List.length_map]; exact (htw.ld _ (getD_mem (by rw [htw.lv]; omega)))) ⟨by rw [hfin.2.1, hfin.2.2] <;> rfl, hm.forgetAll⟩
        exact lt_stop
    refine lt_alt ?_ ?_
    · -- first 7
      refine lt_make (fun b => .pointer (some ⟨b, 0, none⟩)) rfl trivial (acts_alloc zD) rfl (fun _ _ _ h => h.only (.cons _ (.cons_cons _ (.cons_cons _ (.cons_cons _ (List.nil_sublist _)))))) (fun b16 hb16 => ?_)   -- 16
      refine lt_make (fun b => .pointer (some ⟨b, 0, none⟩)) rfl trivial (acts_alloc zD) rfl (fun _ _ _ h => h.only (.cons _ (.cons _ (.cons_cons _ (.cons_cons _ (.cons_cons _ (List.nil_sublist _))))))) (fun b15 hb15 => ?_)   -- 15
      refine lt_do rfl trivial (does_store_all 0 rfl rfl rfl (one_u8s _) Tryd.sizeOf41 (by show (List.map vU8 (PP.getD 0 default)).length = _; rw [List.length_map]; exact (hXd _ (getD_mem (by omega)))) (by show (List.map vU8 zeros32).length = _; rw [List.length_map]; exact zeros32_len)) (fun _ _ _ _ h => h.only (.cons _ (.cons _ (.cons_cons _ (.cons_cons _ (.cons_cons _ (List.nil_sublist _))))))) (fun _ _ => ?_)
      refine lt_do rfl trivial (does_store_all 1 rfl rfl rfl (one_u8s _) Tryd.sizeOf41 (by show (List.map vU8 (PP.getD 0 default)).length = _; rw [List.length_map]; exact (hXd _ (getD_mem (by omega)))) (by show (List.map vU8 zeros32).length = _; rw [List.length_map]; exact zeros32_len)) (fun _ _ _ _ h => h.only (.cons _ (.cons _ (.cons_cons _ (.cons_cons _ (.cons_cons _ (List.nil_sublist _))))))) (fun _ _ => ?_)
      refine lt_done (into ?_)
      refine sw_seq ?_
      refine sw_seq ?_
      refine sw_region ?_
      refine ow_val (val_move rfl) rfl ?_   -- 50
      refine ow_val ((val_slice_lo 1 rfl rfl Tryd.underlying22 Tryd.sizeOf41 rfl (by omega) (by have h9 := hr27'.le; omega)).to (v' := .slice (some ⟨bp, o9, none⟩) R.length (c27 - 1)) (by rw [ho9, show PP.length - 1 = R.length by omega])) rfl ?_   -- 51
      refine ow_val (val_len rfl Tryd.underlying22) rfl ?_   -- 52
      refine ow_val (val_move rfl) rfl ?_   -- 53
      refine ow_nil (into ?_)
      refine sw_block ?_
      refine sw_loop (σ := UInt64 × UInt64 × Nat × List (List UInt8) × List (List UInt8)) (fun t => Two k (lg k S) o R t.2.2.1 t.2.2.2.1 t.2.2.2.2 t.1.toNat t.2.1.toNat) (fun t => [(53, vInt (t.2.2.1 : Int)), (52, vInt (R.length : Int)), (51, .slice (some ⟨bp, o9, none⟩) R.length (c27 - 1)), (14, vU64 t.2.1), (13, vU64 t.1), (16, .pointer (some ⟨b16, 0, none⟩)), (15, .pointer (some ⟨b15, 0, none⟩)), (11, .pointer (some ⟨b11, 0, none⟩)), (10, .pointer (some ⟨b10, 0, none⟩)), (0, vInt (k : Int))]) (fun t => Mem w [] [some (b16, blk ((t.2.2.2.1.getD t.1.toNat default).map vU8) 41), some (b15, blk ((t.2.2.2.2.getD t.1.toNat default).map vU8) 41), e27, some (b11, blk (zeros32.map vU8) 41), some (b10, blk (zeros32.map vU8) 41)]) (fun t => R.length - t.2.2.1) (f, s, 0, Lv, Lv.take (f.toNat + 1)) htw ⟨rfl, rfl, rfl, rfl, rfl, rfl, rfl, rfl, rfl, rfl, trivial⟩ (fun w hm => by dsimp only; rw [hg1, ← hg0]; exact (hm.only (.cons_cons _ (.cons_cons _ (.cons_cons _ (.cons_cons _ (.cons_cons _ (List.nil_sublist _))))))).perm (List.Perm.swap _ _ _)) ?_
      clear htw hone hPR hg0 hg1 hR hlv hlt hfq hsq hfm hf0
      clear h0
      rintro ⟨f, s, q, Lv, Ov⟩ htw
      simp only at htw ⊢
      have hle := htw.le
      have hqP := htw.qP
      have hfq : (f / UInt64.ofNat (Int.toNat 2)).toNat = f.toNat / 2 := UInt64.toNat_div _ _
      have hsq : (s / UInt64.ofNat (Int.toNat 2)).toNat = s.toNat / 2 := UInt64.toNat_div _ _
      have hfm : (f % UInt64.ofNat (Int.toNat 2)).toNat = f.toNat % 2 := UInt64.toNat_mod _ _
      refine sw_seq ?_
      refine sw_region ?_
      refine ow_val (val_lss_int rfl rfl) rfl ?_   -- 54
      refine ow_nil (into ?_)
      refine sw_seq ?_
      refine sw_if rfl (fun h0q => ?_) (fun h0q => ?_)
      · -- then
        refine sw_skip (into ?_)
        refine sw_seq ?_
        refine sw_block ?_
        refine sw_seq ?_
        refine sw_region ?_
        refine ow_val (val_indexAddr_slice (q) (o9 + q * 32) rfl rfl Tryd.underlying22 Tryd.sizeOf41 (by omega) (by omega) (by omega)) rfl ?_   -- 55
        refine ow_val (val_load_elem (cells := fun d => d.map vU8) (l := R) (o := o9) (i := q) rfl Tryd.isAgg41 Tryd.sizeOf41 (fun x hx => by rw [List.length_map]; exact hRd x hx) (by omega) (by omega) (fun w' hm => rdR (hr27'.rdAt hm (i := 2) rfl))) rfl ?_   -- 56
        refine ow_new (acts_alloc zD) rfl (fun b18 hb18 => ?_)   -- 18
        refine ow_do_eq (does_store_all 0 rfl rfl rfl (one_u8s _) Tryd.sizeOf41 (by show (List.map vU8 (R.getD q default)).length = _; rw [List.length_map]; exact (hRd _ (getD_mem (by omega)))) (by show (List.map vU8 zeros32).length = _; rw [List.length_map]; exact zeros32_len)) ?_
        refine ow_nil (into ?_)
        refine sw_seq ?_
        refine sw_seq ?_
        refine sw_region ?_
        refine ow_val (val_move rfl) rfl ?_   -- 57
        refine ow_val ((val_eql_u64 rfl rfl).to (congrArg Value.bool (decide_eq_false ((fun h => absurd (congrArg UInt64.toNat h) (by have h9 := htw.pos (by omega); show ¬ s.toNat = 0; omega)))))) rfl ?_   -- 58
        refine ow_nil (into ?_)
        refine sw_false rfl rfl ?_
        refine sw_skip (into ?_)
        refine sw_seq ?_
        refine sw_seq ?_
        rcases (show f.toNat % 2 = 1 ∨ (f.toNat % 2 = 0 ∧ f.toNat = s.toNat) ∨ (f.toNat % 2 = 0 ∧ f.toNat < s.toNat) by omega) with hp1 | ⟨hp1, hp2⟩ | ⟨hp1, hp2⟩
        · -- case
          obtain ⟨a0, ha0⟩ : ∃ z, Ov.getD f.toNat default = z := ⟨_, rfl⟩
          obtain ⟨b0, hb0⟩ : ∃ z, Lv.getD f.toNat default = z := ⟨_, rfl⟩
          rw [ha0, hb0]
          have ha0l : a0.length = 32 := by rw [← ha0]; exact htw.od _ (getD_mem (by rw [htw.ov]; omega))
          have ha0f : fm (k : Int) a0 = true := by rw [← ha0]; exact htw.og _ (getD_mem (by rw [htw.ov]; omega))
          have hb0l : b0.length = 32 := by rw [← hb0]; exact htw.ld _ (getD_mem (by rw [htw.lv]; omega))
          have hb0f : fm (k : Int) b0 = true := by rw [← hb0]; exact htw.lf _ (getD_mem (by rw [htw.lv]; omega))
          refine sw_region ?_
          refine ow_val (val_move rfl) rfl ?_   -- 61
          refine ow_val (val_rem_u64 rfl rfl (by decide)) rfl ?_   -- 62
          refine ow_val ((val_eql_u64 rfl rfl).to (congrArg Value.bool (decide_eq_true ((UInt64.toNat.inj (hfm.trans (hp1.trans (show 1 = (UInt64.ofNat (Int.toNat 1)).toNat from rfl)))))))) rfl ?_   -- 63
          refine ow_val (val_move rfl) rfl ?_   -- 64
          first | refine ow_guard_no rfl rfl rfl rfl rfl ?_ | refine ow_guard_none rfl rfl rfl rfl rfl ?_
          first | refine ow_guard_no rfl rfl rfl rfl rfl ?_ | refine ow_guard_none rfl rfl rfl rfl rfl ?_
          first | refine ow_guard_no rfl rfl rfl rfl rfl ?_ | refine ow_guard_none rfl rfl rfl rfl rfl ?_
          refine ow_val (val_pick_true rfl rfl) rfl ?_   -- 68
          refine ow_nil (into ?_)
          refine sw_true rfl rfl ?_
          refine sw_seq ?_
          refine sw_region_lex _ [8, 9] [(0, 0), (4, 0), (1, 1), (2, 1), (5, 1), (6, 1), (3, 2), (7, 2), (8, 2), (9, 2)] (by kernel_rfl) (by kernel_rfl) (fun _ _ _ h => h) (fun _ h => h) (fun _ h => h.drawn _) ?_
          refine lw_pure rfl (val_move rfl) rfl ?_   -- 69
          refine lw_pure rfl (val_move rfl) rfl ?_   -- 73
          refine lw_held rfl (val_load_all 0 rfl rfl Tryd.isAgg41 Tryd.sizeOf41 (by show (List.map vU8 (R.getD q default)).length = _; rw [List.length_map]; exact (hRd _ (getD_mem (by omega))))) rfl ?_   -- 70
          refine lw_held rfl (val_load_all 2 rfl rfl Tryd.isAgg41 Tryd.sizeOf41 (by show (List.map vU8 a0).length = _; rw [List.length_map]; exact ha0l)) rfl ?_   -- 71
          refine lw_held rfl (val_load_all 0 rfl rfl Tryd.isAgg41 Tryd.sizeOf41 (by show (List.map vU8 (R.getD q default)).length = _; rw [List.length_map]; exact (hRd _ (getD_mem (by omega))))) rfl ?_   -- 74
          refine lw_held rfl (val_load_all 1 rfl rfl Tryd.isAgg41 Tryd.sizeOf41 (by show (List.map vU8 b0).length = _; rw [List.length_map]; exact hb0l)) rfl ?_   -- 75
          refine lw_call_pure (v := .agg ((nd k (R.getD q default) a0).map vU8).toArray) rfl (callsTo Tryd.func56 rfl (by kernel_rfl) rfl) rfl (fun w hm => lnd_any k h1 h2 (R.getD q default) a0 (hRd _ (getD_mem (by omega))) ha0l (hRf _ (getD_mem (by omega))) ha0f w (hK.mem0 hm)) ?_   -- 72
          refine lw_call_pure (v := .agg ((nd k (R.getD q default) b0).map vU8).toArray) rfl (callsTo Tryd.func56 rfl (by kernel_rfl) rfl) rfl (fun w hm => lnd_any k h1 h2 (R.getD q default) b0 (hRd _ (getD_mem (by omega))) hb0l (hRf _ (getD_mem (by omega))) hb0f w (hK.mem0 hm)) ?_   -- 76
          refine lw_do rfl (does_store_all 2 rfl rfl rfl (one_u8s _) Tryd.sizeOf41 (by show (List.map vU8 (nd k (R.getD q default) a0)).length = _; rw [List.length_map]; exact (nd_len _ _ _ h2)) (by show (List.map vU8 a0).length = _; rw [List.length_map]; exact ha0l)) (fun h => nomatch h) (fun _ _ => ?_)
          refine lw_do rfl (does_store_all 1 rfl rfl rfl (one_u8s _) Tryd.sizeOf41 (by show (List.map vU8 (nd k (R.getD q default) b0)).length = _; rw [List.length_map]; exact (nd_len _ _ _ h2)) (by show (List.map vU8 b0).length = _; rw [List.length_map]; exact hb0l)) (fun h => nomatch h) (fun _ _ => ?_)
          refine lw_nil (into ?_)
          refine sw_block ?_
          refine sw_loop (σ := UInt64 × UInt64 × List (List UInt8) × List (List UInt8)) (fun t => Two k (lg k S) o R q t.2.2.1 t.2.2.2 t.1.toNat t.2.1.toNat ∧ t.2.2.1.getD t.1.toNat default = b0 ∧ t.2.2.2.getD t.1.toNat default = a0 ∧ (t.1.toNat % 2 = 0 → t.1.toNat = t.2.1.toNat ∧ 0 < t.1.toNat)) (fun t => [(14, vU64 t.2.1), (13, vU64 t.1), (53, vInt (q : Int)), (52, vInt (R.length : Int)), (51, .slice (some ⟨bp, o9, none⟩) R.length (c27 - 1)), (16, .pointer (some ⟨b16, 0, none⟩)), (15, .pointer (some ⟨b15, 0, none⟩)), (11, .pointer (some ⟨b11, 0, none⟩)), (10, .pointer (some ⟨b10, 0, none⟩)), (0, vInt (k : Int))]) (fun _ => Mem w [] [some (b16, blk ((nd k (R.getD q default) b0).map vU8) 41), some (b15, blk ((nd k (R.getD q default) a0).map vU8) 41), e27, some (b11, blk (zeros32.map vU8) 41), some (b10, blk (zeros32.map vU8) 41)]) (fun t => t.1.toNat) (f, s, Lv, Ov) ⟨htw, hb0, ha0, fun h => absurd (show f.toNat % 2 = 0 from h) (by omega)⟩ ⟨rfl, rfl, rfl, rfl, rfl, rfl, rfl, rfl, rfl, rfl, trivial⟩ (fun w hm => hm.only (.cons _ (.cons_cons _ (.cons_cons _ (.cons_cons _ (.cons_cons _ (.cons_cons _ (List.nil_sublist _)))))))) ?_
          clear htw hb0 ha0 hfq hsq hfm hle hp1
          rintro ⟨f, s, Lv, Ov⟩ ⟨htw, hb0, ha0, hen⟩
          simp only at htw hb0 ha0 hen ⊢
          have hle := htw.le
          have hfq : (f / UInt64.ofNat (Int.toNat 2)).toNat = f.toNat / 2 := UInt64.toNat_div _ _
          have hsq : (s / UInt64.ofNat (Int.toNat 2)).toNat = s.toNat / 2 := UInt64.toNat_div _ _
          have hfm : (f % UInt64.ofNat (Int.toNat 2)).toNat = f.toNat % 2 := UInt64.toNat_mod _ _
          refine sw_seq ?_
          refine sw_seq ?_
          by_cases hp3 : f.toNat % 2 = 0
          · -- case
            refine sw_region ?_
            refine ow_val (val_move rfl) rfl ?_   -- 77
            refine ow_val (val_rem_u64 rfl rfl (by decide)) rfl ?_   -- 78
            refine ow_val ((val_eql_u64 rfl rfl).to (congrArg Value.bool (decide_eq_true ((UInt64.toNat.inj (hfm.trans (hp3.trans (show 0 = (UInt64.ofNat (Int.toNat 0)).toNat from rfl)))))))) rfl ?_   -- 79
            refine ow_val (val_move rfl) rfl ?_   -- 80
            refine ow_guard_yes rfl rfl rfl ?_
            refine ow_val (val_move rfl) rfl ?_   -- 81
            refine ow_guard_yes rfl rfl rfl ?_
            refine ow_val ((val_gtr_u64 rfl rfl).to (congrArg Value.bool (decide_eq_true ((UInt64.lt_iff_toNat_lt.2 (show (UInt64.ofNat (Int.toNat 0)).toNat < f.toNat from (hen hp3).2)))))) rfl ?_   -- 82
            refine ow_val (val_pick_true rfl rfl) rfl ?_   -- 83
            refine ow_nil (into ?_)
            refine sw_true rfl rfl ?_
            refine sw_skip (into ?_)
            refine sw_block ?_
            refine sw_region ?_
            refine ow_val (val_move rfl) rfl ?_   -- 84
            refine ow_val (val_quo_u64 rfl rfl (by decide)) rfl ?_   -- 85
            refine ow_val (val_move rfl) rfl ?_   -- 86
            refine ow_val (val_quo_u64 rfl rfl (by decide)) rfl ?_   -- 87
            refine ow_val (val_assign rfl) rfl ?_   -- 13
            refine ow_val (val_assign rfl) rfl ?_   -- 14
            exact ow_nil (fun w hm => ⟨(f / UInt64.ofNat (Int.toNat 2), s / UInt64.ofNat (Int.toNat 2), upL k Lv, upL k Ov), ⟨by dsimp only; rw [hfq, hsq]; exact (htw.skip h1 h2 hp3 (hen hp3).1 (hen hp3).2).1, by dsimp only; rw [hfq, (htw.skip h1 h2 hp3 (hen hp3).1 (hen hp3).2).2.1]; exact hb0, by dsimp only; rw [hfq, (htw.skip h1 h2 hp3 (hen hp3).1 (hen hp3).2).2.2]; exact ha0, fun _ => by dsimp only; rw [hfq, hsq]; have h9 := hen hp3; omega⟩, by dsimp only; rw [hfq]; have h9 := hen hp3; omega, ⟨rfl, rfl, rfl, rfl, rfl, rfl, rfl, rfl, rfl, rfl, trivial⟩, hm.only (.cons_cons _ (.cons_cons _ (.cons_cons _ (.cons_cons _ (.cons_cons _ (List.nil_sublist _))))))⟩)
          · -- case
            have hTo' := htw.odd h1 h2 (by omega)
            rw [hb0, ha0] at hTo'
            have hTo := hTo'
            refine sw_region ?_
            refine ow_val (val_move rfl) rfl ?_   -- 77
            refine ow_val (val_rem_u64 rfl rfl (by decide)) rfl ?_   -- 78
            refine ow_val ((val_eql_u64 rfl rfl).to (congrArg Value.bool (decide_eq_false ((fun h => hp3 (hfm.symm.trans (congrArg UInt64.toNat h))))))) rfl ?_   -- 79
            refine ow_val (val_move rfl) rfl ?_   -- 80
            first | refine ow_guard_no rfl rfl rfl rfl rfl ?_ | refine ow_guard_none rfl rfl rfl rfl rfl ?_
            first | refine ow_guard_no rfl rfl rfl rfl rfl ?_ | refine ow_guard_none rfl rfl rfl rfl rfl ?_
            refine ow_val (val_pick_false rfl rfl) rfl ?_   -- 83
            refine ow_nil (into ?_)
            refine sw_false rfl rfl ?_
            refine sw_exit (into ?_)
            refine sw_region ?_
            refine ow_val (val_move rfl) rfl ?_   -- 92
            refine ow_val (val_quo_u64 rfl rfl (by decide)) rfl ?_   -- 93
            refine ow_val (val_move rfl) rfl ?_   -- 94
            refine ow_val (val_quo_u64 rfl rfl (by decide)) rfl ?_   -- 95
            refine ow_val (val_assign rfl) rfl ?_   -- 13
            refine ow_val (val_assign rfl) rfl ?_   -- 14
            refine ow_nil (into ?_)
            refine sw_region ?_
            refine ow_val (val_add_int ((q + 1 : Nat) : Int) rfl rfl (by omega) (by omega)) rfl ?_   -- 96
            refine ow_val (val_move rfl) rfl ?_   -- 53
            exact ow_nil (fun w hm => ⟨(f / UInt64.ofNat (Int.toNat 2), s / UInt64.ofNat (Int.toNat 2), q + 1, upL k Lv, upL k Ov), by dsimp only; rw [hfq, hsq]; exact hTo.1, by dsimp only; omega, ⟨rfl, rfl, rfl, rfl, rfl, rfl, rfl, rfl, rfl, rfl, trivial⟩, by dsimp only; rw [hfq, hTo.2.1, hTo.2.2]; exact hm.only (.cons_cons _ (.cons_cons _ (.cons_cons _ (.cons_cons _ (.cons_cons _ (List.nil_sublist _))))))⟩)
        · -- case
          obtain ⟨a0, ha0⟩ : ∃ z, Ov.getD f.toNat default = z := ⟨_, rfl⟩
          obtain ⟨b0, hb0⟩ : ∃ z, Lv.getD f.toNat default = z := ⟨_, rfl⟩
          rw [ha0, hb0]
          have ha0l : a0.length = 32 := by rw [← ha0]; exact htw.od _ (getD_mem (by rw [htw.ov]; omega))
          have ha0f : fm (k : Int) a0 = true := by rw [← ha0]; exact htw.og _ (getD_mem (by rw [htw.ov]; omega))
          have hb0l : b0.length = 32 := by rw [← hb0]; exact htw.ld _ (getD_mem (by rw [htw.lv]; omega))
          have hb0f : fm (k : Int) b0 = true := by rw [← hb0]; exact htw.lf _ (getD_mem (by rw [htw.lv]; omega))
          refine sw_region ?_
          refine ow_val (val_move rfl) rfl ?_   -- 61
          refine ow_val (val_rem_u64 rfl rfl (by decide)) rfl ?_   -- 62
          refine ow_val ((val_eql_u64 rfl rfl).to (congrArg Value.bool (decide_eq_false ((fun h => absurd (hfm.symm.trans (congrArg UInt64.toNat h)) (by rw [hp1]; decide)))))) rfl ?_   -- 63
          refine ow_val (val_move rfl) rfl ?_   -- 64
          refine ow_guard_yes rfl rfl rfl ?_
          refine ow_val (val_move rfl) rfl ?_   -- 65
          refine ow_guard_yes rfl rfl rfl ?_
          refine ow_val (val_move rfl) rfl ?_   -- 66
          refine ow_guard_yes rfl rfl rfl ?_
          refine ow_val ((val_eql_u64 rfl rfl).to (congrArg Value.bool (decide_eq_true ((UInt64.toNat.inj hp2))))) rfl ?_   -- 67
          refine ow_val (val_pick_false rfl rfl) rfl ?_   -- 68
          refine ow_nil (into ?_)
          refine sw_true rfl rfl ?_
          refine sw_seq ?_
          refine sw_region_lex _ [8, 9] [(0, 0), (4, 0), (1, 1), (2, 1), (5, 1), (6, 1), (3, 2), (7, 2), (8, 2), (9, 2)] (by kernel_rfl) (by kernel_rfl) (fun _ _ _ h => h) (fun _ h => h) (fun _ h => h.drawn _) ?_
          refine lw_pure rfl (val_move rfl) rfl ?_   -- 69
          refine lw_pure rfl (val_move rfl) rfl ?_   -- 73
          refine lw_held rfl (val_load_all 0 rfl rfl Tryd.isAgg41 Tryd.sizeOf41 (by show (List.map vU8 (R.getD q default)).length = _; rw [List.length_map]; exact (hRd _ (getD_mem (by omega))))) rfl ?_   -- 70
          refine lw_held rfl (val_load_all 2 rfl rfl Tryd.isAgg41 Tryd.sizeOf41 (by show (List.map vU8 a0).length = _; rw [List.length_map]; exact ha0l)) rfl ?_   -- 71
          refine lw_held rfl (val_load_all 0 rfl rfl Tryd.isAgg41 Tryd.sizeOf41 (by show (List.map vU8 (R.getD q default)).length = _; rw [List.length_map]; exact (hRd _ (getD_mem (by omega))))) rfl ?_   -- 74
          refine lw_held rfl (val_load_all 1 rfl rfl Tryd.isAgg41 Tryd.sizeOf41 (by show (List.map vU8 b0).length = _; rw [List.length_map]; exact hb0l)) rfl ?_   -- 75
          refine lw_call_pure (v := .agg ((nd k (R.getD q default) a0).map vU8).toArray) rfl (callsTo Tryd.func56 rfl (by kernel_rfl) rfl) rfl (fun w hm => lnd_any k h1 h2 (R.getD q default) a0 (hRd _ (getD_mem (by omega))) ha0l (hRf _ (getD_mem (by omega))) ha0f w (hK.mem0 hm)) ?_   -- 72
          refine lw_call_pure (v := .agg ((nd k (R.getD q default) b0).map vU8).toArray) rfl (callsTo Tryd.func56 rfl (by kernel_rfl) rfl) rfl (fun w hm => lnd_any k h1 h2 (R.getD q default) b0 (hRd _ (getD_mem (by omega))) hb0l (hRf _ (getD_mem (by omega))) hb0f w (hK.mem0 hm)) ?_   -- 76
          refine lw_do rfl (does_store_all 2 rfl rfl rfl (one_u8s _) Tryd.sizeOf41 (by show (List.map vU8 (nd k (R.getD q default) a0)).length = _; rw [List.length_map]; exact (nd_len _ _ _ h2)) (by show (List.map vU8 a0).length = _; rw [List.length_map]; exact ha0l)) (fun h => nomatch h) (fun _ _ => ?_)
          refine lw_do rfl (does_store_all 1 rfl rfl rfl (one_u8s _) Tryd.sizeOf41 (by show (List.map vU8 (nd k (R.getD q default) b0)).length = _; rw [List.length_map]; exact (nd_len _ _ _ h2)) (by show (List.map vU8 b0).length = _; rw [List.length_map]; exact hb0l)) (fun h => nomatch h) (fun _ _ => ?_)
          refine lw_nil (into ?_)
          refine sw_block ?_
          refine sw_loop (σ := UInt64 × UInt64 × List (List UInt8) × List (List UInt8)) (fun t => Two k (lg k S) o R q t.2.2.1 t.2.2.2 t.1.toNat t.2.1.toNat ∧ t.2.2.1.getD t.1.toNat default = b0 ∧ t.2.2.2.getD t.1.toNat default = a0 ∧ (t.1.toNat % 2 = 0 → t.1.toNat = t.2.1.toNat ∧ 0 < t.1.toNat)) (fun t => [(14, vU64 t.2.1), (13, vU64 t.1), (53, vInt (q : Int)), (52, vInt (R.length : Int)), (51, .slice (some ⟨bp, o9, none⟩) R.length (c27 - 1)), (16, .pointer (some ⟨b16, 0, none⟩)), (15, .pointer (some ⟨b15, 0, none⟩)), (11, .pointer (some ⟨b11, 0, none⟩)), (10, .pointer (some ⟨b10, 0, none⟩)), (0, vInt (k : Int))]) (fun _ => Mem w [] [some (b16, blk ((nd k (R.getD q default) b0).map vU8) 41), some (b15, blk ((nd k (R.getD q default) a0).map vU8) 41), e27, some (b11, blk (zeros32.map vU8) 41), some (b10, blk (zeros32.map vU8) 41)]) (fun t => t.1.toNat) (f, s, Lv, Ov) ⟨htw, hb0, ha0, fun _ => ⟨hp2, by have h9 := htw.pos (by omega); show 0 < f.toNat; omega⟩⟩ ⟨rfl, rfl, rfl, rfl, rfl, rfl, rfl, rfl, rfl, rfl, trivial⟩ (fun w hm => hm.only (.cons _ (.cons_cons _ (.cons_cons _ (.cons_cons _ (.cons_cons _ (.cons_cons _ (List.nil_sublist _)))))))) ?_
          clear htw hb0 ha0 hfq hsq hfm hle hp1
          rintro ⟨f, s, Lv, Ov⟩ ⟨htw, hb0, ha0, hen⟩
          simp only at htw hb0 ha0 hen ⊢
          have hle := htw.le
          have hfq : (f / UInt64.ofNat (Int.toNat 2)).toNat = f.toNat / 2 := UInt64.toNat_div _ _
          have hsq : (s / UInt64.ofNat (Int.toNat 2)).toNat = s.toNat / 2 := UInt64.toNat_div _ _
          have hfm : (f % UInt64.ofNat (Int.toNat 2)).toNat = f.toNat % 2 := UInt64.toNat_mod _ _
          refine sw_seq ?_
          refine sw_seq ?_
          by_cases hp3 : f.toNat % 2 = 0
          · -- case
            refine sw_region ?_
            refine ow_val (val_move rfl) rfl ?_   -- 77
            refine ow_val (val_rem_u64 rfl rfl (by decide)) rfl ?_   -- 78
            refine ow_val ((val_eql_u64 rfl rfl).to (congrArg Value.bool (decide_eq_true ((UInt64.toNat.inj (hfm.trans (hp3.trans (show 0 = (UInt64.ofNat (Int.toNat 0)).toNat from rfl)))))))) rfl ?_   -- 79
            refine ow_val (val_move rfl) rfl ?_   -- 80
            refine ow_guard_yes rfl rfl rfl ?_
            refine ow_val (val_move rfl) rfl ?_   -- 81
            refine ow_guard_yes rfl rfl rfl ?_
            refine ow_val ((val_gtr_u64 rfl rfl).to (congrArg Value.bool (decide_eq_true ((UInt64.lt_iff_toNat_lt.2 (show (UInt64.ofNat (Int.toNat 0)).toNat < f.toNat from (hen hp3).2)))))) rfl ?_   -- 82
            refine ow_val (val_pick_true rfl rfl) rfl ?_   -- 83
            refine ow_nil (into ?_)
            refine sw_true rfl rfl ?_
            refine sw_skip (into ?_)
            refine sw_block ?_
            refine sw_region ?_
            refine ow_val (val_move rfl) rfl ?_   -- 84
            refine ow_val (val_quo_u64 rfl rfl (by decide)) rfl ?_   -- 85
            refine ow_val (val_move rfl) rfl ?_   -- 86
            refine ow_val (val_quo_u64 rfl rfl (by decide)) rfl ?_   -- 87
            refine ow_val (val_assign rfl) rfl ?_   -- 13
            refine ow_val (val_assign rfl) rfl ?_   -- 14
            exact ow_nil (fun w hm => ⟨(f / UInt64.ofNat (Int.toNat 2), s / UInt64.ofNat (Int.toNat 2), upL k Lv, upL k Ov), ⟨by dsimp only; rw [hfq, hsq]; exact (htw.skip h1 h2 hp3 (hen hp3).1 (hen hp3).2).1, by dsimp only; rw [hfq, (htw.skip h1 h2 hp3 (hen hp3).1 (hen hp3).2).2.1]; exact hb0, by dsimp only; rw [hfq, (htw.skip h1 h2 hp3 (hen hp3).1 (hen hp3).2).2.2]; exact ha0, fun _ => by dsimp only; rw [hfq, hsq]; have h9 := hen hp3; omega⟩, by dsimp only; rw [hfq]; have h9 := hen hp3; omega, ⟨rfl, rfl, rfl, rfl, rfl, rfl, rfl, rfl, rfl, rfl, trivial⟩, hm.only (.cons_cons _ (.cons_cons _ (.cons_cons _ (.cons_cons _ (.cons_cons _ (List.nil_sublist _))))))⟩)
          · -- case
            have hTo' := htw.odd h1 h2 (by omega)
            rw [hb0, ha0] at hTo'
            have hTo := hTo'
            refine sw_region ?_
            refine ow_val (val_move rfl) rfl ?_   -- 77
            refine ow_val (val_rem_u64 rfl rfl (by decide)) rfl ?_   -- 78
            refine ow_val ((val_eql_u64 rfl rfl).to (congrArg Value.bool (decide_eq_false ((fun h => hp3 (hfm.symm.trans (congrArg UInt64.toNat h))))))) rfl ?_   -- 79
            refine ow_val (val_move rfl) rfl ?_   -- 80
            first | refine ow_guard_no rfl rfl rfl rfl rfl ?_ | refine ow_guard_none rfl rfl rfl rfl rfl ?_
            first | refine ow_guard_no rfl rfl rfl rfl rfl ?_ | refine ow_guard_none rfl rfl rfl rfl rfl ?_
            refine ow_val (val_pick_false rfl rfl) rfl ?_   -- 83
            refine ow_nil (into ?_)
            refine sw_false rfl rfl ?_
            refine sw_exit (into ?_)
            refine sw_region ?_
            refine ow_val (val_move rfl) rfl ?_   -- 92
            refine ow_val (val_quo_u64 rfl rfl (by decide)) rfl ?_   -- 93
            refine ow_val (val_move rfl) rfl ?_   -- 94
            refine ow_val (val_quo_u64 rfl rfl (by decide)) rfl ?_   -- 95
            refine ow_val (val_assign rfl) rfl ?_   -- 13
            refine ow_val (val_assign rfl) rfl ?_   -- 14
            refine ow_nil (into ?_)
            refine sw_region ?_
            refine ow_val (val_add_int ((q + 1 : Nat) : Int) rfl rfl (by omega) (by omega)) rfl ?_   -- 96
            refine ow_val (val_move rfl) rfl ?_   -- 53
            exact ow_nil (fun w hm => ⟨(f / UInt64.ofNat (Int.toNat 2), s / UInt64.ofNat (Int.toNat 2), q + 1, upL k Lv, upL k Ov), by dsimp only; rw [hfq, hsq]; exact hTo.1, by dsimp only; omega, ⟨rfl, rfl, rfl, rfl, rfl, rfl, rfl, rfl, rfl, rfl, trivial⟩, by dsimp only; rw [hfq, hTo.2.1, hTo.2.2]; exact hm.only (.cons_cons _ (.cons_cons _ (.cons_cons _ (.cons_cons _ (.cons_cons _ (List.nil_sublist _))))))⟩)
        · -- case
          have hTe := htw.even h1 h2 hp1 hp2
          refine sw_region ?_
          refine ow_val (val_move rfl) rfl ?_   -- 61
          refine ow_val (val_rem_u64 rfl rfl (by decide)) rfl ?_   -- 62
          refine ow_val ((val_eql_u64 rfl rfl).to (congrArg Value.bool (decide_eq_false ((fun h => absurd (hfm.symm.trans (congrArg UInt64.toNat h)) (by rw [hp1]; decide)))))) rfl ?_   -- 63
          refine ow_val (val_move rfl) rfl ?_   -- 64
          refine ow_guard_yes rfl rfl rfl ?_
          refine ow_val (val_move rfl) rfl ?_   -- 65
          refine ow_guard_yes rfl rfl rfl ?_
          refine ow_val (val_move rfl) rfl ?_   -- 66
          refine ow_guard_yes rfl rfl rfl ?_
          refine ow_val ((val_eql_u64 rfl rfl).to (congrArg Value.bool (decide_eq_false ((fun h => absurd (congrArg UInt64.toNat h) (by omega)))))) rfl ?_   -- 67
          refine ow_val (val_pick_false rfl rfl) rfl ?_   -- 68
          refine ow_nil (into ?_)
          refine sw_false rfl rfl ?_
          refine sw_region ?_
          refine ow_val (val_move rfl) rfl ?_   -- 88
          refine ow_val (val_load_all 1 rfl rfl Tryd.isAgg41 Tryd.sizeOf41 (by show (List.map vU8 (Lv.getD f.toNat default)).length = _; rw [List.length_map]; exact (htw.ld _ (getD_mem (by rw [htw.lv]; omega))))) rfl ?_   -- 89
          refine ow_val (val_load_all 0 rfl rfl Tryd.isAgg41 Tryd.sizeOf41 (by show (List.map vU8 (R.getD q default)).length = _; rw [List.length_map]; exact (hRd _ (getD_mem (by omega))))) rfl ?_   -- 90
          refine ow_call_pure (v := .agg ((nd k (Lv.getD f.toNat default) (R.getD q default)).map vU8).toArray) (callsTo Tryd.func56 rfl (by kernel_rfl) rfl) rfl (fun w hm => lnd_any k h1 h2 (Lv.getD f.toNat default) (R.getD q default) (htw.ld _ (getD_mem (by rw [htw.lv]; omega))) (hRd _ (getD_mem (by omega))) (htw.lf _ (getD_mem (by rw [htw.lv]; omega))) (hRf _ (getD_mem (by omega))) w (hK.mem0 hm)) ?_   -- 91
          refine ow_do_eq (does_store_all 1 rfl rfl rfl (one_u8s _) Tryd.sizeOf41 (by show (List.map vU8 (nd k (Lv.getD f.toNat default) (R.getD q default))).length = _; rw [List.length_map]; exact (nd_len _ _ _ h2)) (by show (List.map vU8 (Lv.getD f.toNat default)).length = _; rw [List.length_map]; exact (htw.ld _ (getD_mem (by rw [htw.lv]; omega))))) ?_
          refine ow_nil (into ?_)
          refine sw_region ?_
          refine ow_val (val_move rfl) rfl ?_   -- 92
          refine ow_val (val_quo_u64 rfl rfl (by decide)) rfl ?_   -- 93
          refine ow_val (val_move rfl) rfl ?_   -- 94
          refine ow_val (val_quo_u64 rfl rfl (by decide)) rfl ?_   -- 95
          refine ow_val (val_assign rfl) rfl ?_   -- 13
          refine ow_val (val_assign rfl) rfl ?_   -- 14
          refine ow_nil (into ?_)
          refine sw_region ?_
          refine ow_val (val_add_int ((q + 1 : Nat) : Int) rfl rfl (by omega) (by omega)) rfl ?_   -- 96
          refine ow_val (val_move rfl) rfl ?_   -- 53
          exact ow_nil (fun w hm => ⟨(f / UInt64.ofNat (Int.toNat 2), s / UInt64.ofNat (Int.toNat 2), q + 1, upL k Lv, upL k Ov), by dsimp only; rw [hfq, hsq]; exact hTe.1, by dsimp only; omega, ⟨rfl, rfl, rfl, rfl, rfl, rfl, rfl, rfl, rfl, rfl, trivial⟩, by dsimp only; rw [hfq, hTe.2.1, hTe.2.2]; exact hm.only (.cons _ (.cons_cons _ (.cons_cons _ (.cons_cons _ (.cons_cons _ (.cons_cons _ (List.nil_sublist _)))))))⟩)
      · -- else
        have hfin := htw.fin (by omega)
        refine sw_exit (into ?_)
        refine sw_seq ?_
        refine sw_region_tree _ [4, 5] (.one 2 0 (.one 3 0 (.one 0 1 (.alt 1 (.one 4 2 (.one 5 2 (.one 6 0 .done))) (.alt 4 (.one 1 2 (.one 5 2 (.one 6 0 .done))) .stop))))) (by kernel_rfl) (by kernel_rfl) (fun _ _ _ h => h) (fun _ h => h) (fun _ h => h.drawn _) ?_
        refine lt_pure rfl trivial (val_move rfl) rfl ?_   -- 99
        refine lt_pure rfl trivial ((val_eql_u64 rfl rfl).to (congrArg Value.bool (decide_eq_true ((UInt64.toNat.inj (hfin.1.trans (show 0 = (UInt64.ofNat (Int.toNat 0)).toNat from rfl))))))) rfl ?_   -- 100
        refine lt_held rfl trivial (val_load_all 1 rfl rfl Tryd.isAgg41 Tryd.sizeOf41 (by show (List.map vU8 (Ov.getD f.toNat default)).length = _; rw [List.length_map]; exact (htw.od _ (getD_mem (by rw [htw.ov]; omega))))) rfl ?_   -- 97
        refine lt_alt ?_ ?_
        · -- first 1
          refine lt_val rfl trivial (val_load_all 0 rfl rfl Tryd.isAgg41 Tryd.sizeOf41 (by show (List.map vU8 (Lv.getD f.toNat default)).length = _; rw [List.length_map]; exact (htw.ld _ (getD_mem (by rw [htw.lv]; omega))))) rfl (fun _ _ h => h) ?_   -- 98
          refine lt_do rfl trivial (does_store_all 4 rfl rfl rfl (one_u8s _) Tryd.sizeOf41 (by show (List.map vU8 (Ov.getD f.toNat default)).length = _; rw [List.length_map]; exact (htw.od _ (getD_mem (by rw [htw.ov]; omega)))) (by show (List.map vU8 zeros32).length = _; rw [List.length_map]; exact zeros32_len)) (fun h => nomatch h) (fun _ _ => ?_)
          refine lt_do rfl trivial (does_store_all 3 rfl rfl rfl (one_u8s _) Tryd.sizeOf41 (by show (List.map vU8 (Lv.getD f.toNat default)).length = _; rw [List.length_map]; exact (htw.ld _ (getD_mem (by rw [htw.lv]; omega)))) (by show (List.map vU8 zeros32).length = _; rw [List.length_map]; exact zeros32_len)) (fun h => nomatch h) (fun _ _ => ?_)
          refine lt_pure rfl trivial (val_assign rfl) rfl ?_   -- 12
          refine lt_done (into ?_)
          refine sw_ret (fun w hm => ?_)
          try dsimp only [thenP, blockP, Nat.beq, cond]
          exact ret_cct 3 4 rfl rfl rfl rfl hm rfl rfl Tryd.isAgg41 Tryd.sizeOf41 Tryd.isAgg41 Tryd.sizeOf41 (by show (List.map vU8 (Ov.getD f.toNat default)).length = _; rw [List.length_map]; exact (htw.od _ (getD_mem (by rw [htw.ov]; omega)))) (by show (List.map vU8 (Lv.getD f.toNat default)).length = _; rw [List.length_map]; exact (htw.ld _ (getD_mem (by rw [htw.lv]; omega)))) ⟨by rw [hfin.2.1, hfin.2.2] <;> rfl, hm.forgetAll⟩
        refine lt_alt ?_ ?_
        · -- first 4
          refine lt_do rfl trivial (does_store_all 4 rfl rfl rfl (one_u8s _) Tryd.sizeOf41 (by show (List.map vU8 (Ov.getD f.toNat default)).length = _; rw [List.length_map]; exact (htw.od _ (getD_mem (by rw [htw.ov]; omega)))) (by show (List.map vU8 zeros32).length = _; rw [List.length_map]; exact zeros32_len)) (fun h => nomatch h) (fun _ _ => ?_)
          refine lt_val rfl trivial (val_load_all 0 rfl rfl Tryd.isAgg41 Tryd.sizeOf41 (by show (List.map vU8 (Lv.getD f.toNat default)).length = _; rw [List.length_map]; exact (htw.ld _ (getD_mem (by rw [htw.lv]; omega))))) rfl (fun h => nomatch h) ?_   -- 98
          refine lt_do rfl trivial (does_store_all 3 rfl rfl rfl (one_u8s _) Tryd.sizeOf41 (by show (List.map vU8 (Lv.getD f.toNat default)).length = _; rw [List.length_map]; exact (htw.ld _ (getD_mem (by rw [htw.lv]; omega)))) (by show (List.map vU8 zeros32).length = _; rw [List.length_map]; exact zeros32_len)) (fun h => nomatch h) (fun _ _ => ?_)
          refine lt_pure rfl trivial (val_assign rfl) rfl ?_   -- 12
          refine lt_done (into ?_)
          refine sw_ret (fun w hm => ?_)
          try dsimp only [thenP, blockP, Nat.beq, cond]
          exact ret_cct 3 4 rfl rfl rfl rfl hm rfl rfl Tryd.isAgg41 Tryd.sizeOf41 Tryd.isAgg41 Tryd.sizeOf41 (by show (List.map vU8 (Ov.getD f.toNat default)).length = _; rw [List.length_map]; exact (htw.od _ (getD_mem (by rw [htw.ov]; omega)))) (by show (List.map vU8 (Lv.getD f.toNat default)).length = _; rw [List.length_map]; exact (htw.ld _ (getD_mem (by rw [htw.lv]; omega)))) ⟨by rw [hfin.2.1, hfin.2.2] <;> rfl, hm.forgetAll⟩
        exact lt_stop
    exact lt_stop

theorem both_is (k : Nat) (h1 : 1 ≤ k) (h2 : k ≤ 32) (m n : UInt64) (o : List UInt8) (ho : o.length = 32) (hof : fm (k : Int) o = true) (w : World) (hK : KW w) (a : Option Addr) (m9 c : Nat) (l : List (List UInt8)) (hlm : l.length = m9) (hdl : ∀ d ∈ l, d.length = 32) (hfl : ∀ d ∈ l, fm (k : Int) d = true) (hr : Rd w a (l.flatMap fun d => d.map vU8)) (hc : m9 ≤ c) (hb : m9 * 32 ≤ 140737488351232) (S : List (List UInt8)) (hSn : S.length = n.toNat) (hSd : ∀ d ∈ S, d.length = 32) (hSf : ∀ d ∈ S, fm (k : Int) d = true) (hm1 : 1 ≤ m.toNat) (hmn : m.toNat < n.toNat) (hQ : conL k S m.toNat true = l) (ho2 : lg k (S.take m.toNat) = o) : Calls Tryd.prog 27 #[vInt (k : Int), vU64 m, vU64 n, .agg ((o).map vU8).toArray, .slice a m9 c] w fun e w' => ∃ v, e = .returned v ∧ v = .tuple #[.agg ((o).map vU8).toArray, .agg ((lg k S).map vU8).toArray, .bool true] ∧ Mem w [] [] w' := by
  subst hlm
  by_cases hp : m.toNat &&& (m.toNat - 1) = 0
  · exact both_B k h1 h2 m n o ho hof w hK a c l hdl hfl hr hc hb S hSn hSd hSf hm1 hmn hQ ho2 hp
  · exact both_A k h1 h2 m n o ho hof w hK a c l hdl hfl hr hc hb S hSn hSd hSf hm1 hmn hQ ho2 hp
theorem seg_take {l : List (List UInt8)} {m n : Nat} (h : m ≤ n) : (seg l 0 n).take m = seg l 0 m := by
  rw [seg, seg, List.drop_zero, List.take_take, Nat.sub_zero, Nat.sub_zero, Nat.min_eq_left h]

theorem since_none (v0 : Int) (hwd : wd v0 = false) (m n : UInt64) (w : World) (hK : KW w) (a : Option Addr) (c : Nat) (l : List (List UInt8)) (hdl : ∀ d ∈ l, d.length = 32) (hr : Rd w a (l.flatMap fun d => d.map vU8)) (hc : l.length ≤ c) (hb : l.length * 32 ≤ 140737488351232) : Calls Tryd.prog 8 #[vInt v0, .slice a l.length c, vU64 m, vU64 n] w fun e w' => ∃ v, e = .returned v ∧ v = .bool true ∧ Mem w [] [] w' := by
  refine calls_of_sw (vs := [vInt v0, .slice a l.length c, vU64 m, vU64 n]) Tryd.func8 rfl Tryd.ntmps8 rfl (SW.begin ?_)
  refine sw_seq ?_
  refine sw_region ?_
  refine ow_val (val_assign rfl) rfl ?_   -- 8
  refine ow_nil (into ?_)
  refine sw_seq ?_
  refine sw_seq ?_
  refine sw_region ?_
  refine ow_call_pure (v := .bool true) (callsTo Tryd.func14 rfl (by kernel_rfl) rfl) rfl (fun w hm => awake_any w (hK.mem0 hm)) ?_   -- 24
  refine ow_val (val_not rfl) rfl ?_   -- 25
  refine ow_nil (into ?_)
  refine sw_false rfl rfl ?_
  refine sw_skip (into ?_)
  refine sw_seq ?_
  refine sw_region ?_
  refine ow_val (val_move rfl) rfl ?_   -- 27
  refine ow_val (val_move rfl) rfl ?_   -- 28
  refine ow_call_pure (v := .tuple #[.pointer none, .slice none 0 0, .bool false]) (callsTo Tryd.func15 rfl (by kernel_rfl) rfl) rfl (fun w hm => tree_no v0 hwd w _ _ _) ?_   -- 29
  refine ow_val (val_move rfl) rfl ?_   -- 26
  refine ow_val (val_extract rfl rfl) rfl ?_   -- 30
  refine ow_val (val_extract rfl rfl) rfl ?_   -- 31
  refine ow_val (val_extract rfl rfl) rfl ?_   -- 32
  refine ow_val (val_assign rfl) rfl ?_   -- 9
  refine ow_val (val_assign rfl) rfl ?_   -- 10
  refine ow_val (val_assign rfl) rfl ?_   -- 11
  refine ow_nil (into ?_)
  refine sw_seq ?_
  refine sw_seq ?_
  refine sw_region ?_
  refine ow_val (val_move rfl) rfl ?_   -- 33
  refine ow_val (val_not rfl) rfl ?_   -- 34
  refine ow_val (val_move rfl) rfl ?_   -- 35
  first | refine ow_guard_no rfl rfl rfl rfl rfl ?_ | refine ow_guard_none rfl rfl rfl rfl rfl ?_
  first | refine ow_guard_no rfl rfl rfl rfl rfl ?_ | refine ow_guard_none rfl rfl rfl rfl rfl ?_
  first | refine ow_guard_no rfl rfl rfl rfl rfl ?_ | refine ow_guard_none rfl rfl rfl rfl rfl ?_
  refine ow_val (val_pick_true rfl rfl) rfl ?_   -- 39
  refine ow_val (val_move rfl) rfl ?_   -- 40
  first | refine ow_guard_no rfl rfl rfl rfl rfl ?_ | refine ow_guard_none rfl rfl rfl rfl rfl ?_
  first | refine ow_guard_no rfl rfl rfl rfl rfl ?_ | refine ow_guard_none rfl rfl rfl rfl rfl ?_
  first | refine ow_guard_no rfl rfl rfl rfl rfl ?_ | refine ow_guard_none rfl rfl rfl rfl rfl ?_
  first | refine ow_guard_no rfl rfl rfl rfl rfl ?_ | refine ow_guard_none rfl rfl rfl rfl rfl ?_
  first | refine ow_guard_no rfl rfl rfl rfl rfl ?_ | refine ow_guard_none rfl rfl rfl rfl rfl ?_
  refine ow_val (val_pick_true rfl rfl) rfl ?_   -- 46
  refine ow_nil (into ?_)
  refine sw_true rfl rfl ?_
  refine sw_seq ?_
  refine sw_region ?_
  refine ow_val (val_assign rfl) rfl ?_   -- 8
  refine ow_nil (into ?_)
  refine sw_ret (fun w hm => ?_)
  try dsimp only [thenP, blockP, Nat.beq, cond]
  exact ret_one _ rfl rfl ⟨rfl, hm.forgetAll⟩

theorem since_a (k : Nat) (h1 : 1 ≤ k) (h2 : k ≤ 32) (m n : UInt64) (w : World) (hK : KW w) (a : Option Addr) (c : Nat) (l : List (List UInt8)) (hdl : ∀ d ∈ l, d.length = 32) (hr : Rd w a (l.flatMap fun d => d.map vU8)) (hc : l.length ≤ c) (hb : l.length * 32 ≤ 140737488351232) (L : List (List UInt8)) (hL : cutL k l = L) (hmn : n.toNat < m.toNat) : Calls Tryd.prog 8 #[vInt (k : Int), .slice a l.length c, vU64 m, vU64 n] w fun e w' => ∃ v, e = .returned v ∧ v = .bool true ∧ Mem w [] [] w' := by
  have hcl := cutL_ok h1 h2 hdl
  rw [hL] at hcl
  have hLd := hcl.1
  have hLf := hcl.2
  have hLn : L.length = l.length := by rw [← hL]; exact cutL_len k l
  refine calls_of_sw (vs := [vInt (k : Int), .slice a l.length c, vU64 m, vU64 n]) Tryd.func8 rfl Tryd.ntmps8 rfl (SW.begin ?_)
  refine sw_seq ?_
  refine sw_region ?_
  refine ow_val (val_assign rfl) rfl ?_   -- 8
  refine ow_nil (into ?_)
  refine sw_seq ?_
  refine sw_seq ?_
  refine sw_region ?_
  refine ow_call_pure (v := .bool true) (callsTo Tryd.func14 rfl (by kernel_rfl) rfl) rfl (fun w hm => awake_any w (hK.mem0 hm)) ?_   -- 24
  refine ow_val (val_not rfl) rfl ?_   -- 25
  refine ow_nil (into ?_)
  refine sw_false rfl rfl ?_
  refine sw_skip (into ?_)
  refine sw_seq ?_
  refine sw_region ?_
  refine ow_val (val_move rfl) rfl ?_   -- 27
  refine ow_val (val_move rfl) rfl ?_   -- 28
  refine ow_call_tail (σ := Nat × Option Addr × Nat × List Ent) (fun q9 => .tuple #[vPtr q9.1, .slice q9.2.1 L.length q9.2.2.1, .bool true]) (fun q9 => q9.2.2.2) (fun q9 => TrOn 110 79 k q9.2.2.2 q9.1 L ∧ RdOn q9.2.2.2 q9.2.1 (List.flatMap (fun d : List UInt8 => List.map vU8 d) L) ∧ L.length ≤ q9.2.2.1 ∧ (0 < L.length → ∃ b o, q9.2.1 = some ⟨b, o, none⟩)) (callsTo Tryd.func15 rfl (by kernel_rfl) rfl) rfl (fun w hm => tree_is k h1 h2 w (hK.mem0 hm) a l.length c l rfl hdl (hr.mem hm) (by omega) (by omega) (by omega) hL) ?_   -- 29
  rintro ⟨b29, a29, c29, es29⟩ ⟨htr29, hrd29, hle29, hla29⟩
  simp only at htr29 hrd29 hle29 hla29 ⊢
  refine ow_val (val_move rfl) rfl ?_   -- 26
  refine ow_val (val_extract rfl rfl) rfl ?_   -- 30
  refine ow_val (val_extract rfl rfl) rfl ?_   -- 31
  refine ow_val (val_extract rfl rfl) rfl ?_   -- 32
  refine ow_val (val_assign rfl) rfl ?_   -- 9
  refine ow_val (val_assign rfl) rfl ?_   -- 10
  refine ow_val (val_assign rfl) rfl ?_   -- 11
  refine ow_nil (into ?_)
  refine sw_seq ?_
  refine sw_seq ?_
  refine sw_region ?_
  refine ow_val (val_move rfl) rfl ?_   -- 33
  refine ow_val (val_not rfl) rfl ?_   -- 34
  refine ow_val (val_move rfl) rfl ?_   -- 35
  refine ow_guard_yes rfl rfl rfl ?_
  refine ow_val (val_move rfl) rfl ?_   -- 36
  refine ow_guard_yes rfl rfl rfl ?_
  refine ow_val (val_move rfl) rfl ?_   -- 37
  refine ow_guard_yes rfl rfl rfl ?_
  refine ow_val ((val_gtr_u64 rfl rfl).to (congrArg Value.bool (decide_eq_true ((UInt64.lt_iff_toNat_lt.2 (by omega)))))) rfl ?_   -- 38
  refine ow_val (val_pick_false rfl rfl) rfl ?_   -- 39
  refine ow_val (val_move rfl) rfl ?_   -- 40
  first | refine ow_guard_no rfl rfl rfl rfl rfl ?_ | refine ow_guard_none rfl rfl rfl rfl rfl ?_
  first | refine ow_guard_no rfl rfl rfl rfl rfl ?_ | refine ow_guard_none rfl rfl rfl rfl rfl ?_
  first | refine ow_guard_no rfl rfl rfl rfl rfl ?_ | refine ow_guard_none rfl rfl rfl rfl rfl ?_
  first | refine ow_guard_no rfl rfl rfl rfl rfl ?_ | refine ow_guard_none rfl rfl rfl rfl rfl ?_
  first | refine ow_guard_no rfl rfl rfl rfl rfl ?_ | refine ow_guard_none rfl rfl rfl rfl rfl ?_
  refine ow_val (val_pick_true rfl rfl) rfl ?_   -- 46
  refine ow_nil (into ?_)
  refine sw_true rfl rfl ?_
  refine sw_seq ?_
  refine sw_region ?_
  refine ow_val (val_assign rfl) rfl ?_   -- 8
  refine ow_nil (into ?_)
  refine sw_ret (fun w hm => ?_)
  try dsimp only [thenP, blockP, Nat.beq, cond]
  exact ret_one _ rfl rfl ⟨rfl, hm.forgetAll⟩

theorem since_b (k : Nat) (h1 : 1 ≤ k) (h2 : k ≤ 32) (m n : UInt64) (w : World) (hK : KW w) (a : Option Addr) (c : Nat) (l : List (List UInt8)) (hdl : ∀ d ∈ l, d.length = 32) (hr : Rd w a (l.flatMap fun d => d.map vU8)) (hc : l.length ≤ c) (hb : l.length * 32 ≤ 140737488351232) (L : List (List UInt8)) (hL : cutL k l = L) (hmn : m.toNat ≤ n.toNat) (hgt : L.length < n.toNat) : Calls Tryd.prog 8 #[vInt (k : Int), .slice a l.length c, vU64 m, vU64 n] w fun e w' => ∃ v, e = .returned v ∧ v = .bool true ∧ Mem w [] [] w' := by
  have hcl := cutL_ok h1 h2 hdl
  rw [hL] at hcl
  have hLd := hcl.1
  have hLf := hcl.2
  have hLn : L.length = l.length := by rw [← hL]; exact cutL_len k l
  refine calls_of_sw (vs := [vInt (k : Int), .slice a l.length c, vU64 m, vU64 n]) Tryd.func8 rfl Tryd.ntmps8 rfl (SW.begin ?_)
  refine sw_seq ?_
  refine sw_region ?_
  refine ow_val (val_assign rfl) rfl ?_   -- 8
  refine ow_nil (into ?_)
  refine sw_seq ?_
  refine sw_seq ?_
  refine sw_region ?_
  refine ow_call_pure (v := .bool true) (callsTo Tryd.func14 rfl (by kernel_rfl) rfl) rfl (fun w hm => awake_any w (hK.mem0 hm)) ?_   -- 24
  refine ow_val (val_not rfl) rfl ?_   -- 25
  refine ow_nil (into ?_)
  refine sw_false rfl rfl ?_
  refine sw_skip (into ?_)
  refine sw_seq ?_
  refine sw_region ?_
  refine ow_val (val_move rfl) rfl ?_   -- 27
  refine ow_val (val_move rfl) rfl ?_   -- 28
  refine ow_call_tail (σ := Nat × Option Addr × Nat × List Ent) (fun q9 => .tuple #[vPtr q9.1, .slice q9.2.1 L.length q9.2.2.1, .bool true]) (fun q9 => q9.2.2.2) (fun q9 => TrOn 110 79 k q9.2.2.2 q9.1 L ∧ RdOn q9.2.2.2 q9.2.1 (List.flatMap (fun d : List UInt8 => List.map vU8 d) L) ∧ L.length ≤ q9.2.2.1 ∧ (0 < L.length → ∃ b o, q9.2.1 = some ⟨b, o, none⟩)) (callsTo Tryd.func15 rfl (by kernel_rfl) rfl) rfl (fun w hm => tree_is k h1 h2 w (hK.mem0 hm) a l.length c l rfl hdl (hr.mem hm) (by omega) (by omega) (by omega) hL) ?_   -- 29
  rintro ⟨b29, a29, c29, es29⟩ ⟨htr29, hrd29, hle29, hla29⟩
  simp only at htr29 hrd29 hle29 hla29 ⊢
  refine ow_val (val_move rfl) rfl ?_   -- 26
  refine ow_val (val_extract rfl rfl) rfl ?_   -- 30
  refine ow_val (val_extract rfl rfl) rfl ?_   -- 31
  refine ow_val (val_extract rfl rfl) rfl ?_   -- 32
  refine ow_val (val_assign rfl) rfl ?_   -- 9
  refine ow_val (val_assign rfl) rfl ?_   -- 10
  refine ow_val (val_assign rfl) rfl ?_   -- 11
  refine ow_nil (into ?_)
  refine sw_seq ?_
  refine sw_seq ?_
  refine sw_region ?_
  refine ow_val (val_move rfl) rfl ?_   -- 33
  refine ow_val (val_not rfl) rfl ?_   -- 34
  refine ow_val (val_move rfl) rfl ?_   -- 35
  refine ow_guard_yes rfl rfl rfl ?_
  refine ow_val (val_move rfl) rfl ?_   -- 36
  refine ow_guard_yes rfl rfl rfl ?_
  refine ow_val (val_move rfl) rfl ?_   -- 37
  refine ow_guard_yes rfl rfl rfl ?_
  refine ow_val ((val_gtr_u64 rfl rfl).to (congrArg Value.bool (decide_eq_false ((fun h => absurd (UInt64.lt_iff_toNat_lt.1 h) (by omega)))))) rfl ?_   -- 38
  refine ow_val (val_pick_false rfl rfl) rfl ?_   -- 39
  refine ow_val (val_move rfl) rfl ?_   -- 40
  refine ow_guard_yes rfl rfl rfl ?_
  refine ow_val (val_move rfl) rfl ?_   -- 41
  refine ow_guard_yes rfl rfl rfl ?_
  refine ow_val (val_move rfl) rfl ?_   -- 42
  refine ow_guard_yes rfl rfl rfl ?_
  refine ow_val (val_len rfl Tryd.underlying22) rfl ?_   -- 43
  refine ow_guard_yes rfl rfl rfl ?_
  refine ow_val (val_conv_n_u64 L.length Tryd.underlying3 Tryd.underlying23 rfl rfl) rfl ?_   -- 44
  refine ow_guard_yes rfl rfl rfl ?_
  refine ow_val ((val_gtr_u64 rfl rfl).to (congrArg Value.bool (decide_eq_true ((UInt64.lt_iff_toNat_lt.2 (by rw [of_nat (by omega)]; omega)))))) rfl ?_   -- 45
  refine ow_val (val_pick_false rfl rfl) rfl ?_   -- 46
  refine ow_nil (into ?_)
  refine sw_true rfl rfl ?_
  refine sw_seq ?_
  refine sw_region ?_
  refine ow_val (val_assign rfl) rfl ?_   -- 8
  refine ow_nil (into ?_)
  refine sw_ret (fun w hm => ?_)
  try dsimp only [thenP, blockP, Nat.beq, cond]
  exact ret_one _ rfl rfl ⟨rfl, hm.forgetAll⟩

theorem sin_z (k : Nat) (h1 : 1 ≤ k) (h2 : k ≤ 32) (m n : UInt64) (w : World) (hK : KW w) (a : Option Addr) (c : Nat) (l : List (List UInt8)) (hdl : ∀ d ∈ l, d.length = 32) (hr : Rd w a (l.flatMap fun d => d.map vU8)) (hc : l.length ≤ c) (hb : l.length * 32 ≤ 140737488351232) (L : List (List UInt8)) (hL : cutL k l = L) (hmn : m.toNat ≤ n.toNat) (hn : n.toNat ≤ L.length) (hm0 : m.toNat = 0) : Calls Tryd.prog 8 #[vInt (k : Int), .slice a l.length c, vU64 m, vU64 n] w fun e w' => ∃ v, e = .returned v ∧ v = .bool true ∧ Mem w [] [] w' := by
  have hcl := cutL_ok h1 h2 hdl
  rw [hL] at hcl
  have hLd := hcl.1
  have hLf := hcl.2
  have hLn : L.length = l.length := by rw [← hL]; exact cutL_len k l
  have hok : m.toNat ≤ n.toNat ∧ n.toNat ≤ L.length := ⟨hmn, hn⟩
  have hmL : m.toNat ≤ L.length := by omega
  obtain ⟨S, hS⟩ : ∃ S, seg L 0 n.toNat = S := ⟨_, rfl⟩
  obtain ⟨SM, hSM⟩ : ∃ S, seg L 0 m.toNat = S := ⟨_, rfl⟩
  have hSd : ∀ d ∈ S, d.length = 32 := by rw [← hS]; exact seg_all hLd
  have hSf : ∀ d ∈ S, fm (k : Int) d = true := by rw [← hS]; exact seg_all hLf
  have hMd : ∀ d ∈ SM, d.length = 32 := by rw [← hSM]; exact seg_all hLd
  have hMf : ∀ d ∈ SM, fm (k : Int) d = true := by rw [← hSM]; exact seg_all hLf
  have hSn : S.length = n.toNat := by rw [← hS]; exact seg_len hn
  obtain ⟨P, hP⟩ : ∃ P, conO k L m.toNat n.toNat = P := ⟨_, rfl⟩
  have hPm := conO_mem h1 h2 hLd hLf (i := m.toNat) (n := n.toNat)
  rw [hP] at hPm
  have hPd := fun d hd => (hPm d hd).1
  have hPf := fun d hd => (hPm d hd).2
  have hPn : P.length ≤ L.length + 1 := by
    rw [← hP]; exact conO_len hn
  have hP0 : P.length = 0 := by rw [← hP, conO, if_pos hm0]; rfl
  refine calls_of_sw (vs := [vInt (k : Int), .slice a l.length c, vU64 m, vU64 n]) Tryd.func8 rfl Tryd.ntmps8 rfl (SW.begin ?_)
  refine sw_seq ?_
  refine sw_region ?_
  refine ow_val (val_assign rfl) rfl ?_   -- 8
  refine ow_nil (into ?_)
  refine sw_seq ?_
  refine sw_seq ?_
  refine sw_region ?_
  refine ow_call_pure (v := .bool true) (callsTo Tryd.func14 rfl (by kernel_rfl) rfl) rfl (fun w hm => awake_any w (hK.mem0 hm)) ?_   -- 24
  refine ow_val (val_not rfl) rfl ?_   -- 25
  refine ow_nil (into ?_)
  refine sw_false rfl rfl ?_
  refine sw_skip (into ?_)
  refine sw_seq ?_
  refine sw_region ?_
  refine ow_val (val_move rfl) rfl ?_   -- 27
  refine ow_val (val_move rfl) rfl ?_   -- 28
  refine ow_call_tail (σ := Nat × Option Addr × Nat × List Ent) (fun q9 => .tuple #[vPtr q9.1, .slice q9.2.1 L.length q9.2.2.1, .bool true]) (fun q9 => q9.2.2.2) (fun q9 => TrOn 110 79 k q9.2.2.2 q9.1 L ∧ RdOn q9.2.2.2 q9.2.1 (List.flatMap (fun d : List UInt8 => List.map vU8 d) L) ∧ L.length ≤ q9.2.2.1 ∧ (0 < L.length → ∃ b o, q9.2.1 = some ⟨b, o, none⟩)) (callsTo Tryd.func15 rfl (by kernel_rfl) rfl) rfl (fun w hm => tree_is k h1 h2 w (hK.mem0 hm) a l.length c l rfl hdl (hr.mem hm) (by omega) (by omega) (by omega) hL) ?_   -- 29
  rintro ⟨b29, a29, c29, es29⟩ ⟨htr29, hrd29, hle29, hla29⟩
  simp only at htr29 hrd29 hle29 hla29 ⊢
  refine ow_val (val_move rfl) rfl ?_   -- 26
  refine ow_val (val_extract rfl rfl) rfl ?_   -- 30
  refine ow_val (val_extract rfl rfl) rfl ?_   -- 31
  refine ow_val (val_extract rfl rfl) rfl ?_   -- 32
  refine ow_val (val_assign rfl) rfl ?_   -- 9
  refine ow_val (val_assign rfl) rfl ?_   -- 10
  refine ow_val (val_assign rfl) rfl ?_   -- 11
  refine ow_nil (into ?_)
  refine sw_seq ?_
  refine sw_seq ?_
  refine sw_region ?_
  refine ow_val (val_move rfl) rfl ?_   -- 33
  refine ow_val (val_not rfl) rfl ?_   -- 34
  refine ow_val (val_move rfl) rfl ?_   -- 35
  refine ow_guard_yes rfl rfl rfl ?_
  refine ow_val (val_move rfl) rfl ?_   -- 36
  refine ow_guard_yes rfl rfl rfl ?_
  refine ow_val (val_move rfl) rfl ?_   -- 37
  refine ow_guard_yes rfl rfl rfl ?_
  refine ow_val ((val_gtr_u64 rfl rfl).to (congrArg Value.bool (decide_eq_false ((fun h => absurd (UInt64.lt_iff_toNat_lt.1 h) (by omega)))))) rfl ?_   -- 38
  refine ow_val (val_pick_false rfl rfl) rfl ?_   -- 39
  refine ow_val (val_move rfl) rfl ?_   -- 40
  refine ow_guard_yes rfl rfl rfl ?_
  refine ow_val (val_move rfl) rfl ?_   -- 41
  refine ow_guard_yes rfl rfl rfl ?_
  refine ow_val (val_move rfl) rfl ?_   -- 42
  refine ow_guard_yes rfl rfl rfl ?_
  refine ow_val (val_len rfl Tryd.underlying22) rfl ?_   -- 43
  refine ow_guard_yes rfl rfl rfl ?_
  refine ow_val (val_conv_n_u64 L.length Tryd.underlying3 Tryd.underlying23 rfl rfl) rfl ?_   -- 44
  refine ow_guard_yes rfl rfl rfl ?_
  refine ow_val ((val_gtr_u64 rfl rfl).to (congrArg Value.bool (decide_eq_false ((fun h => absurd (UInt64.lt_iff_toNat_lt.1 h) (by rw [of_nat (by omega)]; omega)))))) rfl ?_   -- 45
  refine ow_val (val_pick_false rfl rfl) rfl ?_   -- 46
  refine ow_nil (into ?_)
  refine sw_false rfl rfl ?_
  refine sw_skip (into ?_)
  refine sw_seq ?_
  refine sw_seq ?_
  refine sw_region ?_
  refine ow_val (val_move rfl) rfl ?_   -- 47
  refine ow_val (val_eql_nilptr Tryd.underlying25 rfl rfl) rfl ?_   -- 48
  refine ow_nil (into ?_)
  refine sw_false rfl rfl ?_
  refine sw_skip (into ?_)
  refine sw_seq ?_
  refine sw_region ?_
  refine ow_val (val_move rfl) rfl ?_   -- 50
  refine ow_val (val_move rfl) rfl ?_   -- 51
  refine ow_val (val_move rfl) rfl ?_   -- 52
  refine ow_call_row2 (E := 41) (size := 32) (k := P.length) (xs := List.flatMap (fun d : List UInt8 => List.map vU8 d) P) (x := vInt ((0 : Nat) : Int)) (callsTo Tryd.func19 rfl (by kernel_rfl) rfl) rfl (fun w hm => cons_okU k h1 h2 b29 L (by assumption) (by assumption) (by omega) m n w (hK.mem0 hm) (htr29.is (hm.heldSub (List.Sublist.refl _))) hok _ hP) (fun a53 c53 e53 hr53 => ?_)   -- 53
  refine ow_val (val_move rfl) rfl ?_   -- 49
  refine ow_val (val_extract rfl rfl) rfl ?_   -- 54
  refine ow_val (val_extract rfl rfl) rfl ?_   -- 55
  refine ow_val (val_assign rfl) rfl ?_   -- 12
  refine ow_val (val_assign rfl) rfl ?_   -- 13
  refine ow_nil (into ?_)
  refine sw_seq ?_
  refine sw_region ?_
  refine ow_val (val_move rfl) rfl ?_   -- 57
  refine ow_val (val_move rfl) rfl ?_   -- 58
  refine ow_call_pure (v := .tuple #[.agg ((lg k SM).map vU8).toArray, vInt ((0 : Nat) : Int)]) (callsTo Tryd.func26 rfl (by kernel_rfl) rfl) rfl (fun w hm => (by have h := root_any k h1 h2 b29 L (by assumption) (by assumption) m w (hK.mem0 hm) (htr29.is (hm.heldSub (.cons _ (List.Sublist.refl _)))) (by omega); rw [rngU k hmL, hSM] at h; exact h)) ?_   -- 59
  refine ow_val (val_move rfl) rfl ?_   -- 56
  refine ow_val (val_extract rfl rfl) rfl ?_   -- 60
  refine ow_val (val_extract rfl rfl) rfl ?_   -- 61
  refine ow_new (acts_alloc zD) rfl (fun b14 hb14 => ?_)   -- 14
  refine ow_do_eq (does_store_all 0 rfl rfl rfl (one_u8s _) Tryd.sizeOf41 (by show (List.map vU8 (lg k SM)).length = _; rw [List.length_map]; exact (lg_len h2 _ rfl hMd)) (by show (List.map vU8 zeros32).length = _; rw [List.length_map]; exact zeros32_len)) ?_
  refine ow_val (val_assign rfl) rfl ?_   -- 15
  refine ow_nil (into ?_)
  refine sw_seq ?_
  refine sw_region ?_
  refine ow_val (val_move rfl) rfl ?_   -- 63
  refine ow_val (val_move rfl) rfl ?_   -- 64
  refine ow_call_pure (v := .tuple #[.agg ((lg k S).map vU8).toArray, vInt ((0 : Nat) : Int)]) (callsTo Tryd.func26 rfl (by kernel_rfl) rfl) rfl (fun w hm => (by have h := root_any k h1 h2 b29 L (by assumption) (by assumption) n w (hK.mem0 hm) (htr29.is (hm.heldSub (.cons _ (.cons _ (List.Sublist.refl _))))) (by omega); rw [rngU k hn, hS] at h; exact h)) ?_   -- 65
  refine ow_val (val_move rfl) rfl ?_   -- 62
  refine ow_val (val_extract rfl rfl) rfl ?_   -- 66
  refine ow_val (val_extract rfl rfl) rfl ?_   -- 67
  refine ow_new (acts_alloc zD) rfl (fun b16 hb16 => ?_)   -- 16
  refine ow_do_eq (does_store_all 0 rfl rfl rfl (one_u8s _) Tryd.sizeOf41 (by show (List.map vU8 (lg k S)).length = _; rw [List.length_map]; exact (lg_len h2 _ rfl hSd)) (by show (List.map vU8 zeros32).length = _; rw [List.length_map]; exact zeros32_len)) ?_
  refine ow_val (val_assign rfl) rfl ?_   -- 17
  refine ow_nil (into ?_)
  refine sw_seq ?_
  refine sw_seq ?_
  refine sw_region ?_
  refine ow_val (val_move rfl) rfl ?_   -- 68
  refine ow_val ((val_neq_int rfl rfl).to (v' := .bool false) (congrArg Value.bool (decide_eq_false (fun h => h (by simp))))) rfl ?_   -- 69
  refine ow_val (val_move rfl) rfl ?_   -- 70
  refine ow_guard_yes rfl rfl rfl ?_
  refine ow_val (val_move rfl) rfl ?_   -- 71
  refine ow_guard_yes rfl rfl rfl ?_
  refine ow_val ((val_neq_int rfl rfl).to (v' := .bool false) (congrArg Value.bool (decide_eq_false (fun h => h (by simp))))) rfl ?_   -- 72
  refine ow_val (val_pick_false rfl rfl) rfl ?_   -- 73
  refine ow_val (val_move rfl) rfl ?_   -- 74
  refine ow_guard_yes rfl rfl rfl ?_
  refine ow_val (val_move rfl) rfl ?_   -- 75
  refine ow_guard_yes rfl rfl rfl ?_
  refine ow_val ((val_neq_int rfl rfl).to (v' := .bool false) (congrArg Value.bool (decide_eq_false (fun h => h (by simp))))) rfl ?_   -- 76
  refine ow_val (val_pick_false rfl rfl) rfl ?_   -- 77
  refine ow_nil (into ?_)
  refine sw_false rfl rfl ?_
  refine sw_skip (into ?_)
  refine sw_seq ?_
  refine sw_seq ?_
  refine sw_region ?_
  refine ow_val (val_move rfl) rfl ?_   -- 78
  refine ow_val ((val_eql_u64 rfl rfl).to (congrArg Value.bool (decide_eq_true ((UInt64.toNat.inj (by rw [hm0]; rfl)))))) rfl ?_   -- 79
  refine ow_val (val_move rfl) rfl ?_   -- 80
  first | refine ow_guard_no rfl rfl rfl rfl rfl ?_ | refine ow_guard_none rfl rfl rfl rfl rfl ?_
  first | refine ow_guard_no rfl rfl rfl rfl rfl ?_ | refine ow_guard_none rfl rfl rfl rfl rfl ?_
  first | refine ow_guard_no rfl rfl rfl rfl rfl ?_ | refine ow_guard_none rfl rfl rfl rfl rfl ?_
  refine ow_val (val_pick_true rfl rfl) rfl ?_   -- 84
  refine ow_nil (into ?_)
  refine sw_true rfl rfl ?_
  refine sw_seq ?_
  refine sw_region ?_
  refine ow_val (val_move rfl) rfl ?_   -- 85
  refine ow_val (val_len rfl Tryd.underlying22) rfl ?_   -- 86
  refine ow_val ((val_eql_int rfl rfl).to (congrArg Value.bool (decide_eq_true ((by omega))))) rfl ?_   -- 87
  refine ow_val (val_assign rfl) rfl ?_   -- 8
  refine ow_nil (into ?_)
  refine sw_ret (fun w hm => ?_)
  try dsimp only [thenP, blockP, Nat.beq, cond]
  exact ret_one _ rfl rfl ⟨rfl, hm.forgetAll⟩

theorem sin_e (k : Nat) (h1 : 1 ≤ k) (h2 : k ≤ 32) (m n : UInt64) (w : World) (hK : KW w) (a : Option Addr) (c : Nat) (l : List (List UInt8)) (hdl : ∀ d ∈ l, d.length = 32) (hr : Rd w a (l.flatMap fun d => d.map vU8)) (hc : l.length ≤ c) (hb : l.length * 32 ≤ 140737488351232) (L : List (List UInt8)) (hL : cutL k l = L) (hmn : m.toNat ≤ n.toNat) (hn : n.toNat ≤ L.length) (hm0 : ¬ m.toNat = 0) (hme : m.toNat = n.toNat) : Calls Tryd.prog 8 #[vInt (k : Int), .slice a l.length c, vU64 m, vU64 n] w fun e w' => ∃ v, e = .returned v ∧ v = .bool true ∧ Mem w [] [] w' := by
  have hcl := cutL_ok h1 h2 hdl
  rw [hL] at hcl
  have hLd := hcl.1
  have hLf := hcl.2
  have hLn : L.length = l.length := by rw [← hL]; exact cutL_len k l
  have hok : m.toNat ≤ n.toNat ∧ n.toNat ≤ L.length := ⟨hmn, hn⟩
  have hmL : m.toNat ≤ L.length := by omega
  obtain ⟨S, hS⟩ : ∃ S, seg L 0 n.toNat = S := ⟨_, rfl⟩
  obtain ⟨SM, hSM⟩ : ∃ S, seg L 0 m.toNat = S := ⟨_, rfl⟩
  have hSd : ∀ d ∈ S, d.length = 32 := by rw [← hS]; exact seg_all hLd
  have hSf : ∀ d ∈ S, fm (k : Int) d = true := by rw [← hS]; exact seg_all hLf
  have hMd : ∀ d ∈ SM, d.length = 32 := by rw [← hSM]; exact seg_all hLd
  have hMf : ∀ d ∈ SM, fm (k : Int) d = true := by rw [← hSM]; exact seg_all hLf
  have hSn : S.length = n.toNat := by rw [← hS]; exact seg_len hn
  obtain ⟨P, hP⟩ : ∃ P, conO k L m.toNat n.toNat = P := ⟨_, rfl⟩
  have hPm := conO_mem h1 h2 hLd hLf (i := m.toNat) (n := n.toNat)
  rw [hP] at hPm
  have hPd := fun d hd => (hPm d hd).1
  have hPf := fun d hd => (hPm d hd).2
  have hPn : P.length ≤ L.length + 1 := by
    rw [← hP]; exact conO_len hn
  have hP0 : P.length = 0 := by rw [← hP, conO, if_neg hm0, hS, conL_end (by omega)]; rfl
  refine calls_of_sw (vs := [vInt (k : Int), .slice a l.length c, vU64 m, vU64 n]) Tryd.func8 rfl Tryd.ntmps8 rfl (SW.begin ?_)
  refine sw_seq ?_
  refine sw_region ?_
  refine ow_val (val_assign rfl) rfl ?_   -- 8
  refine ow_nil (into ?_)
  refine sw_seq ?_
  refine sw_seq ?_
  refine sw_region ?_
  refine ow_call_pure (v := .bool true) (callsTo Tryd.func14 rfl (by kernel_rfl) rfl) rfl (fun w hm => awake_any w (hK.mem0 hm)) ?_   -- 24
  refine ow_val (val_not rfl) rfl ?_   -- 25
  refine ow_nil (into ?_)
  refine sw_false rfl rfl ?_
  refine sw_skip (into ?_)
  refine sw_seq ?_
  refine sw_region ?_
  refine ow_val (val_move rfl) rfl ?_   -- 27
  refine ow_val (val_move rfl) rfl ?_   -- 28
  refine ow_call_tail (σ := Nat × Option Addr × Nat × List Ent) (fun q9 => .tuple #[vPtr q9.1, .slice q9.2.1 L.length q9.2.2.1, .bool true]) (fun q9 => q9.2.2.2) (fun q9 => TrOn 110 79 k q9.2.2.2 q9.1 L ∧ RdOn q9.2.2.2 q9.2.1 (List.flatMap (fun d : List UInt8 => List.map vU8 d) L) ∧ L.length ≤ q9.2.2.1 ∧ (0 < L.length → ∃ b o, q9.2.1 = some ⟨b, o, none⟩)) (callsTo Tryd.func15 rfl (by kernel_rfl) rfl) rfl (fun w hm => tree_is k h1 h2 w (hK.mem0 hm) a l.length c l rfl hdl (hr.mem hm) (by omega) (by omega) (by omega) hL) ?_   -- 29
  rintro ⟨b29, a29, c29, es29⟩ ⟨htr29, hrd29, hle29, hla29⟩
  simp only at htr29 hrd29 hle29 hla29 ⊢
  refine ow_val (val_move rfl) rfl ?_   -- 26
  refine ow_val (val_extract rfl rfl) rfl ?_   -- 30
  refine ow_val (val_extract rfl rfl) rfl ?_   -- 31
  refine ow_val (val_extract rfl rfl) rfl ?_   -- 32
  refine ow_val (val_assign rfl) rfl ?_   -- 9
  refine ow_val (val_assign rfl) rfl ?_   -- 10
  refine ow_val (val_assign rfl) rfl ?_   -- 11
  refine ow_nil (into ?_)
  refine sw_seq ?_
  refine sw_seq ?_
  refine sw_region ?_
  refine ow_val (val_move rfl) rfl ?_   -- 33
  refine ow_val (val_not rfl) rfl ?_   -- 34
  refine ow_val (val_move rfl) rfl ?_   -- 35
  refine ow_guard_yes rfl rfl rfl ?_
  refine ow_val (val_move rfl) rfl ?_   -- 36
  refine ow_guard_yes rfl rfl rfl ?_
  refine ow_val (val_move rfl) rfl ?_   -- 37
  refine ow_guard_yes rfl rfl rfl ?_
  refine ow_val ((val_gtr_u64 rfl rfl).to (congrArg Value.bool (decide_eq_false ((fun h => absurd (UInt64.lt_iff_toNat_lt.1 h) (by omega)))))) rfl ?_   -- 38
  refine ow_val (val_pick_false rfl rfl) rfl ?_   -- 39
  refine ow_val (val_move rfl) rfl ?_   -- 40
  refine ow_guard_yes rfl rfl rfl ?_
  refine ow_val (val_move rfl) rfl ?_   -- 41
  refine ow_guard_yes rfl rfl rfl ?_
  refine ow_val (val_move rfl) rfl ?_   -- 42
  refine ow_guard_yes rfl rfl rfl ?_
  refine ow_val (val_len rfl Tryd.underlying22) rfl ?_   -- 43
  refine ow_guard_yes rfl rfl rfl ?_
  refine ow_val (val_conv_n_u64 L.length Tryd.underlying3 Tryd.underlying23 rfl rfl) rfl ?_   -- 44
  refine ow_guard_yes rfl rfl rfl ?_
  refine ow_val ((val_gtr_u64 rfl rfl).to (congrArg Value.bool (decide_eq_false ((fun h => absurd (UInt64.lt_iff_toNat_lt.1 h) (by rw [of_nat (by omega)]; omega)))))) rfl ?_   -- 45
  refine ow_val (val_pick_false rfl rfl) rfl ?_   -- 46
  refine ow_nil (into ?_)
  refine sw_false rfl rfl ?_
  refine sw_skip (into ?_)
  refine sw_seq ?_
  refine sw_seq ?_
  refine sw_region ?_
  refine ow_val (val_move rfl) rfl ?_   -- 47
  refine ow_val (val_eql_nilptr Tryd.underlying25 rfl rfl) rfl ?_   -- 48
  refine ow_nil (into ?_)
  refine sw_false rfl rfl ?_
  refine sw_skip (into ?_)
  refine sw_seq ?_
  refine sw_region ?_
  refine ow_val (val_move rfl) rfl ?_   -- 50
  refine ow_val (val_move rfl) rfl ?_   -- 51
  refine ow_val (val_move rfl) rfl ?_   -- 52
  refine ow_call_row2 (E := 41) (size := 32) (k := P.length) (xs := List.flatMap (fun d : List UInt8 => List.map vU8 d) P) (x := vInt ((0 : Nat) : Int)) (callsTo Tryd.func19 rfl (by kernel_rfl) rfl) rfl (fun w hm => cons_okU k h1 h2 b29 L (by assumption) (by assumption) (by omega) m n w (hK.mem0 hm) (htr29.is (hm.heldSub (List.Sublist.refl _))) hok _ hP) (fun a53 c53 e53 hr53 => ?_)   -- 53
  refine ow_val (val_move rfl) rfl ?_   -- 49
  refine ow_val (val_extract rfl rfl) rfl ?_   -- 54
  refine ow_val (val_extract rfl rfl) rfl ?_   -- 55
  refine ow_val (val_assign rfl) rfl ?_   -- 12
  refine ow_val (val_assign rfl) rfl ?_   -- 13
  refine ow_nil (into ?_)
  refine sw_seq ?_
  refine sw_region ?_
  refine ow_val (val_move rfl) rfl ?_   -- 57
  refine ow_val (val_move rfl) rfl ?_   -- 58
  refine ow_call_pure (v := .tuple #[.agg ((lg k SM).map vU8).toArray, vInt ((0 : Nat) : Int)]) (callsTo Tryd.func26 rfl (by kernel_rfl) rfl) rfl (fun w hm => (by have h := root_any k h1 h2 b29 L (by assumption) (by assumption) m w (hK.mem0 hm) (htr29.is (hm.heldSub (.cons _ (List.Sublist.refl _)))) (by omega); rw [rngU k hmL, hSM] at h; exact h)) ?_   -- 59
  refine ow_val (val_move rfl) rfl ?_   -- 56
  refine ow_val (val_extract rfl rfl) rfl ?_   -- 60
  refine ow_val (val_extract rfl rfl) rfl ?_   -- 61
  refine ow_new (acts_alloc zD) rfl (fun b14 hb14 => ?_)   -- 14
  refine ow_do_eq (does_store_all 0 rfl rfl rfl (one_u8s _) Tryd.sizeOf41 (by show (List.map vU8 (lg k SM)).length = _; rw [List.length_map]; exact (lg_len h2 _ rfl hMd)) (by show (List.map vU8 zeros32).length = _; rw [List.length_map]; exact zeros32_len)) ?_
  refine ow_val (val_assign rfl) rfl ?_   -- 15
  refine ow_nil (into ?_)
  refine sw_seq ?_
  refine sw_region ?_
  refine ow_val (val_move rfl) rfl ?_   -- 63
  refine ow_val (val_move rfl) rfl ?_   -- 64
  refine ow_call_pure (v := .tuple #[.agg ((lg k S).map vU8).toArray, vInt ((0 : Nat) : Int)]) (callsTo Tryd.func26 rfl (by kernel_rfl) rfl) rfl (fun w hm => (by have h := root_any k h1 h2 b29 L (by assumption) (by assumption) n w (hK.mem0 hm) (htr29.is (hm.heldSub (.cons _ (.cons _ (List.Sublist.refl _))))) (by omega); rw [rngU k hn, hS] at h; exact h)) ?_   -- 65
  refine ow_val (val_move rfl) rfl ?_   -- 62
  refine ow_val (val_extract rfl rfl) rfl ?_   -- 66
  refine ow_val (val_extract rfl rfl) rfl ?_   -- 67
  refine ow_new (acts_alloc zD) rfl (fun b16 hb16 => ?_)   -- 16
  refine ow_do_eq (does_store_all 0 rfl rfl rfl (one_u8s _) Tryd.sizeOf41 (by show (List.map vU8 (lg k S)).length = _; rw [List.length_map]; exact (lg_len h2 _ rfl hSd)) (by show (List.map vU8 zeros32).length = _; rw [List.length_map]; exact zeros32_len)) ?_
  refine ow_val (val_assign rfl) rfl ?_   -- 17
  refine ow_nil (into ?_)
  refine sw_seq ?_
  refine sw_seq ?_
  refine sw_region ?_
  refine ow_val (val_move rfl) rfl ?_   -- 68
  refine ow_val ((val_neq_int rfl rfl).to (v' := .bool false) (congrArg Value.bool (decide_eq_false (fun h => h (by simp))))) rfl ?_   -- 69
  refine ow_val (val_move rfl) rfl ?_   -- 70
  refine ow_guard_yes rfl rfl rfl ?_
  refine ow_val (val_move rfl) rfl ?_   -- 71
  refine ow_guard_yes rfl rfl rfl ?_
  refine ow_val ((val_neq_int rfl rfl).to (v' := .bool false) (congrArg Value.bool (decide_eq_false (fun h => h (by simp))))) rfl ?_   -- 72
  refine ow_val (val_pick_false rfl rfl) rfl ?_   -- 73
  refine ow_val (val_move rfl) rfl ?_   -- 74
  refine ow_guard_yes rfl rfl rfl ?_
  refine ow_val (val_move rfl) rfl ?_   -- 75
  refine ow_guard_yes rfl rfl rfl ?_
  refine ow_val ((val_neq_int rfl rfl).to (v' := .bool false) (congrArg Value.bool (decide_eq_false (fun h => h (by simp))))) rfl ?_   -- 76
  refine ow_val (val_pick_false rfl rfl) rfl ?_   -- 77
  refine ow_nil (into ?_)
  refine sw_false rfl rfl ?_
  refine sw_skip (into ?_)
  refine sw_seq ?_
  refine sw_seq ?_
  refine sw_region ?_
  refine ow_val (val_move rfl) rfl ?_   -- 78
  refine ow_val ((val_eql_u64 rfl rfl).to (congrArg Value.bool (decide_eq_false ((fun h => absurd (congrArg UInt64.toNat h) (show ¬ m.toNat = 0 by omega)))))) rfl ?_   -- 79
  refine ow_val (val_move rfl) rfl ?_   -- 80
  refine ow_guard_yes rfl rfl rfl ?_
  refine ow_val (val_move rfl) rfl ?_   -- 81
  refine ow_guard_yes rfl rfl rfl ?_
  refine ow_val (val_move rfl) rfl ?_   -- 82
  refine ow_guard_yes rfl rfl rfl ?_
  refine ow_val ((val_eql_u64 rfl rfl).to (congrArg Value.bool (decide_eq_true ((UInt64.toNat.inj hme))))) rfl ?_   -- 83
  refine ow_val (val_pick_false rfl rfl) rfl ?_   -- 84
  refine ow_nil (into ?_)
  refine sw_true rfl rfl ?_
  refine sw_seq ?_
  refine sw_region ?_
  refine ow_val (val_move rfl) rfl ?_   -- 85
  refine ow_val (val_len rfl Tryd.underlying22) rfl ?_   -- 86
  refine ow_val ((val_eql_int rfl rfl).to (congrArg Value.bool (decide_eq_true ((by omega))))) rfl ?_   -- 87
  refine ow_val (val_assign rfl) rfl ?_   -- 8
  refine ow_nil (into ?_)
  refine sw_ret (fun w hm => ?_)
  try dsimp only [thenP, blockP, Nat.beq, cond]
  exact ret_one _ rfl rfl ⟨rfl, hm.forgetAll⟩

theorem since_go (k : Nat) (h1 : 1 ≤ k) (h2 : k ≤ 32) (m n : UInt64) (w : World) (hK : KW w) (a : Option Addr) (c : Nat) (l : List (List UInt8)) (hdl : ∀ d ∈ l, d.length = 32) (hr : Rd w a (l.flatMap fun d => d.map vU8)) (hc : l.length ≤ c) (hb : l.length * 32 ≤ 140737488351232) (L : List (List UInt8)) (hL : cutL k l = L) (hmn : m.toNat ≤ n.toNat) (hn : n.toNat ≤ L.length) (hm0 : ¬ m.toNat = 0) (hme : ¬ m.toNat = n.toNat) : Calls Tryd.prog 8 #[vInt (k : Int), .slice a l.length c, vU64 m, vU64 n] w fun e w' => ∃ v, e = .returned v ∧ v = .bool true ∧ Mem w [] [] w' := by
  have hcl := cutL_ok h1 h2 hdl
  rw [hL] at hcl
  have hLd := hcl.1
  have hLf := hcl.2
  have hLn : L.length = l.length := by rw [← hL]; exact cutL_len k l
  have hok : m.toNat ≤ n.toNat ∧ n.toNat ≤ L.length := ⟨hmn, hn⟩
  have hmL : m.toNat ≤ L.length := by omega
  obtain ⟨S, hS⟩ : ∃ S, seg L 0 n.toNat = S := ⟨_, rfl⟩
  obtain ⟨SM, hSM⟩ : ∃ S, seg L 0 m.toNat = S := ⟨_, rfl⟩
  have hSd : ∀ d ∈ S, d.length = 32 := by rw [← hS]; exact seg_all hLd
  have hSf : ∀ d ∈ S, fm (k : Int) d = true := by rw [← hS]; exact seg_all hLf
  have hMd : ∀ d ∈ SM, d.length = 32 := by rw [← hSM]; exact seg_all hLd
  have hMf : ∀ d ∈ SM, fm (k : Int) d = true := by rw [← hSM]; exact seg_all hLf
  have hSn : S.length = n.toNat := by rw [← hS]; exact seg_len hn
  obtain ⟨P, hP⟩ : ∃ P, conO k L m.toNat n.toNat = P := ⟨_, rfl⟩
  have hPm := conO_mem h1 h2 hLd hLf (i := m.toNat) (n := n.toNat)
  rw [hP] at hPm
  have hPd := fun d hd => (hPm d hd).1
  have hPf := fun d hd => (hPm d hd).2
  have hPn : P.length ≤ L.length + 1 := by
    rw [← hP]; exact conO_len hn
  have hm1 : 1 ≤ m.toNat := by omega
  have hmlt : m.toNat < n.toNat := by omega
  have hQ : conL k S m.toNat true = P := by rw [← hP, conO, if_neg hm0, hS]
  have ho2 : lg k (S.take m.toNat) = lg k SM := by rw [← hS, ← hSM, seg_take hmn]
  have hPn2 : P.length ≤ L.length := by
    have h7 := conL_len (k := k) _ (l := S) (m := m.toNat) (known := true) (Nat.le_refl _) (by omega)
    rw [hQ] at h7; omega
  have hcn : cntL m n true = P.length := by rw [← hQ]; exact (conL_cnt k _ (Nat.le_refl _) hSn (fun h => hm0 (by rw [h]; rfl)) (UInt64.le_iff_toNat_le.2 hmn)).symm
  obtain ⟨cz, hcnt⟩ : ∃ cz, cntO 0 m n = ((cz, P.length), 0) := ⟨(splitsL 0 n).length, by
    rw [cntO, if_neg (by rw [UInt64.le_iff_toNat_le, UInt64.lt_iff_toNat_lt, show (0 : UInt64).toNat = 0 from rfl]; omega), cntZ, if_neg (fun h => hm0 (by rw [h]; rfl)), hcn]⟩
  have hcz : (cntO 0 m n).1.1 = cz := by rw [hcnt]
  have hcz2 := cntO_le 0 m n
  rw [hcz] at hcz2
  refine calls_of_sw (vs := [vInt (k : Int), .slice a l.length c, vU64 m, vU64 n]) Tryd.func8 rfl Tryd.ntmps8 rfl (SW.begin ?_)
  refine sw_seq ?_
  refine sw_region ?_
  refine ow_val (val_assign rfl) rfl ?_   -- 8
  refine ow_nil (into ?_)
  refine sw_seq ?_
  refine sw_seq ?_
  refine sw_region ?_
  refine ow_call_pure (v := .bool true) (callsTo Tryd.func14 rfl (by kernel_rfl) rfl) rfl (fun w hm => awake_any w (hK.mem0 hm)) ?_   -- 24
  refine ow_val (val_not rfl) rfl ?_   -- 25
  refine ow_nil (into ?_)
  refine sw_false rfl rfl ?_
  refine sw_skip (into ?_)
  refine sw_seq ?_
  refine sw_region ?_
  refine ow_val (val_move rfl) rfl ?_   -- 27
  refine ow_val (val_move rfl) rfl ?_   -- 28
  refine ow_call_tail (σ := Nat × Option Addr × Nat × List Ent) (fun q9 => .tuple #[vPtr q9.1, .slice q9.2.1 L.length q9.2.2.1, .bool true]) (fun q9 => q9.2.2.2) (fun q9 => TrOn 110 79 k q9.2.2.2 q9.1 L ∧ RdOn q9.2.2.2 q9.2.1 (List.flatMap (fun d : List UInt8 => List.map vU8 d) L) ∧ L.length ≤ q9.2.2.1 ∧ (0 < L.length → ∃ b o, q9.2.1 = some ⟨b, o, none⟩)) (callsTo Tryd.func15 rfl (by kernel_rfl) rfl) rfl (fun w hm => tree_is k h1 h2 w (hK.mem0 hm) a l.length c l rfl hdl (hr.mem hm) (by omega) (by omega) (by omega) hL) ?_   -- 29
  rintro ⟨b29, a29, c29, es29⟩ ⟨htr29, hrd29, hle29, hla29⟩
  simp only at htr29 hrd29 hle29 hla29 ⊢
  refine ow_val (val_move rfl) rfl ?_   -- 26
  refine ow_val (val_extract rfl rfl) rfl ?_   -- 30
  refine ow_val (val_extract rfl rfl) rfl ?_   -- 31
  refine ow_val (val_extract rfl rfl) rfl ?_   -- 32
  refine ow_val (val_assign rfl) rfl ?_   -- 9
  refine ow_val (val_assign rfl) rfl ?_   -- 10
  refine ow_val (val_assign rfl) rfl ?_   -- 11
  refine ow_nil (into ?_)
  refine sw_seq ?_
  refine sw_seq ?_
  refine sw_region ?_
  refine ow_val (val_move rfl) rfl ?_   -- 33
  refine ow_val (val_not rfl) rfl ?_   -- 34
  refine ow_val (val_move rfl) rfl ?_   -- 35
  refine ow_guard_yes rfl rfl rfl ?_
  refine ow_val (val_move rfl) rfl ?_   -- 36
  refine ow_guard_yes rfl rfl rfl ?_
  refine ow_val (val_move rfl) rfl ?_   -- 37
  refine ow_guard_yes rfl rfl rfl ?_
  refine ow_val ((val_gtr_u64 rfl rfl).to (congrArg Value.bool (decide_eq_false ((fun h => absurd (UInt64.lt_iff_toNat_lt.1 h) (by omega)))))) rfl ?_   -- 38
  refine ow_val (val_pick_false rfl rfl) rfl ?_   -- 39
  refine ow_val (val_move rfl) rfl ?_   -- 40
  refine ow_guard_yes rfl rfl rfl ?_
  refine ow_val (val_move rfl) rfl ?_   -- 41
  refine ow_guard_yes rfl rfl rfl ?_
  refine ow_val (val_move rfl) rfl ?_   -- 42
  refine ow_guard_yes rfl rfl rfl ?_
  refine ow_val (val_len rfl Tryd.underlying22) rfl ?_   -- 43
  refine ow_guard_yes rfl rfl rfl ?_
  refine ow_val (val_conv_n_u64 L.length Tryd.underlying3 Tryd.underlying23 rfl rfl) rfl ?_   -- 44
  refine ow_guard_yes rfl rfl rfl ?_
  refine ow_val ((val_gtr_u64 rfl rfl).to (congrArg Value.bool (decide_eq_false ((fun h => absurd (UInt64.lt_iff_toNat_lt.1 h) (by rw [of_nat (by omega)]; omega)))))) rfl ?_   -- 45
  refine ow_val (val_pick_false rfl rfl) rfl ?_   -- 46
  refine ow_nil (into ?_)
  refine sw_false rfl rfl ?_
  refine sw_skip (into ?_)
  refine sw_seq ?_
  refine sw_seq ?_
  refine sw_region ?_
  refine ow_val (val_move rfl) rfl ?_   -- 47
  refine ow_val (val_eql_nilptr Tryd.underlying25 rfl rfl) rfl ?_   -- 48
  refine ow_nil (into ?_)
  refine sw_false rfl rfl ?_
  refine sw_skip (into ?_)
  refine sw_seq ?_
  refine sw_region ?_
  refine ow_val (val_move rfl) rfl ?_   -- 50
  refine ow_val (val_move rfl) rfl ?_   -- 51
  refine ow_val (val_move rfl) rfl ?_   -- 52
  refine ow_call_row2 (E := 41) (size := 32) (k := P.length) (xs := List.flatMap (fun d : List UInt8 => List.map vU8 d) P) (x := vInt ((0 : Nat) : Int)) (callsTo Tryd.func19 rfl (by kernel_rfl) rfl) rfl (fun w hm => cons_okU k h1 h2 b29 L (by assumption) (by assumption) (by omega) m n w (hK.mem0 hm) (htr29.is (hm.heldSub (List.Sublist.refl _))) hok _ hP) (fun a53 c53 e53 hr53 => ?_)   -- 53
  refine ow_val (val_move rfl) rfl ?_   -- 49
  refine ow_val (val_extract rfl rfl) rfl ?_   -- 54
  refine ow_val (val_extract rfl rfl) rfl ?_   -- 55
  refine ow_val (val_assign rfl) rfl ?_   -- 12
  refine ow_val (val_assign rfl) rfl ?_   -- 13
  refine ow_nil (into ?_)
  refine sw_seq ?_
  refine sw_region ?_
  refine ow_val (val_move rfl) rfl ?_   -- 57
  refine ow_val (val_move rfl) rfl ?_   -- 58
  refine ow_call_pure (v := .tuple #[.agg ((lg k SM).map vU8).toArray, vInt ((0 : Nat) : Int)]) (callsTo Tryd.func26 rfl (by kernel_rfl) rfl) rfl (fun w hm => (by have h := root_any k h1 h2 b29 L (by assumption) (by assumption) m w (hK.mem0 hm) (htr29.is (hm.heldSub (.cons _ (List.Sublist.refl _)))) (by omega); rw [rngU k hmL, hSM] at h; exact h)) ?_   -- 59
  refine ow_val (val_move rfl) rfl ?_   -- 56
  refine ow_val (val_extract rfl rfl) rfl ?_   -- 60
  refine ow_val (val_extract rfl rfl) rfl ?_   -- 61
  refine ow_new (acts_alloc zD) rfl (fun b14 hb14 => ?_)   -- 14
  refine ow_do_eq (does_store_all 0 rfl rfl rfl (one_u8s _) Tryd.sizeOf41 (by show (List.map vU8 (lg k SM)).length = _; rw [List.length_map]; exact (lg_len h2 _ rfl hMd)) (by show (List.map vU8 zeros32).length = _; rw [List.length_map]; exact zeros32_len)) ?_
  refine ow_val (val_assign rfl) rfl ?_   -- 15
  refine ow_nil (into ?_)
  refine sw_seq ?_
  refine sw_region ?_
  refine ow_val (val_move rfl) rfl ?_   -- 63
  refine ow_val (val_move rfl) rfl ?_   -- 64
  refine ow_call_pure (v := .tuple #[.agg ((lg k S).map vU8).toArray, vInt ((0 : Nat) : Int)]) (callsTo Tryd.func26 rfl (by kernel_rfl) rfl) rfl (fun w hm => (by have h := root_any k h1 h2 b29 L (by assumption) (by assumption) n w (hK.mem0 hm) (htr29.is (hm.heldSub (.cons _ (.cons _ (List.Sublist.refl _))))) (by omega); rw [rngU k hn, hS] at h; exact h)) ?_   -- 65
  refine ow_val (val_move rfl) rfl ?_   -- 62
  refine ow_val (val_extract rfl rfl) rfl ?_   -- 66
  refine ow_val (val_extract rfl rfl) rfl ?_   -- 67
  refine ow_new (acts_alloc zD) rfl (fun b16 hb16 => ?_)   -- 16
  refine ow_do_eq (does_store_all 0 rfl rfl rfl (one_u8s _) Tryd.sizeOf41 (by show (List.map vU8 (lg k S)).length = _; rw [List.length_map]; exact (lg_len h2 _ rfl hSd)) (by show (List.map vU8 zeros32).length = _; rw [List.length_map]; exact zeros32_len)) ?_
  refine ow_val (val_assign rfl) rfl ?_   -- 17
  refine ow_nil (into ?_)
  refine sw_seq ?_
  refine sw_seq ?_
  refine sw_region ?_
  refine ow_val (val_move rfl) rfl ?_   -- 68
  refine ow_val ((val_neq_int rfl rfl).to (v' := .bool false) (congrArg Value.bool (decide_eq_false (fun h => h (by simp))))) rfl ?_   -- 69
  refine ow_val (val_move rfl) rfl ?_   -- 70
  refine ow_guard_yes rfl rfl rfl ?_
  refine ow_val (val_move rfl) rfl ?_   -- 71
  refine ow_guard_yes rfl rfl rfl ?_
  refine ow_val ((val_neq_int rfl rfl).to (v' := .bool false) (congrArg Value.bool (decide_eq_false (fun h => h (by simp))))) rfl ?_   -- 72
  refine ow_val (val_pick_false rfl rfl) rfl ?_   -- 73
  refine ow_val (val_move rfl) rfl ?_   -- 74
  refine ow_guard_yes rfl rfl rfl ?_
  refine ow_val (val_move rfl) rfl ?_   -- 75
  refine ow_guard_yes rfl rfl rfl ?_
  refine ow_val ((val_neq_int rfl rfl).to (v' := .bool false) (congrArg Value.bool (decide_eq_false (fun h => h (by simp))))) rfl ?_   -- 76
  refine ow_val (val_pick_false rfl rfl) rfl ?_   -- 77
  refine ow_nil (into ?_)
  refine sw_false rfl rfl ?_
  refine sw_skip (into ?_)
  refine sw_seq ?_
  refine sw_seq ?_
  refine sw_region ?_
  refine ow_val (val_move rfl) rfl ?_   -- 78
  refine ow_val ((val_eql_u64 rfl rfl).to (congrArg Value.bool (decide_eq_false ((fun h => absurd (congrArg UInt64.toNat h) (show ¬ m.toNat = 0 by omega)))))) rfl ?_   -- 79
  refine ow_val (val_move rfl) rfl ?_   -- 80
  refine ow_guard_yes rfl rfl rfl ?_
  refine ow_val (val_move rfl) rfl ?_   -- 81
  refine ow_guard_yes rfl rfl rfl ?_
  refine ow_val (val_move rfl) rfl ?_   -- 82
  refine ow_guard_yes rfl rfl rfl ?_
  refine ow_val ((val_eql_u64 rfl rfl).to (congrArg Value.bool (decide_eq_false ((fun h => absurd (congrArg UInt64.toNat h) (by omega)))))) rfl ?_   -- 83
  refine ow_val (val_pick_false rfl rfl) rfl ?_   -- 84
  refine ow_nil (into ?_)
  refine sw_false rfl rfl ?_
  refine sw_skip (into ?_)
  refine sw_seq ?_
  refine sw_region ?_
  refine ow_val (val_move rfl) rfl ?_   -- 89
  refine ow_val (val_move rfl) rfl ?_   -- 90
  refine ow_call_pure (v := .tuple #[vInt ((cz : Nat) : Int), vInt ((P.length : Nat) : Int), vInt ((0 : Nat) : Int)]) (callsTo Tryd.func21 rfl (by kernel_rfl) rfl) rfl (fun w hm => (by have h := counts_any 0 m n w; rw [hcnt] at h; exact h)) ?_   -- 91
  refine ow_val (val_move rfl) rfl ?_   -- 88
  refine ow_val (val_extract rfl rfl) rfl ?_   -- 92
  refine ow_val (val_extract rfl rfl) rfl ?_   -- 93
  refine ow_val (val_extract rfl rfl) rfl ?_   -- 94
  refine ow_val (val_assign rfl) rfl ?_   -- 18
  refine ow_val (val_assign rfl) rfl ?_   -- 19
  refine ow_val (val_assign rfl) rfl ?_   -- 20
  refine ow_nil (into ?_)
  refine sw_seq ?_
  refine sw_region ?_
  refine ow_val (val_move rfl) rfl ?_   -- 96
  refine ow_val (val_move rfl) rfl ?_   -- 97
  refine ow_val (val_move rfl) rfl ?_   -- 98
  refine ow_val (val_load_all 1 rfl rfl Tryd.isAgg41 Tryd.sizeOf41 (by show (List.map vU8 (lg k SM)).length = _; rw [List.length_map]; exact (lg_len h2 _ rfl hMd))) rfl ?_   -- 99
  refine ow_val (val_move rfl) rfl ?_   -- 100
  refine ow_call_pure (v := .tuple #[.agg ((lg k SM).map vU8).toArray, .agg ((lg k S).map vU8).toArray, .bool true]) (callsTo Tryd.func27 rfl (by kernel_rfl) rfl) rfl (fun w hm => both_is k h1 h2 m n (lg k SM) (lg_len h2 _ rfl hMd) (lg_fm h1 h2 hMf) w (hK.mem0 hm) a53 P.length c53 P rfl hPd hPf (hr53.rdAt hm (i := 2) rfl) hr53.le (by omega) S hSn hSd hSf hm1 hmlt hQ ho2) ?_   -- 101
  refine ow_val (val_move rfl) rfl ?_   -- 95
  refine ow_val (val_extract rfl rfl) rfl ?_   -- 102
  refine ow_val (val_extract rfl rfl) rfl ?_   -- 103
  refine ow_val (val_extract rfl rfl) rfl ?_   -- 104
  refine ow_new (acts_alloc zD) rfl (fun b21 hb21 => ?_)   -- 21
  refine ow_new (acts_alloc zD) rfl (fun b22 hb22 => ?_)   -- 22
  refine ow_do_eq (does_store_all 1 rfl rfl rfl (one_u8s _) Tryd.sizeOf41 (by show (List.map vU8 (lg k SM)).length = _; rw [List.length_map]; exact (lg_len h2 _ rfl hMd)) (by show (List.map vU8 zeros32).length = _; rw [List.length_map]; exact zeros32_len)) ?_
  refine ow_do_eq (does_store_all 0 rfl rfl rfl (one_u8s _) Tryd.sizeOf41 (by show (List.map vU8 (lg k S)).length = _; rw [List.length_map]; exact (lg_len h2 _ rfl hSd)) (by show (List.map vU8 zeros32).length = _; rw [List.length_map]; exact zeros32_len)) ?_
  refine ow_val (val_assign rfl) rfl ?_   -- 23
  refine ow_nil (into ?_)
  refine sw_seq ?_
  refine sw_region ?_
  refine ow_val (val_move rfl) rfl ?_   -- 105
  refine ow_val ((val_eql_int rfl rfl).to (v' := .bool true) (congrArg Value.bool (decide_eq_true (by simp)))) rfl ?_   -- 106
  refine ow_val (val_move rfl) rfl ?_   -- 107
  refine ow_guard_yes rfl rfl rfl ?_
  refine ow_val (val_move rfl) rfl ?_   -- 108
  refine ow_guard_yes rfl rfl rfl ?_
  refine ow_val (val_move rfl) rfl ?_   -- 109
  refine ow_guard_yes rfl rfl rfl ?_
  refine ow_val (val_len rfl Tryd.underlying22) rfl ?_   -- 110
  refine ow_guard_yes rfl rfl rfl ?_
  refine ow_val ((val_eql_int rfl rfl).to (v' := .bool true) (congrArg Value.bool (decide_eq_true rfl))) rfl ?_   -- 111
  refine ow_val (val_pick_true rfl rfl) rfl ?_   -- 112
  refine ow_val (val_move rfl) rfl ?_   -- 113
  refine ow_guard_yes rfl rfl rfl ?_
  refine ow_val (val_move rfl) rfl ?_   -- 114
  refine ow_val (val_pick_true rfl rfl) rfl ?_   -- 115
  refine ow_val (val_move rfl) rfl ?_   -- 116
  refine ow_guard_yes rfl rfl rfl ?_
  refine ow_val (val_load_all 1 rfl rfl Tryd.isAgg41 Tryd.sizeOf41 (by show (List.map vU8 (lg k SM)).length = _; rw [List.length_map]; exact (lg_len h2 _ rfl hMd))) rfl ?_   -- 117
  refine ow_guard_yes rfl rfl rfl ?_
  refine ow_val (val_load_all 3 rfl rfl Tryd.isAgg41 Tryd.sizeOf41 (by show (List.map vU8 (lg k SM)).length = _; rw [List.length_map]; exact (lg_len h2 _ rfl hMd))) rfl ?_   -- 118
  refine ow_guard_yes rfl rfl rfl ?_
  refine ow_val ((val_eql_u8s rfl rfl Tryd.eqGuardType41 Tryd.underlying41 Tryd.underlying5 Tryd.sizeOf5 Tryd.isAgg5 (lg_len h2 _ rfl hMd) (lg_len h2 _ rfl hMd)).to (congrArg Value.bool (show _ = true by simp [txt]))) rfl ?_   -- 119
  refine ow_val (val_pick_true rfl rfl) rfl ?_   -- 120
  refine ow_val (val_move rfl) rfl ?_   -- 121
  refine ow_guard_yes rfl rfl rfl ?_
  refine ow_val (val_load_all 0 rfl rfl Tryd.isAgg41 Tryd.sizeOf41 (by show (List.map vU8 (lg k S)).length = _; rw [List.length_map]; exact (lg_len h2 _ rfl hSd))) rfl ?_   -- 122
  refine ow_guard_yes rfl rfl rfl ?_
  refine ow_val (val_load_all 2 rfl rfl Tryd.isAgg41 Tryd.sizeOf41 (by show (List.map vU8 (lg k S)).length = _; rw [List.length_map]; exact (lg_len h2 _ rfl hSd))) rfl ?_   -- 123
  refine ow_guard_yes rfl rfl rfl ?_
  refine ow_val ((val_eql_u8s rfl rfl Tryd.eqGuardType41 Tryd.underlying41 Tryd.underlying5 Tryd.sizeOf5 Tryd.isAgg5 (lg_len h2 _ rfl hSd) (lg_len h2 _ rfl hSd)).to (congrArg Value.bool (show _ = true by simp [txt]))) rfl ?_   -- 124
  refine ow_val (val_pick_true rfl rfl) rfl ?_   -- 125
  refine ow_val (val_assign rfl) rfl ?_   -- 8
  refine ow_nil (into ?_)
  exact sw_ret (fun w hm => ret_one _ rfl rfl ⟨rfl, hm.forgetAll⟩)

theorem mproofSince_any (v0 : Int) (m n : UInt64) (w : World) (hK : KW w) (a : Option Addr) (c : Nat) (l : List (List UInt8)) (hdl : ∀ d ∈ l, d.length = 32) (hr : Rd w a (l.flatMap fun d => d.map vU8)) (hc : l.length ≤ c) (hb : l.length * 32 ≤ 140737488351232) : Calls Tryd.prog 8 #[vInt v0, .slice a l.length c, vU64 m, vU64 n] w fun e w' => ∃ v, e = .returned v ∧ v = .bool true ∧ Mem w [] [] w' := by
  cases hwd : wd v0 with
  | false => exact since_none v0 hwd m n w hK a c l hdl hr hc hb
  | true =>
    have h9 := wd_iff.1 hwd
    obtain ⟨k, rfl⟩ : ∃ k : Nat, v0 = (k : Int) := ⟨v0.toNat, by omega⟩
    by_cases hmn : m.toNat ≤ n.toNat
    · by_cases hn : n.toNat ≤ (cutL k l).length
      · by_cases hm0 : m.toNat = 0
        · exact sin_z k (by omega) (by omega) m n w hK a c l hdl hr hc hb _ rfl hmn hn hm0
        · by_cases hme : m.toNat = n.toNat
          · exact sin_e k (by omega) (by omega) m n w hK a c l hdl hr hc hb _ rfl hmn hn hm0 hme
          · exact since_go k (by omega) (by omega) m n w hK a c l hdl hr hc hb _ rfl hmn hn hm0 hme
      · exact since_b k (by omega) (by omega) m n w hK a c l hdl hr hc hb _ rfl hmn (by omega)
    · exact since_a k (by omega) (by omega) m n w hK a c l hdl hr hc hb _ rfl (by omega)
end Go.Proofs.YtcdponddgnkecaaDoor
