import Derived.Test.YtpmnhmfahgchgaaDoorDig12
import Derived.Test.YtpmnhmfahgchgaaDoorDig7
import Derived.Test.YtpmnhmfahgchgaaDoorProg
set_option linter.unusedVariables false
set_option linter.unusedSimpArgs false
namespace Go.Proofs.YtpmnhmfahgchgaaDoor
open Go.Sx Go.Ps
theorem apart_any (w : World) (a : Option Addr) (c : Nat) (ks : List (Sl UInt8)) (eo : Ent) (es_0 : List Ent) (hro : RowE (.slice a ks.length c) 25 1 ks.length (ks.map Sl.v) eo) (hes_0 : EAll (ARow 5 ks 0 0) ks.length es_0) (hn : ks.length ≤ 8388608) (hb : ∀ s ∈ ks, s.xs.length ≤ 536870912) (hm0 : Mem w (keys (eo :: es_0)) (eo :: es_0) w) : Calls Tryd.prog 38 #[.slice a ks.length c] w fun en w' => ∃ u, en = .returned u ∧ u = .bool true ∧ Mem w (keys (eo :: es_0)) [] w' := by
  obtain ⟨tiS, hSi, hSz, hSsz, hSby⟩ := info_parts isl
  refine calls_of_sw (vs := [.slice a ks.length c]) Tryd.func38 rfl Tryd.ntmps38 rfl (SW.beginM hm0 ?_)
  refine sw_seq ?_
  refine sw_region ?_
  refine ow_val (val_assign rfl) rfl ?_   -- 2
  refine ow_nil (into ?_)
  refine sw_seq ?_
  refine sw_seq ?_
  refine sw_region ?_
  refine ow_val (val_assign rfl) rfl ?_   -- 3
  refine ow_nil (into ?_)
  refine sw_block ?_
  refine sw_loop (σ := Nat × List Ent) (fun t => t.1 ≤ 2 ∧ EAll (ARow 5 ks 0 0) ks.length t.2) (fun t => [(3, vInt (t.1 : Int)), (0, .slice a ks.length c)]) (fun t => Mem w (keys (eo :: es_0)) (eo :: t.2)) (fun t => 2 - t.1) (0, es_0) ⟨Nat.zero_le _, hes_0⟩ ⟨rfl, rfl, trivial⟩ (fun w hm => hm) ?_
  rintro ⟨r, es0⟩ ⟨hr, hes0⟩
  simp only at hr hes0 ⊢
  refine sw_seq ?_
  refine sw_seq ?_
  refine sw_region ?_
  refine ow_val (val_move rfl) rfl ?_   -- 11
  refine ow_val (val_lss_int rfl rfl) rfl ?_   -- 12
  refine ow_nil (into ?_)
  refine sw_if rfl (fun h2 => ?_) (fun h2 => ?_)
  · -- then
    refine sw_skip (into ?_)
    refine sw_seq ?_
    refine sw_block ?_
    refine sw_seq ?_
    refine sw_seq ?_
    refine sw_region ?_
    refine ow_val (val_move rfl) rfl ?_   -- 15
    refine ow_val (val_len rfl Tryd.underlying32) rfl ?_   -- 16
    refine ow_val (val_move rfl) rfl ?_   -- 17
    refine ow_nil (into ?_)
    refine sw_block ?_
    refine sw_loop (σ := Nat × List Ent) (fun t => t.1 ≤ ks.length ∧ EAll (ARow 5 ks r t.1) ks.length t.2) (fun t => [(17, vInt (t.1 : Int)), (16, vInt (ks.length : Int)), (3, vInt (r : Int)), (0, .slice a ks.length c)]) (fun t => Mem w (keys (eo :: es_0)) (eo :: t.2)) (fun t => ks.length - t.1) (0, es0) ⟨Nat.zero_le _, hes0.to (fun _ _ _ h => h.anew)⟩ ⟨rfl, rfl, rfl, rfl, trivial⟩ (fun w hm => hm) ?_
    rintro ⟨t, es1⟩ ⟨ht, hes1⟩
    simp only at ht hes1 ⊢
    refine sw_seq ?_
    refine sw_region ?_
    refine ow_val (val_lss_int rfl rfl) rfl ?_   -- 18
    refine ow_nil (into ?_)
    refine sw_seq ?_
    refine sw_if rfl (fun h5 => ?_) (fun h5 => ?_)
    · -- then
      obtain ⟨bk, rfl⟩ := hro.addr0 (by omega)
      obtain ⟨L1, e, L2, rfl, hX, hput⟩ := hes1.split (i := t) (by omega)
      obtain ⟨s, hs⟩ : ∃ z, ks.getD t default = z := ⟨_, rfl⟩
      have hsb := hb _ (getD_mem (l := ks) (i := t) (by omega))
      rw [hs] at hsb
      obtain ⟨X0, hX0l, hX0⟩ := hX.at hs
      refine sw_skip (into ?_)
      refine sw_seq ?_
      refine sw_block ?_
      refine sw_seq ?_
      refine sw_region ?_
      refine ow_val (val_move rfl) rfl ?_   -- 19
      refine ow_val (val_assign rfl) rfl ?_   -- 4
      refine ow_nil (into ?_)
      refine sw_seq ?_
      refine sw_region ?_
      refine ow_val (val_move rfl) rfl ?_   -- 20
      refine ow_val (val_move rfl) rfl ?_   -- 21
      refine ow_val (val_indexAddr_slice t (t * 1) rfl rfl Tryd.underlying32 Tryd.sizeOf25 (by omega) (by omega) (by omega)) rfl ?_   -- 22
      refine ow_val ((val_load (v := Sl.v (ks.getD t default)) rfl Tryd.isAgg25 (fun w' hm => Rd.get (V := Sl.v) (p := ks) (k := t) (hro.rdAt hm (i := 0) rfl) (by omega) (by omega))).to (v' := .slice s.a s.xs.length s.c) (by rw [hs]; rfl)) rfl ?_   -- 23
      refine ow_val (val_len rfl Tryd.underlying25) rfl ?_   -- 24
      refine ow_val (val_move rfl) rfl ?_   -- 25
      refine ow_nil (into ?_)
      refine sw_block ?_
      refine sw_loop (σ := Nat × List UInt8 × Ent) (fun q => q.1 ≤ s.xs.length ∧ q.2.1.length = s.xs.length ∧ (∀ j < q.1, q.2.1.getD j default = mk r t j) ∧ RowE (.slice s.a s.xs.length s.c) 5 1 s.xs.length (q.2.1.map vU8) q.2.2) (fun q => [(25, vInt (q.1 : Int)), (24, vInt (s.xs.length : Int)), (4, vInt (t : Int)), (17, vInt (t : Int)), (16, vInt (ks.length : Int)), (3, vInt (r : Int)), (0, .slice (some ⟨bk, 0, none⟩) ks.length c)]) (fun q => Mem w (keys (eo :: es_0)) (q.2.2 :: eo :: (L1 ++ L2))) (fun q => s.xs.length - q.1) (0, X0, e) ⟨Nat.zero_le _, hX0l, fun j hj => absurd hj (Nat.not_lt_zero _), hX0⟩ ⟨rfl, rfl, rfl, rfl, rfl, rfl, rfl, trivial⟩ (fun w hm => Mem.pull1 (H := [eo]) hm) ?_
      rintro ⟨j, X, e4⟩ ⟨hj, hXl, hXv, hrk⟩
      simp only at hj hXl hXv hrk ⊢
      refine sw_seq ?_
      refine sw_region ?_
      refine ow_val (val_lss_int rfl rfl) rfl ?_   -- 26
      refine ow_nil (into ?_)
      refine sw_seq ?_
      refine sw_if rfl (fun h8 => ?_) (fun h8 => ?_)
      · -- then
        obtain ⟨b1, rest1, hsa, rfl, hre⟩ := hrk.open1 (by omega)
        refine sw_skip (into ?_)
        refine sw_seq ?_
        refine sw_block ?_
        refine sw_seq ?_
        refine sw_region ?_
        refine ow_val (val_move rfl) rfl ?_   -- 27
        refine ow_val (val_assign rfl) rfl ?_   -- 5
        refine ow_nil (into ?_)
        refine sw_region_lex _ [10] [(0, 0), (1, 0), (2, 0), (4, 0), (5, 0), (6, 0), (7, 0), (3, 1), (8, 2), (9, 0), (10, 2)] (by kernel_rfl) (by kernel_rfl) (fun _ _ _ h => h) (fun _ h => h) (fun _ h => h.drawn _) ?_
        refine lw_pure rfl (val_move rfl) rfl ?_   -- 28
        refine lw_pure rfl (val_move rfl) rfl ?_   -- 29
        refine lw_pure rfl (val_indexAddr_slice t (t * 1) rfl rfl Tryd.underlying32 Tryd.sizeOf25 (by omega) (by omega) (by omega)) rfl ?_   -- 30
        refine lw_pure rfl (val_move rfl) rfl ?_   -- 32
        refine lw_pure rfl (val_move rfl) rfl ?_   -- 33
        refine lw_pure rfl (val_move rfl) rfl ?_   -- 34
        refine lw_pure rfl (val_move rfl) rfl ?_   -- 35
        refine lw_held rfl ((val_load (v := Sl.v (ks.getD t default)) rfl Tryd.isAgg25 (fun w' hm => Rd.get (V := Sl.v) (p := ks) (k := t) (hro.rdAt hm (i := 1) rfl) (by omega) (by omega))).to (v' := .slice (some ⟨b1, 0, none⟩) s.xs.length s.c) (by rw [hs, Sl.v, hsa])) rfl ?_   -- 31
        refine lw_call_pure (v := vU8 (mk r t j)) rfl (callsTo Tryd.func76 rfl (by kernel_rfl) rfl) rfl (fun w hm => mark_any r t j (by omega) (by omega) w) ?_   -- 36
        refine lw_pure rfl (val_indexAddr_slice (j) (j) rfl rfl Tryd.underlying25 Tryd.sizeOf5 (by omega) (by omega) (by omega)) rfl ?_   -- 37
        refine lw_do rfl (does_set1 0 rfl rfl rfl Tryd.sizeOf5 (by omega)) (fun h => nomatch h) (fun _ _ => ?_)
        refine lw_nil (into ?_)
        refine sw_region ?_
        refine ow_val (val_add_int ((j + 1 : Nat) : Int) rfl rfl (by omega) (by omega)) rfl ?_   -- 38
        refine ow_val (val_move rfl) rfl ?_   -- 25
        exact ow_nil (fun w hm => ⟨(j + 1, X.set j (mk r t j), _), ⟨by dsimp only; omega, by dsimp only; rw [List.length_set]; exact hXl, set_upto1 (f := fun q => mk r t q) hXv (by omega), by dsimp only; rw [hsa]; exact hre _ (by rw [List.length_set])⟩, by dsimp only; omega, ⟨rfl, rfl, rfl, rfl, rfl, rfl, rfl, trivial⟩, hm⟩)
      · -- else
        obtain rfl : j = s.xs.length := by omega
        refine sw_exit (into ?_)
        refine sw_region ?_
        refine ow_val (val_add_int ((t + 1 : Nat) : Int) rfl rfl (by omega) (by omega)) rfl ?_   -- 39
        refine ow_val (val_move rfl) rfl ?_   -- 17
        exact ow_nil (fun w hm => ⟨(t + 1, L1 ++ e4 :: L2), ⟨by dsimp only; omega, hput (ARow 5 ks r (t + 1)) e4 (.set hs hXl hXv hrk) (fun j x hj _ h => h.other hj)⟩, by dsimp only; omega, ⟨rfl, rfl, rfl, rfl, trivial⟩, Mem.back1 (H := [eo]) hm⟩)
    · -- else
      obtain rfl : t = ks.length := by omega
      replace hes1 := ARow.all hes1
      refine sw_exit (into ?_)
      refine sw_seq ?_
      refine sw_region ?_
      refine ow_make (acts_buildSlice (cs := (([1, 24, 90] : List Int).map vInt)) Tryd.underlying24 Tryd.sizeOf3 Tryd.zeroValue3 rfl rfl (by kernel_rfl)) rfl (fun b40 hb40 => ?_)   -- 40
      refine ow_val (val_len rfl Tryd.underlying24) rfl ?_   -- 41
      refine ow_val (val_move rfl) rfl ?_   -- 42
      refine ow_nil (into ?_)
      refine sw_block ?_
      refine sw_loop (σ := Nat × List Ent) (fun t => t.1 ≤ 3 ∧ EAll (fun i e => KRow 5 ks i (ms r i (nK ks i)) e) ks.length t.2) (fun t => [(42, vInt (t.1 : Int)), (41, vInt ((3 : Nat) : Int)), (40, .slice (some ⟨b40, 0, none⟩) 3 3), (3, vInt (r : Int)), (0, .slice a ks.length c)]) (fun t => Mem w (keys (eo :: es_0)) (some (b40, blk (([1, 24, 90] : List Int).map vInt) 3) :: eo :: t.2)) (fun t => 3 - t.1) (0, es1) ⟨Nat.zero_le _, hes1⟩ ⟨rfl, rfl, rfl, rfl, rfl, trivial⟩ (fun w hm => hm) ?_
      rintro ⟨k, es⟩ ⟨hk, hes⟩
      simp only at hk hes ⊢
      refine sw_seq ?_
      refine sw_region ?_
      refine ow_val (val_lss_int rfl rfl) rfl ?_   -- 43
      refine ow_nil (into ?_)
      refine sw_seq ?_
      refine sw_if rfl (fun h14 => ?_) (fun h14 => ?_)
      · -- then
        have hkb := stp_b k
        refine sw_skip (into ?_)
        refine sw_seq ?_
        refine sw_block ?_
        refine sw_seq ?_
        refine sw_region ?_
        refine ow_val (val_indexAddr_slice (k) (k) rfl rfl Tryd.underlying24 Tryd.sizeOf3 (by omega) (by omega) (by omega)) rfl ?_   -- 44
        refine ow_val ((val_load_at 0 rfl rfl Tryd.isAgg3 (get_map vInt ([1, 24, 90] : List Int) k (by show k < 3; omega))).to (v' := vInt (stp k : Int)) (by rw [stp_get (by omega)])) rfl ?_   -- 45
        refine ow_val (val_assign rfl) rfl ?_   -- 7
        refine ow_nil (into ?_)
        refine sw_seq ?_
        refine sw_region ?_
        refine ow_val (val_assign rfl) rfl ?_   -- 8
        refine ow_nil (into ?_)
        refine sw_seq ?_
        refine sw_seq ?_
        refine sw_region ?_
        refine ow_val (val_move rfl) rfl ?_   -- 46
        refine ow_val (val_len rfl Tryd.underlying32) rfl ?_   -- 47
        refine ow_val (val_move rfl) rfl ?_   -- 48
        refine ow_nil (into ?_)
        refine sw_block ?_
        refine sw_loop (σ := Nat × (Option Addr × Nat × Ent) × List (Sl UInt8) × List Ent × List Ent) (fun t => t.1 ≤ ks.length ∧ t.2.2.1.length = t.1 ∧ t.2.2.2.2.length = t.1 ∧ RowE (.slice t.2.1.1 t.2.2.1.length t.2.1.2.1) 25 1 t.2.2.1.length (t.2.2.1.map Sl.v) t.2.1.2.2 ∧ EAll (AGr 5 ks t.2.2.1 t.2.2.2.2 r (gn (stp k)) t.1) ks.length t.2.2.2.1) (fun t => [(48, vInt (t.1 : Int)), (47, vInt (ks.length : Int)), (8, .slice t.2.1.1 t.2.2.1.length t.2.1.2.1), (7, vInt (stp k : Int)), (42, vInt (k : Int)), (41, vInt ((3 : Nat) : Int)), (40, .slice (some ⟨b40, 0, none⟩) 3 3), (3, vInt (r : Int)), (0, .slice a ks.length c)]) (fun t => Mem w (keys (eo :: es_0)) (t.2.1.2.2 :: some (b40, blk (([1, 24, 90] : List Int).map vInt) 3) :: eo :: (t.2.2.2.1 ++ t.2.2.2.2))) (fun t => ks.length - t.1) (0, (none, 0, none), [], es, []) ⟨Nat.zero_le _, rfl, rfl, RowE.nil _ _, hes.to (fun _ _ _ h => ⟨fun h => absurd h (Nat.not_lt_zero _), fun _ => h⟩)⟩ ⟨rfl, rfl, rfl, rfl, rfl, rfl, rfl, rfl, rfl, trivial⟩ (fun w hm => by rw [List.append_nil]; exact hm.place) ?_
        rintro ⟨t, ⟨ag, cg, eg⟩, gs, es, fs⟩ ⟨ht, hgl, hfl, hrg, hgr⟩
        simp only at ht hgl hfl hrg hgr ⊢
        refine sw_seq ?_
        refine sw_region ?_
        refine ow_val (val_lss_int rfl rfl) rfl ?_   -- 49
        refine ow_nil (into ?_)
        refine sw_seq ?_
        refine sw_if rfl (fun h18 => ?_) (fun h18 => ?_)
        · -- then
          obtain ⟨bk, rfl⟩ := hro.addr0 (by omega)
          obtain ⟨L1, e, L2, rfl, hX, hput⟩ := hgr.split (i := t) (by omega)
          obtain ⟨s, hs⟩ : ∃ z, ks.getD t default = z := ⟨_, rfl⟩
          have hsb := hb _ (getD_mem (l := ks) (i := t) (by omega))
          rw [hs] at hsb
          have hkr := (hX.2 (Nat.le_refl _)).at hs
          have hgb := gn_b (stp_b k)
          refine sw_skip (into ?_)
          refine sw_seq ?_
          refine sw_block ?_
          refine sw_seq ?_
          refine sw_region ?_
          refine ow_val (val_move rfl) rfl ?_   -- 50
          refine ow_val (val_assign rfl) rfl ?_   -- 9
          refine ow_nil (into ?_)
          refine sw_region ?_
          refine ow_val (val_move rfl) rfl ?_   -- 51
          refine ow_val (val_move rfl) rfl ?_   -- 52
          refine ow_val (val_move rfl) rfl ?_   -- 53
          refine ow_val (val_indexAddr_slice t (t * 1) rfl rfl Tryd.underlying32 Tryd.sizeOf25 (by omega) (by omega) (by omega)) rfl ?_   -- 54
          refine ow_val ((val_load (v := Sl.v (ks.getD t default)) rfl Tryd.isAgg25 (fun w' hm => Rd.get (V := Sl.v) (p := ks) (k := t) (hro.rdAt hm (i := 2) rfl) (by omega) (by omega))).to (v' := .slice s.a s.xs.length s.c) (by rw [hs]; rfl)) rfl ?_   -- 55
          refine ow_val (val_move rfl) rfl ?_   -- 56
          refine ow_val (val_move rfl) rfl ?_   -- 57
          refine ow_val (val_move rfl) rfl ?_   -- 58
          refine ow_mem (M' := Mem w (keys (eo :: es_0)) ([e] ++ (eg :: some (b40, blk (([1, 24, 90] : List Int).map vInt) 3) :: eo :: ((L1 ++ L2) ++ fs)))) (fun w hm => Mem.pullF (H := [eg, some (b40, blk (([1, 24, 90] : List Int).map vInt) 3), eo]) hm) ?_
          refine ow_call_frame (σ := Option Addr × Nat × Ent × Ent) (fun t9 => .slice t9.1 (s.xs.length + gn (stp k)) t9.2.1) (fun t9 => [t9.2.2.1, t9.2.2.2]) (fun t9 => GrE 5 1 s.a s.xs.length s.c ((ms r t s.xs.length).map vU8) ((mt r t s.xs.length (gn (stp k))).map vU8) (gn (stp k)) t9.1 t9.2.1 t9.2.2.1 t9.2.2.2) [e] (eg :: some (b40, blk (([1, 24, 90] : List Int).map vInt) 3) :: eo :: ((L1 ++ L2) ++ fs)) (callsTo Tryd.func77 rfl (by kernel_rfl) rfl) rfl (fun w hm hm1 => grow_any (stp k) (stp_b k) r t s.xs.length (by omega) (by omega) s.a s.c e hkr w hm1) ?_
          rintro ⟨ag9, cg9, er9, eg9⟩ hgr9
          simp only at hgr9 ⊢
          refine ow_mem (M' := Mem w (keys (eo :: es_0)) (er9 :: eg9 :: eg :: some (b40, blk (([1, 24, 90] : List Int).map vInt) 3) :: eo :: ((L1 ++ L2) ++ fs))) (fun w hm => hm) ?_
          refine ow_make (acts_buildSlice (cs := [.slice ag9 (s.xs.length + gn (stp k)) cg9]) Tryd.underlying32 Tryd.sizeOf25 Tryd.zeroValue25 rfl rfl (by kernel_rfl)) rfl (fun b60 hb60 => ?_)   -- 60
          refine ow_append' (k := gs.length + 1) (acts_append (size := 1) (bytes := 24) 3 rfl rfl rfl hrg rfl Tryd.underlying32 hSi hSz hSsz hSby rfl (by decide) (fun w hm => Rd.blk (hm.at (i := 0) rfl)) rfl (fun u hu => by rw [List.mem_singleton.1 hu]; rfl) (by omega) (by omega)) rfl (fun a61 c61 e61 hr61 => ?_)   -- 61
          refine ow_val (val_assign rfl) rfl ?_   -- 8
          refine ow_nil (into ?_)
          refine sw_region ?_
          refine ow_val (val_add_int ((t + 1 : Nat) : Int) rfl rfl (by omega) (by omega)) rfl ?_   -- 62
          refine ow_val (val_move rfl) rfl ?_   -- 48
          have hgv : Sl.v (⟨ag9, cg9, ms r t (s.xs.length + gn (stp k))⟩ : Sl UInt8) = .slice ag9 (s.xs.length + gn (stp k)) cg9 := by rw [Sl.v, ms_len]
          exact ow_nil (fun w hm => ⟨(t + 1, (a61, c61, e61), gs ++ [(⟨ag9, cg9, ms r t (s.xs.length + gn (stp k))⟩ : Sl UInt8)], L1 ++ er9 :: L2, fs ++ [eg9]), ⟨by dsimp only; omega, by dsimp only; rw [List.length_append, hgl]; rfl, by dsimp only; rw [List.length_append, hfl]; rfl, by dsimp only; rw [List.length_append]; exact hr61.cong rfl rfl (by rw [List.map_append, List.map_cons, hgv]; rfl), hput (AGr 5 ks (gs ++ [(⟨ag9, cg9, ms r t (s.xs.length + gn (stp k))⟩ : Sl UInt8)]) (fs ++ [eg9]) r (gn (stp k)) (t + 1)) er9 (.here hgl hfl hs hgr9) (fun j x hj _ h => h.other hgl hfl hj)⟩, by dsimp only; omega, ⟨rfl, rfl, by dsimp only; rw [List.length_append] <;> rfl, rfl, rfl, rfl, rfl, rfl, rfl, trivial⟩,
            Mem.snocF (H := [e61, some (b40, blk (([1, 24, 90] : List Int).map vInt) 3), eo]) ((Mem.backF (H := [eg9, e61, some (b40, blk (([1, 24, 90] : List Int).map vInt) 3), eo]) (hm.only (.cons _ (List.Sublist.refl _)))))⟩)
        · -- else
          obtain rfl : t = ks.length := by omega
          refine sw_exit (into ?_)
          refine sw_seq ?_
          refine sw_region ?_
          refine ow_val (val_move rfl) rfl ?_   -- 63
          refine ow_val (val_len rfl Tryd.underlying32) rfl ?_   -- 64
          refine ow_val (val_move rfl) rfl ?_   -- 65
          refine ow_nil (into ?_)
          refine sw_block ?_
          refine sw_loop (σ := Nat) (fun t => t ≤ ks.length) (fun t => [(65, vInt (t : Int)), (64, vInt (ks.length : Int)), (8, .slice ag gs.length cg), (42, vInt (k : Int)), (41, vInt ((3 : Nat) : Int)), (40, .slice (some ⟨b40, 0, none⟩) 3 3), (3, vInt (r : Int)), (0, .slice a ks.length c)]) (fun _ => Mem w (keys (eo :: es_0)) (eg :: some (b40, blk (([1, 24, 90] : List Int).map vInt) 3) :: eo :: (es ++ fs))) (fun t => ks.length - t) 0 (Nat.zero_le _) ⟨rfl, rfl, rfl, rfl, rfl, rfl, rfl, rfl, trivial⟩ (fun w hm => hm) ?_
          intro t ht
          refine sw_seq ?_
          refine sw_region ?_
          refine ow_val (val_lss_int rfl rfl) rfl ?_   -- 66
          refine ow_nil (into ?_)
          refine sw_seq ?_
          refine sw_if rfl (fun h23 => ?_) (fun h23 => ?_)
          · -- then
            obtain ⟨bk, rfl⟩ := hro.addr0 (by omega)
            obtain ⟨bg, rfl⟩ := hrg.addr0 (by omega)
            obtain ⟨s, hs⟩ : ∃ z, ks.getD t default = z := ⟨_, rfl⟩
            have hsb := hb _ (getD_mem (l := ks) (i := t) (by omega))
            rw [hs] at hsb
            obtain ⟨g, hg⟩ : ∃ z, gs.getD t default = z := ⟨_, rfl⟩
            have hgx := ((hgr.2 t (by omega)).1 (by omega)).1
            have hle := AGr.les hgr (t := t) (by omega)
            rw [nK, hs, hg] at hgx hle
            have hgn : g.xs.length = s.xs.length + gn (stp k) := by rw [hgx, ms_len]
            have hgb := gn_b (stp_b k)
            refine sw_skip (into ?_)
            refine sw_seq ?_
            refine sw_block ?_
            refine sw_seq ?_
            refine sw_region ?_
            refine ow_val (val_move rfl) rfl ?_   -- 67
            refine ow_val (val_assign rfl) rfl ?_   -- 10
            refine ow_nil (into ?_)
            refine sw_seq ?_
            refine sw_region_lex _ [] [(0, 0), (1, 0), (2, 0), (4, 0), (5, 0), (6, 0), (8, 0), (9, 0), (3, 1), (7, 1), (10, 2), (11, 0)] (by kernel_rfl) (by kernel_rfl) (fun _ _ _ h => h) (fun _ h => h) (fun _ h => h.drawn _) ?_
            refine lw_pure rfl (val_move rfl) rfl ?_   -- 68
            refine lw_pure rfl (val_move rfl) rfl ?_   -- 69
            refine lw_pure rfl (val_indexAddr_slice t (t * 1) rfl rfl Tryd.underlying32 Tryd.sizeOf25 (by omega) (by omega) (by omega)) rfl ?_   -- 70
            refine lw_pure rfl (val_move rfl) rfl ?_   -- 72
            refine lw_pure rfl (val_move rfl) rfl ?_   -- 73
            refine lw_pure rfl (val_indexAddr_slice t (t * 1) rfl rfl Tryd.underlying32 Tryd.sizeOf25 (by omega) (by omega) (by omega)) rfl ?_   -- 74
            refine lw_pure rfl (val_move rfl) rfl ?_   -- 76
            refine lw_pure rfl (val_move rfl) rfl ?_   -- 77
            refine lw_held rfl ((val_load (v := Sl.v (ks.getD t default)) rfl Tryd.isAgg25 (fun w' hm => Rd.get (V := Sl.v) (p := ks) (k := t) (hro.rdAt hm (i := 2) rfl) (by omega) (by omega))).to (v' := .slice s.a s.xs.length s.c) (by rw [hs]; rfl)) rfl ?_   -- 71
            refine lw_held rfl ((val_load (v := Sl.v (gs.getD t default)) rfl Tryd.isAgg25 (fun w' hm => Rd.get (V := Sl.v) (p := gs) (k := t) (hrg.rdAt hm (i := 0) rfl) (by omega) (by omega))).to (v' := .slice g.a (s.xs.length + gn (stp k)) g.c) (by rw [hg, Sl.v, hgn])) rfl ?_   -- 75
            refine lw_call_pure (v := .bool true) rfl (callsTo Tryd.func78 rfl (by kernel_rfl) rfl) rfl (fun w hm => (by have h7 := AGr.rds hgr hfl (t := t) (by omega) (hm.heldSub (.cons _ (.cons _ (.cons _ (List.sublist_append_left _ _))))) (hm.heldSub (.cons _ (.cons _ (.cons _ (List.sublist_append_right _ _))))); rw [nK, hs, hg] at h7; exact marked_any r t s.xs.length (s.xs.length + gn (stp k)) (by omega) (by omega) (by omega) s.a s.c g.a g.c w h7.1 h7.2 hle.1 hle.2)) ?_   -- 78
            refine lw_pure rfl (val_not rfl) rfl ?_   -- 79
            refine lw_nil (into ?_)
            refine sw_false rfl rfl ?_
            refine sw_skip (into ?_)
            refine sw_region ?_
            refine ow_val (val_add_int ((t + 1 : Nat) : Int) rfl rfl (by omega) (by omega)) rfl ?_   -- 80
            refine ow_val (val_move rfl) rfl ?_   -- 65
            exact ow_nil (fun w hm => ⟨t + 1, by omega, by omega, ⟨rfl, rfl, rfl, rfl, rfl, rfl, rfl, rfl, trivial⟩, hm⟩)
          · -- else
            refine sw_exit (into ?_)
            refine sw_region ?_
            refine ow_val (val_add_int ((k + 1 : Nat) : Int) rfl rfl (by omega) (by omega)) rfl ?_   -- 81
            refine ow_val (val_move rfl) rfl ?_   -- 42
            exact ow_nil (fun w hm => ⟨(k + 1, es), ⟨by dsimp only; omega, AGr.back hgr⟩, by dsimp only; omega, ⟨rfl, rfl, rfl, rfl, rfl, trivial⟩, hm.only (.cons _ (.cons_cons _ (.cons_cons _ (List.sublist_append_left _ _))))⟩)
      · -- else
        obtain rfl : k = 3 := by omega
        refine sw_exit (into ?_)
        refine sw_region ?_
        refine ow_val (val_move rfl) rfl ?_   -- 13
        refine ow_val (val_add_int ((r + 1 : Nat) : Int) rfl rfl (by omega) (by omega)) rfl ?_   -- 14
        refine ow_val (val_assign rfl) rfl ?_   -- 3
        exact ow_nil (fun w hm => ⟨(r + 1, es), ⟨by dsimp only; omega, hes.to (fun _ _ _ h => h.some)⟩, by dsimp only; omega, ⟨rfl, rfl, trivial⟩, hm.only (.cons _ (List.Sublist.refl _))⟩)
  · -- else
    refine sw_exit (into ?_)
    refine sw_seq ?_
    refine sw_region ?_
    refine ow_val (val_assign rfl) rfl ?_   -- 2
    refine ow_nil (into ?_)
    exact sw_ret (fun w hm => ret_one _ rfl rfl ⟨rfl, hm.forgetAll⟩)
end Go.Proofs.YtpmnhmfahgchgaaDoor
