import Derived.Test.YtiagaoeaploijaaDoorSha9
import Derived.Test.YtiagaoeaploijaaDoorSxL
import Derived.Test.YtiagaoeaploijaaDoorProg
namespace Go.Proofs.YtiagaoeaploijaaDoor
open Go.Sx Go.Ps

theorem take_succ_getD (p : List UInt8) (i : Nat) (h : i < p.length) : p.take (i + 1) = p.take i ++ [p.getD i default] := by
  rw [List.take_succ_eq_append_getElem h]; simp [List.getD_eq_getElem?_getD, h]

theorem toptwin_any (a : Option Addr) (m c : Nat) (p : List UInt8) (hpm : p.length = m) (hl : m ≤ 140737488351232) (w : World) (hr : Rd w a (p.map vU8)) : Calls Tryd.prog 33 #[.slice a m c] w fun e w' => ∃ v, e = .returned v ∧ ∃ e', RowE v 5 1 m (p.map vU8) e' ∧ Mem w [] [e'] w' := by
  obtain ⟨ti, hi, hz, hsz, hby⟩ := info_parts iu8
  refine calls_of_sw (vs := [.slice a m c]) Tryd.func33 rfl Tryd.ntmps33 rfl (SW.begin ?_)
  refine sw_seq ?_
  refine sw_region ?_
  refine ow_val (val_assign rfl) rfl ?_   -- 2
  refine ow_nil (into ?_)
  refine sw_seq ?_
  refine sw_region ?_
  refine ow_val (val_assign rfl) rfl ?_   -- 3
  refine ow_nil (into ?_)
  refine sw_seq ?_
  refine sw_seq ?_
  refine sw_region ?_
  refine ow_val (val_assign rfl) rfl ?_   -- 4
  refine ow_nil (into ?_)
  refine sw_block ?_
  refine sw_loop (σ := Option Addr × Nat × Nat × Ent) (fun x => x.2.2.1 ≤ m ∧ RowE (.slice x.1 x.2.2.1 x.2.1) 5 1 x.2.2.1 ((p.take x.2.2.1).map vU8) x.2.2.2) (fun x => [(4, vInt (x.2.2.1 : Int)), (3, .slice x.1 x.2.2.1 x.2.1), (0, .slice a m c)]) (fun x => Mem w [] [x.2.2.2]) (fun x => m - x.2.2.1) (none, 0, 0, none) ⟨Nat.zero_le _, RowE.nil _ _⟩ ⟨rfl, rfl, rfl, trivial⟩ (fun w hm => hm.place) ?_
  rintro ⟨a0, c0, i, e⟩ ⟨hile, hrow⟩
  simp only at hile hrow ⊢
  refine sw_seq ?_
  refine sw_seq ?_
  refine sw_region ?_
  refine ow_val (val_move rfl) rfl ?_   -- 5
  refine ow_val (val_move rfl) rfl ?_   -- 6
  refine ow_val (val_len rfl Tryd.underlying22) rfl ?_   -- 7
  refine ow_val (val_lss_int rfl rfl) rfl ?_   -- 8
  refine ow_nil (into ?_)
  refine sw_if rfl (fun h0 => ?_) (fun h0 => ?_)
  · -- then
    obtain ⟨ba, oa, rfl⟩ := hr.addr (by simp; omega)
    refine sw_skip (into ?_)
    refine sw_seq ?_
    refine sw_block ?_
    refine sw_region ?_
    refine ow_val (val_move rfl) rfl ?_   -- 11
    refine ow_val (val_move rfl) rfl ?_   -- 12
    refine ow_val (val_move rfl) rfl ?_   -- 13
    refine ow_val (val_indexAddr_slice (i) (oa + i) rfl rfl Tryd.underlying22 Tryd.sizeOf5 (by omega) (by omega) (by omega)) rfl ?_   -- 14
    refine ow_val (val_load rfl Tryd.isAgg5 (fun w' hm => Rd.get (p := p) (k := i) (hr.mem hm) (by omega) (by omega))) rfl ?_   -- 15
    refine ow_make (acts_buildSlice (cs := ([p.getD i default] : List UInt8).map vU8) Tryd.underlying22 Tryd.sizeOf5 Tryd.zeroValue5 rfl rfl (by kernel_rfl)) rfl (fun b16 hb16 => ?_)   -- 16
    refine ow_append' (k := i + 1) (acts_append (size := 1) (bytes := 1) 1 rfl rfl rfl hrow rfl Tryd.underlying22 hi hz hsz hby rfl (by decide) (fun w hm => Rd.blk (hm.at (i := 0) rfl)) (by rfl) (one_u8s _) (by omega) (by omega)) rfl (fun a1 c1 e1 hr1 => ?_)
    refine ow_val (val_assign rfl) rfl ?_   -- 3
    refine ow_nil (into ?_)
    refine sw_region ?_
    refine ow_val (val_move rfl) rfl ?_   -- 9
    refine ow_val (val_add_int ((i + 1 : Nat) : Int) rfl rfl (by omega) (by omega)) rfl ?_   -- 10
    refine ow_val (val_assign rfl) rfl ?_   -- 4
    exact ow_nil (fun w hm => ⟨(a1, c1, i + 1, e1), ⟨(by dsimp only; omega), hr1.cong rfl rfl (by dsimp only; rw [take_succ_getD p i (by omega), List.map_append])⟩, (by dsimp only; omega), ⟨rfl, rfl, rfl, trivial⟩, hm.forget⟩)
  · -- else
    obtain rfl : i = m := by omega
    refine sw_exit (into ?_)
    refine sw_seq ?_
    refine sw_region ?_
    refine ow_val (val_move rfl) rfl ?_   -- 18
    refine ow_val (val_assign rfl) rfl ?_   -- 2
    refine ow_nil (into ?_)
    exact sw_ret (fun w hm => ret_one _ rfl rfl ⟨e, hrow.cong rfl rfl (by rw [List.take_of_length_le (by omega)]), hm⟩)


theorem padding_first (n : UInt64) : (padding n).getD 0 default = 128 := by rw [← docPad_eq]; rfl

set_option maxHeartbeats 1000000 in
set_option maxRecDepth 10000 in
theorem wholeSha_any (a : Option Addr) (m c : Nat) (p : List UInt8) (hpm : p.length = m) (hc : m ≤ c) (hl : m ≤ 140737488351232) (a2 : Option Addr) (mc c2 : Nat) (q : List UInt8) (hqm : q.length = mc) (hl2 : mc ≤ 140737488351232) (w : World) (hK : KW w) (hr : Rd w a (p.map vU8)) (hr2 : Rd w a2 (q.map vU8)) : Calls Tryd.prog 12 #[.slice a m c, .slice a2 mc c2] w fun e w' => ∃ v, e = .returned v ∧ v = .bool true ∧ Mem w [] [] w' := by
  obtain ⟨ti, hi, hz, hsz, hby⟩ := info_parts iu8
  obtain ⟨ab3, hab3⟩ : ∃ l : List UInt8, l = [97, 98, 99] := ⟨_, rfl⟩
  obtain ⟨z3, hz3⟩ : ∃ l : List UInt8, l = [1, 2, 3] := ⟨_, rfl⟩
  have hz3l : z3.length = 3 := by rw [hz3]; rfl
  have hab3l : ab3.length = 3 := by rw [hab3]; rfl
  have hD3 : shaOf ab3 = abcL := by rw [hab3, ← sum256_hash]; exact hash_abc
  obtain ⟨P1, hPd1⟩ : ∃ P, P = padding (UInt64.ofNat m) := ⟨_, rfl⟩
  obtain ⟨L1, hP1⟩ : ∃ L, P1.length = L := ⟨_, rfl⟩
  have hL1 : L1 ≤ 72 ∧ 9 ≤ L1 := by have := padZeros_lt (UInt64.ofNat m); rw [← hP1, hPd1, padding_len]; omega
  have hL2 : (m + L1) % 64 = 0 := by have := whole_len p; rw [List.length_append, hpm, ← hPd1, hP1] at this; exact this
  have hP0 : P1.getD 0 default = 128 := by rw [hPd1]; exact padding_first _
  have hpd1 : ∀ w, Calls Tryd.prog 20 #[vU64 (UInt64.ofNat m)] w fun e w' => ∃ v, e = .returned v ∧ ∃ b, v = .slice (some ⟨b, 0, none⟩) L1 L1 ∧ Mem w [] [some (b, blk (P1.map vU8) 5)] w' := fun w => by rw [← hP1, hPd1]; exact padding_any _ w
  clear hPd1
  refine calls_of_sw (vs := [.slice a m c, .slice a2 mc c2]) Tryd.func12 rfl Tryd.ntmps12 rfl (SW.begin ?_)
  refine sw_seq ?_
  refine sw_region ?_
  refine ow_val (val_assign rfl) rfl ?_   -- 4
  refine ow_nil (into ?_)
  refine sw_seq ?_
  refine sw_region ?_
  refine ow_call_blk (fun b => .pointer (some ⟨b, 0, none⟩)) (callsTo Tryd.func26 rfl (by kernel_rfl) rfl) rfl (fun w hm => newS_any w) (fun b12 hb12 => ?_)   -- 12
  refine ow_val (val_assign rfl) rfl ?_   -- 5
  refine ow_nil (into ?_)
  refine sw_seq ?_
  refine sw_seq ?_
  refine sw_region ?_
  refine ow_val (val_move rfl) rfl ?_   -- 13
  refine ow_val (val_eql_nilptr Tryd.underlying42 rfl rfl) rfl ?_   -- 14
  refine ow_nil (into ?_)
  refine sw_false rfl rfl ?_
  refine sw_skip (into ?_)
  refine sw_seq ?_
  refine sw_region ?_
  refine ow_make (acts_buildSlice (cs := ab3.map vU8) Tryd.underlying22 Tryd.sizeOf5 Tryd.zeroValue5 rfl rfl (by rw [hab3]; kernel_rfl)) rfl (fun b15 hb15 => ?_)   -- 15
  refine ow_act_eq (acts_convert_bytes 0 rfl rfl Tryd.underlying22 Tryd.underlying5) rfl ?_   -- 16
  refine ow_call_pure (callsTo Tryd.func14 rfl (by kernel_rfl) rfl) rfl (fun w hm => sum256h_any _ _ _ ab3 hab3l w (hK.mem0 hm) (Rd.mrk (hm.at (i := 0) rfl)) (by omega) (by omega)) ?_   -- 17
  refine ow_new (acts_alloc z24) rfl (fun b6 hb6 => ?_)   -- 6
  refine ow_do_eq (does_store_all 0 rfl rfl rfl (one_u8s _) Tryd.sizeOf24 (by rw [List.length_map]; exact hash_len _) rfl) ?_
  refine ow_nil (into ?_)
  refine sw_seq ?_
  refine sw_seq ?_
  refine sw_region ?_
  refine ow_val (val_indexAddr (0) (0) rfl rfl Tryd.underlying24 Tryd.sizeOf5 (by omega) (by omega) (by omega)) rfl ?_   -- 18
  refine ow_val (val_load_at 0 rfl rfl Tryd.isAgg5 (get_map vU8 (shaOf ab3) 0 (by rw [hash_len]; decide))) rfl ?_   -- 19
  refine ow_val ((val_neq_u8 rfl rfl).to (v' := .bool false) (congrArg Value.bool (decide_eq_false (fun h => h (by rw [hD3]; rfl))))) rfl ?_   -- 20
  refine ow_val (val_move rfl) rfl ?_   -- 21
  refine ow_guard_yes rfl rfl rfl ?_
  refine ow_val (val_indexAddr (1) (1) rfl rfl Tryd.underlying24 Tryd.sizeOf5 (by omega) (by omega) (by omega)) rfl ?_   -- 22
  refine ow_guard_yes rfl rfl rfl ?_
  refine ow_val (val_load_at 0 rfl rfl Tryd.isAgg5 (get_map vU8 (shaOf ab3) 1 (by rw [hash_len]; decide))) rfl ?_   -- 23
  refine ow_guard_yes rfl rfl rfl ?_
  refine ow_val ((val_neq_u8 rfl rfl).to (v' := .bool false) (congrArg Value.bool (decide_eq_false (fun h => h (by rw [hD3]; rfl))))) rfl ?_   -- 24
  refine ow_val (val_pick_false rfl rfl) rfl ?_   -- 25
  refine ow_val (val_move rfl) rfl ?_   -- 26
  refine ow_guard_yes rfl rfl rfl ?_
  refine ow_val (val_indexAddr (2) (2) rfl rfl Tryd.underlying24 Tryd.sizeOf5 (by omega) (by omega) (by omega)) rfl ?_   -- 27
  refine ow_guard_yes rfl rfl rfl ?_
  refine ow_val (val_load_at 0 rfl rfl Tryd.isAgg5 (get_map vU8 (shaOf ab3) 2 (by rw [hash_len]; decide))) rfl ?_   -- 28
  refine ow_guard_yes rfl rfl rfl ?_
  refine ow_val ((val_neq_u8 rfl rfl).to (v' := .bool false) (congrArg Value.bool (decide_eq_false (fun h => h (by rw [hD3]; rfl))))) rfl ?_   -- 29
  refine ow_val (val_pick_false rfl rfl) rfl ?_   -- 30
  refine ow_val (val_move rfl) rfl ?_   -- 31
  refine ow_guard_yes rfl rfl rfl ?_
  refine ow_val (val_indexAddr (3) (3) rfl rfl Tryd.underlying24 Tryd.sizeOf5 (by omega) (by omega) (by omega)) rfl ?_   -- 32
  refine ow_guard_yes rfl rfl rfl ?_
  refine ow_val (val_load_at 0 rfl rfl Tryd.isAgg5 (get_map vU8 (shaOf ab3) 3 (by rw [hash_len]; decide))) rfl ?_   -- 33
  refine ow_guard_yes rfl rfl rfl ?_
  refine ow_val ((val_neq_u8 rfl rfl).to (v' := .bool false) (congrArg Value.bool (decide_eq_false (fun h => h (by rw [hD3]; rfl))))) rfl ?_   -- 34
  refine ow_val (val_pick_false rfl rfl) rfl ?_   -- 35
  refine ow_nil (into ?_)
  refine sw_false rfl rfl ?_
  refine sw_skip (into ?_)
  refine sw_seq ?_
  refine sw_region ?_
  refine ow_val (val_assign rfl) rfl ?_   -- 7
  refine ow_nil (into ?_)
  refine sw_seq ?_
  refine sw_seq ?_
  refine sw_region ?_
  refine ow_val (val_assign rfl) rfl ?_   -- 8
  refine ow_nil (into ?_)
  refine sw_block ?_
  refine sw_loop (σ := Nat × Nat × Option (List UInt8)) (fun x => x.1 ≤ mc ∧ x.2.1 ≤ m ∧ txt x.2.2 = p.take x.2.1) (fun x => [(8, vInt (x.1 : Int)), (7, vInt (x.2.1 : Int)), (5, .pointer (some ⟨b12, 0, none⟩)), (0, .slice a m c), (1, .slice a2 mc c2)]) (fun x => Mem w [] [some (b12, blk (shCells (stc x.2.2)) 52)]) (fun x => mc - x.1) (0, 0, none) ⟨Nat.zero_le _, Nat.zero_le _, rfl⟩ ⟨rfl, rfl, rfl, rfl, rfl, trivial⟩ (fun w hm => hm.only (.cons _ (.cons _ (.cons_cons _ (List.nil_sublist _))))) ?_
  rintro ⟨i, fr, o⟩ ⟨hile, hfr, ho⟩
  simp only at hile hfr ho ⊢
  refine sw_seq ?_
  refine sw_seq ?_
  refine sw_region ?_
  refine ow_val (val_move rfl) rfl ?_   -- 36
  refine ow_val (val_move rfl) rfl ?_   -- 37
  refine ow_val (val_len rfl Tryd.underlying22) rfl ?_   -- 38
  refine ow_val (val_lss_int rfl rfl) rfl ?_   -- 39
  refine ow_nil (into ?_)
  refine sw_if rfl (fun hc2 => ?_) (fun hc2 => ?_)
  · -- then
    refine sw_skip (into ?_)
    refine sw_seq ?_
    refine sw_block ?_
    refine sw_seq ?_
    refine sw_region ?_
    obtain ⟨bq, oq, rfl⟩ := hr2.addr (by simp; omega)
    have hcu := (q.getD i default).toNat_lt
    refine ow_val (val_move rfl) rfl ?_
    refine ow_val (val_move rfl) rfl ?_   -- 43
    refine ow_val (val_move rfl) rfl ?_   -- 44
    refine ow_val (val_indexAddr_slice (i) (oq + i) rfl rfl Tryd.underlying22 Tryd.sizeOf5 (by omega) (by omega) (by omega)) rfl ?_   -- 45
    refine ow_val (val_load rfl Tryd.isAgg5 (fun w' hm => Rd.get (p := q) (k := i) (hr2.mem hm) (by omega) (by omega))) rfl ?_   -- 46
    refine ow_val (val_conv_u8_i64 Tryd.underlying5 Tryd.underlying3 rfl) rfl ?_   -- 47
    refine ow_val (val_add_int ((fr + (q.getD i default).toNat : Nat) : Int) rfl rfl (by omega) (by omega)) rfl ?_   -- 48
    refine ow_val (val_assign rfl) rfl ?_   -- 9
    refine ow_nil (into ?_)
    refine sw_join (σ := Nat) (fun to => fr ≤ to ∧ to ≤ m) (fun to => [(8, vInt (i : Int)), (7, vInt (fr : Int)), (9, vInt (to : Int)), (5, .pointer (some ⟨b12, 0, none⟩)), (0, .slice a m c), (1, .slice (some ⟨bq, oq, none⟩) mc c2)]) (fun _ => Mem w [] [some (b12, blk (shCells (stc o)) 52)]) ?_ (fun to hto => ?_)
    · -- part
      refine sw_seq ?_
      refine sw_region ?_
      refine ow_val (val_move rfl) rfl ?_   -- 49
      refine ow_val (val_move rfl) rfl ?_   -- 50
      refine ow_val (val_len rfl Tryd.underlying22) rfl ?_   -- 51
      refine ow_val (val_gtr_int rfl rfl) rfl ?_   -- 52
      refine ow_nil (into ?_)
      refine sw_if rfl (fun hc3 => ?_) (fun hc3 => ?_)
      · -- then
        refine sw_region ?_
        refine ow_val (val_move rfl) rfl ?_   -- 53
        refine ow_val (val_len rfl Tryd.underlying22) rfl ?_   -- 54
        refine ow_val (val_assign rfl) rfl ?_   -- 9
        exact ow_nil (fun w hm => ⟨m, ⟨by omega, by omega⟩, ⟨rfl, rfl, rfl, rfl, rfl, rfl, trivial⟩, hm⟩)
      · -- else
        exact sw_skip (fun w hm => ⟨fr + (q.getD i default).toNat, ⟨by omega, by omega⟩, ⟨rfl, rfl, rfl, rfl, rfl, rfl, trivial⟩, hm⟩)
    · -- rest
      refine sw_join (σ := Option (List UInt8)) (fun o' => txt o' = p.take to) (fun _ => [(8, vInt (i : Int)), (7, vInt (fr : Int)), (9, vInt (to : Int)), (5, .pointer (some ⟨b12, 0, none⟩)), (0, .slice a m c), (1, .slice (some ⟨bq, oq, none⟩) mc c2)]) (fun o' => Mem w [] [some (b12, blk (shCells (stc o')) 52)]) ?_ (fun o' ho' => ?_)
      · -- part
        refine sw_region ?_
        refine ow_val (val_move rfl) rfl ?_   -- 55
        refine ow_val (val_move rfl) rfl ?_   -- 56
        refine ow_val (val_move rfl) rfl ?_   -- 57
        refine ow_val (val_move rfl) rfl ?_   -- 58
        refine ow_val (val_slice_cut fr to rfl rfl rfl Tryd.underlying22 Tryd.sizeOf5 rfl rfl (by omega) (by omega)) rfl ?_   -- 59
        refine ow_call_turn 0 rfl (callsTo Tryd.func27 rfl (by kernel_rfl) rfl) rfl (fun w hm => writeS_any b12 o _ _ _ ((p.drop fr).take (to - fr)) (by simp; omega) w (hm.at (i := 0) rfl) (hK.mem0 hm) (by have := hK.pos; simp only [List.mem_singleton]; omega) (((hr.mem hm).cut (by omega)).take1 (to - fr)) (fun h b' o' e hbb => by simp only [List.mem_singleton] at hbb; have h2 := (((hr.cut (by omega)).take1 (to - fr))).lt e (by simpa using h); omega) (by omega) (by omega)) ?_   -- 60
        exact ow_nil (fun w hm => ⟨_, (by show txt o ++ _ = _; rw [ho, ← List.take_add, show fr + (to - fr) = to by omega]), ⟨rfl, rfl, rfl, rfl, rfl, rfl, trivial⟩, hm⟩)
      · -- rest
        refine sw_join (σ := Unit) (fun _ => True) (fun _ => [(8, vInt (i : Int)), (7, vInt (fr : Int)), (9, vInt (to : Int)), (5, .pointer (some ⟨b12, 0, none⟩)), (0, .slice a m c), (1, .slice (some ⟨bq, oq, none⟩) mc c2)]) (fun _ => Mem w [] [some (b12, blk (shCells (stc o')) 52)]) ?_ (fun _ _ => ?_)
        · -- part
          refine sw_seq ?_
          by_cases hev : q.getD i default % 2 = 1
          · -- yes
            refine sw_region_lex _ [] [(0, 0), (1, 0), (2, 0), (3, 1), (4, 0), (5, 0), (6, 0), (7, 0), (9, 0), (10, 0), (11, 0), (8, 2), (12, 2), (13, 0), (14, 0)] (by kernel_rfl) (by kernel_rfl) (fun _ _ _ h => h) (fun _ h => h) (fun _ h => h.drawn _) ?_
            refine lw_pure rfl (val_move rfl) rfl ?_   -- 61
            refine lw_pure rfl (val_move rfl) rfl ?_   -- 62
            refine lw_pure rfl (val_indexAddr_slice (i) (oq + i) rfl rfl Tryd.underlying22 Tryd.sizeOf5 (by omega) (by omega) (by omega)) rfl ?_   -- 63
            refine lw_held rfl (val_load rfl Tryd.isAgg5 (fun w' hm => Rd.get (p := q) (k := i) (hr2.mem hm) (by omega) (by omega))) rfl ?_   -- 64
            refine lw_pure rfl (val_rem_u8 rfl rfl (by decide)) rfl ?_   -- 65
            refine lw_pure rfl ((val_eql_u8 rfl rfl).to (congrArg Value.bool (decide_eq_true (hev)))) rfl ?_   -- 66
            refine lw_pure rfl (val_move rfl) rfl ?_   -- 67
            refine lwg_pure rfl (wg rfl rfl) (val_move rfl) rfl ?_   -- 68
            refine lwg_pure rfl (wg rfl rfl) (val_move rfl) rfl ?_   -- 70
            refine lwg_pure rfl (wg rfl rfl) (val_move rfl) rfl ?_   -- 71
            refine lwg_pure rfl (wg rfl rfl) (val_slice_hi to rfl rfl Tryd.underlying22 Tryd.sizeOf5 rfl (by omega)) rfl ?_   -- 72
            refine lwg_call_pure (v := .agg ((shaOf (p.take to)).map vU8).toArray) rfl (wg rfl rfl) (callsTo Tryd.func28 rfl (by kernel_rfl) rfl) rfl (fun w hm => (by rw [← ho']; exact sumS_any b12 o' w (hm.at (i := 0) rfl) (hK.mem0 hm))) ?_   -- 69
            refine lwg_call_pure rfl (wg rfl rfl) (callsTo Tryd.func14 rfl (by kernel_rfl) rfl) rfl (fun w hm => sum256h_any _ _ _ (p.take to) (by simp; omega) w (hK.mem0 hm) ((hr.mem hm).take1 to) (by omega) (by omega)) ?_   -- 73
            refine lwg_pure rfl (wg rfl rfl) ((val_neq_u8s rfl rfl Tryd.eqGuardType24 Tryd.underlying24 Tryd.underlying5 Tryd.sizeOf5 Tryd.isAgg5 (hash_len _) (hash_len _)).to (congrArg Value.bool (show _ = false by simp [txt]))) rfl ?_   -- 74
            refine lw_pure rfl (val_pick_true rfl rfl) rfl ?_   -- 75
            refine lw_nil (into ?_)
            refine sw_false rfl rfl ?_
            exact sw_skip (fun w hm => ⟨(), trivial, ⟨rfl, rfl, rfl, rfl, rfl, rfl, trivial⟩, hm⟩)
          · -- no
            refine sw_region_lex _ [] [(0, 0), (1, 0), (2, 0), (3, 1), (4, 0), (5, 0), (6, 0), (7, 0), (8, 0), (9, 0), (10, 0), (11, 0), (12, 0), (13, 0), (14, 0)] (by kernel_rfl) (by kernel_rfl) (fun _ _ _ h => h) (fun _ h => h) (fun _ h => h.drawn _) ?_
            refine lw_pure rfl (val_move rfl) rfl ?_   -- 61
            refine lw_pure rfl (val_move rfl) rfl ?_   -- 62
            refine lw_pure rfl (val_indexAddr_slice (i) (oq + i) rfl rfl Tryd.underlying22 Tryd.sizeOf5 (by omega) (by omega) (by omega)) rfl ?_   -- 63
            refine lw_held rfl (val_load rfl Tryd.isAgg5 (fun w' hm => Rd.get (p := q) (k := i) (hr2.mem hm) (by omega) (by omega))) rfl ?_   -- 64
            refine lw_pure rfl (val_rem_u8 rfl rfl (by decide)) rfl ?_   -- 65
            refine lw_pure rfl ((val_eql_u8 rfl rfl).to (congrArg Value.bool (decide_eq_false (hev)))) rfl ?_   -- 66
            refine lw_pure rfl (val_move rfl) rfl ?_   -- 67
            first | refine lwg_no rfl (ng1 rfl rfl) rfl ?_ | refine lwg_no rfl (ng2 rfl rfl) rfl ?_   -- 68
            first | refine lwg_no rfl (ng1 rfl rfl) rfl ?_ | refine lwg_no rfl (ng2 rfl rfl) rfl ?_   -- 69
            first | refine lwg_no rfl (ng1 rfl rfl) rfl ?_ | refine lwg_no rfl (ng2 rfl rfl) rfl ?_   -- 70
            first | refine lwg_no rfl (ng1 rfl rfl) rfl ?_ | refine lwg_no rfl (ng2 rfl rfl) rfl ?_   -- 71
            first | refine lwg_no rfl (ng1 rfl rfl) rfl ?_ | refine lwg_no rfl (ng2 rfl rfl) rfl ?_   -- 72
            first | refine lwg_no rfl (ng1 rfl rfl) rfl ?_ | refine lwg_no rfl (ng2 rfl rfl) rfl ?_   -- 73
            first | refine lwg_no rfl (ng1 rfl rfl) rfl ?_ | refine lwg_no rfl (ng2 rfl rfl) rfl ?_   -- 74
            refine lw_pure rfl (val_pick_false rfl rfl) rfl ?_   -- 75
            refine lw_nil (into ?_)
            refine sw_false rfl rfl ?_
            exact sw_skip (fun w hm => ⟨(), trivial, ⟨rfl, rfl, rfl, rfl, rfl, rfl, trivial⟩, hm⟩)
        · -- rest
          refine sw_join (σ := Unit) (fun _ => True) (fun _ => [(8, vInt (i : Int)), (7, vInt (fr : Int)), (9, vInt (to : Int)), (5, .pointer (some ⟨b12, 0, none⟩)), (0, .slice a m c), (1, .slice (some ⟨bq, oq, none⟩) mc c2)]) (fun _ => Mem w [] [some (b12, blk (shCells (stc o')) 52)]) ?_ (fun _ _ => ?_)
          · -- part
            refine sw_seq ?_
            refine sw_region ?_
            refine ow_val (val_move rfl) rfl ?_   -- 76
            refine ow_val (val_move rfl) rfl ?_   -- 77
            refine ow_val (val_indexAddr_slice (i) (oq + i) rfl rfl Tryd.underlying22 Tryd.sizeOf5 (by omega) (by omega) (by omega)) rfl ?_   -- 78
            refine ow_val (val_load rfl Tryd.isAgg5 (fun w' hm => Rd.get (p := q) (k := i) (hr2.mem hm) (by omega) (by omega))) rfl ?_   -- 79
            refine ow_val (val_rem_u8 rfl rfl (by decide)) rfl ?_   -- 80
            refine ow_val (val_eql_u8 rfl rfl) rfl ?_   -- 81
            refine ow_nil (into ?_)
            refine sw_if rfl (fun hc6 => ?_) (fun hc6 => ?_)
            · -- then
              refine sw_seq ?_
              refine sw_region ?_
              refine ow_val (val_move rfl) rfl ?_   -- 82
              refine ow_call_blk (fun b => .pointer (some ⟨b, 0, none⟩)) (callsTo Tryd.func31 rfl (by kernel_rfl) rfl) rfl (fun w hm => copyS_any b12 o' w (hm.at (i := 0) rfl)) (fun b83 hb83 => ?_)   -- 83
              refine ow_val (val_assign rfl) rfl ?_   -- 10
              refine ow_nil (into ?_)
              refine sw_seq ?_
              refine sw_region ?_
              refine ow_val (val_move rfl) rfl ?_   -- 84
              refine ow_make (acts_buildSlice (cs := z3.map vU8) Tryd.underlying22 Tryd.sizeOf5 Tryd.zeroValue5 rfl rfl (by rw [hz3]; kernel_rfl)) rfl (fun b85 hb85 => ?_)   -- 85
              refine ow_call_turn 1 rfl (callsTo Tryd.func27 rfl (by kernel_rfl) rfl) rfl (fun w hm => writeS_any b83 o' _ _ _ z3 hz3l w (hm.at (i := 1) rfl) (hK.mem0 hm) (by have := hK.pos; simp only [List.mem_singleton]; omega) (Rd.blk (hm.at (i := 0) rfl)) (fun _ b' o' e => by simp only [Option.some.injEq, Addr.mk.injEq, and_true] at e; rw [← e.1]; simpa using hm.ne (i := 0) (j := 1) rfl rfl (by omega)) (by omega) (by omega)) ?_   -- 86
              refine ow_nil (into ?_)
              refine sw_join (σ := Unit) (fun _ => True) (fun _ => [(96, .bool false), (8, vInt (i : Int)), (7, vInt (fr : Int)), (9, vInt (to : Int)), (5, .pointer (some ⟨b12, 0, none⟩)), (0, .slice a m c), (1, .slice (some ⟨bq, oq, none⟩) mc c2)]) (fun _ => Mem w [] [some (b12, blk (shCells (stc o')) 52)]) ?_ (fun _ _ => ?_)
              · -- part
                refine sw_region_tree _ [5, 6, 7] (.one 0 0 (.one 2 0 (.one 3 0 (.one 4 0 (.alt 1 (.alt 5 (.one 6 2 (.one 7 2 (.one 8 2 (.one 9 0 .done)))) (.alt 6 (.one 5 2 (.one 7 2 (.one 8 2 (.one 9 0 .done)))) .stop)) (.alt 6 (.one 1 2 (.one 5 2 (.one 7 2 (.one 8 2 (.one 9 0 .done))))) .stop)))))) (by kernel_rfl) (by kernel_rfl) (fun _ _ _ h => h) (fun _ h => h) (fun _ h => h.drawn _) ?_
                refine lt_pure rfl trivial (val_move rfl) rfl ?_   -- 87
                refine lt_pure rfl trivial (val_move rfl) rfl ?_   -- 89
                refine lt_pure rfl trivial (val_move rfl) rfl ?_   -- 90
                refine lt_pure rfl trivial (val_slice_hi to rfl rfl Tryd.underlying22 Tryd.sizeOf5 rfl (by omega)) rfl ?_   -- 91
                refine lt_alt ?_ ?_
                · -- first 1
                  refine lt_call_pure (v := .agg ((shaOf ((p.take to) ++ z3)).map vU8).toArray) rfl trivial (callsTo Tryd.func28 rfl (by kernel_rfl) rfl) rfl (fun w hm => (by rw [← (show txt (some ((txt o') ++ z3)) = ((p.take to) ++ z3) by show txt _ ++ _ = _; rw [ho'])]; exact sumS_any b83 (some ((txt o') ++ z3)) w (hm.at (i := 1) rfl) (hK.mem0 hm))) (fun _ _ h => h) ?_   -- 88
                  refine lt_alt ?_ ?_
                  · -- first 5
                    refine lt_call_row (E := 5) (size := 1) (k := to) (xs := (p.take to).map vU8) rfl trivial (callsTo Tryd.func33 rfl (by kernel_rfl) rfl) rfl (fun w hm => toptwin_any _ _ _ (p.take to) (by simp; omega) (by omega) w ((hr.mem hm).take1 to)) (fun h => nomatch h) (fun a92 c92 e92 hr92 => ?_)   -- 92
                    refine lt_make (fun b => .slice (some ⟨b, 0, none⟩) 3 3) rfl trivial (acts_buildSlice (cs := z3.map vU8) Tryd.underlying22 Tryd.sizeOf5 Tryd.zeroValue5 rfl rfl (by rw [hz3]; kernel_rfl)) rfl (fun h => nomatch h) (fun b93 hb93 => ?_)   -- 93
                    refine lt_append (k := to + 3) rfl trivial (acts_append (size := 1) (bytes := 1) 1 rfl rfl rfl hr92 rfl Tryd.underlying22 hi hz hsz hby rfl (by decide) (fun w hm => (Rd.blk (hm.at (i := 0) rfl))) (by rw [List.length_map, Nat.mul_one]; exact hz3l) (one_u8s _) (by omega) (by omega)) rfl (fun h => nomatch h) (fun a94 c94 e94 hr94 => ?_)   -- 94
                    have hr94' : RowE (.slice a94 (to + 3) c94) 5 1 (to + 3) ((((p.take to) ++ z3) : List UInt8).map vU8) e94 := hr94.cong rfl rfl (by rw [List.map_append (l₁ := (p.take to))])
                    have hc94 := hr94'.le
                    refine lt_call_pure rfl trivial (callsTo Tryd.func14 rfl (by kernel_rfl) rfl) rfl (fun w hm => sum256h_any _ _ _ ((p.take to) ++ z3) (by simp only [List.length_append, List.length_take]; omega) w (hK.mem0 hm) (hr94'.rdAt hm (i := 1) rfl) (by omega) (by omega)) (fun h => nomatch h) ?_   -- 95
                    refine lt_pure rfl trivial ((val_neq_u8s rfl rfl Tryd.eqGuardType24 Tryd.underlying24 Tryd.underlying5 Tryd.sizeOf5 Tryd.isAgg5 (hash_len _) (hash_len _)).to (congrArg Value.bool (show _ = false by simp [txt]))) rfl ?_   -- 96
                    exact lt_done (fun w hm => ⟨(), trivial, ⟨rfl, rfl, rfl, rfl, rfl, rfl, rfl, trivial⟩, hm.only (.cons _ (.cons _ (.cons _ (.cons _ (.cons_cons _ (List.nil_sublist _))))))⟩)
                  refine lt_alt ?_ ?_
                  · -- first 6
                    refine lt_make (fun b => .slice (some ⟨b, 0, none⟩) 3 3) rfl trivial (acts_buildSlice (cs := z3.map vU8) Tryd.underlying22 Tryd.sizeOf5 Tryd.zeroValue5 rfl rfl (by rw [hz3]; kernel_rfl)) rfl (fun h => nomatch h) (fun b93 hb93 => ?_)   -- 93
                    refine lt_call_row (E := 5) (size := 1) (k := to) (xs := (p.take to).map vU8) rfl trivial (callsTo Tryd.func33 rfl (by kernel_rfl) rfl) rfl (fun w hm => toptwin_any _ _ _ (p.take to) (by simp; omega) (by omega) w ((hr.mem hm).take1 to)) (fun h => nomatch h) (fun a92 c92 e92 hr92 => ?_)   -- 92
                    refine lt_append (k := to + 3) rfl trivial (acts_append (size := 1) (bytes := 1) 0 rfl rfl rfl hr92 rfl Tryd.underlying22 hi hz hsz hby rfl (by decide) (fun w hm => (Rd.blk (hm.at (i := 1) rfl))) (by rw [List.length_map, Nat.mul_one]; exact hz3l) (one_u8s _) (by omega) (by omega)) rfl (fun h => nomatch h) (fun a94 c94 e94 hr94 => ?_)   -- 94
                    have hr94' : RowE (.slice a94 (to + 3) c94) 5 1 (to + 3) ((((p.take to) ++ z3) : List UInt8).map vU8) e94 := hr94.cong rfl rfl (by rw [List.map_append (l₁ := (p.take to))])
                    have hc94 := hr94'.le
                    refine lt_call_pure rfl trivial (callsTo Tryd.func14 rfl (by kernel_rfl) rfl) rfl (fun w hm => sum256h_any _ _ _ ((p.take to) ++ z3) (by simp only [List.length_append, List.length_take]; omega) w (hK.mem0 hm) (hr94'.rdAt hm (i := 0) rfl) (by omega) (by omega)) (fun h => nomatch h) ?_   -- 95
                    refine lt_pure rfl trivial ((val_neq_u8s rfl rfl Tryd.eqGuardType24 Tryd.underlying24 Tryd.underlying5 Tryd.sizeOf5 Tryd.isAgg5 (hash_len _) (hash_len _)).to (congrArg Value.bool (show _ = false by simp [txt]))) rfl ?_   -- 96
                    exact lt_done (fun w hm => ⟨(), trivial, ⟨rfl, rfl, rfl, rfl, rfl, rfl, rfl, trivial⟩, hm.only (.cons _ (.cons _ (.cons _ (.cons _ (.cons_cons _ (List.nil_sublist _))))))⟩)
                  exact lt_stop
                refine lt_alt ?_ ?_
                · -- first 6
                  refine lt_make (fun b => .slice (some ⟨b, 0, none⟩) 3 3) rfl trivial (acts_buildSlice (cs := z3.map vU8) Tryd.underlying22 Tryd.sizeOf5 Tryd.zeroValue5 rfl rfl (by rw [hz3]; kernel_rfl)) rfl (fun h => nomatch h) (fun b93 hb93 => ?_)   -- 93
                  refine lt_call_pure (v := .agg ((shaOf ((p.take to) ++ z3)).map vU8).toArray) rfl trivial (callsTo Tryd.func28 rfl (by kernel_rfl) rfl) rfl (fun w hm => (by rw [← (show txt (some ((txt o') ++ z3)) = ((p.take to) ++ z3) by show txt _ ++ _ = _; rw [ho'])]; exact sumS_any b83 (some ((txt o') ++ z3)) w (hm.at (i := 2) rfl) (hK.mem0 hm))) (fun h => nomatch h) ?_   -- 88
                  refine lt_call_row (E := 5) (size := 1) (k := to) (xs := (p.take to).map vU8) rfl trivial (callsTo Tryd.func33 rfl (by kernel_rfl) rfl) rfl (fun w hm => toptwin_any _ _ _ (p.take to) (by simp; omega) (by omega) w ((hr.mem hm).take1 to)) (fun h => nomatch h) (fun a92 c92 e92 hr92 => ?_)   -- 92
                  refine lt_append (k := to + 3) rfl trivial (acts_append (size := 1) (bytes := 1) 0 rfl rfl rfl hr92 rfl Tryd.underlying22 hi hz hsz hby rfl (by decide) (fun w hm => (Rd.blk (hm.at (i := 1) rfl))) (by rw [List.length_map, Nat.mul_one]; exact hz3l) (one_u8s _) (by omega) (by omega)) rfl (fun h => nomatch h) (fun a94 c94 e94 hr94 => ?_)   -- 94
                  have hr94' : RowE (.slice a94 (to + 3) c94) 5 1 (to + 3) ((((p.take to) ++ z3) : List UInt8).map vU8) e94 := hr94.cong rfl rfl (by rw [List.map_append (l₁ := (p.take to))])
                  have hc94 := hr94'.le
                  refine lt_call_pure rfl trivial (callsTo Tryd.func14 rfl (by kernel_rfl) rfl) rfl (fun w hm => sum256h_any _ _ _ ((p.take to) ++ z3) (by simp only [List.length_append, List.length_take]; omega) w (hK.mem0 hm) (hr94'.rdAt hm (i := 0) rfl) (by omega) (by omega)) (fun h => nomatch h) ?_   -- 95
                  refine lt_pure rfl trivial ((val_neq_u8s rfl rfl Tryd.eqGuardType24 Tryd.underlying24 Tryd.underlying5 Tryd.sizeOf5 Tryd.isAgg5 (hash_len _) (hash_len _)).to (congrArg Value.bool (show _ = false by simp [txt]))) rfl ?_   -- 96
                  exact lt_done (fun w hm => ⟨(), trivial, ⟨rfl, rfl, rfl, rfl, rfl, rfl, rfl, trivial⟩, hm.only (.cons _ (.cons _ (.cons _ (.cons _ (.cons_cons _ (List.nil_sublist _))))))⟩)
                exact lt_stop
              · -- rest
                refine sw_false rfl rfl ?_
                exact sw_skip (fun w hm => ⟨(), trivial, ⟨rfl, rfl, rfl, rfl, rfl, rfl, trivial⟩, hm⟩)
            · -- else
              exact sw_skip (fun w hm => ⟨(), trivial, ⟨rfl, rfl, rfl, rfl, rfl, rfl, trivial⟩, hm⟩)
          · -- rest
            refine sw_region ?_
            refine ow_val (val_move rfl) rfl ?_   -- 97
            refine ow_val (val_assign rfl) rfl ?_   -- 7
            refine ow_nil (into ?_)
            refine sw_region ?_
            refine ow_val (val_move rfl) rfl ?_   -- 40
            refine ow_val (val_add_int ((i + 1 : Nat) : Int) rfl rfl (by omega) (by omega)) rfl ?_   -- 41
            refine ow_val (val_assign rfl) rfl ?_   -- 8
            exact ow_nil (fun w hm => ⟨(i + 1, to, o'), ⟨(by dsimp only; omega), hto.2, ho'⟩, (by dsimp only; omega), ⟨rfl, rfl, rfl, rfl, rfl, trivial⟩, hm⟩)
  · -- else
    refine sw_exit (into ?_)
    refine sw_join (σ := Option (List UInt8)) (fun o' => txt o' = p) (fun _ => [(5, .pointer (some ⟨b12, 0, none⟩)), (0, .slice a m c)]) (fun o' => Mem w [] [some (b12, blk (shCells (stc o')) 52)]) ?_ (fun o' ho' => ?_)
    · -- part
      refine sw_region ?_
      refine ow_val (val_move rfl) rfl ?_   -- 98
      refine ow_val (val_move rfl) rfl ?_   -- 99
      refine ow_val (val_move rfl) rfl ?_   -- 100
      refine ow_val (val_slice_from fr rfl rfl Tryd.underlying22 Tryd.sizeOf5 rfl (by omega) hc) rfl ?_   -- 101
      refine ow_call_turn 0 rfl (callsTo Tryd.func27 rfl (by kernel_rfl) rfl) rfl (fun w hm => writeS_any b12 o _ _ _ (p.drop fr) (by simp [hpm]) w (hm.at (i := 0) rfl) (hK.mem0 hm) (by have := hK.pos; simp only [List.mem_singleton]; omega) ((hr.mem hm).cut (by omega)) (fun h b' o' e hbb => by simp only [List.mem_singleton] at hbb; have h2 := ((hr.cut (by omega))).lt e (by simpa using h); omega) (by omega) (by omega)) ?_   -- 102
      exact ow_nil (fun w hm => ⟨_, (by show txt o ++ _ = _; rw [ho]; exact List.take_append_drop _ _), ⟨rfl, rfl, trivial⟩, hm⟩)
    · -- rest
      refine sw_seq ?_
      refine sw_region ?_
      refine ow_val (val_move rfl) rfl ?_   -- 103
      refine ow_val (val_len rfl Tryd.underlying22) rfl ?_   -- 104
      refine ow_val (val_conv_n_u64 m Tryd.underlying3 Tryd.underlying34 rfl rfl) rfl ?_   -- 105
      refine ow_call_blk (fun b => .slice (some ⟨b, 0, none⟩) L1 L1) (callsTo Tryd.func20 rfl (by kernel_rfl) rfl) rfl (fun w hm => hpd1 w) (fun b106 hb106 => ?_)   -- 106
      refine ow_val (val_assign rfl) rfl ?_   -- 11
      refine ow_nil (into ?_)
      refine sw_seq ?_
      refine sw_region ?_
      refine ow_val (val_move rfl) rfl ?_   -- 107
      refine ow_call_pure (v := .agg ((shaOf p).map vU8).toArray) (callsTo Tryd.func28 rfl (by kernel_rfl) rfl) rfl (fun w hm => (by rw [← ho']; exact sumS_any b12 o' w (hm.at (i := 1) rfl) (hK.mem0 hm))) ?_   -- 108
      refine ow_val (val_move rfl) rfl ?_   -- 109
      refine ow_call_pure (callsTo Tryd.func14 rfl (by kernel_rfl) rfl) rfl (fun w hm => sum256h_any _ _ _ p hpm w (hK.mem0 hm) (hr.mem hm) (by omega) (by omega)) ?_   -- 110
      refine ow_val ((val_eql_u8s rfl rfl Tryd.eqGuardType24 Tryd.underlying24 Tryd.underlying5 Tryd.sizeOf5 Tryd.isAgg5 (hash_len _) (hash_len _)).to (congrArg Value.bool (show _ = true by simp [txt]))) rfl ?_   -- 111
      refine ow_val (val_move rfl) rfl ?_   -- 112
      refine ow_guard_yes rfl rfl rfl ?_
      refine ow_val (val_move rfl) rfl ?_   -- 113
      refine ow_guard_yes rfl rfl rfl ?_
      refine ow_val (val_len rfl Tryd.underlying22) rfl ?_   -- 114
      refine ow_guard_yes rfl rfl rfl ?_
      refine ow_val (val_move rfl) rfl ?_   -- 115
      refine ow_guard_yes rfl rfl rfl ?_
      refine ow_val (val_len rfl Tryd.underlying22) rfl ?_   -- 116
      refine ow_guard_yes rfl rfl rfl ?_
      refine ow_val (val_add_int ((m + L1 : Nat) : Int) rfl rfl (by omega) (by omega)) rfl ?_   -- 117
      refine ow_guard_yes rfl rfl rfl ?_
      refine ow_val (val_rem_nn ((0 : Nat) : Int) rfl rfl (by omega) (by omega) (by omega)) rfl ?_   -- 118
      refine ow_guard_yes rfl rfl rfl ?_
      refine ow_val ((val_eql_int rfl rfl).to (v' := .bool true) (congrArg Value.bool (decide_eq_true (by omega)))) rfl ?_   -- 119
      refine ow_val (val_pick_true rfl rfl) rfl ?_   -- 120
      refine ow_val (val_move rfl) rfl ?_   -- 121
      refine ow_guard_yes rfl rfl rfl ?_
      refine ow_val (val_move rfl) rfl ?_   -- 122
      refine ow_guard_yes rfl rfl rfl ?_
      refine ow_val (val_len rfl Tryd.underlying22) rfl ?_   -- 123
      refine ow_guard_yes rfl rfl rfl ?_
      refine ow_val ((val_geq_int rfl rfl).to (v' := .bool true) (congrArg Value.bool (decide_eq_true (by omega)))) rfl ?_   -- 124
      refine ow_val (val_pick_true rfl rfl) rfl ?_   -- 125
      refine ow_val (val_move rfl) rfl ?_   -- 126
      refine ow_guard_yes rfl rfl rfl ?_
      refine ow_val (val_move rfl) rfl ?_   -- 127
      refine ow_guard_yes rfl rfl rfl ?_
      refine ow_val (val_len rfl Tryd.underlying22) rfl ?_   -- 128
      refine ow_guard_yes rfl rfl rfl ?_
      refine ow_val ((val_leq_int rfl rfl).to (v' := .bool true) (congrArg Value.bool (decide_eq_true (by omega)))) rfl ?_   -- 129
      refine ow_val (val_pick_true rfl rfl) rfl ?_   -- 130
      refine ow_val (val_move rfl) rfl ?_   -- 131
      refine ow_guard_yes rfl rfl rfl ?_
      refine ow_val (val_move rfl) rfl ?_   -- 132
      refine ow_guard_yes rfl rfl rfl ?_
      refine ow_val (val_indexAddr_slice (0) (0) rfl rfl Tryd.underlying22 Tryd.sizeOf5 (by omega) (by omega) (by omega)) rfl ?_   -- 133
      refine ow_guard_yes rfl rfl rfl ?_
      refine ow_val (val_load_at 0 rfl rfl Tryd.isAgg5 (get_map _ _ _ (by omega))) rfl ?_   -- 134
      refine ow_guard_yes rfl rfl rfl ?_
      refine ow_val ((val_eql_u8 rfl rfl).to (v' := .bool true) (congrArg Value.bool (decide_eq_true hP0))) rfl ?_   -- 135
      refine ow_val (val_pick_true rfl rfl) rfl ?_   -- 136
      refine ow_val (val_assign rfl) rfl ?_   -- 4
      refine ow_nil (into ?_)
      exact sw_ret (fun w hm => ret_one _ rfl rfl ⟨rfl, hm.forgetAll⟩)
end Go.Proofs.YtiagaoeaploijaaDoor
