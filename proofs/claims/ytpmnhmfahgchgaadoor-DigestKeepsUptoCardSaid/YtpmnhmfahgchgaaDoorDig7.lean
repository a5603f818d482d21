import Derived.Test.YtpmnhmfahgchgaaDoorDig5
import Derived.Test.YtpmnhmfahgchgaaDoorSxT
import Derived.Test.YtpmnhmfahgchgaaDoorProg
set_option linter.unusedVariables false
set_option linter.unusedSimpArgs false
namespace Go.Proofs.YtpmnhmfahgchgaaDoor
open Go.Sx Go.Ps
theorem isl : (Tryd.prog.info? 25).map (fun i => (i.zero, i.size, i.bytes)) = some (some (.slice none 0 0), 1, 24) := by kernel_rfl
theorem len_part : ∀ {l : List (Sl UInt8)} {s : Sl UInt8}, s ∈ l → s.xs.length ≤ (l.flatMap (·.xs)).length
  | x :: r, s, h => by
    rw [List.flatMap_cons, List.length_append]
    rcases List.mem_cons.1 h with rfl | h
    · omega
    · have := len_part h; omega
theorem flat_same {l q : List (Sl UInt8)} (h : l.map (·.xs) = q.map (·.xs)) : l.flatMap (·.xs) = q.flatMap (·.xs) := by
  rw [List.flatMap_def, List.flatMap_def, h]
/-- Slices that are read off own blocks. -/
def OwnSl (es : List Ent) (s : Sl UInt8) : Prop := ∀ w, Held es w → Rd w s.a (s.xs.map vU8) ∧ s.xs.length ≤ s.c ∧ s.xs.length < 9223372036854775808

theorem twinAll_any (w : World) (a : Option Addr) (c : Nat) (ps : List (Sl UInt8)) (hr : Rd w a (ps.map Sl.v)) (hps : ∀ s ∈ ps, Rd w s.a (s.xs.map vU8) ∧ s.xs.length ≤ s.c ∧ s.xs.length < 9223372036854775808) (hc : ps.length ≤ c) (hl : ps.length < 9223372036854775808) (hb : (ps.flatMap (·.xs)).length ≤ 140737488300000) (hbn : ps.length ≤ 1099511627776) : Calls Tryd.prog 18 #[.slice a ps.length c] w fun en w' => ∃ v, en = .returned v ∧ ∃ t : Option Addr × Nat × List (Sl UInt8) × Ent × List Ent, v = .slice t.1 t.2.2.1.length t.2.1 ∧ (RowE (.slice t.1 t.2.2.1.length t.2.1) 25 1 t.2.2.1.length (t.2.2.1.map Sl.v) t.2.2.2.1 ∧ t.2.2.1.map (·.xs) = (ps).map (·.xs) ∧ ∀ s ∈ t.2.2.1, OwnSl t.2.2.2.2 s) ∧ Mem w [] (t.2.2.2.1 :: t.2.2.2.2) w' := by
  obtain ⟨tiS, hSi, hSz, hSsz, hSby⟩ := info_parts isl
  refine calls_of_sw (vs := [.slice a ps.length c]) Tryd.func18 rfl Tryd.ntmps18 rfl (SW.begin ?_)
  refine sw_seq ?_
  refine sw_region ?_
  refine ow_val (val_assign rfl) rfl ?_   -- 2
  refine ow_nil (into ?_)
  refine sw_seq ?_
  refine sw_region ?_
  refine ow_val (val_assign rfl) rfl ?_   -- 3
  refine ow_nil (into ?_)
  refine sw_seq ?_
  refine sw_seq ?_
  refine sw_region ?_
  refine ow_val (val_move rfl) rfl ?_   -- 6
  refine ow_val (val_len rfl Tryd.underlying32) rfl ?_   -- 7
  refine ow_val (val_move rfl) rfl ?_   -- 8
  refine ow_nil (into ?_)
  refine sw_block ?_
  refine sw_loop (σ := Nat × Option Addr × Nat × List (Sl UInt8) × Ent × List Ent) (fun t => t.1 ≤ ps.length ∧ RowE (.slice t.2.1 t.2.2.2.1.length t.2.2.1) 25 1 t.2.2.2.1.length (t.2.2.2.1.map Sl.v) t.2.2.2.2.1 ∧ t.2.2.2.1.map (·.xs) = (ps.take t.1).map (·.xs) ∧ ∀ s ∈ t.2.2.2.1, OwnSl t.2.2.2.2.2 s) (fun t => [(8, vInt (t.1 : Int)), (7, vInt (ps.length : Int)), (6, .slice a ps.length c), (3, .slice t.2.1 t.2.2.2.1.length t.2.2.1)]) (fun t => Mem w [] (t.2.2.2.2.1 :: t.2.2.2.2.2)) (fun t => ps.length - t.1) (0, none, 0, [], none, []) ⟨Nat.zero_le _, RowE.nil _ _, rfl, fun s hs => by cases hs⟩ ⟨rfl, rfl, rfl, rfl, trivial⟩ (fun w hm => hm.place) ?_
  rintro ⟨i, a1, c1, ss, e1, es⟩ ⟨hi, hrow, hxs, hss⟩
  simp only at hi hrow hxs hss ⊢
  have hsl : ss.length = i := by have := congrArg List.length hxs; simpa [Nat.min_eq_left hi] using this
  refine sw_seq ?_
  refine sw_region ?_
  refine ow_val (val_lss_int rfl rfl) rfl ?_   -- 9
  refine ow_nil (into ?_)
  refine sw_seq ?_
  refine sw_if rfl (fun h0 => ?_) (fun h0 => ?_)
  · -- then
    obtain ⟨ba, oa, rfl⟩ := hr.addr (by rw [List.length_map]; omega)
    have hE := hps _ (getD_mem (l := ps) (i := i) (by omega))
    have hE1 := hE.2.1
    have hE2 := hE.2.2
    have hE3 := len_part (getD_mem (l := ps) (i := i) (by omega))
    refine sw_skip (into ?_)
    refine sw_seq ?_
    refine sw_block ?_
    refine sw_seq ?_
    refine sw_region ?_
    refine ow_val (val_indexAddr_slice (i) (oa + i) rfl rfl Tryd.underlying32 Tryd.sizeOf25 (by omega) (by omega) (by omega)) rfl ?_   -- 10
    refine ow_val (val_load (v := Sl.v (ps.getD i default)) rfl Tryd.isAgg25 (fun w' hm => Rd.get (p := ps) (k := i) (hr.mem hm) (by omega) (by omega))) rfl ?_   -- 11
    refine ow_val (val_assign rfl) rfl ?_   -- 5
    refine ow_nil (into ?_)
    refine sw_region ?_
    refine ow_val (val_move rfl) rfl ?_   -- 12
    refine ow_val (val_move rfl) rfl ?_   -- 13
    refine ow_call_blk (fun b => .slice (some ⟨b, 0, none⟩) ((ps.getD i default).xs.length) ((ps.getD i default).xs.length)) (callsTo Tryd.func50 rfl (by kernel_rfl) rfl) rfl (fun w hm => rtwin_any w (ps.getD i default).a ((ps.getD i default).xs.length) _ (ps.getD i default).xs rfl ((hps _ (getD_mem (i := i) (by omega))).1.mem hm) (by omega)) (fun b14 hb14 => ?_)   -- 14
    refine ow_make (acts_buildSlice (cs := [.slice (some ⟨b14, 0, none⟩) ((ps.getD i default).xs.length) ((ps.getD i default).xs.length)]) Tryd.underlying32 Tryd.sizeOf25 Tryd.zeroValue25 rfl rfl (by kernel_rfl)) rfl (fun b15 hb15 => ?_)   -- 15
    refine ow_append' (k := ss.length + 1) (acts_append (size := 1) (bytes := 24) 2 rfl rfl rfl hrow rfl Tryd.underlying32 hSi hSz hSsz hSby rfl (by decide) (fun w hm => Rd.blk (hm.at (i := 0) rfl)) rfl (fun u hu => by rw [List.mem_singleton.1 hu]; rfl) (by omega) (by omega)) rfl (fun a16 c16 e16 hr16 => ?_)   -- 16
    refine ow_val (val_assign rfl) rfl ?_   -- 3
    refine ow_nil (into ?_)
    refine sw_region ?_
    refine ow_val (val_add_int ((i + 1 : Nat) : Int) rfl rfl (by omega) (by omega)) rfl ?_   -- 17
    refine ow_val (val_move rfl) rfl ?_   -- 8
    have hown : OwnSl (some (b14, blk ((ps.getD i default).xs.map vU8) 5) :: es) ⟨some ⟨b14, 0, none⟩, (ps.getD i default).xs.length, (ps.getD i default).xs⟩ := fun w' hh => ⟨hh.blk, Nat.le_refl _, hE2⟩
    exact ow_nil (fun w hm => ⟨(i + 1, a16, c16, ss ++ [⟨some ⟨b14, 0, none⟩, (ps.getD i default).xs.length, (ps.getD i default).xs⟩], e16, some (b14, blk ((ps.getD i default).xs.map vU8) 5) :: es), ⟨by dsimp only; omega, by dsimp only; rw [List.length_append]; exact hr16.cong rfl rfl (by rw [List.map_append]; rfl), by dsimp only; rw [take_getD (l := ps) (by omega), List.map_append, List.map_append, hxs]; rfl, fun s hs => by
        rcases List.mem_append.1 hs with hs | hs
        · exact fun w' hh => hss s hs w' hh.tail
        · rw [List.mem_singleton.1 hs]; exact hown⟩, by dsimp only; omega, ⟨rfl, rfl, rfl, by rw [List.length_append]; rfl, trivial⟩, (hm.only (.cons _ (List.Sublist.refl _))).perm (.swap _ _ _)⟩)
  · -- else
    obtain rfl : i = ps.length := by omega
    rw [List.take_length] at hxs
    refine sw_exit (into ?_)
    refine sw_seq ?_
    refine sw_region ?_
    refine ow_val (val_move rfl) rfl ?_   -- 18
    refine ow_val (val_assign rfl) rfl ?_   -- 2
    refine ow_nil (into ?_)
    exact sw_ret (fun w hm => ret_one _ rfl rfl ⟨(a1, c1, ss, e1, es), rfl, ⟨hrow, hxs, hss⟩, hm⟩)

theorem sums_no (v0 : Int) (w : World) (hK : KW w) (a : Option Addr) (c : Nat) (ps : List (Sl UInt8)) (hr : Rd w a (ps.map Sl.v)) (hps : ∀ s ∈ ps, Rd w s.a (s.xs.map vU8) ∧ s.xs.length ≤ s.c ∧ s.xs.length < 9223372036854775808) (hc : ps.length ≤ c) (hl : ps.length < 9223372036854775808) (hb : (ps.flatMap (·.xs)).length ≤ 140737488300000) (hbn : ps.length ≤ 1099511627776) (hw : wd v0 = false) : Calls Tryd.prog 5 #[vInt v0, .slice a ps.length c] w fun e w' => ∃ v, e = .returned v ∧ v = .bool true ∧ Mem w [] [] w' := by
  refine calls_of_sw (vs := [vInt v0, .slice a ps.length c]) Tryd.func5 rfl Tryd.ntmps5 rfl (SW.begin ?_)
  refine sw_seq ?_
  refine sw_region ?_
  refine ow_val (val_assign rfl) rfl ?_   -- 4
  refine ow_nil (into ?_)
  refine sw_seq ?_
  refine sw_region ?_
  refine ow_val (val_move rfl) rfl ?_   -- 14
  refine ow_val (val_move rfl) rfl ?_   -- 15
  refine ow_call_tail (fun t : Option Addr × Nat × List (Sl UInt8) × Ent × List Ent => .slice t.1 t.2.2.1.length t.2.1) (fun t => t.2.2.2.1 :: t.2.2.2.2) (fun t => RowE (.slice t.1 t.2.2.1.length t.2.1) 25 1 t.2.2.1.length (t.2.2.1.map Sl.v) t.2.2.2.1 ∧ t.2.2.1.map (·.xs) = (ps).map (·.xs) ∧ ∀ s ∈ t.2.2.1, OwnSl t.2.2.2.2 s) (callsTo Tryd.func18 rfl (by kernel_rfl) rfl) rfl (fun w hm => (twinAll_any w a c ps (hr.mem hm) (fun s hs => ⟨(hps s hs).1.mem hm, (hps s hs).2.1, (hps s hs).2.2⟩) hc hl hb hbn).mono fun _ _ ⟨v, he, t, hv, hi, hm'⟩ => ⟨v, he, t, hv, hi, hm'⟩) ?_
  rintro ⟨a16, c16, ss16, e16, es16⟩ ⟨hrow16, hxs16, hss16⟩
  simp only at hrow16 hxs16 hss16 ⊢
  have hfl16 := flat_same hxs16
  have hln16 : ss16.length = ps.length := by have := congrArg List.length hxs16; simpa using this
  have hcr16 := hrow16.le
  refine ow_call_pure (v := .tuple #[.agg ((zeros32).map vU8).toArray, vInt ((1 : Nat) : Int)]) (callsTo Tryd.func17 rfl (by kernel_rfl) rfl) rfl (fun w hm => (by have h := (by have h := dsum_any v0 w (hK.mem0 hm) a16 c16 ss16 (hrow16.rdAt hm (i := 0) rfl) (fun s hs => hss16 s hs w (hm.heldSub (.cons _ (List.Sublist.refl _)))) hcr16 (by omega); rw [hfl16] at h; exact h); rw [digO_no hw] at h; exact h)) ?_   -- 17
  refine ow_val (val_move rfl) rfl ?_   -- 13
  refine ow_val (val_extract rfl rfl) rfl ?_   -- 18
  refine ow_val (val_extract rfl rfl) rfl ?_   -- 19
  refine ow_new (acts_alloc zD) rfl (fun b5 hb5 => ?_)   -- 5
  refine ow_do_eq (does_store_all 0 rfl rfl rfl (one_u8s _) Tryd.sizeOf27 (by show (List.map vU8 zeros32).length = _; rw [List.length_map]; exact zeros32_len) (by show (List.map vU8 zeros32).length = _; rw [List.length_map]; exact zeros32_len)) ?_
  refine ow_val (val_assign rfl) rfl ?_   -- 6
  refine ow_nil (into ?_)
  refine sw_seq ?_
  refine sw_region ?_
  refine ow_val (val_move rfl) rfl ?_   -- 21
  refine ow_val (val_move rfl) rfl ?_   -- 22
  refine ow_call_pure (v := .tuple #[.agg ((zeros32).map vU8).toArray, vInt ((1 : Nat) : Int)]) (callsTo Tryd.func19 rfl (by kernel_rfl) rfl) rfl (fun w hm => (by have h := docSum_any v0 w a c ps (hr.mem hm) (fun s hs => ⟨(hps s hs).1.mem hm, (hps s hs).2.1, (hps s hs).2.2⟩) (by omega) (by omega) hb; rw [digO_no hw] at h; exact h)) ?_   -- 23
  refine ow_val (val_move rfl) rfl ?_   -- 20
  refine ow_val (val_extract rfl rfl) rfl ?_   -- 24
  refine ow_val (val_extract rfl rfl) rfl ?_   -- 25
  refine ow_new (acts_alloc zD) rfl (fun b7 hb7 => ?_)   -- 7
  refine ow_do_eq (does_store_all 0 rfl rfl rfl (one_u8s _) Tryd.sizeOf27 (by show (List.map vU8 zeros32).length = _; rw [List.length_map]; exact zeros32_len) (by show (List.map vU8 zeros32).length = _; rw [List.length_map]; exact zeros32_len)) ?_
  refine ow_val (val_assign rfl) rfl ?_   -- 8
  refine ow_nil (into ?_)
  refine sw_seq ?_
  refine sw_region ?_
  refine ow_val (val_move rfl) rfl ?_   -- 27
  refine ow_call_pure (v := .tuple #[.agg ((zeros32).map vU8).toArray, vInt ((1 : Nat) : Int)]) (callsTo Tryd.func20 rfl (by kernel_rfl) rfl) rfl (fun w hm => (by have h := nolog_any v0  w (hK.mem0 hm); rw [digO_no hw] at h; exact h)) ?_   -- 28
  refine ow_val (val_move rfl) rfl ?_   -- 26
  refine ow_val (val_extract rfl rfl) rfl ?_   -- 29
  refine ow_val (val_extract rfl rfl) rfl ?_   -- 30
  refine ow_new (acts_alloc zD) rfl (fun b9 hb9 => ?_)   -- 9
  refine ow_do_eq (does_store_all 0 rfl rfl rfl (one_u8s _) Tryd.sizeOf27 (by show (List.map vU8 zeros32).length = _; rw [List.length_map]; exact zeros32_len) (by show (List.map vU8 zeros32).length = _; rw [List.length_map]; exact zeros32_len)) ?_
  refine ow_val (val_assign rfl) rfl ?_   -- 10
  refine ow_nil (into ?_)
  refine sw_seq ?_
  refine sw_region ?_
  refine ow_val (val_move rfl) rfl ?_   -- 32
  refine ow_call_pure (v := .tuple #[.agg ((zeros32).map vU8).toArray, vInt ((1 : Nat) : Int)]) (callsTo Tryd.func13 rfl (by kernel_rfl) rfl) rfl (fun w hm => (by have h := nomap_any v0  w (hK.mem0 hm); rw [digO_no hw] at h; exact h)) ?_   -- 33
  refine ow_val (val_move rfl) rfl ?_   -- 31
  refine ow_val (val_extract rfl rfl) rfl ?_   -- 34
  refine ow_val (val_extract rfl rfl) rfl ?_   -- 35
  refine ow_new (acts_alloc zD) rfl (fun b11 hb11 => ?_)   -- 11
  refine ow_do_eq (does_store_all 0 rfl rfl rfl (one_u8s _) Tryd.sizeOf27 (by show (List.map vU8 zeros32).length = _; rw [List.length_map]; exact zeros32_len) (by show (List.map vU8 zeros32).length = _; rw [List.length_map]; exact zeros32_len)) ?_
  refine ow_val (val_assign rfl) rfl ?_   -- 12
  refine ow_nil (into ?_)
  refine sw_seq ?_
  refine sw_seq ?_
  refine sw_region ?_
  refine ow_val (val_move rfl) rfl ?_   -- 36
  refine ow_val ((val_neq_int rfl rfl).to (v' := .bool true) (congrArg Value.bool (decide_eq_true (by simp)))) rfl ?_   -- 37
  refine ow_nil (into ?_)
  refine sw_true rfl rfl ?_
  refine sw_seq ?_
  refine sw_region ?_
  refine ow_call_pure (v := .bool true) (callsTo Tryd.func14 rfl (by kernel_rfl) rfl) rfl (fun w hm => awake_any w (hK.mem0 hm)) ?_   -- 38
  refine ow_val (val_move rfl) rfl ?_   -- 39
  refine ow_guard_yes rfl rfl rfl ?_
  refine ow_val (val_move rfl) rfl ?_   -- 40
  refine ow_guard_yes rfl rfl rfl ?_
  refine ow_val (val_move rfl) rfl ?_   -- 41
  refine ow_guard_yes rfl rfl rfl ?_
  refine ow_val ((val_eql_int rfl rfl).to (v' := .bool true) (congrArg Value.bool (decide_eq_true rfl))) rfl ?_   -- 42
  refine ow_val (val_pick_true rfl rfl) rfl ?_   -- 43
  refine ow_val (val_move rfl) rfl ?_   -- 44
  refine ow_guard_yes rfl rfl rfl ?_
  refine ow_val (val_move rfl) rfl ?_   -- 45
  refine ow_guard_yes rfl rfl rfl ?_
  refine ow_val (val_move rfl) rfl ?_   -- 46
  refine ow_guard_yes rfl rfl rfl ?_
  refine ow_val ((val_eql_int rfl rfl).to (v' := .bool true) (congrArg Value.bool (decide_eq_true rfl))) rfl ?_   -- 47
  refine ow_val (val_pick_true rfl rfl) rfl ?_   -- 48
  refine ow_val (val_move rfl) rfl ?_   -- 49
  refine ow_guard_yes rfl rfl rfl ?_
  refine ow_val (val_move rfl) rfl ?_   -- 50
  refine ow_guard_yes rfl rfl rfl ?_
  refine ow_val (val_move rfl) rfl ?_   -- 51
  refine ow_guard_yes rfl rfl rfl ?_
  refine ow_val ((val_eql_int rfl rfl).to (v' := .bool true) (congrArg Value.bool (decide_eq_true rfl))) rfl ?_   -- 52
  refine ow_val (val_pick_true rfl rfl) rfl ?_   -- 53
  refine ow_val (val_move rfl) rfl ?_   -- 54
  refine ow_guard_yes rfl rfl rfl ?_
  refine ow_val (val_load_all 3 rfl rfl Tryd.isAgg27 Tryd.sizeOf27 (by show (List.map vU8 zeros32).length = _; rw [List.length_map]; exact zeros32_len)) rfl ?_   -- 55
  refine ow_guard_yes rfl rfl rfl ?_
  refine ow_val (val_build' (cs := zeros32.map vU8) rfl (by kernel_rfl)) rfl ?_   -- 56
  refine ow_guard_yes rfl rfl rfl ?_
  refine ow_val ((val_eql_u8s rfl rfl Tryd.eqGuardType27 Tryd.underlying27 Tryd.underlying5 Tryd.sizeOf5 Tryd.isAgg5 zeros32_len zeros32_len).to (congrArg Value.bool (show _ = true by simp [txt]))) rfl ?_   -- 57
  refine ow_val (val_pick_true rfl rfl) rfl ?_   -- 58
  refine ow_val (val_move rfl) rfl ?_   -- 59
  refine ow_guard_yes rfl rfl rfl ?_
  refine ow_val (val_load_all 1 rfl rfl Tryd.isAgg27 Tryd.sizeOf27 (by show (List.map vU8 zeros32).length = _; rw [List.length_map]; exact zeros32_len)) rfl ?_   -- 60
  refine ow_guard_yes rfl rfl rfl ?_
  refine ow_val (val_build' (cs := zeros32.map vU8) rfl (by kernel_rfl)) rfl ?_   -- 61
  refine ow_guard_yes rfl rfl rfl ?_
  refine ow_val ((val_eql_u8s rfl rfl Tryd.eqGuardType27 Tryd.underlying27 Tryd.underlying5 Tryd.sizeOf5 Tryd.isAgg5 zeros32_len zeros32_len).to (congrArg Value.bool (show _ = true by simp [txt]))) rfl ?_   -- 62
  refine ow_val (val_pick_true rfl rfl) rfl ?_   -- 63
  refine ow_val (val_move rfl) rfl ?_   -- 64
  refine ow_guard_yes rfl rfl rfl ?_
  refine ow_val (val_load_all 0 rfl rfl Tryd.isAgg27 Tryd.sizeOf27 (by show (List.map vU8 zeros32).length = _; rw [List.length_map]; exact zeros32_len)) rfl ?_   -- 65
  refine ow_guard_yes rfl rfl rfl ?_
  refine ow_val (val_build' (cs := zeros32.map vU8) rfl (by kernel_rfl)) rfl ?_   -- 66
  refine ow_guard_yes rfl rfl rfl ?_
  refine ow_val ((val_eql_u8s rfl rfl Tryd.eqGuardType27 Tryd.underlying27 Tryd.underlying5 Tryd.sizeOf5 Tryd.isAgg5 zeros32_len zeros32_len).to (congrArg Value.bool (show _ = true by simp [txt]))) rfl ?_   -- 67
  refine ow_val (val_pick_true rfl rfl) rfl ?_   -- 68
  refine ow_val (val_assign rfl) rfl ?_   -- 4
  refine ow_nil (into ?_)
  refine sw_ret (fun w hm => ?_)
  try dsimp only [thenP, blockP, Nat.beq, cond]
  exact ret_one _ rfl rfl ⟨rfl, hm.forgetAll⟩

theorem sums_yes (k : Nat) (h1 : 1 ≤ k) (h2 : k ≤ 32) (w : World) (hK : KW w) (a : Option Addr) (c : Nat) (ps : List (Sl UInt8)) (hr : Rd w a (ps.map Sl.v)) (hps : ∀ s ∈ ps, Rd w s.a (s.xs.map vU8) ∧ s.xs.length ≤ s.c ∧ s.xs.length < 9223372036854775808) (hc : ps.length ≤ c) (hl : ps.length < 9223372036854775808) (hb : (ps.flatMap (·.xs)).length ≤ 140737488300000) (hbn : ps.length ≤ 1099511627776) : Calls Tryd.prog 5 #[vInt (k : Int), .slice a ps.length c] w fun e w' => ∃ v, e = .returned v ∧ v = .bool true ∧ Mem w [] [] w' := by
  refine calls_of_sw (vs := [vInt (k : Int), .slice a ps.length c]) Tryd.func5 rfl Tryd.ntmps5 rfl (SW.begin ?_)
  refine sw_seq ?_
  refine sw_region ?_
  refine ow_val (val_assign rfl) rfl ?_   -- 4
  refine ow_nil (into ?_)
  refine sw_seq ?_
  refine sw_region ?_
  refine ow_val (val_move rfl) rfl ?_   -- 14
  refine ow_val (val_move rfl) rfl ?_   -- 15
  refine ow_call_tail (fun t : Option Addr × Nat × List (Sl UInt8) × Ent × List Ent => .slice t.1 t.2.2.1.length t.2.1) (fun t => t.2.2.2.1 :: t.2.2.2.2) (fun t => RowE (.slice t.1 t.2.2.1.length t.2.1) 25 1 t.2.2.1.length (t.2.2.1.map Sl.v) t.2.2.2.1 ∧ t.2.2.1.map (·.xs) = (ps).map (·.xs) ∧ ∀ s ∈ t.2.2.1, OwnSl t.2.2.2.2 s) (callsTo Tryd.func18 rfl (by kernel_rfl) rfl) rfl (fun w hm => (twinAll_any w a c ps (hr.mem hm) (fun s hs => ⟨(hps s hs).1.mem hm, (hps s hs).2.1, (hps s hs).2.2⟩) hc hl hb hbn).mono fun _ _ ⟨v, he, t, hv, hi, hm'⟩ => ⟨v, he, t, hv, hi, hm'⟩) ?_
  rintro ⟨a16, c16, ss16, e16, es16⟩ ⟨hrow16, hxs16, hss16⟩
  simp only at hrow16 hxs16 hss16 ⊢
  have hfl16 := flat_same hxs16
  have hln16 : ss16.length = ps.length := by have := congrArg List.length hxs16; simpa using this
  have hcr16 := hrow16.le
  refine ow_call_pure (v := .tuple #[.agg ((dig k (ps.flatMap (·.xs))).map vU8).toArray, vInt ((0 : Nat) : Int)]) (callsTo Tryd.func17 rfl (by kernel_rfl) rfl) rfl (fun w hm => (by have h := (by have h := dsum_any (k : Int) w (hK.mem0 hm) a16 c16 ss16 (hrow16.rdAt hm (i := 0) rfl) (fun s hs => hss16 s hs w (hm.heldSub (.cons _ (List.Sublist.refl _)))) hcr16 (by omega); rw [hfl16] at h; exact h); rw [digO_yes h1 h2] at h; exact h)) ?_   -- 17
  refine ow_val (val_move rfl) rfl ?_   -- 13
  refine ow_val (val_extract rfl rfl) rfl ?_   -- 18
  refine ow_val (val_extract rfl rfl) rfl ?_   -- 19
  refine ow_new (acts_alloc zD) rfl (fun b5 hb5 => ?_)   -- 5
  refine ow_do_eq (does_store_all 0 rfl rfl rfl (one_u8s _) Tryd.sizeOf27 (by show (List.map vU8 (dig k (ps.flatMap (·.xs)))).length = _; rw [List.length_map]; exact (dig_len _ h2)) (by show (List.map vU8 zeros32).length = _; rw [List.length_map]; exact zeros32_len)) ?_
  refine ow_val (val_assign rfl) rfl ?_   -- 6
  refine ow_nil (into ?_)
  refine sw_seq ?_
  refine sw_region ?_
  refine ow_val (val_move rfl) rfl ?_   -- 21
  refine ow_val (val_move rfl) rfl ?_   -- 22
  refine ow_call_pure (v := .tuple #[.agg ((dig k (ps.flatMap (·.xs))).map vU8).toArray, vInt ((0 : Nat) : Int)]) (callsTo Tryd.func19 rfl (by kernel_rfl) rfl) rfl (fun w hm => (by have h := docSum_any (k : Int) w a c ps (hr.mem hm) (fun s hs => ⟨(hps s hs).1.mem hm, (hps s hs).2.1, (hps s hs).2.2⟩) (by omega) (by omega) hb; rw [digO_yes h1 h2] at h; exact h)) ?_   -- 23
  refine ow_val (val_move rfl) rfl ?_   -- 20
  refine ow_val (val_extract rfl rfl) rfl ?_   -- 24
  refine ow_val (val_extract rfl rfl) rfl ?_   -- 25
  refine ow_new (acts_alloc zD) rfl (fun b7 hb7 => ?_)   -- 7
  refine ow_do_eq (does_store_all 0 rfl rfl rfl (one_u8s _) Tryd.sizeOf27 (by show (List.map vU8 (dig k (ps.flatMap (·.xs)))).length = _; rw [List.length_map]; exact (dig_len _ h2)) (by show (List.map vU8 zeros32).length = _; rw [List.length_map]; exact zeros32_len)) ?_
  refine ow_val (val_assign rfl) rfl ?_   -- 8
  refine ow_nil (into ?_)
  refine sw_seq ?_
  refine sw_region ?_
  refine ow_val (val_move rfl) rfl ?_   -- 27
  refine ow_call_pure (v := .tuple #[.agg ((dig k []).map vU8).toArray, vInt ((0 : Nat) : Int)]) (callsTo Tryd.func20 rfl (by kernel_rfl) rfl) rfl (fun w hm => (by have h := nolog_any (k : Int)  w (hK.mem0 hm); rw [digO_yes h1 h2] at h; exact h)) ?_   -- 28
  refine ow_val (val_move rfl) rfl ?_   -- 26
  refine ow_val (val_extract rfl rfl) rfl ?_   -- 29
  refine ow_val (val_extract rfl rfl) rfl ?_   -- 30
  refine ow_new (acts_alloc zD) rfl (fun b9 hb9 => ?_)   -- 9
  refine ow_do_eq (does_store_all 0 rfl rfl rfl (one_u8s _) Tryd.sizeOf27 (by show (List.map vU8 (dig k [])).length = _; rw [List.length_map]; exact (dig_len _ h2)) (by show (List.map vU8 zeros32).length = _; rw [List.length_map]; exact zeros32_len)) ?_
  refine ow_val (val_assign rfl) rfl ?_   -- 10
  refine ow_nil (into ?_)
  refine sw_seq ?_
  refine sw_region ?_
  refine ow_val (val_move rfl) rfl ?_   -- 32
  refine ow_call_pure (v := .tuple #[.agg ((dig k [5]).map vU8).toArray, vInt ((0 : Nat) : Int)]) (callsTo Tryd.func13 rfl (by kernel_rfl) rfl) rfl (fun w hm => (by have h := nomap_any (k : Int)  w (hK.mem0 hm); rw [digO_yes h1 h2] at h; exact h)) ?_   -- 33
  refine ow_val (val_move rfl) rfl ?_   -- 31
  refine ow_val (val_extract rfl rfl) rfl ?_   -- 34
  refine ow_val (val_extract rfl rfl) rfl ?_   -- 35
  refine ow_new (acts_alloc zD) rfl (fun b11 hb11 => ?_)   -- 11
  refine ow_do_eq (does_store_all 0 rfl rfl rfl (one_u8s _) Tryd.sizeOf27 (by show (List.map vU8 (dig k [5])).length = _; rw [List.length_map]; exact (dig_len _ h2)) (by show (List.map vU8 zeros32).length = _; rw [List.length_map]; exact zeros32_len)) ?_
  refine ow_val (val_assign rfl) rfl ?_   -- 12
  refine ow_nil (into ?_)
  refine sw_seq ?_
  refine sw_seq ?_
  refine sw_region ?_
  refine ow_val (val_move rfl) rfl ?_   -- 36
  refine ow_val ((val_neq_int rfl rfl).to (v' := .bool false) (congrArg Value.bool (decide_eq_false (fun h => h (by simp))))) rfl ?_   -- 37
  refine ow_nil (into ?_)
  refine sw_false rfl rfl ?_
  refine sw_skip (into ?_)
  refine sw_seq ?_
  refine sw_region_lex _ [] [(0, 2), (1, 0), (2, 0), (3, 0), (4, 0), (5, 0), (6, 0), (7, 0), (8, 0), (9, 0), (10, 0), (11, 0), (12, 0), (13, 0), (14, 1), (15, 1), (16, 0), (17, 0), (18, 0), (20, 0), (19, 1), (21, 2), (22, 0), (23, 0), (24, 0), (26, 0), (25, 1), (27, 2), (28, 0), (29, 0), (30, 0)] (by kernel_rfl) (by kernel_rfl) (fun _ _ _ h => h) (fun _ h => h) (fun _ h => h.drawn _) ?_
  refine lw_call_pure (v := .bool true) rfl (callsTo Tryd.func14 rfl (by kernel_rfl) rfl) rfl (fun w hm => awake_any w (hK.mem0 hm)) ?_   -- 69
  refine lw_pure rfl (val_move rfl) rfl ?_   -- 70
  refine lwg_pure rfl (wg rfl rfl) (val_move rfl) rfl ?_   -- 71
  refine lwg_pure rfl (wg rfl rfl) ((val_eql_int rfl rfl).to (v' := .bool true) (congrArg Value.bool (decide_eq_true (by simp)))) rfl ?_   -- 72
  refine lw_pure rfl (val_pick_true rfl rfl) rfl ?_   -- 73
  refine lw_pure rfl (val_move rfl) rfl ?_   -- 74
  refine lwg_pure rfl (wg rfl rfl) (val_move rfl) rfl ?_   -- 75
  refine lwg_pure rfl (wg rfl rfl) ((val_eql_int rfl rfl).to (v' := .bool true) (congrArg Value.bool (decide_eq_true (by simp)))) rfl ?_   -- 76
  refine lw_pure rfl (val_pick_true rfl rfl) rfl ?_   -- 77
  refine lw_pure rfl (val_move rfl) rfl ?_   -- 78
  refine lwg_pure rfl (wg rfl rfl) (val_move rfl) rfl ?_   -- 79
  refine lwg_pure rfl (wg rfl rfl) ((val_eql_int rfl rfl).to (v' := .bool true) (congrArg Value.bool (decide_eq_true (by simp)))) rfl ?_   -- 80
  refine lw_pure rfl (val_pick_true rfl rfl) rfl ?_   -- 81
  refine lw_pure rfl (val_move rfl) rfl ?_   -- 82
  refine lwg_held rfl (wg rfl rfl) (val_load_all 3 rfl rfl Tryd.isAgg27 Tryd.sizeOf27 (by show (List.map vU8 (dig k (ps.flatMap (·.xs)))).length = _; rw [List.length_map]; exact (dig_len _ h2))) rfl ?_   -- 83
  refine lwg_held rfl (wg rfl rfl) (val_load_all 2 rfl rfl Tryd.isAgg27 Tryd.sizeOf27 (by show (List.map vU8 (dig k (ps.flatMap (·.xs)))).length = _; rw [List.length_map]; exact (dig_len _ h2))) rfl ?_   -- 84
  refine lwg_pure rfl (wg rfl rfl) ((val_eql_u8s rfl rfl Tryd.eqGuardType27 Tryd.underlying27 Tryd.underlying5 Tryd.sizeOf5 Tryd.isAgg5 (dig_len _ h2) (dig_len _ h2)).to (congrArg Value.bool (show _ = true by simp [txt]))) rfl ?_   -- 85
  refine lw_pure rfl (val_pick_true rfl rfl) rfl ?_   -- 86
  refine lw_pure rfl (val_move rfl) rfl ?_   -- 87
  refine lwg_pure rfl (wg rfl rfl) (val_move rfl) rfl ?_   -- 89
  refine lwg_held rfl (wg rfl rfl) (val_load_all 1 rfl rfl Tryd.isAgg27 Tryd.sizeOf27 (by show (List.map vU8 (dig k [])).length = _; rw [List.length_map]; exact (dig_len _ h2))) rfl ?_   -- 88
  refine lwg_call_pure rfl (wg rfl rfl) (callsTo Tryd.func21 rfl (by kernel_rfl) rfl) rfl (fun w hm => rnolog_any w k (by omega) (by omega)) ?_   -- 90
  refine lwg_pure rfl (wg rfl rfl) ((val_eql_u8s rfl rfl Tryd.eqGuardType27 Tryd.underlying27 Tryd.underlying5 Tryd.sizeOf5 Tryd.isAgg5 (dig_len _ h2) (dig_len _ h2)).to (congrArg Value.bool (show _ = true by simp [txt]))) rfl ?_   -- 91
  refine lw_pure rfl (val_pick_true rfl rfl) rfl ?_   -- 92
  refine lw_pure rfl (val_move rfl) rfl ?_   -- 93
  refine lwg_pure rfl (wg rfl rfl) (val_move rfl) rfl ?_   -- 95
  refine lwg_held rfl (wg rfl rfl) (val_load_all 0 rfl rfl Tryd.isAgg27 Tryd.sizeOf27 (by show (List.map vU8 (dig k [5])).length = _; rw [List.length_map]; exact (dig_len _ h2))) rfl ?_   -- 94
  refine lwg_call_pure rfl (wg rfl rfl) (callsTo Tryd.func22 rfl (by kernel_rfl) rfl) rfl (fun w hm => rnomap_any w k (by omega) (by omega)) ?_   -- 96
  refine lwg_pure rfl (wg rfl rfl) ((val_eql_u8s rfl rfl Tryd.eqGuardType27 Tryd.underlying27 Tryd.underlying5 Tryd.sizeOf5 Tryd.isAgg5 (dig_len _ h2) (dig_len _ h2)).to (congrArg Value.bool (show _ = true by simp [txt]))) rfl ?_   -- 97
  refine lw_pure rfl (val_pick_true rfl rfl) rfl ?_   -- 98
  refine lw_pure rfl (val_assign rfl) rfl ?_   -- 4
  refine lw_nil (into ?_)
  exact sw_ret (fun w hm => ret_one _ rfl rfl ⟨rfl, hm.forgetAll⟩)

theorem digestSums_any (v0 : Int) (w : World) (hK : KW w) (a : Option Addr) (c : Nat) (ps : List (Sl UInt8)) (hr : Rd w a (ps.map Sl.v)) (hps : ∀ s ∈ ps, Rd w s.a (s.xs.map vU8) ∧ s.xs.length ≤ s.c ∧ s.xs.length < 9223372036854775808) (hc : ps.length ≤ c) (hl : ps.length < 9223372036854775808) (hb : (ps.flatMap (·.xs)).length ≤ 140737488300000) (hbn : ps.length ≤ 1099511627776) : Calls Tryd.prog 5 #[vInt v0, .slice a ps.length c] w fun e w' => ∃ v, e = .returned v ∧ v = .bool true ∧ Mem w [] [] w' := by
  cases hw : wd v0 with
  | false => exact sums_no v0 w hK a c ps hr hps hc hl hb hbn hw
  | true => obtain ⟨k, rfl, h1, h2⟩ := wd_nat hw; exact sums_yes k h1 h2 w hK a c ps hr hps hc hl hb hbn
end Go.Proofs.YtpmnhmfahgchgaaDoor
