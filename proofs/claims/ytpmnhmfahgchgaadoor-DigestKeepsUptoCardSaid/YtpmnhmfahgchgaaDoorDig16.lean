import Derived.Test.YtpmnhmfahgchgaaDoorDig11
import Derived.Test.YtpmnhmfahgchgaaDoorDig7
import Derived.Test.YtpmnhmfahgchgaaDoorDigT
import Derived.Test.YtpmnhmfahgchgaaDoorProg
set_option linter.unusedVariables false
set_option linter.unusedSimpArgs false
namespace Go.Proofs.YtpmnhmfahgchgaaDoor
open Go.Sx Go.Ps
theorem same_get {l m : List (Sl UInt8)} (h : m.map (·.xs) = l.map (·.xs)) {i : Nat} (hi : i < l.length) : (l.getD i default).xs = (m.getD i default).xs := by
  have h1 := congrArg (fun q => q[i]?) h
  have hm : m.length = l.length := by have := congrArg List.length h; simpa using this
  simp only [List.getElem?_map] at h1
  rw [List.getElem?_eq_getElem hi, List.getElem?_eq_getElem (by omega)] at h1
  rw [List.getD_eq_getElem?_getD, List.getD_eq_getElem?_getD, List.getElem?_eq_getElem hi, List.getElem?_eq_getElem (by omega)]
  exact (Option.some.inj h1).symm

theorem sameAll_any (w : World) (a1 : Option Addr) (c1 : Nat) (l : List (Sl UInt8)) (hr1 : Rd w a1 (l.map Sl.v)) (he : ∀ s ∈ l, SlOk w s) (a2 : Option Addr) (c2 : Nat) (m : List (Sl UInt8)) (hr2 : Rd w a2 (m.map Sl.v)) (hf : ∀ s ∈ m, SlOk w s) (hx : m.map (·.xs) = l.map (·.xs)) (hl : l.length < 9223372036854775807) : Calls Tryd.prog 74 #[.slice a1 l.length c1, .slice a2 l.length c2] w fun e w' => ∃ v, e = .returned v ∧ v = .bool true ∧ Mem w [] [] w' := by
  have hml : m.length = l.length := by have := congrArg List.length hx; simpa using this
  refine calls_of_sw (vs := [.slice a1 l.length c1, .slice a2 l.length c2]) Tryd.func74 rfl Tryd.ntmps74 rfl (SW.begin ?_)
  refine sw_seq ?_
  refine sw_region ?_
  refine ow_val (val_assign rfl) rfl ?_   -- 4
  refine ow_nil (into ?_)
  refine sw_seq ?_
  refine sw_seq ?_
  refine sw_region ?_
  refine ow_val (val_move rfl) rfl ?_   -- 6
  refine ow_val (val_len rfl Tryd.underlying32) rfl ?_   -- 7
  refine ow_val (val_move rfl) rfl ?_   -- 8
  refine ow_val (val_len rfl Tryd.underlying32) rfl ?_   -- 9
  refine ow_val ((val_neq_int rfl rfl).to (congrArg Value.bool (decide_eq_false ((fun h => h rfl))))) rfl ?_   -- 10
  refine ow_nil (into ?_)
  refine sw_false rfl rfl ?_
  refine sw_skip (into ?_)
  refine sw_seq ?_
  refine sw_seq ?_
  refine sw_region ?_
  refine ow_val (val_move rfl) rfl ?_   -- 11
  refine ow_val (val_len rfl Tryd.underlying32) rfl ?_   -- 12
  refine ow_val (val_move rfl) rfl ?_   -- 13
  refine ow_nil (into ?_)
  refine sw_block ?_
  refine sw_loop (σ := Nat) (fun i => i ≤ l.length) (fun i => [(13, vInt (i : Int)), (12, vInt (l.length : Int)), (1, .slice a2 l.length c2), (0, .slice a1 l.length c1)]) (fun _ => Mem w [] []) (fun i => l.length - i) 0 (Nat.zero_le _) ⟨rfl, rfl, rfl, rfl, trivial⟩ (fun w hm => hm) ?_
  intro i hi
  refine sw_seq ?_
  refine sw_region ?_
  refine ow_val (val_lss_int rfl rfl) rfl ?_   -- 14
  refine ow_nil (into ?_)
  refine sw_seq ?_
  refine sw_if rfl (fun h0i => ?_) (fun h0i => ?_)
  · -- then
    obtain ⟨b1, o1, rfl⟩ := hr1.addr (by rw [List.length_map]; omega)
    obtain ⟨b2, o2, rfl⟩ := hr2.addr (by rw [List.length_map]; omega)
    have hse := he _ (getD_mem (l := l) (i := i) (by omega))
    have hue := hf _ (getD_mem (l := m) (i := i) (by omega))
    have hsu := same_get hx (i := i) (by omega)
    obtain ⟨s, hs⟩ : ∃ z, l.getD i default = z := ⟨_, rfl⟩
    obtain ⟨u, hu⟩ : ∃ z, m.getD i default = z := ⟨_, rfl⟩
    rw [hs] at hse hsu
    rw [hu] at hue hsu
    have hsl := congrArg List.length hsu
    refine sw_skip (into ?_)
    refine sw_seq ?_
    refine sw_block ?_
    refine sw_seq ?_
    refine sw_region ?_
    refine ow_val (val_move rfl) rfl ?_   -- 15
    refine ow_val (val_assign rfl) rfl ?_   -- 5
    refine ow_nil (into ?_)
    refine sw_seq ?_
    refine sw_region_lex _ [] [(0, 0), (1, 0), (2, 0), (4, 0), (5, 0), (6, 0), (3, 1), (7, 1), (8, 2), (9, 0)] (by kernel_rfl) (by kernel_rfl) (fun _ _ _ h => h) (fun _ h => h) (fun _ h => h.drawn _) ?_
    refine lw_pure rfl (val_move rfl) rfl ?_   -- 16
    refine lw_pure rfl (val_move rfl) rfl ?_   -- 17
    refine lw_pure rfl (val_indexAddr_slice i (o1 + i * 1) rfl rfl Tryd.underlying32 Tryd.sizeOf25 (by omega) (by omega) (by omega)) rfl ?_   -- 18
    refine lw_pure rfl (val_move rfl) rfl ?_   -- 20
    refine lw_pure rfl (val_move rfl) rfl ?_   -- 21
    refine lw_pure rfl (val_indexAddr_slice i (o2 + i * 1) rfl rfl Tryd.underlying32 Tryd.sizeOf25 (by omega) (by omega) (by omega)) rfl ?_   -- 22
    refine lw_held rfl ((val_load (v := Sl.v (l.getD i default)) rfl Tryd.isAgg25 (fun w' hm => Rd.get (V := Sl.v) (p := l) (k := i) (hr1.mem hm) (by omega) (by omega))).to (v' := .slice s.a s.xs.length s.c) (by rw [hs]; rfl)) rfl ?_   -- 19
    refine lw_held rfl ((val_load (v := Sl.v (m.getD i default)) rfl Tryd.isAgg25 (fun w' hm => Rd.get (V := Sl.v) (p := m) (k := i) (hr2.mem hm) (by omega) (by omega))).to (v' := .slice u.a u.xs.length u.c) (by rw [hu]; rfl)) rfl ?_   -- 23
    refine lw_call_pure (v := .bool true) rfl (callsTo Tryd.func28 rfl (by kernel_rfl) rfl) rfl (fun w hm => rsame_is w s.a _ _ s.xs rfl (hse.1.mem hm) u.a _ _ u.xs rfl (hue.1.mem hm) hse.2.2 (decide_eq_true hsu)) ?_   -- 24
    refine lw_pure rfl (val_not rfl) rfl ?_   -- 25
    refine lw_nil (into ?_)
    refine sw_false rfl rfl ?_
    refine sw_skip (into ?_)
    refine sw_region ?_
    refine ow_val (val_add_int ((i + 1 : Nat) : Int) rfl rfl (by omega) (by omega)) rfl ?_   -- 26
    refine ow_val (val_move rfl) rfl ?_   -- 13
    exact ow_nil (fun w hm => ⟨i + 1, by omega, by omega, ⟨rfl, rfl, rfl, rfl, trivial⟩, hm.forgetAll⟩)
  · -- else
    refine sw_exit (into ?_)
    refine sw_seq ?_
    refine sw_region ?_
    refine ow_val (val_assign rfl) rfl ?_   -- 4
    refine ow_nil (into ?_)
    exact sw_ret (fun w hm => ret_one _ rfl rfl ⟨rfl, hm.forgetAll⟩)

/-- A row's beginning. -/
theorem rowPre {a : Option Addr} {k c size : Nat} {T : TypeId} {xs ys : List Value} {e : Ent} (h : RowE (.slice a k c) T size k (xs ++ ys) e) {w0 w : World} {olds : List Nat} {l : List Ent} (hm : Mem w0 olds l w) {i : Nat} (hp : pick l i = e) : Rd w a xs := fun j x hj => h.rdAt hm hp j x (by
  rw [List.getElem?_append_left (List.getElem?_eq_some_iff.1 hj).1]; exact hj)

theorem sumsO_any (w : World) (hK : KW w) (q o : Cop) (hq : q.ok w) (ho : o.ok w) (hn : o.pairs.xs.length ≤ 1048576) (hpl : q.pairs.xs.length = o.pairs.xs.length) (hx : (lsO q).map (·.xs) = (lsO o).map (·.xs)) (hb : ((lsO o).flatMap (·.xs)).length ≤ 140737488300000) : Calls Tryd.prog 34 #[.agg q.cells.toArray, .agg o.cells.toArray] w fun e w' => ∃ v, e = .returned v ∧ v = .bool true ∧ Mem w [] [] w' := by
  obtain ⟨tiS, hSi, hSz, hSsz, hSby⟩ := info_parts isl
  have hlq := lsO_len q
  have hlo := lsO_len o
  have hqo : (lsO q).length = (lsO o).length := by omega
  refine calls_of_sw (vs := [.agg q.cells.toArray, .agg o.cells.toArray]) Tryd.func34 rfl Tryd.ntmps34 rfl (SW.begin ?_)
  refine sw_seq ?_
  refine sw_region ?_
  refine ow_new (acts_box rfl) rfl (fun b2 hb2 => ?_)   -- 2
  refine ow_new (acts_box rfl) rfl (fun b3 hb3 => ?_)   -- 3
  refine ow_val (val_assign rfl) rfl ?_   -- 4
  refine ow_nil (into ?_)
  refine sw_seq ?_
  refine sw_region ?_
  refine ow_val (val_load_part 1 rfl rfl Tryd.isAgg50 Tryd.sizeOf50 (Cop.cells_len hq) (show List.take 135 q.cells = q.cells from List.take_of_length_le (Nat.le_of_eq (Cop.cells_len hq)))) rfl ?_   -- 11
  refine ow_call_row (E := 25) (size := 1) (k := (lsO q).length) (xs := (lsO q).map Sl.v) (callsTo Tryd.func36 rfl (by kernel_rfl) rfl) rfl (fun w hm => lists_any w q (hq.mem hm) (by omega)) (fun a12 c12 e12 hr12 => ?_)   -- 12
  refine ow_make (acts_buildSlice (cs := ([9] : List UInt8).map vU8) Tryd.underlying25 Tryd.sizeOf5 Tryd.zeroValue5 rfl rfl (by kernel_rfl)) rfl (fun b13 hb13 => ?_)   -- 13
  refine ow_make (acts_buildSlice (cs := ([8] : List UInt8).map vU8) Tryd.underlying25 Tryd.sizeOf5 Tryd.zeroValue5 rfl rfl (by kernel_rfl)) rfl (fun b14 hb14 => ?_)   -- 14
  refine ow_make (acts_buildSlice (cs := [.slice (some ⟨b13, 0, none⟩) 1 1, .slice (some ⟨b14, 0, none⟩) 1 1]) Tryd.underlying32 Tryd.sizeOf25 Tryd.zeroValue25 rfl rfl (by kernel_rfl)) rfl (fun b15 hb15 => ?_)   -- 15
  refine ow_append' (k := (lsO q).length + 2) (acts_append (size := 1) (bytes := 24) 3 rfl rfl rfl hr12 rfl Tryd.underlying32 hSi hSz hSsz hSby rfl (by decide) (fun w hm => Rd.blk (hm.at (i := 0) rfl)) rfl (fun u hu => by rcases List.mem_cons.1 hu with rfl | hu <;> first | rfl | (rw [List.mem_singleton.1 hu]; rfl)) (by omega) (by omega)) rfl (fun a16 c16 e16 hr16 => ?_)   -- 16
  obtain ⟨b16, rfl⟩ := hr16.addr0 (by omega)
  have hc16 := hr16.le
  refine ow_val (val_assign rfl) rfl ?_   -- 5
  refine ow_nil (into ?_)
  refine sw_seq ?_
  refine sw_region ?_
  refine ow_val (val_move rfl) rfl ?_   -- 17
  refine ow_val (val_len rfl Tryd.underlying32) rfl ?_   -- 18
  refine ow_val (val_sub_int (((lsO q).length : Nat) : Int) rfl rfl (by omega) (by omega)) rfl ?_   -- 19
  refine ow_val (val_assign rfl) rfl ?_   -- 6
  refine ow_nil (into ?_)
  refine sw_seq ?_
  refine sw_region ?_
  refine ow_val (val_load_part 4 rfl rfl Tryd.isAgg50 Tryd.sizeOf50 (Cop.cells_len ho) (show List.take 135 o.cells = o.cells from List.take_of_length_le (Nat.le_of_eq (Cop.cells_len ho)))) rfl ?_   -- 21
  refine ow_call_row (E := 25) (size := 1) (k := (lsO o).length) (xs := (lsO o).map Sl.v) (callsTo Tryd.func36 rfl (by kernel_rfl) rfl) rfl (fun w hm => lists_any w o (ho.mem hm) hn) (fun a22 c22 e22 hr22 => ?_)   -- 22
  refine ow_call_pure (v := .tuple #[.agg ((dig 5 ((lsO o).flatMap (·.xs))).map vU8).toArray, vInt ((0 : Nat) : Int)]) (callsTo Tryd.func19 rfl (by kernel_rfl) rfl) rfl (fun w hm => (by have h := docSum_any 5 w a22 c22 (lsO o) (hr22.rdAt hm (i := 0) rfl) (fun s hs => lsO_ok (ho.mem hm) s hs) hr22.le (by omega) hb; rw [show digO (5 : Int) ((lsO o).flatMap (·.xs)) 0 = ((dig 5 ((lsO o).flatMap (·.xs))), 0) from digO_yes (k := 5) (by decide) (by decide)] at h; exact h)) ?_   -- 23
  refine ow_val (val_move rfl) rfl ?_   -- 20
  refine ow_val (val_extract rfl rfl) rfl ?_   -- 24
  refine ow_val (val_extract rfl rfl) rfl ?_   -- 25
  refine ow_new (acts_alloc zD) rfl (fun b7 hb7 => ?_)   -- 7
  refine ow_do_eq (does_store_all 0 rfl rfl rfl (one_u8s _) Tryd.sizeOf27 (by show (List.map vU8 (dig 5 ((lsO o).flatMap (·.xs)))).length = _; rw [List.length_map]; exact (dig_len _ (by decide))) (by show (List.map vU8 zeros32).length = _; rw [List.length_map]; exact zeros32_len)) ?_
  refine ow_val (val_assign rfl) rfl ?_   -- 8
  refine ow_nil (into ?_)
  refine sw_seq ?_
  refine sw_seq ?_
  refine sw_region ?_
  refine ow_val (val_move rfl) rfl ?_   -- 26
  refine ow_nil (into ?_)
  refine sw_block ?_
  refine sw_loop (σ := Nat) (fun t => t ≤ 2) (fun t => [(26, vInt (t : Int)), (5, .slice (some ⟨b16, 0, none⟩) ((lsO q).length + 2) c16), (6, vInt ((lsO q).length : Int)), (7, .pointer (some ⟨b7, 0, none⟩)), (3, .pointer (some ⟨b3, 0, none⟩))]) (fun _ => Mem w [] [some (b7, blk ((dig 5 ((lsO o).flatMap (·.xs))).map vU8) 27), some (b14, blk (([8] : List UInt8).map vU8) 5), some (b13, blk (([9] : List UInt8).map vU8) 5), e16, some (b3, blk o.cells 50)]) (fun t => 2 - t) 0 (Nat.zero_le _) ⟨rfl, rfl, rfl, rfl, rfl, trivial⟩ (fun w hm => hm.only (.cons_cons _ (.cons _ (.cons _ (.cons_cons _ (.cons_cons _ (.cons_cons _ (.cons_cons _ (List.nil_sublist _))))))))) ?_
  intro t ht
  refine sw_seq ?_
  refine sw_region ?_
  refine ow_val (val_lss_int rfl rfl) rfl ?_   -- 27
  refine ow_nil (into ?_)
  refine sw_seq ?_
  refine sw_if rfl (fun h5 => ?_) (fun h5 => ?_)
  · -- then
    refine sw_skip (into ?_)
    refine sw_seq ?_
    refine sw_block ?_
    refine sw_seq ?_
    refine sw_region ?_
    refine ow_val (val_move rfl) rfl ?_   -- 29
    refine ow_val (val_move rfl) rfl ?_   -- 30
    refine ow_val (val_slice_hi (lsO q).length rfl rfl Tryd.underlying32 Tryd.sizeOf25 rfl (by omega)) rfl ?_   -- 31
    refine ow_call_pure (v := .tuple #[.agg ((dig 5 ((lsO o).flatMap (·.xs))).map vU8).toArray, vInt ((0 : Nat) : Int)]) (callsTo Tryd.func17 rfl (by kernel_rfl) rfl) rfl (fun w hm => (by have h := dsum_any 5 w (hK.mem0 hm) (some ⟨b16, 0, none⟩) c16 (lsO q) (rowPre hr16 hm (i := 3) rfl) (fun s hs => lsO_ok (hq.mem hm) s hs) (by omega) (by omega); rw [flat_same hx, show digO (5 : Int) ((lsO o).flatMap (·.xs)) 0 = ((dig 5 ((lsO o).flatMap (·.xs))), 0) from digO_yes (k := 5) (by decide) (by decide)] at h; exact h)) ?_   -- 32
    refine ow_val (val_move rfl) rfl ?_   -- 28
    refine ow_val (val_extract rfl rfl) rfl ?_   -- 33
    refine ow_val (val_extract rfl rfl) rfl ?_   -- 34
    refine ow_new (acts_alloc zD) rfl (fun b9 hb9 => ?_)   -- 9
    refine ow_do_eq (does_store_all 0 rfl rfl rfl (one_u8s _) Tryd.sizeOf27 (by show (List.map vU8 (dig 5 ((lsO o).flatMap (·.xs)))).length = _; rw [List.length_map]; exact (dig_len _ (by decide))) (by show (List.map vU8 zeros32).length = _; rw [List.length_map]; exact zeros32_len)) ?_
    refine ow_val (val_assign rfl) rfl ?_   -- 10
    refine ow_nil (into ?_)
    refine sw_seq ?_
    refine sw_region ?_
    refine ow_val (val_move rfl) rfl ?_   -- 35
    refine ow_val ((val_neq_int rfl rfl).to (v' := .bool false) (congrArg Value.bool (decide_eq_false (fun h => h (by simp))))) rfl ?_   -- 36
    refine ow_val (val_move rfl) rfl ?_   -- 37
    refine ow_guard_yes rfl rfl rfl ?_
    refine ow_val (val_load_all 0 rfl rfl Tryd.isAgg27 Tryd.sizeOf27 (by show (List.map vU8 (dig 5 ((lsO o).flatMap (·.xs)))).length = _; rw [List.length_map]; exact (dig_len _ (by decide)))) rfl ?_   -- 38
    refine ow_guard_yes rfl rfl rfl ?_
    refine ow_val (val_load_all 1 rfl rfl Tryd.isAgg27 Tryd.sizeOf27 (by show (List.map vU8 (dig 5 ((lsO o).flatMap (·.xs)))).length = _; rw [List.length_map]; exact (dig_len _ (by decide)))) rfl ?_   -- 39
    refine ow_guard_yes rfl rfl rfl ?_
    refine ow_val ((val_neq_u8s rfl rfl Tryd.eqGuardType27 Tryd.underlying27 Tryd.underlying5 Tryd.sizeOf5 Tryd.isAgg5 (dig_len _ (by decide)) (dig_len _ (by decide))).to (congrArg Value.bool (show _ = false by simp [txt]))) rfl ?_   -- 40
    refine ow_val (val_pick_false rfl rfl) rfl ?_   -- 41
    refine ow_val (val_move rfl) rfl ?_   -- 42
    refine ow_guard_yes rfl rfl rfl ?_
    refine ow_val (val_move rfl) rfl ?_   -- 43
    refine ow_guard_yes rfl rfl rfl ?_
    refine ow_val (val_move rfl) rfl ?_   -- 44
    refine ow_guard_yes rfl rfl rfl ?_
    refine ow_val (val_indexAddr_slice ((lsO q).length) (0 + ((lsO q).length) * 1) rfl rfl Tryd.underlying32 Tryd.sizeOf25 (by omega) (by omega) (by omega)) rfl ?_   -- 45
    refine ow_guard_yes rfl rfl rfl ?_
    refine ow_val ((val_load (v := .slice (some ⟨b13, 0, none⟩) 1 1) rfl Tryd.isAgg25 (fun w' hm => cell_of_rd (hr16.rdAt hm (i := 4) rfl) (j := (lsO q).length) (by rw [List.getElem?_append_right (by rw [List.length_map]; omega), List.length_map, show (lsO q).length - (lsO q).length = 0 by omega]; rfl) (by omega)))) rfl ?_   -- 46
    refine ow_guard_yes rfl rfl rfl ?_
    refine ow_val (val_len rfl Tryd.underlying25) rfl ?_   -- 47
    refine ow_guard_yes rfl rfl rfl ?_
    refine ow_val ((val_neq_int rfl rfl).to (congrArg Value.bool (decide_eq_false (by decide)))) rfl ?_   -- 48
    refine ow_val (val_pick_false rfl rfl) rfl ?_   -- 49
    refine ow_val (val_move rfl) rfl ?_   -- 50
    refine ow_guard_yes rfl rfl rfl ?_
    refine ow_val (val_move rfl) rfl ?_   -- 51
    refine ow_guard_yes rfl rfl rfl ?_
    refine ow_val (val_move rfl) rfl ?_   -- 52
    refine ow_guard_yes rfl rfl rfl ?_
    refine ow_val (val_indexAddr_slice ((lsO q).length) (0 + ((lsO q).length) * 1) rfl rfl Tryd.underlying32 Tryd.sizeOf25 (by omega) (by omega) (by omega)) rfl ?_   -- 53
    refine ow_guard_yes rfl rfl rfl ?_
    refine ow_val ((val_load (v := .slice (some ⟨b13, 0, none⟩) 1 1) rfl Tryd.isAgg25 (fun w' hm => cell_of_rd (hr16.rdAt hm (i := 4) rfl) (j := (lsO q).length) (by rw [List.getElem?_append_right (by rw [List.length_map]; omega), List.length_map, show (lsO q).length - (lsO q).length = 0 by omega]; rfl) (by omega)))) rfl ?_   -- 54
    refine ow_guard_yes rfl rfl rfl ?_
    refine ow_val (val_indexAddr_slice (0) (0) rfl rfl Tryd.underlying25 Tryd.sizeOf5 (by omega) (by omega) (by omega)) rfl ?_   -- 55
    refine ow_guard_yes rfl rfl rfl ?_
    refine ow_val ((val_load_at 3 rfl rfl Tryd.isAgg5 rfl)) rfl ?_   -- 56
    refine ow_guard_yes rfl rfl rfl ?_
    refine ow_val ((val_neq_u8 rfl rfl).to (congrArg Value.bool (decide_eq_false (by decide)))) rfl ?_   -- 57
    refine ow_val (val_pick_false rfl rfl) rfl ?_   -- 58
    refine ow_val (val_move rfl) rfl ?_   -- 59
    refine ow_guard_yes rfl rfl rfl ?_
    refine ow_val (val_move rfl) rfl ?_   -- 60
    refine ow_guard_yes rfl rfl rfl ?_
    refine ow_val (val_move rfl) rfl ?_   -- 61
    refine ow_guard_yes rfl rfl rfl ?_
    refine ow_val (val_add_int (((lsO q).length + 1 : Nat) : Int) rfl rfl (by omega) (by omega)) rfl ?_   -- 62
    refine ow_guard_yes rfl rfl rfl ?_
    refine ow_val (val_indexAddr_slice ((lsO q).length + 1) (0 + ((lsO q).length + 1) * 1) rfl rfl Tryd.underlying32 Tryd.sizeOf25 (by omega) (by omega) (by omega)) rfl ?_   -- 63
    refine ow_guard_yes rfl rfl rfl ?_
    refine ow_val ((val_load (v := .slice (some ⟨b14, 0, none⟩) 1 1) rfl Tryd.isAgg25 (fun w' hm => cell_of_rd (hr16.rdAt hm (i := 4) rfl) (j := ((lsO q).length + 1)) (by rw [List.getElem?_append_right (by rw [List.length_map]; omega), List.length_map, show ((lsO q).length + 1) - (lsO q).length = 1 by omega]; rfl) (by omega)))) rfl ?_   -- 64
    refine ow_guard_yes rfl rfl rfl ?_
    refine ow_val (val_indexAddr_slice (0) (0) rfl rfl Tryd.underlying25 Tryd.sizeOf5 (by omega) (by omega) (by omega)) rfl ?_   -- 65
    refine ow_guard_yes rfl rfl rfl ?_
    refine ow_val ((val_load_at 2 rfl rfl Tryd.isAgg5 rfl)) rfl ?_   -- 66
    refine ow_guard_yes rfl rfl rfl ?_
    refine ow_val ((val_neq_u8 rfl rfl).to (congrArg Value.bool (decide_eq_false (by decide)))) rfl ?_   -- 67
    refine ow_val (val_pick_false rfl rfl) rfl ?_   -- 68
    refine ow_nil (into ?_)
    refine sw_false rfl rfl ?_
    refine sw_skip (into ?_)
    refine sw_region ?_
    refine ow_val (val_add_int ((t + 1 : Nat) : Int) rfl rfl (by omega) (by omega)) rfl ?_   -- 69
    refine ow_val (val_move rfl) rfl ?_   -- 26
    exact ow_nil (fun w hm => ⟨t + 1, by omega, by omega, ⟨rfl, rfl, rfl, rfl, rfl, trivial⟩, hm.only (.cons _ (.cons_cons _ (.cons_cons _ (.cons_cons _ (.cons_cons _ (.cons_cons _ (List.nil_sublist _)))))))⟩)
  · -- else
    refine sw_exit (into ?_)
    refine sw_seq ?_
    refine sw_region_tree _ [4, 5] (.one 0 0 (.one 1 0 (.one 2 0 (.one 3 1 (.one 4 2 (.one 5 2 (.one 6 0 .done))))))) (by kernel_rfl) (by kernel_rfl) (fun _ _ _ h => h) (fun _ h => h) (fun _ h => h.drawn _) ?_
    refine lt_pure rfl trivial (val_move rfl) rfl ?_   -- 70
    refine lt_pure rfl trivial (val_move rfl) rfl ?_   -- 71
    refine lt_pure rfl trivial (val_slice_hi (lsO q).length rfl rfl Tryd.underlying32 Tryd.sizeOf25 rfl (by omega)) rfl ?_   -- 72
    refine lt_held rfl trivial (val_load_part 4 rfl rfl Tryd.isAgg50 Tryd.sizeOf50 (Cop.cells_len ho) (show List.take 135 o.cells = o.cells from List.take_of_length_le (Nat.le_of_eq (Cop.cells_len ho)))) rfl ?_   -- 73
    refine lt_call_row (E := 25) (size := 1) (k := (lsO o).length) (xs := (lsO o).map Sl.v) rfl trivial (callsTo Tryd.func36 rfl (by kernel_rfl) rfl) rfl (fun w hm => lists_any w o (ho.mem hm) hn) (fun h => nomatch h) (fun a74 c74 e74 hr74 => ?_)   -- 74
    refine lt_call_pure (v := .bool true) rfl trivial (callsTo Tryd.func74 rfl (by kernel_rfl) rfl) rfl (fun w hm => (by have h9 := sameAll_any w (some ⟨b16, 0, none⟩) c16 (lsO q) (rowPre hr16 hm (i := 4) rfl) (fun s hs => lsO_ok (hq.mem hm) s hs) a74 c74 (lsO o) (hr74.rdAt hm (i := 0) rfl) (fun s hs => lsO_ok (ho.mem hm) s hs) hx.symm (by omega); rw [hqo] at h9 ⊢; exact h9)) (fun h => nomatch h) ?_   -- 75
    refine lt_pure rfl trivial (val_assign rfl) rfl ?_   -- 4
    refine lt_done (into ?_)
    exact sw_ret (fun w hm => ret_one _ rfl rfl ⟨rfl, hm.forgetAll⟩)
end Go.Proofs.YtpmnhmfahgchgaaDoor
