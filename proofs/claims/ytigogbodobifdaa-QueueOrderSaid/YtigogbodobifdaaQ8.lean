import Derived.Test.YtigogbodobifdaaQ6
import Derived.Test.YtigogbodobifdaaSxN
import Derived.Test.YtigogbodobifdaaProg
set_option linter.unusedVariables false
set_option linter.unusedSimpArgs false
namespace Go.Proofs.Ytigogbodobifdaa
open Go.Sx
theorem same_self (w : World) (a1 : Option Addr) (c1 : Nat) (s : List UInt8) (hr1 : Rd w a1 (s.map vU8)) (hl : s.length < 9223372036854775807) : Calls Try.prog 39 #[.slice a1 s.length c1, .slice a1 s.length c1] w fun e w' => ∃ v, e = .returned v ∧ v = .bool true ∧ Mem w [] [] w' := by
  refine calls_of_sw (vs := [.slice a1 s.length c1, .slice a1 s.length c1]) Try.func39 rfl Try.ntmps39 rfl (SW.begin ?_)
  refine sw_seq ?_
  refine sw_region ?_
  refine ow_val (val_assign rfl) rfl ?_   -- 4
  refine ow_nil (into ?_)
  refine sw_seq ?_
  refine sw_seq ?_
  refine sw_region ?_
  refine ow_val (val_move rfl) rfl ?_   -- 6
  refine ow_val (val_len rfl Try.underlying41) rfl ?_   -- 7
  refine ow_val (val_move rfl) rfl ?_   -- 8
  refine ow_val (val_len rfl Try.underlying41) rfl ?_   -- 9
  refine ow_val ((val_neq_int rfl rfl).to (congrArg Value.bool (decide_eq_false ((fun h => h rfl))))) rfl ?_   -- 10
  refine ow_nil (into ?_)
  refine sw_false rfl rfl ?_
  refine sw_skip (into ?_)
  refine sw_seq ?_
  refine sw_seq ?_
  refine sw_region ?_
  refine ow_val (val_move rfl) rfl ?_   -- 11
  refine ow_val (val_len rfl Try.underlying41) rfl ?_   -- 12
  refine ow_val (val_move rfl) rfl ?_   -- 13
  refine ow_nil (into ?_)
  refine sw_block ?_
  refine sw_loop (σ := Nat) (fun i => i ≤ s.length) (fun i => [(13, vInt (i : Int)), (12, vInt (s.length : Int)), (1, .slice a1 s.length c1), (0, .slice a1 s.length c1)]) (fun _ => Mem w [] []) (fun i => s.length - i) 0 (Nat.zero_le _) ⟨rfl, rfl, rfl, rfl, rfl⟩ (fun w hm => hm) ?_
  intro i hi
  refine sw_seq ?_
  refine sw_region ?_
  refine ow_val (val_lss_int rfl rfl) rfl ?_   -- 14
  refine ow_nil (into ?_)
  refine sw_seq ?_
  refine sw_if rfl (fun h0i => ?_) (fun h0i => ?_)
  · -- then
    obtain ⟨b1, o1, rfl⟩ := hr1.addr (by rw [List.length_map]; omega)
    refine sw_skip (into ?_)
    refine sw_seq ?_
    refine sw_block ?_
    refine sw_seq ?_
    refine sw_region ?_
    refine ow_val (val_move rfl) rfl ?_   -- 15
    refine ow_val (val_assign rfl) rfl ?_   -- 5
    refine ow_nil (into ?_)
    refine sw_seq ?_
    refine sw_region_lex _ [] [(0, 0), (1, 0), (2, 0), (4, 0), (5, 0), (6, 0), (3, 1), (7, 1), (8, 0)] (by kernel_rfl) (by kernel_rfl) (fun _ _ _ h => h) (fun _ h => h) (fun _ h => h.drawn _) ?_
    refine lw_pure rfl (val_move rfl) rfl ?_   -- 16
    refine lw_pure rfl (val_move rfl) rfl ?_   -- 17
    refine lw_pure rfl (val_indexAddr_slice (i) (o1 + i) rfl rfl Try.underlying41 Try.sizeOf5 (by omega) (by omega) (by omega)) rfl ?_   -- 18
    refine lw_pure rfl (val_move rfl) rfl ?_   -- 20
    refine lw_pure rfl (val_move rfl) rfl ?_   -- 21
    refine lw_pure rfl (val_indexAddr_slice (i) (o1 + i) rfl rfl Try.underlying41 Try.sizeOf5 (by omega) (by omega) (by omega)) rfl ?_   -- 22
    refine lw_held rfl (val_load rfl Try.isAgg5 (fun w' hm => Rd.get (p := s) (k := i) (hr1.mem hm) (by omega) (by omega))) rfl ?_   -- 19
    refine lw_held rfl (val_load rfl Try.isAgg5 (fun w' hm => Rd.get (p := s) (k := i) (hr1.mem hm) (by omega) (by omega))) rfl ?_   -- 23
    refine lw_pure rfl ((val_neq_u8 rfl rfl).to (congrArg Value.bool (decide_eq_false ((fun h => h rfl))))) rfl ?_   -- 24
    refine lw_nil (into ?_)
    refine sw_false rfl rfl ?_
    refine sw_skip (into ?_)
    refine sw_region ?_
    refine ow_val (val_add_int ((i + 1 : Nat) : Int) rfl rfl (by omega) (by omega)) rfl ?_   -- 25
    refine ow_val (val_move rfl) rfl ?_   -- 13
    exact ow_nil (fun w hm => ⟨i + 1, by omega, by omega, ⟨rfl, rfl, rfl, rfl, rfl⟩, hm.forgetAll⟩)
  · -- else
    refine sw_exit (into ?_)
    refine sw_seq ?_
    refine sw_region ?_
    refine ow_val (val_assign rfl) rfl ?_   -- 4
    refine ow_nil (into ?_)
    exact sw_ret (fun w hm => ret_one _ rfl rfl ⟨rfl, hm.forgetAll⟩)

theorem qmem {α : Type} [Inhabited α] {l : List α} {i : Nat} (h : i < l.length) : l.getD i default ∈ l := by
  rw [List.getD_eq_getElem?_getD, List.getElem?_eq_getElem h]; exact List.getElem_mem h

theorem sameAll_self (w : World) (a1 : Option Addr) (c1 : Nat) (a2 : Option Addr) (c2 : Nat) (l : List (Sl UInt8)) (hr1 : Rd w a1 (l.map Sl.v)) (hr2 : Rd w a2 (l.map Sl.v)) (he : ∀ s ∈ l, Rd w s.a (s.xs.map vU8) ∧ s.xs.length < 9223372036854775807) (hl : l.length < 9223372036854775807) : Calls Try.prog 18 #[.slice a1 l.length c1, .slice a2 l.length c2] w fun e w' => ∃ v, e = .returned v ∧ v = .bool true ∧ Mem w [] [] w' := by
  refine calls_of_sw (vs := [.slice a1 l.length c1, .slice a2 l.length c2]) Try.func18 rfl Try.ntmps18 rfl (SW.begin ?_)
  refine sw_seq ?_
  refine sw_region ?_
  refine ow_val (val_assign rfl) rfl ?_   -- 4
  refine ow_nil (into ?_)
  refine sw_seq ?_
  refine sw_seq ?_
  refine sw_region ?_
  refine ow_val (val_move rfl) rfl ?_   -- 6
  refine ow_val (val_len rfl Try.underlying36) rfl ?_   -- 7
  refine ow_val (val_move rfl) rfl ?_   -- 8
  refine ow_val (val_len rfl Try.underlying36) rfl ?_   -- 9
  refine ow_val ((val_neq_int rfl rfl).to (congrArg Value.bool (decide_eq_false ((fun h => h rfl))))) rfl ?_   -- 10
  refine ow_nil (into ?_)
  refine sw_false rfl rfl ?_
  refine sw_skip (into ?_)
  refine sw_seq ?_
  refine sw_seq ?_
  refine sw_region ?_
  refine ow_val (val_move rfl) rfl ?_   -- 11
  refine ow_val (val_len rfl Try.underlying36) rfl ?_   -- 12
  refine ow_val (val_move rfl) rfl ?_   -- 13
  refine ow_nil (into ?_)
  refine sw_block ?_
  refine sw_loop (σ := Nat) (fun i => i ≤ l.length) (fun i => [(13, vInt (i : Int)), (12, vInt (l.length : Int)), (1, .slice a2 l.length c2), (0, .slice a1 l.length c1)]) (fun _ => Mem w [] []) (fun i => l.length - i) 0 (Nat.zero_le _) ⟨rfl, rfl, rfl, rfl, rfl⟩ (fun w hm => hm) ?_
  intro i hi
  refine sw_seq ?_
  refine sw_region ?_
  refine ow_val (val_lss_int rfl rfl) rfl ?_   -- 14
  refine ow_nil (into ?_)
  refine sw_seq ?_
  refine sw_if rfl (fun h0i => ?_) (fun h0i => ?_)
  · -- then
    obtain ⟨b1, o1, rfl⟩ := hr1.addr (by rw [List.length_map]; omega)
    obtain ⟨b2, o2, rfl⟩ := hr2.addr (by rw [List.length_map]; omega)
    obtain ⟨s, hs⟩ : ∃ z, l.getD i default = z := ⟨_, rfl⟩
    have hse := he s (by rw [← hs]; exact qmem (by omega))
    refine sw_skip (into ?_)
    refine sw_seq ?_
    refine sw_block ?_
    refine sw_seq ?_
    refine sw_region ?_
    refine ow_val (val_move rfl) rfl ?_   -- 15
    refine ow_val (val_assign rfl) rfl ?_   -- 5
    refine ow_nil (into ?_)
    refine sw_seq ?_
    refine sw_region_lex _ [] [(0, 0), (1, 0), (2, 0), (4, 0), (5, 0), (6, 0), (3, 1), (7, 1), (8, 2), (9, 0)] (by kernel_rfl) (by kernel_rfl) (fun _ _ _ h => h) (fun _ h => h) (fun _ h => h.drawn _) ?_
    refine lw_pure rfl (val_move rfl) rfl ?_   -- 16
    refine lw_pure rfl (val_move rfl) rfl ?_   -- 17
    refine lw_pure rfl (val_indexAddr_slice i (o1 + i * 1) rfl rfl Try.underlying36 Try.sizeOf41 (by omega) (by omega) (by omega)) rfl ?_   -- 18
    refine lw_pure rfl (val_move rfl) rfl ?_   -- 20
    refine lw_pure rfl (val_move rfl) rfl ?_   -- 21
    refine lw_pure rfl (val_indexAddr_slice i (o2 + i * 1) rfl rfl Try.underlying36 Try.sizeOf41 (by omega) (by omega) (by omega)) rfl ?_   -- 22
    refine lw_held rfl ((val_load (v := Sl.v (l.getD i default)) rfl Try.isAgg41 (fun w' hm => Rd.get (V := Sl.v) (p := l) (k := i) (hr1.mem hm) (by omega) (by omega))).to (v' := .slice s.a s.xs.length s.c) (by rw [hs]; rfl)) rfl ?_   -- 19
    refine lw_held rfl ((val_load (v := Sl.v (l.getD i default)) rfl Try.isAgg41 (fun w' hm => Rd.get (V := Sl.v) (p := l) (k := i) (hr2.mem hm) (by omega) (by omega))).to (v' := .slice s.a s.xs.length s.c) (by rw [hs]; rfl)) rfl ?_   -- 23
    refine lw_call_pure (v := .bool true) rfl (callsTo Try.func39 rfl (by kernel_rfl) rfl) rfl (fun w hm => same_self w s.a s.c s.xs (hse.1.mem hm) hse.2) ?_   -- 24
    refine lw_pure rfl (val_not rfl) rfl ?_   -- 25
    refine lw_nil (into ?_)
    refine sw_false rfl rfl ?_
    refine sw_skip (into ?_)
    refine sw_region ?_
    refine ow_val (val_add_int ((i + 1 : Nat) : Int) rfl rfl (by omega) (by omega)) rfl ?_   -- 26
    refine ow_val (val_move rfl) rfl ?_   -- 13
    exact ow_nil (fun w hm => ⟨i + 1, by omega, by omega, ⟨rfl, rfl, rfl, rfl, rfl⟩, hm.forgetAll⟩)
  · -- else
    refine sw_exit (into ?_)
    refine sw_seq ?_
    refine sw_region ?_
    refine ow_val (val_assign rfl) rfl ?_   -- 4
    refine ow_nil (into ?_)
    exact sw_ret (fun w hm => ret_one _ rfl rfl ⟨rfl, hm.forgetAll⟩)
end Go.Proofs.Ytigogbodobifdaa
