import Derived.Test.YtcdponddgnkecaaDoorMt3
import Derived.Test.YtcdponddgnkecaaDoorProg
set_option linter.unusedVariables false
set_option linter.unusedSimpArgs false
namespace Go.Proofs.YtcdponddgnkecaaDoor
open Go.Sx Go.Ps
theorem iPn : (Tryd.prog.info? 93).map (fun i => (i.zero, i.size, i.bytes)) = some (some (.pointer none), 1, 8) := by kernel_rfl
theorem zPn (w : World) : (zeroValue 93).run Tryd.prog w = .ok (.pointer none) w := by kernel_rfl
theorem clonePNil {a : Option Addr} {w : World} {ps : List Pk} (h : Option.isNone a = true) (hr : Rd w a (ps.map fun x => vPtr x.b)) : ps = [] := by
  cases ps with
  | nil => rfl
  | cons x r => obtain ⟨b, o, rfl⟩ := hr.addr (by simp); cases h
theorem one_ptrs (ps : List Pk) : ∀ u ∈ ps.map (fun x => vPtr x.b), u.oneCell' = true := by
  intro u hu; obtain ⟨x, _, rfl⟩ := List.mem_map.1 hu; rfl
theorem rowTake {a : Option Addr} {c n q : Nat} {T : TypeId} {xs : List Value} {e : Ent} (h : RowE (.slice a n c) T 1 n xs e) (hq : q ≤ n) : RowE (.slice a q c) T 1 q (xs.take q) e := by
  obtain ⟨hl, ⟨hv, hn, he⟩ | ⟨b, cap, rest, hv, hc, hc2, hlen, he⟩⟩ := h
  · simp only [Value.slice.injEq] at hv
    have : q = 0 := by omega
    subst this
    exact ⟨by simp, .inl ⟨by rw [hv.1, hv.2.2], rfl, he⟩⟩
  · simp only [Value.slice.injEq, true_and] at hv
    refine ⟨by rw [List.length_take]; omega, .inr ⟨b, cap, xs.drop q ++ rest, by rw [hv.1, hv.2], by omega, hc2, ?_, ?_⟩⟩
    · rw [← List.append_assoc, List.take_append_drop]; exact hlen
    · rw [← List.append_assoc, List.take_append_drop]; exact he

theorem cloneP_any (a : Option Addr) (c : Nat) (ps : List Pk) (hb : ps.length ≤ 1048576) (w : World) (hr : Rd w a (ps.map fun x => vPtr x.b)) : Calls Tryd.prog 65 #[.slice a ps.length c] w fun e w' => ∃ v, e = .returned v ∧ ∃ e', RowE v 93 1 ps.length (ps.map fun x => vPtr x.b) e' ∧ Mem w [] [e'] w' := by
  obtain ⟨tiP, hPi, hPz, hPsz, hPby⟩ := info_parts iPn
  refine calls_of_sw (vs := [.slice a ps.length c]) Tryd.func65 rfl Tryd.ntmps65 rfl (SW.begin ?_)
  refine sw_seq ?_
  refine sw_region ?_
  refine ow_val (val_assign rfl) rfl ?_
  refine ow_nil (into ?_)
  refine sw_seq ?_
  refine sw_seq ?_
  refine sw_region ?_
  refine ow_val (val_move rfl) rfl ?_
  refine ow_val (val_eql_nilslice Tryd.underlying77 rfl rfl) rfl ?_
  refine ow_nil (into ?_)
  refine sw_cond rfl (fun h0 => ?_) (fun h0 => ?_)
  · -- then
    refine sw_seq ?_
    refine sw_region ?_
    refine ow_val (val_assign rfl) rfl ?_
    refine ow_nil (into ?_)
    refine sw_ret (fun w hm => ?_)
    try dsimp only [thenP, blockP, Nat.beq, cond]
    exact ret_one _ rfl rfl ⟨none, by have hp0 := clonePNil h0 hr; subst hp0; exact RowE.nil _ _, hm.place⟩
  · -- else
    refine sw_skip (into ?_)
    refine sw_seq ?_
    refine sw_region ?_
    refine ow_make (acts_buildSlice (cs := ([] : List UInt8).map vU8) Tryd.underlying77 Tryd.sizeOf93 zPn rfl rfl (by kernel_rfl)) rfl (fun b5 hb5 => ?_)
    refine ow_val (val_move rfl) rfl ?_
    refine ow_append' (k := 0 + ps.length) (acts_append (size := 1) (bytes := 8) 0 rfl rfl rfl (RowE.full (xs := []) rfl (by decide)) rfl Tryd.underlying77 hPi hPz hPsz hPby rfl (by decide) (fun w hm => hr.mem hm) (by rw [List.length_map, Nat.mul_one]) (one_ptrs _) (by omega) (by omega)) rfl (fun a7 c7 e7 hr7 => ?_)
    refine ow_val (val_assign rfl) rfl ?_
    refine ow_nil (into ?_)
    exact sw_ret (fun w hm => ret_one _ rfl rfl ⟨e7, hr7.cong (by rw [Nat.zero_add]) (by omega) (by simp), hm⟩)

theorem node_size {k : Nat} {w : World} {q b : Nat} {seg : List (List UInt8)} (h : NodeIs 110 k w q b seg) (hl : (lg k seg).length = 32) : w.cell? ⟨b, 34, none⟩ = some (vU64 (UInt64.ofNat (2 ^ q))) := by
  obtain ⟨l, r, hb⟩ := h.head
  rw [cell_of_blk hb]; exact node_34 hl
theorem node_dig {k : Nat} {w : World} {q b : Nat} {seg : List (List UInt8)} (h : NodeIs 110 k w q b seg) (hl : (lg k seg).length = 32) : ∀ j v, ((lg k seg).map vU8)[j]? = some v → w.cell? ⟨b, 0 + j, none⟩ = some v := by
  obtain ⟨l, r, hb⟩ := h.head
  intro j v hj
  rw [cell_of_blk hb, Nat.zero_add, nodeC, List.getElem?_append_left (List.getElem?_eq_some_iff.1 hj).1]; exact hj

theorem leaf_built (d : List UInt8) (hd : d.length = 32) : Tryd.prog.built 110 [(0, .agg (d.map vU8).toArray), (3, vU64 1)] = some (nodeC d (.pointer none) (.pointer none) 1).toArray := by
  obtain ⟨x0, d1, rfl⟩ : ∃ x r, d = x :: r := by
    cases d with
    | nil => simp at hd
    | cons x r => exact ⟨x, r, rfl⟩
  obtain ⟨x1, d2, rfl⟩ : ∃ x r, d1 = x :: r := by
    cases d1 with
    | nil => simp at hd
    | cons x r => exact ⟨x, r, rfl⟩
  obtain ⟨x2, d3, rfl⟩ : ∃ x r, d2 = x :: r := by
    cases d2 with
    | nil => simp at hd
    | cons x r => exact ⟨x, r, rfl⟩
  obtain ⟨x3, d4, rfl⟩ : ∃ x r, d3 = x :: r := by
    cases d3 with
    | nil => simp at hd
    | cons x r => exact ⟨x, r, rfl⟩
  obtain ⟨x4, d5, rfl⟩ : ∃ x r, d4 = x :: r := by
    cases d4 with
    | nil => simp at hd
    | cons x r => exact ⟨x, r, rfl⟩
  obtain ⟨x5, d6, rfl⟩ : ∃ x r, d5 = x :: r := by
    cases d5 with
    | nil => simp at hd
    | cons x r => exact ⟨x, r, rfl⟩
  obtain ⟨x6, d7, rfl⟩ : ∃ x r, d6 = x :: r := by
    cases d6 with
    | nil => simp at hd
    | cons x r => exact ⟨x, r, rfl⟩
  obtain ⟨x7, d8, rfl⟩ : ∃ x r, d7 = x :: r := by
    cases d7 with
    | nil => simp at hd
    | cons x r => exact ⟨x, r, rfl⟩
  obtain ⟨x8, d9, rfl⟩ : ∃ x r, d8 = x :: r := by
    cases d8 with
    | nil => simp at hd
    | cons x r => exact ⟨x, r, rfl⟩
  obtain ⟨x9, d10, rfl⟩ : ∃ x r, d9 = x :: r := by
    cases d9 with
    | nil => simp at hd
    | cons x r => exact ⟨x, r, rfl⟩
  obtain ⟨x10, d11, rfl⟩ : ∃ x r, d10 = x :: r := by
    cases d10 with
    | nil => simp at hd
    | cons x r => exact ⟨x, r, rfl⟩
  obtain ⟨x11, d12, rfl⟩ : ∃ x r, d11 = x :: r := by
    cases d11 with
    | nil => simp at hd
    | cons x r => exact ⟨x, r, rfl⟩
  obtain ⟨x12, d13, rfl⟩ : ∃ x r, d12 = x :: r := by
    cases d12 with
    | nil => simp at hd
    | cons x r => exact ⟨x, r, rfl⟩
  obtain ⟨x13, d14, rfl⟩ : ∃ x r, d13 = x :: r := by
    cases d13 with
    | nil => simp at hd
    | cons x r => exact ⟨x, r, rfl⟩
  obtain ⟨x14, d15, rfl⟩ : ∃ x r, d14 = x :: r := by
    cases d14 with
    | nil => simp at hd
    | cons x r => exact ⟨x, r, rfl⟩
  obtain ⟨x15, d16, rfl⟩ : ∃ x r, d15 = x :: r := by
    cases d15 with
    | nil => simp at hd
    | cons x r => exact ⟨x, r, rfl⟩
  obtain ⟨x16, d17, rfl⟩ : ∃ x r, d16 = x :: r := by
    cases d16 with
    | nil => simp at hd
    | cons x r => exact ⟨x, r, rfl⟩
  obtain ⟨x17, d18, rfl⟩ : ∃ x r, d17 = x :: r := by
    cases d17 with
    | nil => simp at hd
    | cons x r => exact ⟨x, r, rfl⟩
  obtain ⟨x18, d19, rfl⟩ : ∃ x r, d18 = x :: r := by
    cases d18 with
    | nil => simp at hd
    | cons x r => exact ⟨x, r, rfl⟩
  obtain ⟨x19, d20, rfl⟩ : ∃ x r, d19 = x :: r := by
    cases d19 with
    | nil => simp at hd
    | cons x r => exact ⟨x, r, rfl⟩
  obtain ⟨x20, d21, rfl⟩ : ∃ x r, d20 = x :: r := by
    cases d20 with
    | nil => simp at hd
    | cons x r => exact ⟨x, r, rfl⟩
  obtain ⟨x21, d22, rfl⟩ : ∃ x r, d21 = x :: r := by
    cases d21 with
    | nil => simp at hd
    | cons x r => exact ⟨x, r, rfl⟩
  obtain ⟨x22, d23, rfl⟩ : ∃ x r, d22 = x :: r := by
    cases d22 with
    | nil => simp at hd
    | cons x r => exact ⟨x, r, rfl⟩
  obtain ⟨x23, d24, rfl⟩ : ∃ x r, d23 = x :: r := by
    cases d23 with
    | nil => simp at hd
    | cons x r => exact ⟨x, r, rfl⟩
  obtain ⟨x24, d25, rfl⟩ : ∃ x r, d24 = x :: r := by
    cases d24 with
    | nil => simp at hd
    | cons x r => exact ⟨x, r, rfl⟩
  obtain ⟨x25, d26, rfl⟩ : ∃ x r, d25 = x :: r := by
    cases d25 with
    | nil => simp at hd
    | cons x r => exact ⟨x, r, rfl⟩
  obtain ⟨x26, d27, rfl⟩ : ∃ x r, d26 = x :: r := by
    cases d26 with
    | nil => simp at hd
    | cons x r => exact ⟨x, r, rfl⟩
  obtain ⟨x27, d28, rfl⟩ : ∃ x r, d27 = x :: r := by
    cases d27 with
    | nil => simp at hd
    | cons x r => exact ⟨x, r, rfl⟩
  obtain ⟨x28, d29, rfl⟩ : ∃ x r, d28 = x :: r := by
    cases d28 with
    | nil => simp at hd
    | cons x r => exact ⟨x, r, rfl⟩
  obtain ⟨x29, d30, rfl⟩ : ∃ x r, d29 = x :: r := by
    cases d29 with
    | nil => simp at hd
    | cons x r => exact ⟨x, r, rfl⟩
  obtain ⟨x30, d31, rfl⟩ : ∃ x r, d30 = x :: r := by
    cases d30 with
    | nil => simp at hd
    | cons x r => exact ⟨x, r, rfl⟩
  obtain ⟨x31, d32, rfl⟩ : ∃ x r, d31 = x :: r := by
    cases d31 with
    | nil => simp at hd
    | cons x r => exact ⟨x, r, rfl⟩
  obtain rfl : d32 = [] := by simpa using hd
  kernel_rfl
theorem node_lay : layT Tryd.prog 110 = some (35, [(0, 32), (32, 1), (33, 1), (34, 1)]) := by kernel_rfl
theorem node_built (d : List UInt8) (hd : d.length = 32) (l r : Nat) (n : UInt64) : Tryd.prog.built 110 [(0, .agg (d.map vU8).toArray), (1, vPtr l), (2, vPtr r), (3, vU64 n)] = some (nodeC d (vPtr l) (vPtr r) n).toArray :=
  built_struct node_lay [.agg (d.map vU8).toArray, vPtr l, vPtr r, vU64 n] (by simp [layOf, Value.cells, hd, vU64]) (by simp [Value.cells, hd, vU64]) (by simp [Value.cells, nodeC, vU64])
end Go.Proofs.YtcdponddgnkecaaDoor
