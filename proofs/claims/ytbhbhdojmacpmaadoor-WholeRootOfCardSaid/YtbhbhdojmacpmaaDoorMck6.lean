import Derived.Test.YtbhbhdojmacpmaaDoorMck4
import Derived.Test.YtbhbhdojmacpmaaDoorProg
set_option linter.unusedVariables false
set_option linter.unusedSimpArgs false
namespace Go.Proofs.YtbhbhdojmacpmaaDoor
open Go.Sx Go.Ps
theorem tw_any (w8 : UInt8) (w : World) : Calls Tryd.prog 27 #[vU8 w8] w fun e w' => ∃ v, e = .returned v ∧ v = vInt ((1 + w8.toNat % 32 : Nat) : Int) ∧ Mem w [] [] w' := by
  refine calls_of_sw (vs := [vU8 w8]) Tryd.func27 rfl Tryd.ntmps27 rfl (SW.begin ?_)
  refine sw_seq ?_
  refine sw_region ?_
  refine ow_val (val_assign rfl) rfl ?_   -- 2
  refine ow_nil (into ?_)
  refine sw_seq ?_
  refine sw_region ?_
  refine ow_val (val_move rfl) rfl ?_   -- 3
  refine ow_val (val_conv_u8_i64 Tryd.underlying5 Tryd.underlying3 rfl) rfl ?_   -- 4
  refine ow_val (val_rem_nn ((w8.toNat % 32 : Nat) : Int) rfl rfl (by omega) (by omega) (by omega)) rfl ?_   -- 5
  refine ow_val (val_add_int ((1 + w8.toNat % 32 : Nat) : Int) rfl rfl (by omega) (by omega)) rfl ?_   -- 6
  refine ow_val (val_assign rfl) rfl ?_   -- 2
  refine ow_nil (into ?_)
  exact sw_ret (fun w hm => ret_one _ rfl rfl ⟨rfl, hm⟩)

theorem tcut_any (k : Nat) (h2 : k ≤ 32) (d : List UInt8) (hd : d.length = 32) (w : World) : Calls Tryd.prog 28 #[vInt (k : Int), .agg ((d).map vU8).toArray] w fun e w' => ∃ v, e = .returned v ∧ v = .agg ((cutw k d).map vU8).toArray ∧ Mem w [] [] w' := by
  refine calls_of_sw (vs := [vInt (k : Int), .agg ((d).map vU8).toArray]) Tryd.func28 rfl Tryd.ntmps28 rfl (SW.begin ?_)
  refine sw_seq ?_
  refine sw_region ?_
  refine ow_new (acts_box rfl) rfl (fun b3 hb3 => ?_)   -- 3
  refine ow_new (acts_alloc zD) rfl (fun b4 hb4 => ?_)   -- 4
  refine ow_nil (into ?_)
  refine sw_seq ?_
  refine sw_seq ?_
  refine sw_region ?_
  refine ow_val (val_move rfl) rfl ?_   -- 6
  refine ow_val (val_assign rfl) rfl ?_   -- 5
  refine ow_nil (into ?_)
  refine sw_block ?_
  refine sw_loop (σ := Nat) (fun j => k + j ≤ 32) (fun j => [(5, vInt ((k + j : Nat) : Int)), (4, .pointer (some ⟨b4, 0, none⟩)), (3, .pointer (some ⟨b3, 0, none⟩))]) (fun j => Mem w [] [some (b4, blk (zeros32.map vU8) 23), some (b3, blk ((cutFrom d k j).map vU8) 23)]) (fun j => 32 - j) 0 (by omega) ⟨rfl, rfl, rfl, trivial⟩ (fun w hm => hm) ?_
  intro j hj
  refine sw_seq ?_
  refine sw_seq ?_
  refine sw_region ?_
  refine ow_val (val_move rfl) rfl ?_   -- 7
  refine ow_val (val_lss_int rfl rfl) rfl ?_   -- 8
  refine ow_nil (into ?_)
  refine sw_if rfl (fun h0 => ?_) (fun h0 => ?_)
  · -- then
    refine sw_skip (into ?_)
    refine sw_seq ?_
    refine sw_block ?_
    refine sw_region ?_
    refine ow_val (val_move rfl) rfl ?_   -- 11
    refine ow_val (val_indexAddr (k + j) (k + j) rfl rfl Tryd.underlying23 Tryd.sizeOf5 (by omega) (by omega) (by omega)) rfl ?_   -- 12
    refine ow_do (does_store_map (V := vU8) 1 rfl rfl rfl rfl Tryd.sizeOf5 (by rw [cutFrom_len, hd]; omega)) (fun _ _ => ?_)
    refine ow_nil (into ?_)
    refine sw_region ?_
    refine ow_val (val_move rfl) rfl ?_   -- 9
    refine ow_val (val_add_int ((k + j + 1 : Nat) : Int) rfl rfl (by omega) (by omega)) rfl ?_   -- 10
    refine ow_val (val_assign rfl) rfl ?_   -- 5
    exact ow_nil (fun w hm => ⟨j + 1, by omega, by omega, ⟨rfl, rfl, rfl, trivial⟩, hm⟩)
  · -- else
    obtain rfl : j = 32 - k := by omega
    rw [cutFrom_all _ k hd h2]
    refine sw_exit (into ?_)
    refine sw_seq ?_
    refine sw_region ?_
    refine ow_val (val_load_all 1 rfl rfl Tryd.isAgg23 Tryd.sizeOf23 (by show (List.map vU8 (cutw k d)).length = _; rw [List.length_map]; exact (cutw_len hd h2))) rfl ?_   -- 13
    refine ow_do_eq (does_store_all 0 rfl rfl rfl (one_u8s _) Tryd.sizeOf23 (by show (List.map vU8 (cutw k d)).length = _; rw [List.length_map]; exact (cutw_len hd h2)) (by show (List.map vU8 zeros32).length = _; rw [List.length_map]; exact zeros32_len)) ?_
    refine ow_nil (into ?_)
    exact sw_ret (fun w hm => ret_cell 0 rfl rfl hm rfl Tryd.isAgg23 Tryd.sizeOf23 (by rw [List.length_map]; exact cutw_len hd h2) ⟨rfl, hm.forgetAll⟩)

theorem tw_is {w8 : UInt8} {k : Nat} (hk : 1 + w8.toNat % 32 = k) (w : World) : Calls Tryd.prog 27 #[vU8 w8] w fun e w' => ∃ v, e = .returned v ∧ v = vInt (k : Int) ∧ Mem w [] [] w' := by subst hk; exact tw_any w8 w
/-- Two leaves of the width, one proof of digests of it. -/
theorem up_flag (k : Nat) (x y : List UInt8) : ∀ (r : List (List UInt8)) (i n : UInt64), (upR k x i n r).2 = (upR k y i n r).2
  | [], i, n => by unfold upR; split <;> rfl
  | p :: r, i, n => by
    unfold upR
    split; rfl
    split
    · exact up_flag k x y r _ _
    · exact up_flag k x y r _ _
structure RootLaw (k : Nat) (x y : List UInt8) (i n : UInt64) (P : List (List UInt8)) : Prop where
  same : (rootO (k : Int) x i n P).2 = (rootO (k : Int) y i n P).2
  rng : (rootO (k : Int) x i n P).2 = 0 → ¬ n ≤ i
  zx : (rootO (k : Int) x i n P).2 ≠ 0 → (rootO (k : Int) x i n P).1 = zeros32
  zy : (rootO (k : Int) x i n P).2 ≠ 0 → (rootO (k : Int) y i n P).1 = zeros32
  inx : (rootO (k : Int) x i n P).2 = 0 → inclO (k : Int) x i n P (rootO (k : Int) x i n P).1 = 0
  iny : (rootO (k : Int) x i n P).2 = 0 → inclO (k : Int) y i n P (rootO (k : Int) y i n P).1 = 0
  dif : (rootO (k : Int) x i n P).2 = 0 → (rootO (k : Int) x i n P).1 ≠ (rootO (k : Int) y i n P).1 → inclO (k : Int) x i n P (rootO (k : Int) y i n P).1 = 10
theorem root_law {k : Nat} (h1 : 1 ≤ k) (h2 : k ≤ 32) {x y : List UInt8} {i n : UInt64} {P : List (List UInt8)} (hx : fm (k : Int) x = true) (hy : fm (k : Int) y = true) (hP : ∀ d ∈ P, fm (k : Int) d = true) : RootLaw k x y i n P := by
  have ex : allE (k : Int) P [x] = 0 := by rw [allE, chk_all (wd_of h1 h2) (fun d hd => by obtain rfl := List.mem_singleton.1 hd; exact hx), if_neg (by simp), chk_all (wd_of h1 h2) hP]
  have ey : allE (k : Int) P [y] = 0 := by rw [allE, chk_all (wd_of h1 h2) (fun d hd => by obtain rfl := List.mem_singleton.1 hd; exact hy), if_neg (by simp), chk_all (wd_of h1 h2) hP]
  have fx : ∀ r, (∀ d ∈ r, fm (k : Int) d = true) → ∀ i n, fm (k : Int) (upR k x i n r).1 = true := fun r _ i n => upR_fm h1 h2 hx r i n
  have rx : rootO (k : Int) x i n P = if n ≤ i then (zeros32, 4) else if (upR k x i n P.reverse).2 = true then ((upR k x i n P.reverse).1, 0) else (zeros32, 10) := by rw [rootO, if_neg (by simp [ex]), Int.toNat_natCast]
  have ry : rootO (k : Int) y i n P = if n ≤ i then (zeros32, 4) else if (upR k x i n P.reverse).2 = true then ((upR k y i n P.reverse).1, 0) else (zeros32, 10) := by rw [rootO, if_neg (by simp [ey]), Int.toNat_natCast, up_flag k x y]
  have cf : ∀ d, fm (k : Int) d = true → chk (k : Int) [d] = 0 := fun d hd => chk_all (wd_of h1 h2) (fun e he => by obtain rfl := List.mem_singleton.1 he; exact hd)
  by_cases hr : n ≤ i
  · rw [if_pos hr] at rx ry
    refine ⟨by rw [rx, ry], fun h => ?_, fun _ => by rw [rx], fun _ => by rw [ry], fun h => ?_, fun h => ?_, fun h => ?_⟩ <;> (rw [rx] at h; cases h)
  · rw [if_neg hr] at rx ry
    cases hu : (upR k x i n P.reverse).2 with
    | false =>
      rw [if_neg (by rw [hu]; decide)] at rx ry
      refine ⟨by rw [rx, ry], fun h => ?_, fun _ => by rw [rx], fun _ => by rw [ry], fun h => ?_, fun h => ?_, fun h => ?_⟩ <;> (rw [rx] at h; cases h)
    | true =>
      rw [if_pos hu] at rx ry
      have gx := upR_fm h1 h2 hx P.reverse i n
      have gy := upR_fm h1 h2 hy P.reverse i n
      refine ⟨by rw [rx, ry], fun _ => hr, fun h => absurd (by rw [rx]) h, fun h => absurd (by rw [rx]) h, fun _ => ?_, fun _ => ?_, fun _ hne => ?_⟩
      · rw [inclO, if_neg (by rw [rx]; simp [cf _ gx]), rx, if_neg (by simp), if_neg (by simp)]
      · rw [inclO, if_neg (by rw [ry]; simp [cf _ gy]), ry, if_neg (by simp), if_neg (by simp)]
      · rw [inclO, if_neg (by rw [ry]; simp [cf _ gy]), if_neg (by rw [rx]; simp), if_pos hne]
theorem root_one {k : Nat} (h1 : 1 ≤ k) (h2 : k ≤ 32) {x : List UInt8} (hx : fm (k : Int) x = true) : rootO (k : Int) x 0 1 [] = (x, 0) := by
  have ex : allE (k : Int) [] [x] = 0 := by rw [allE, chk_all (wd_of h1 h2) (fun d hd => by obtain rfl := List.mem_singleton.1 hd; exact hx), if_neg (by simp), chk_all (wd_of h1 h2) (fun _ h => by cases h)]
  rw [rootO, if_neg (by simp [ex]), if_neg (by decide), Int.toNat_natCast, List.reverse_nil, upR, if_pos rfl, if_pos rfl]

theorem whole_good (w8 : UInt8) (da db : List UInt8) (hal : da.length = 32) (hbl : db.length = 32) (i n : UInt64) (w : World) (hK : KW w) (a : Option Addr) (c : Nat) (proof : List (List UInt8)) (hpl : ∀ d ∈ proof, d.length = 32) (hr : Rd w a (proof.flatMap fun d => d.map vU8)) (hc : proof.length ≤ c) (hl : proof.length < 9223372036854775808) (hb : (proof.length + 2) * 32 ≤ 140737488355328) (k : Nat) (hk : 1 + w8.toNat % 32 = k) (h1 : 1 ≤ k) (h2 : k ≤ 32) (x y : List UInt8) (hx : cutw k da = x) (hy : cutw k db = y) (hxl : x.length = 32) (hyl : y.length = 32) (hxf : fm (k : Int) x = true) (hyf : fm (k : Int) y = true) (hL : RootLaw k x y i n (proof.map (cutw k))) (hgood : (rootO (k : Int) x i n (proof.map (cutw k))).2 = 0) : Calls Tryd.prog 11 #[vU8 w8, .agg ((da).map vU8).toArray, .agg ((db).map vU8).toArray, vU64 i, vU64 n, .slice a proof.length c] w fun e w' => ∃ v, e = .returned v ∧ v = .bool true ∧ Mem w [] [] w' := by
  obtain ⟨tiD, hDi, hDz, hDsz, hDby⟩ := info_parts iD
  refine calls_of_sw (vs := [vU8 w8, .agg ((da).map vU8).toArray, .agg ((db).map vU8).toArray, vU64 i, vU64 n, .slice a proof.length c]) Tryd.func11 rfl Tryd.ntmps11 rfl (SW.begin ?_)
  refine sw_seq ?_
  refine sw_region ?_
  refine ow_new (acts_box rfl) rfl (fun b7 hb7 => ?_)   -- 7
  refine ow_new (acts_box rfl) rfl (fun b8 hb8 => ?_)   -- 8
  refine ow_val (val_assign rfl) rfl ?_   -- 12
  refine ow_nil (into ?_)
  refine sw_seq ?_
  refine sw_region ?_
  refine ow_val (val_move rfl) rfl ?_   -- 24
  refine ow_call_pure (v := vInt (k : Int)) (callsTo Tryd.func27 rfl (by kernel_rfl) rfl) rfl (fun w hm => tw_is hk w) ?_   -- 25
  refine ow_val (val_assign rfl) rfl ?_   -- 13
  refine ow_nil (into ?_)
  refine sw_seq ?_
  refine sw_region ?_
  refine ow_val (val_move rfl) rfl ?_   -- 26
  refine ow_val (val_load_all 1 rfl rfl Tryd.isAgg23 Tryd.sizeOf23 (by show (List.map vU8 da).length = _; rw [List.length_map]; exact hal)) rfl ?_   -- 27
  refine ow_call_pure (v := .agg ((x).map vU8).toArray) (callsTo Tryd.func28 rfl (by kernel_rfl) rfl) rfl (fun w hm => (by have h := tcut_any k h2 da hal w; rw [hx] at h; exact h)) ?_   -- 28
  refine ow_new (acts_alloc zD) rfl (fun b14 hb14 => ?_)   -- 14
  refine ow_do_eq (does_store_all 0 rfl rfl rfl (one_u8s _) Tryd.sizeOf23 (by show (List.map vU8 x).length = _; rw [List.length_map]; exact hxl) (by show (List.map vU8 zeros32).length = _; rw [List.length_map]; exact zeros32_len)) ?_
  refine ow_nil (into ?_)
  refine sw_seq ?_
  refine sw_region ?_
  refine ow_val (val_move rfl) rfl ?_   -- 29
  refine ow_val (val_load_all 1 rfl rfl Tryd.isAgg23 Tryd.sizeOf23 (by show (List.map vU8 db).length = _; rw [List.length_map]; exact hbl)) rfl ?_   -- 30
  refine ow_call_pure (v := .agg ((y).map vU8).toArray) (callsTo Tryd.func28 rfl (by kernel_rfl) rfl) rfl (fun w hm => (by have h := tcut_any k h2 db hbl w; rw [hy] at h; exact h)) ?_   -- 31
  refine ow_new (acts_alloc zD) rfl (fun b15 hb15 => ?_)   -- 15
  refine ow_do_eq (does_store_all 0 rfl rfl rfl (one_u8s _) Tryd.sizeOf23 (by show (List.map vU8 y).length = _; rw [List.length_map]; exact hyl) (by show (List.map vU8 zeros32).length = _; rw [List.length_map]; exact zeros32_len)) ?_
  refine ow_nil (into ?_)
  refine sw_seq ?_
  refine sw_region ?_
  refine ow_val (val_move rfl) rfl ?_   -- 33
  refine ow_val (val_load_all 1 rfl rfl Tryd.isAgg23 Tryd.sizeOf23 (by show (List.map vU8 x).length = _; rw [List.length_map]; exact hxl)) rfl ?_   -- 34
  refine ow_call_pure (v := .tuple #[.agg ((x).map vU8).toArray, vInt ((0 : Nat) : Int)]) (callsTo Tryd.func12 rfl (by kernel_rfl) rfl) rfl (fun w hm => (by have h := mroot_any (k : Int) x hxl 0 1 w (hK.mem0 hm) none 0 0 ([]) rfl (fun _ h => by cases h) (Rd.nil _ _) (by decide) (by decide) (by decide); rw [root_one h1 h2 hxf] at h; exact h)) ?_   -- 35
  refine ow_val (val_move rfl) rfl ?_   -- 32
  refine ow_val (val_extract rfl rfl) rfl ?_   -- 36
  refine ow_val (val_extract rfl rfl) rfl ?_   -- 37
  refine ow_new (acts_alloc zD) rfl (fun b16 hb16 => ?_)   -- 16
  refine ow_do_eq (does_store_all 0 rfl rfl rfl (one_u8s _) Tryd.sizeOf23 (by show (List.map vU8 x).length = _; rw [List.length_map]; exact hxl) (by show (List.map vU8 zeros32).length = _; rw [List.length_map]; exact zeros32_len)) ?_
  refine ow_val (val_assign rfl) rfl ?_   -- 17
  refine ow_nil (into ?_)
  refine sw_seq ?_
  refine sw_seq ?_
  refine sw_region ?_
  refine ow_val (val_move rfl) rfl ?_   -- 38
  refine ow_val ((val_neq_int rfl rfl).to (v' := .bool false) (congrArg Value.bool (decide_eq_false (fun h => h (by simp))))) rfl ?_   -- 39
  refine ow_val (val_move rfl) rfl ?_   -- 40
  refine ow_guard_yes rfl rfl rfl ?_
  refine ow_val (val_load_all 0 rfl rfl Tryd.isAgg23 Tryd.sizeOf23 (by show (List.map vU8 x).length = _; rw [List.length_map]; exact hxl)) rfl ?_   -- 41
  refine ow_guard_yes rfl rfl rfl ?_
  refine ow_val (val_load_all 2 rfl rfl Tryd.isAgg23 Tryd.sizeOf23 (by show (List.map vU8 x).length = _; rw [List.length_map]; exact hxl)) rfl ?_   -- 42
  refine ow_guard_yes rfl rfl rfl ?_
  refine ow_val ((val_neq_u8s rfl rfl Tryd.eqGuardType23 Tryd.underlying23 Tryd.underlying5 Tryd.sizeOf5 Tryd.isAgg5 hxl hxl).to (congrArg Value.bool (show _ = false by simp [txt]))) rfl ?_   -- 43
  refine ow_val (val_pick_false rfl rfl) rfl ?_   -- 44
  refine ow_nil (into ?_)
  refine sw_false rfl rfl ?_
  refine sw_skip (into ?_)
  refine sw_seq ?_
  refine sw_region ?_
  refine ow_val (val_assign rfl) rfl ?_   -- 18
  refine ow_nil (into ?_)
  refine sw_seq ?_
  refine sw_seq ?_
  refine sw_region ?_
  refine ow_val (val_assign rfl) rfl ?_   -- 19
  refine ow_nil (into ?_)
  refine sw_block ?_
  refine sw_loop (σ := Option Addr × Nat × Nat × Ent) (fun t => t.2.2.1 ≤ proof.length ∧ RowE (.slice t.1 t.2.2.1 t.2.1) 23 32 t.2.2.1 (((proof.take t.2.2.1).map (cutw k)).flatMap fun d => d.map vU8) t.2.2.2) (fun t => [(19, vInt (t.2.2.1 : Int)), (18, .slice t.1 t.2.2.1 t.2.1), (15, .pointer (some ⟨b15, 0, none⟩)), (14, .pointer (some ⟨b14, 0, none⟩)), (13, vInt (k : Int)), (5, .slice a proof.length c), (4, vU64 n), (3, vU64 i)]) (fun t => Mem w [] [t.2.2.2, some (b15, blk (y.map vU8) 23), some (b14, blk (x.map vU8) 23)]) (fun t => proof.length - t.2.2.1) (none, 0, 0, none) ⟨Nat.zero_le _, RowE.nil _ _⟩ ⟨rfl, rfl, rfl, rfl, rfl, rfl, rfl, rfl, trivial⟩ (fun w hm => (hm.only (.cons _ (.cons_cons _ (.cons_cons _ (List.nil_sublist _))))).place) ?_
  rintro ⟨ap, cp, j, ep⟩ ⟨hj, hrow⟩
  simp only at hj hrow ⊢
  refine sw_seq ?_
  refine sw_seq ?_
  refine sw_region ?_
  refine ow_val (val_move rfl) rfl ?_   -- 45
  refine ow_val (val_move rfl) rfl ?_   -- 46
  refine ow_val (val_len rfl Tryd.underlying25) rfl ?_   -- 47
  refine ow_val (val_lss_int rfl rfl) rfl ?_   -- 48
  refine ow_nil (into ?_)
  refine sw_if rfl (fun h0 => ?_) (fun h0 => ?_)
  · -- then
    obtain ⟨ba, oa, rfl⟩ := hr.addr (by rw [flatMap_size proof (fun x hx => by rw [List.length_map]; exact hpl x hx)]; omega)
    refine sw_skip (into ?_)
    refine sw_seq ?_
    refine sw_block ?_
    refine sw_region ?_
    refine ow_val (val_move rfl) rfl ?_   -- 51
    refine ow_val (val_move rfl) rfl ?_   -- 52
    refine ow_val (val_move rfl) rfl ?_   -- 53
    refine ow_val (val_move rfl) rfl ?_   -- 54
    refine ow_val (val_indexAddr_slice (j) (oa + j * 32) rfl rfl Tryd.underlying25 Tryd.sizeOf23 (by omega) (by omega) (by omega)) rfl ?_   -- 55
    refine ow_val (val_load_elem (cells := fun d => d.map vU8) (l := proof) (o := oa) (i := j) rfl Tryd.isAgg23 Tryd.sizeOf23 (fun x hx => by rw [List.length_map]; exact hpl x hx) (by omega) (by omega) (fun w' hm => hr.mem hm)) rfl ?_   -- 56
    refine ow_call_pure (callsTo Tryd.func28 rfl (by kernel_rfl) rfl) rfl (fun w hm => tcut_any k h2 (proof.getD j default) (hpl _ (getD_mem (by omega))) w) ?_   -- 57
    refine ow_make (acts_buildSlice (cs := [((cutw k (proof.getD j default))).map vU8].flatten) Tryd.underlying25 Tryd.sizeOf23 zD rfl rfl (fill_aggs [((cutw k (proof.getD j default))).map vU8] (by decide) rfl (by simp only [List.forall_mem_cons, List.length_map]; exact ⟨(cutw_len (hpl _ (getD_mem (by omega))) h2), fun _ h => by cases h⟩))) rfl (fun b58 hb58 => ?_)   -- 58
    refine ow_append' (k := j + 1) (acts_append (size := 32) (bytes := 32) 1 rfl rfl rfl hrow rfl Tryd.underlying25 hDi hDz hDsz hDby rfl (by decide) (fun w hm => (Rd.blk (hm.at (i := 0) rfl))) (by simp only [List.flatten_cons, List.flatten_nil, List.append_nil, List.length_map]; exact cutw_len (hpl _ (getD_mem (by omega))) h2) (fun u hu => by simp only [List.flatten_cons, List.flatten_nil, List.append_nil] at hu; exact one_u8s _ u hu) (by omega) (by omega)) rfl (fun a59 c59 e59 hr59 => ?_)   -- 59
    refine ow_val (val_assign rfl) rfl ?_   -- 18
    refine ow_nil (into ?_)
    refine sw_region ?_
    refine ow_val (val_move rfl) rfl ?_   -- 49
    refine ow_val (val_add_int ((j + 1 : Nat) : Int) rfl rfl (by omega) (by omega)) rfl ?_   -- 50
    refine ow_val (val_assign rfl) rfl ?_   -- 19
    exact ow_nil (fun w hm => ⟨(a59, c59, j + 1, e59), ⟨by dsimp only; omega, hr59.cong rfl rfl (by dsimp only; rw [List.take_succ_eq_append_getElem (by omega), List.map_append, List.flatMap_append]; simp [List.getD_eq_getElem?_getD, show j < proof.length by omega])⟩, by dsimp only; omega, ⟨rfl, rfl, rfl, rfl, rfl, rfl, rfl, rfl, trivial⟩, hm.only (.cons _ (.cons_cons _ (.cons_cons _ (.cons_cons _ (List.nil_sublist _)))))⟩)
  · -- else
    obtain rfl : j = proof.length := by omega
    rw [List.take_length] at hrow
    refine sw_exit (into ?_)
    refine sw_seq ?_
    refine sw_region ?_
    refine ow_val (val_move rfl) rfl ?_   -- 61
    refine ow_val (val_load_all 2 rfl rfl Tryd.isAgg23 Tryd.sizeOf23 (by show (List.map vU8 x).length = _; rw [List.length_map]; exact hxl)) rfl ?_   -- 62
    refine ow_val (val_move rfl) rfl ?_   -- 63
    refine ow_val (val_move rfl) rfl ?_   -- 64
    refine ow_val (val_move rfl) rfl ?_   -- 65
    refine ow_call_pure (callsTo Tryd.func12 rfl (by kernel_rfl) rfl) rfl (fun w hm => mroot_any (k : Int) x hxl i n w (hK.mem0 hm) ap proof.length cp (proof.map (cutw k)) (by rw [List.length_map]) (fun y hy => by obtain ⟨d, hd, rfl⟩ := List.mem_map.1 hy; exact cutw_len (hpl d hd) h2) (hrow.rdAt hm (i := 0) rfl) hrow.le (by omega) (by omega)) ?_   -- 66
    refine ow_val (val_move rfl) rfl ?_   -- 60
    refine ow_val (val_extract rfl rfl) rfl ?_   -- 67
    refine ow_val (val_extract rfl rfl) rfl ?_   -- 68
    refine ow_new (acts_alloc zD) rfl (fun b20 hb20 => ?_)   -- 20
    refine ow_do_eq (does_store_all 0 rfl rfl rfl (one_u8s _) Tryd.sizeOf23 (by show (List.map vU8 ((rootO (k : Int) x i n (proof.map (cutw k))).1)).length = _; rw [List.length_map]; exact (rootO_len hxl)) (by show (List.map vU8 zeros32).length = _; rw [List.length_map]; exact zeros32_len)) ?_
    refine ow_val (val_assign rfl) rfl ?_   -- 21
    refine ow_nil (into ?_)
    refine sw_seq ?_
    refine sw_region ?_
    refine ow_val (val_move rfl) rfl ?_   -- 70
    refine ow_val (val_load_all 2 rfl rfl Tryd.isAgg23 Tryd.sizeOf23 (by show (List.map vU8 y).length = _; rw [List.length_map]; exact hyl)) rfl ?_   -- 71
    refine ow_val (val_move rfl) rfl ?_   -- 72
    refine ow_val (val_move rfl) rfl ?_   -- 73
    refine ow_val (val_move rfl) rfl ?_   -- 74
    refine ow_call_pure (callsTo Tryd.func12 rfl (by kernel_rfl) rfl) rfl (fun w hm => mroot_any (k : Int) y hyl i n w (hK.mem0 hm) ap proof.length cp (proof.map (cutw k)) (by rw [List.length_map]) (fun y hy => by obtain ⟨d, hd, rfl⟩ := List.mem_map.1 hy; exact cutw_len (hpl d hd) h2) (hrow.rdAt hm (i := 1) rfl) hrow.le (by omega) (by omega)) ?_   -- 75
    refine ow_val (val_move rfl) rfl ?_   -- 69
    refine ow_val (val_extract rfl rfl) rfl ?_   -- 76
    refine ow_val (val_extract rfl rfl) rfl ?_   -- 77
    refine ow_new (acts_alloc zD) rfl (fun b22 hb22 => ?_)   -- 22
    refine ow_do_eq (does_store_all 0 rfl rfl rfl (one_u8s _) Tryd.sizeOf23 (by show (List.map vU8 ((rootO (k : Int) y i n (proof.map (cutw k))).1)).length = _; rw [List.length_map]; exact (rootO_len hyl)) (by show (List.map vU8 zeros32).length = _; rw [List.length_map]; exact zeros32_len)) ?_
    refine ow_val (val_assign rfl) rfl ?_   -- 23
    refine ow_nil (into ?_)
    refine sw_seq ?_
    refine sw_seq ?_
    refine sw_region ?_
    refine ow_val (val_move rfl) rfl ?_   -- 78
    refine ow_val (val_move rfl) rfl ?_   -- 79
    refine ow_val ((val_neq_int rfl rfl).to (congrArg Value.bool (decide_eq_false ((fun h => h (by rw [hL.same])))))) rfl ?_   -- 80
    refine ow_val (val_move rfl) rfl ?_   -- 81
    refine ow_guard_yes rfl rfl rfl ?_
    refine ow_val (val_move rfl) rfl ?_   -- 82
    refine ow_guard_yes rfl rfl rfl ?_
    refine ow_val ((val_eql_int rfl rfl).to (v' := .bool true) (congrArg Value.bool (decide_eq_true (by omega)))) rfl ?_   -- 83
    refine ow_guard_yes rfl rfl rfl ?_
    refine ow_val (val_move rfl) rfl ?_   -- 84
    refine ow_guard_yes rfl rfl rfl ?_
    refine ow_val (val_move rfl) rfl ?_   -- 85
    refine ow_guard_yes rfl rfl rfl ?_
    refine ow_val (val_move rfl) rfl ?_   -- 86
    refine ow_guard_yes rfl rfl rfl ?_
    refine ow_val ((val_geq_u64 rfl rfl).to (v' := .bool false) (congrArg Value.bool (decide_eq_false (hL.rng hgood)))) rfl ?_   -- 87
    refine ow_guard_yes rfl rfl rfl ?_
    refine ow_val (val_pick_true rfl rfl) rfl ?_   -- 88
    refine ow_val (val_pick_false rfl rfl) rfl ?_   -- 89
    refine ow_nil (into ?_)
    refine sw_false rfl rfl ?_
    refine sw_skip (into ?_)
    refine sw_seq ?_
    refine sw_seq ?_
    refine sw_region ?_
    refine ow_val (val_move rfl) rfl ?_   -- 90
    refine ow_val ((val_neq_int rfl rfl).to (v' := .bool false) (congrArg Value.bool (decide_eq_false (fun h => h (by omega))))) rfl ?_   -- 91
    refine ow_nil (into ?_)
    refine sw_false rfl rfl ?_
    refine sw_skip (into ?_)
    refine sw_seq ?_
    refine sw_region ?_
    refine ow_val (val_move rfl) rfl ?_   -- 100
    refine ow_val (val_load_all 4 rfl rfl Tryd.isAgg23 Tryd.sizeOf23 (by show (List.map vU8 x).length = _; rw [List.length_map]; exact hxl)) rfl ?_   -- 101
    refine ow_val (val_move rfl) rfl ?_   -- 102
    refine ow_val (val_move rfl) rfl ?_   -- 103
    refine ow_val (val_move rfl) rfl ?_   -- 104
    refine ow_val (val_load_all 1 rfl rfl Tryd.isAgg23 Tryd.sizeOf23 (by show (List.map vU8 ((rootO (k : Int) x i n (proof.map (cutw k))).1)).length = _; rw [List.length_map]; exact (rootO_len hxl))) rfl ?_   -- 105
    refine ow_call_pure (v := vInt ((0 : Nat) : Int)) (callsTo Tryd.func16 rfl (by kernel_rfl) rfl) rfl (fun w hm => (by have h := mincl_any (k : Int) x hxl i n ((rootO (k : Int) x i n (proof.map (cutw k))).1) (rootO_len hxl) w (hK.mem0 hm) ap proof.length cp (proof.map (cutw k)) (by rw [List.length_map]) (fun y hy => by obtain ⟨d, hd, rfl⟩ := List.mem_map.1 hy; exact cutw_len (hpl d hd) h2) (hrow.rdAt hm (i := 2) rfl) hrow.le (by omega) (by omega); rw [hL.inx hgood] at h; exact h)) ?_   -- 106
    refine ow_val ((val_eql_int rfl rfl).to (v' := .bool true) (congrArg Value.bool (decide_eq_true (by simp)))) rfl ?_   -- 107
    refine ow_val (val_move rfl) rfl ?_   -- 108
    refine ow_guard_yes rfl rfl rfl ?_
    refine ow_val (val_move rfl) rfl ?_   -- 109
    refine ow_guard_yes rfl rfl rfl ?_
    refine ow_val (val_load_all 3 rfl rfl Tryd.isAgg23 Tryd.sizeOf23 (by show (List.map vU8 y).length = _; rw [List.length_map]; exact hyl)) rfl ?_   -- 110
    refine ow_guard_yes rfl rfl rfl ?_
    refine ow_val (val_move rfl) rfl ?_   -- 111
    refine ow_guard_yes rfl rfl rfl ?_
    refine ow_val (val_move rfl) rfl ?_   -- 112
    refine ow_guard_yes rfl rfl rfl ?_
    refine ow_val (val_move rfl) rfl ?_   -- 113
    refine ow_guard_yes rfl rfl rfl ?_
    refine ow_val (val_load_all 0 rfl rfl Tryd.isAgg23 Tryd.sizeOf23 (by show (List.map vU8 ((rootO (k : Int) y i n (proof.map (cutw k))).1)).length = _; rw [List.length_map]; exact (rootO_len hyl))) rfl ?_   -- 114
    refine ow_guard_yes rfl rfl rfl ?_
    refine ow_call_pure (v := vInt ((0 : Nat) : Int)) (callsTo Tryd.func16 rfl (by kernel_rfl) rfl) rfl (fun w hm => (by have h := mincl_any (k : Int) y hyl i n ((rootO (k : Int) y i n (proof.map (cutw k))).1) (rootO_len hyl) w (hK.mem0 hm) ap proof.length cp (proof.map (cutw k)) (by rw [List.length_map]) (fun y hy => by obtain ⟨d, hd, rfl⟩ := List.mem_map.1 hy; exact cutw_len (hpl d hd) h2) (hrow.rdAt hm (i := 2) rfl) hrow.le (by omega) (by omega); rw [hL.iny hgood] at h; exact h)) ?_   -- 115
    refine ow_guard_yes rfl rfl rfl ?_
    refine ow_val ((val_eql_int rfl rfl).to (v' := .bool true) (congrArg Value.bool (decide_eq_true (by simp)))) rfl ?_   -- 116
    refine ow_val (val_pick_true rfl rfl) rfl ?_   -- 117
    refine ow_val (val_move rfl) rfl ?_   -- 118
    refine ow_guard_yes rfl rfl rfl ?_
    refine ow_val (val_load_all 4 rfl rfl Tryd.isAgg23 Tryd.sizeOf23 (by show (List.map vU8 x).length = _; rw [List.length_map]; exact hxl)) rfl ?_   -- 119
    refine ow_guard_yes rfl rfl rfl ?_
    refine ow_val (val_load_all 3 rfl rfl Tryd.isAgg23 Tryd.sizeOf23 (by show (List.map vU8 y).length = _; rw [List.length_map]; exact hyl)) rfl ?_   -- 120
    by_cases hxy : x ≠ y
    · -- yes
      refine ow_guard_yes rfl rfl rfl ?_
      refine ow_val ((val_neq_u8s rfl rfl Tryd.eqGuardType23 Tryd.underlying23 Tryd.underlying5 Tryd.sizeOf5 Tryd.isAgg5 hxl hyl).to (congrArg Value.bool (show (!decide _) = true by rw [decide_eq_false hxy]; rfl))) rfl ?_   -- 121
      refine ow_guard_yes rfl rfl rfl ?_
      refine ow_val (val_move rfl) rfl ?_   -- 122
      first | refine ow_guard_no rfl rfl rfl rfl rfl ?_ | refine ow_guard_none rfl rfl rfl rfl rfl ?_
      first | refine ow_guard_no rfl rfl rfl rfl rfl ?_ | refine ow_guard_none rfl rfl rfl rfl rfl ?_
      first | refine ow_guard_no rfl rfl rfl rfl rfl ?_ | refine ow_guard_none rfl rfl rfl rfl rfl ?_
      refine ow_guard_yes rfl rfl rfl ?_
      refine ow_val (val_pick_true rfl rfl) rfl ?_   -- 126
      refine ow_val (val_pick_true rfl rfl) rfl ?_   -- 127
      refine ow_val (val_move rfl) rfl ?_   -- 128
      refine ow_guard_yes rfl rfl rfl ?_
      refine ow_val (val_load_all 1 rfl rfl Tryd.isAgg23 Tryd.sizeOf23 (by show (List.map vU8 ((rootO (k : Int) x i n (proof.map (cutw k))).1)).length = _; rw [List.length_map]; exact (rootO_len hxl))) rfl ?_   -- 129
      refine ow_guard_yes rfl rfl rfl ?_
      refine ow_val (val_load_all 0 rfl rfl Tryd.isAgg23 Tryd.sizeOf23 (by show (List.map vU8 ((rootO (k : Int) y i n (proof.map (cutw k))).1)).length = _; rw [List.length_map]; exact (rootO_len hyl))) rfl ?_   -- 130
      by_cases hne : (rootO (k : Int) x i n (proof.map (cutw k))).1 = (rootO (k : Int) y i n (proof.map (cutw k))).1
      · -- yes
        refine ow_guard_yes rfl rfl rfl ?_
        refine ow_val ((val_eql_u8s rfl rfl Tryd.eqGuardType23 Tryd.underlying23 Tryd.underlying5 Tryd.sizeOf5 Tryd.isAgg5 (rootO_len hxl) (rootO_len hyl)).to (congrArg Value.bool (decide_eq_true (hne)))) rfl ?_   -- 131
        refine ow_guard_yes rfl rfl rfl ?_
        refine ow_val (val_move rfl) rfl ?_   -- 132
        first | refine ow_guard_no rfl rfl rfl rfl rfl ?_ | refine ow_guard_none rfl rfl rfl rfl rfl ?_
        first | refine ow_guard_no rfl rfl rfl rfl rfl ?_ | refine ow_guard_none rfl rfl rfl rfl rfl ?_
        first | refine ow_guard_no rfl rfl rfl rfl rfl ?_ | refine ow_guard_none rfl rfl rfl rfl rfl ?_
        first | refine ow_guard_no rfl rfl rfl rfl rfl ?_ | refine ow_guard_none rfl rfl rfl rfl rfl ?_
        first | refine ow_guard_no rfl rfl rfl rfl rfl ?_ | refine ow_guard_none rfl rfl rfl rfl rfl ?_
        first | refine ow_guard_no rfl rfl rfl rfl rfl ?_ | refine ow_guard_none rfl rfl rfl rfl rfl ?_
        first | refine ow_guard_no rfl rfl rfl rfl rfl ?_ | refine ow_guard_none rfl rfl rfl rfl rfl ?_
        first | refine ow_guard_no rfl rfl rfl rfl rfl ?_ | refine ow_guard_none rfl rfl rfl rfl rfl ?_
        refine ow_guard_yes rfl rfl rfl ?_
        refine ow_val (val_pick_true rfl rfl) rfl ?_   -- 141
        refine ow_val (val_pick_true rfl rfl) rfl ?_   -- 142
        refine ow_val (val_assign rfl) rfl ?_   -- 12
        refine ow_nil (into ?_)
        exact sw_ret (fun w hm => ret_one _ rfl rfl ⟨rfl, hm.forgetAll⟩)
      · -- no
        refine ow_guard_yes rfl rfl rfl ?_
        refine ow_val ((val_eql_u8s rfl rfl Tryd.eqGuardType23 Tryd.underlying23 Tryd.underlying5 Tryd.sizeOf5 Tryd.isAgg5 (rootO_len hxl) (rootO_len hyl)).to (congrArg Value.bool (decide_eq_false (hne)))) rfl ?_   -- 131
        refine ow_guard_yes rfl rfl rfl ?_
        refine ow_val (val_move rfl) rfl ?_   -- 132
        refine ow_guard_yes rfl rfl rfl ?_
        refine ow_val (val_move rfl) rfl ?_   -- 133
        refine ow_guard_yes rfl rfl rfl ?_
        refine ow_val (val_load_all 4 rfl rfl Tryd.isAgg23 Tryd.sizeOf23 (by show (List.map vU8 x).length = _; rw [List.length_map]; exact hxl)) rfl ?_   -- 134
        refine ow_guard_yes rfl rfl rfl ?_
        refine ow_val (val_move rfl) rfl ?_   -- 135
        refine ow_guard_yes rfl rfl rfl ?_
        refine ow_val (val_move rfl) rfl ?_   -- 136
        refine ow_guard_yes rfl rfl rfl ?_
        refine ow_val (val_move rfl) rfl ?_   -- 137
        refine ow_guard_yes rfl rfl rfl ?_
        refine ow_val (val_load_all 0 rfl rfl Tryd.isAgg23 Tryd.sizeOf23 (by show (List.map vU8 ((rootO (k : Int) y i n (proof.map (cutw k))).1)).length = _; rw [List.length_map]; exact (rootO_len hyl))) rfl ?_   -- 138
        refine ow_guard_yes rfl rfl rfl ?_
        refine ow_call_pure (v := vInt ((10 : Nat) : Int)) (callsTo Tryd.func16 rfl (by kernel_rfl) rfl) rfl (fun w hm => (by have h := mincl_any (k : Int) x hxl i n ((rootO (k : Int) y i n (proof.map (cutw k))).1) (rootO_len hyl) w (hK.mem0 hm) ap proof.length cp (proof.map (cutw k)) (by rw [List.length_map]) (fun y hy => by obtain ⟨d, hd, rfl⟩ := List.mem_map.1 hy; exact cutw_len (hpl d hd) h2) (hrow.rdAt hm (i := 2) rfl) hrow.le (by omega) (by omega); rw [hL.dif hgood hne] at h; exact h)) ?_   -- 139
        refine ow_guard_yes rfl rfl rfl ?_
        refine ow_val ((val_eql_int rfl rfl).to (v' := .bool true) (congrArg Value.bool (decide_eq_true (by simp)))) rfl ?_   -- 140
        refine ow_guard_yes rfl rfl rfl ?_
        refine ow_val (val_pick_false rfl rfl) rfl ?_   -- 141
        refine ow_val (val_pick_true rfl rfl) rfl ?_   -- 142
        refine ow_val (val_assign rfl) rfl ?_   -- 12
        refine ow_nil (into ?_)
        exact sw_ret (fun w hm => ret_one _ rfl rfl ⟨rfl, hm.forgetAll⟩)
    · -- no
      refine ow_guard_yes rfl rfl rfl ?_
      refine ow_val ((val_neq_u8s rfl rfl Tryd.eqGuardType23 Tryd.underlying23 Tryd.underlying5 Tryd.sizeOf5 Tryd.isAgg5 hxl hyl).to (congrArg Value.bool (show (!decide _) = false by rw [decide_eq_true (Decidable.not_not.1 hxy)]; rfl))) rfl ?_   -- 121
      refine ow_guard_yes rfl rfl rfl ?_
      refine ow_val (val_move rfl) rfl ?_   -- 122
      refine ow_guard_yes rfl rfl rfl ?_
      refine ow_val (val_load_all 1 rfl rfl Tryd.isAgg23 Tryd.sizeOf23 (by show (List.map vU8 ((rootO (k : Int) x i n (proof.map (cutw k))).1)).length = _; rw [List.length_map]; exact (rootO_len hxl))) rfl ?_   -- 123
      refine ow_guard_yes rfl rfl rfl ?_
      refine ow_val (val_load_all 0 rfl rfl Tryd.isAgg23 Tryd.sizeOf23 (by show (List.map vU8 ((rootO (k : Int) y i n (proof.map (cutw k))).1)).length = _; rw [List.length_map]; exact (rootO_len hyl))) rfl ?_   -- 124
      refine ow_guard_yes rfl rfl rfl ?_
      refine ow_val ((val_eql_u8s rfl rfl Tryd.eqGuardType23 Tryd.underlying23 Tryd.underlying5 Tryd.sizeOf5 Tryd.isAgg5 (rootO_len hxl) (rootO_len hyl)).to (congrArg Value.bool (decide_eq_true ((by rw [Decidable.not_not.1 hxy]))))) rfl ?_   -- 125
      refine ow_guard_yes rfl rfl rfl ?_
      refine ow_val (val_pick_false rfl rfl) rfl ?_   -- 126
      refine ow_val (val_pick_true rfl rfl) rfl ?_   -- 127
      refine ow_val (val_move rfl) rfl ?_   -- 128
      refine ow_guard_yes rfl rfl rfl ?_
      refine ow_val (val_load_all 1 rfl rfl Tryd.isAgg23 Tryd.sizeOf23 (by show (List.map vU8 ((rootO (k : Int) x i n (proof.map (cutw k))).1)).length = _; rw [List.length_map]; exact (rootO_len hxl))) rfl ?_   -- 129
      refine ow_guard_yes rfl rfl rfl ?_
      refine ow_val (val_load_all 0 rfl rfl Tryd.isAgg23 Tryd.sizeOf23 (by show (List.map vU8 ((rootO (k : Int) y i n (proof.map (cutw k))).1)).length = _; rw [List.length_map]; exact (rootO_len hyl))) rfl ?_   -- 130
      by_cases hne : (rootO (k : Int) x i n (proof.map (cutw k))).1 = (rootO (k : Int) y i n (proof.map (cutw k))).1
      · -- yes
        refine ow_guard_yes rfl rfl rfl ?_
        refine ow_val ((val_eql_u8s rfl rfl Tryd.eqGuardType23 Tryd.underlying23 Tryd.underlying5 Tryd.sizeOf5 Tryd.isAgg5 (rootO_len hxl) (rootO_len hyl)).to (congrArg Value.bool (decide_eq_true (hne)))) rfl ?_   -- 131
        refine ow_guard_yes rfl rfl rfl ?_
        refine ow_val (val_move rfl) rfl ?_   -- 132
        first | refine ow_guard_no rfl rfl rfl rfl rfl ?_ | refine ow_guard_none rfl rfl rfl rfl rfl ?_
        first | refine ow_guard_no rfl rfl rfl rfl rfl ?_ | refine ow_guard_none rfl rfl rfl rfl rfl ?_
        first | refine ow_guard_no rfl rfl rfl rfl rfl ?_ | refine ow_guard_none rfl rfl rfl rfl rfl ?_
        first | refine ow_guard_no rfl rfl rfl rfl rfl ?_ | refine ow_guard_none rfl rfl rfl rfl rfl ?_
        first | refine ow_guard_no rfl rfl rfl rfl rfl ?_ | refine ow_guard_none rfl rfl rfl rfl rfl ?_
        first | refine ow_guard_no rfl rfl rfl rfl rfl ?_ | refine ow_guard_none rfl rfl rfl rfl rfl ?_
        first | refine ow_guard_no rfl rfl rfl rfl rfl ?_ | refine ow_guard_none rfl rfl rfl rfl rfl ?_
        first | refine ow_guard_no rfl rfl rfl rfl rfl ?_ | refine ow_guard_none rfl rfl rfl rfl rfl ?_
        refine ow_guard_yes rfl rfl rfl ?_
        refine ow_val (val_pick_true rfl rfl) rfl ?_   -- 141
        refine ow_val (val_pick_true rfl rfl) rfl ?_   -- 142
        refine ow_val (val_assign rfl) rfl ?_   -- 12
        refine ow_nil (into ?_)
        exact sw_ret (fun w hm => ret_one _ rfl rfl ⟨rfl, hm.forgetAll⟩)
      · -- no
        refine ow_guard_yes rfl rfl rfl ?_
        refine ow_val ((val_eql_u8s rfl rfl Tryd.eqGuardType23 Tryd.underlying23 Tryd.underlying5 Tryd.sizeOf5 Tryd.isAgg5 (rootO_len hxl) (rootO_len hyl)).to (congrArg Value.bool (decide_eq_false (hne)))) rfl ?_   -- 131
        refine ow_guard_yes rfl rfl rfl ?_
        refine ow_val (val_move rfl) rfl ?_   -- 132
        refine ow_guard_yes rfl rfl rfl ?_
        refine ow_val (val_move rfl) rfl ?_   -- 133
        refine ow_guard_yes rfl rfl rfl ?_
        refine ow_val (val_load_all 4 rfl rfl Tryd.isAgg23 Tryd.sizeOf23 (by show (List.map vU8 x).length = _; rw [List.length_map]; exact hxl)) rfl ?_   -- 134
        refine ow_guard_yes rfl rfl rfl ?_
        refine ow_val (val_move rfl) rfl ?_   -- 135
        refine ow_guard_yes rfl rfl rfl ?_
        refine ow_val (val_move rfl) rfl ?_   -- 136
        refine ow_guard_yes rfl rfl rfl ?_
        refine ow_val (val_move rfl) rfl ?_   -- 137
        refine ow_guard_yes rfl rfl rfl ?_
        refine ow_val (val_load_all 0 rfl rfl Tryd.isAgg23 Tryd.sizeOf23 (by show (List.map vU8 ((rootO (k : Int) y i n (proof.map (cutw k))).1)).length = _; rw [List.length_map]; exact (rootO_len hyl))) rfl ?_   -- 138
        refine ow_guard_yes rfl rfl rfl ?_
        refine ow_call_pure (v := vInt ((10 : Nat) : Int)) (callsTo Tryd.func16 rfl (by kernel_rfl) rfl) rfl (fun w hm => (by have h := mincl_any (k : Int) x hxl i n ((rootO (k : Int) y i n (proof.map (cutw k))).1) (rootO_len hyl) w (hK.mem0 hm) ap proof.length cp (proof.map (cutw k)) (by rw [List.length_map]) (fun y hy => by obtain ⟨d, hd, rfl⟩ := List.mem_map.1 hy; exact cutw_len (hpl d hd) h2) (hrow.rdAt hm (i := 2) rfl) hrow.le (by omega) (by omega); rw [hL.dif hgood hne] at h; exact h)) ?_   -- 139
        refine ow_guard_yes rfl rfl rfl ?_
        refine ow_val ((val_eql_int rfl rfl).to (v' := .bool true) (congrArg Value.bool (decide_eq_true (by simp)))) rfl ?_   -- 140
        refine ow_guard_yes rfl rfl rfl ?_
        refine ow_val (val_pick_false rfl rfl) rfl ?_   -- 141
        refine ow_val (val_pick_true rfl rfl) rfl ?_   -- 142
        refine ow_val (val_assign rfl) rfl ?_   -- 12
        refine ow_nil (into ?_)
        exact sw_ret (fun w hm => ret_one _ rfl rfl ⟨rfl, hm.forgetAll⟩)

theorem whole_bad (w8 : UInt8) (da db : List UInt8) (hal : da.length = 32) (hbl : db.length = 32) (i n : UInt64) (w : World) (hK : KW w) (a : Option Addr) (c : Nat) (proof : List (List UInt8)) (hpl : ∀ d ∈ proof, d.length = 32) (hr : Rd w a (proof.flatMap fun d => d.map vU8)) (hc : proof.length ≤ c) (hl : proof.length < 9223372036854775808) (hb : (proof.length + 2) * 32 ≤ 140737488355328) (k : Nat) (hk : 1 + w8.toNat % 32 = k) (h1 : 1 ≤ k) (h2 : k ≤ 32) (x y : List UInt8) (hx : cutw k da = x) (hy : cutw k db = y) (hxl : x.length = 32) (hyl : y.length = 32) (hxf : fm (k : Int) x = true) (hyf : fm (k : Int) y = true) (hL : RootLaw k x y i n (proof.map (cutw k))) (hgood : (rootO (k : Int) x i n (proof.map (cutw k))).2 ≠ 0) : Calls Tryd.prog 11 #[vU8 w8, .agg ((da).map vU8).toArray, .agg ((db).map vU8).toArray, vU64 i, vU64 n, .slice a proof.length c] w fun e w' => ∃ v, e = .returned v ∧ v = .bool true ∧ Mem w [] [] w' := by
  obtain ⟨tiD, hDi, hDz, hDsz, hDby⟩ := info_parts iD
  refine calls_of_sw (vs := [vU8 w8, .agg ((da).map vU8).toArray, .agg ((db).map vU8).toArray, vU64 i, vU64 n, .slice a proof.length c]) Tryd.func11 rfl Tryd.ntmps11 rfl (SW.begin ?_)
  refine sw_seq ?_
  refine sw_region ?_
  refine ow_new (acts_box rfl) rfl (fun b7 hb7 => ?_)   -- 7
  refine ow_new (acts_box rfl) rfl (fun b8 hb8 => ?_)   -- 8
  refine ow_val (val_assign rfl) rfl ?_   -- 12
  refine ow_nil (into ?_)
  refine sw_seq ?_
  refine sw_region ?_
  refine ow_val (val_move rfl) rfl ?_   -- 24
  refine ow_call_pure (v := vInt (k : Int)) (callsTo Tryd.func27 rfl (by kernel_rfl) rfl) rfl (fun w hm => tw_is hk w) ?_   -- 25
  refine ow_val (val_assign rfl) rfl ?_   -- 13
  refine ow_nil (into ?_)
  refine sw_seq ?_
  refine sw_region ?_
  refine ow_val (val_move rfl) rfl ?_   -- 26
  refine ow_val (val_load_all 1 rfl rfl Tryd.isAgg23 Tryd.sizeOf23 (by show (List.map vU8 da).length = _; rw [List.length_map]; exact hal)) rfl ?_   -- 27
  refine ow_call_pure (v := .agg ((x).map vU8).toArray) (callsTo Tryd.func28 rfl (by kernel_rfl) rfl) rfl (fun w hm => (by have h := tcut_any k h2 da hal w; rw [hx] at h; exact h)) ?_   -- 28
  refine ow_new (acts_alloc zD) rfl (fun b14 hb14 => ?_)   -- 14
  refine ow_do_eq (does_store_all 0 rfl rfl rfl (one_u8s _) Tryd.sizeOf23 (by show (List.map vU8 x).length = _; rw [List.length_map]; exact hxl) (by show (List.map vU8 zeros32).length = _; rw [List.length_map]; exact zeros32_len)) ?_
  refine ow_nil (into ?_)
  refine sw_seq ?_
  refine sw_region ?_
  refine ow_val (val_move rfl) rfl ?_   -- 29
  refine ow_val (val_load_all 1 rfl rfl Tryd.isAgg23 Tryd.sizeOf23 (by show (List.map vU8 db).length = _; rw [List.length_map]; exact hbl)) rfl ?_   -- 30
  refine ow_call_pure (v := .agg ((y).map vU8).toArray) (callsTo Tryd.func28 rfl (by kernel_rfl) rfl) rfl (fun w hm => (by have h := tcut_any k h2 db hbl w; rw [hy] at h; exact h)) ?_   -- 31
  refine ow_new (acts_alloc zD) rfl (fun b15 hb15 => ?_)   -- 15
  refine ow_do_eq (does_store_all 0 rfl rfl rfl (one_u8s _) Tryd.sizeOf23 (by show (List.map vU8 y).length = _; rw [List.length_map]; exact hyl) (by show (List.map vU8 zeros32).length = _; rw [List.length_map]; exact zeros32_len)) ?_
  refine ow_nil (into ?_)
  refine sw_seq ?_
  refine sw_region ?_
  refine ow_val (val_move rfl) rfl ?_   -- 33
  refine ow_val (val_load_all 1 rfl rfl Tryd.isAgg23 Tryd.sizeOf23 (by show (List.map vU8 x).length = _; rw [List.length_map]; exact hxl)) rfl ?_   -- 34
  refine ow_call_pure (v := .tuple #[.agg ((x).map vU8).toArray, vInt ((0 : Nat) : Int)]) (callsTo Tryd.func12 rfl (by kernel_rfl) rfl) rfl (fun w hm => (by have h := mroot_any (k : Int) x hxl 0 1 w (hK.mem0 hm) none 0 0 ([]) rfl (fun _ h => by cases h) (Rd.nil _ _) (by decide) (by decide) (by decide); rw [root_one h1 h2 hxf] at h; exact h)) ?_   -- 35
  refine ow_val (val_move rfl) rfl ?_   -- 32
  refine ow_val (val_extract rfl rfl) rfl ?_   -- 36
  refine ow_val (val_extract rfl rfl) rfl ?_   -- 37
  refine ow_new (acts_alloc zD) rfl (fun b16 hb16 => ?_)   -- 16
  refine ow_do_eq (does_store_all 0 rfl rfl rfl (one_u8s _) Tryd.sizeOf23 (by show (List.map vU8 x).length = _; rw [List.length_map]; exact hxl) (by show (List.map vU8 zeros32).length = _; rw [List.length_map]; exact zeros32_len)) ?_
  refine ow_val (val_assign rfl) rfl ?_   -- 17
  refine ow_nil (into ?_)
  refine sw_seq ?_
  refine sw_seq ?_
  refine sw_region ?_
  refine ow_val (val_move rfl) rfl ?_   -- 38
  refine ow_val ((val_neq_int rfl rfl).to (v' := .bool false) (congrArg Value.bool (decide_eq_false (fun h => h (by simp))))) rfl ?_   -- 39
  refine ow_val (val_move rfl) rfl ?_   -- 40
  refine ow_guard_yes rfl rfl rfl ?_
  refine ow_val (val_load_all 0 rfl rfl Tryd.isAgg23 Tryd.sizeOf23 (by show (List.map vU8 x).length = _; rw [List.length_map]; exact hxl)) rfl ?_   -- 41
  refine ow_guard_yes rfl rfl rfl ?_
  refine ow_val (val_load_all 2 rfl rfl Tryd.isAgg23 Tryd.sizeOf23 (by show (List.map vU8 x).length = _; rw [List.length_map]; exact hxl)) rfl ?_   -- 42
  refine ow_guard_yes rfl rfl rfl ?_
  refine ow_val ((val_neq_u8s rfl rfl Tryd.eqGuardType23 Tryd.underlying23 Tryd.underlying5 Tryd.sizeOf5 Tryd.isAgg5 hxl hxl).to (congrArg Value.bool (show _ = false by simp [txt]))) rfl ?_   -- 43
  refine ow_val (val_pick_false rfl rfl) rfl ?_   -- 44
  refine ow_nil (into ?_)
  refine sw_false rfl rfl ?_
  refine sw_skip (into ?_)
  refine sw_seq ?_
  refine sw_region ?_
  refine ow_val (val_assign rfl) rfl ?_   -- 18
  refine ow_nil (into ?_)
  refine sw_seq ?_
  refine sw_seq ?_
  refine sw_region ?_
  refine ow_val (val_assign rfl) rfl ?_   -- 19
  refine ow_nil (into ?_)
  refine sw_block ?_
  refine sw_loop (σ := Option Addr × Nat × Nat × Ent) (fun t => t.2.2.1 ≤ proof.length ∧ RowE (.slice t.1 t.2.2.1 t.2.1) 23 32 t.2.2.1 (((proof.take t.2.2.1).map (cutw k)).flatMap fun d => d.map vU8) t.2.2.2) (fun t => [(19, vInt (t.2.2.1 : Int)), (18, .slice t.1 t.2.2.1 t.2.1), (15, .pointer (some ⟨b15, 0, none⟩)), (14, .pointer (some ⟨b14, 0, none⟩)), (13, vInt (k : Int)), (5, .slice a proof.length c), (4, vU64 n), (3, vU64 i)]) (fun t => Mem w [] [t.2.2.2, some (b15, blk (y.map vU8) 23), some (b14, blk (x.map vU8) 23)]) (fun t => proof.length - t.2.2.1) (none, 0, 0, none) ⟨Nat.zero_le _, RowE.nil _ _⟩ ⟨rfl, rfl, rfl, rfl, rfl, rfl, rfl, rfl, trivial⟩ (fun w hm => (hm.only (.cons _ (.cons_cons _ (.cons_cons _ (List.nil_sublist _))))).place) ?_
  rintro ⟨ap, cp, j, ep⟩ ⟨hj, hrow⟩
  simp only at hj hrow ⊢
  refine sw_seq ?_
  refine sw_seq ?_
  refine sw_region ?_
  refine ow_val (val_move rfl) rfl ?_   -- 45
  refine ow_val (val_move rfl) rfl ?_   -- 46
  refine ow_val (val_len rfl Tryd.underlying25) rfl ?_   -- 47
  refine ow_val (val_lss_int rfl rfl) rfl ?_   -- 48
  refine ow_nil (into ?_)
  refine sw_if rfl (fun h0 => ?_) (fun h0 => ?_)
  · -- then
    obtain ⟨ba, oa, rfl⟩ := hr.addr (by rw [flatMap_size proof (fun x hx => by rw [List.length_map]; exact hpl x hx)]; omega)
    refine sw_skip (into ?_)
    refine sw_seq ?_
    refine sw_block ?_
    refine sw_region ?_
    refine ow_val (val_move rfl) rfl ?_   -- 51
    refine ow_val (val_move rfl) rfl ?_   -- 52
    refine ow_val (val_move rfl) rfl ?_   -- 53
    refine ow_val (val_move rfl) rfl ?_   -- 54
    refine ow_val (val_indexAddr_slice (j) (oa + j * 32) rfl rfl Tryd.underlying25 Tryd.sizeOf23 (by omega) (by omega) (by omega)) rfl ?_   -- 55
    refine ow_val (val_load_elem (cells := fun d => d.map vU8) (l := proof) (o := oa) (i := j) rfl Tryd.isAgg23 Tryd.sizeOf23 (fun x hx => by rw [List.length_map]; exact hpl x hx) (by omega) (by omega) (fun w' hm => hr.mem hm)) rfl ?_   -- 56
    refine ow_call_pure (callsTo Tryd.func28 rfl (by kernel_rfl) rfl) rfl (fun w hm => tcut_any k h2 (proof.getD j default) (hpl _ (getD_mem (by omega))) w) ?_   -- 57
    refine ow_make (acts_buildSlice (cs := [((cutw k (proof.getD j default))).map vU8].flatten) Tryd.underlying25 Tryd.sizeOf23 zD rfl rfl (fill_aggs [((cutw k (proof.getD j default))).map vU8] (by decide) rfl (by simp only [List.forall_mem_cons, List.length_map]; exact ⟨(cutw_len (hpl _ (getD_mem (by omega))) h2), fun _ h => by cases h⟩))) rfl (fun b58 hb58 => ?_)   -- 58
    refine ow_append' (k := j + 1) (acts_append (size := 32) (bytes := 32) 1 rfl rfl rfl hrow rfl Tryd.underlying25 hDi hDz hDsz hDby rfl (by decide) (fun w hm => (Rd.blk (hm.at (i := 0) rfl))) (by simp only [List.flatten_cons, List.flatten_nil, List.append_nil, List.length_map]; exact cutw_len (hpl _ (getD_mem (by omega))) h2) (fun u hu => by simp only [List.flatten_cons, List.flatten_nil, List.append_nil] at hu; exact one_u8s _ u hu) (by omega) (by omega)) rfl (fun a59 c59 e59 hr59 => ?_)   -- 59
    refine ow_val (val_assign rfl) rfl ?_   -- 18
    refine ow_nil (into ?_)
    refine sw_region ?_
    refine ow_val (val_move rfl) rfl ?_   -- 49
    refine ow_val (val_add_int ((j + 1 : Nat) : Int) rfl rfl (by omega) (by omega)) rfl ?_   -- 50
    refine ow_val (val_assign rfl) rfl ?_   -- 19
    exact ow_nil (fun w hm => ⟨(a59, c59, j + 1, e59), ⟨by dsimp only; omega, hr59.cong rfl rfl (by dsimp only; rw [List.take_succ_eq_append_getElem (by omega), List.map_append, List.flatMap_append]; simp [List.getD_eq_getElem?_getD, show j < proof.length by omega])⟩, by dsimp only; omega, ⟨rfl, rfl, rfl, rfl, rfl, rfl, rfl, rfl, trivial⟩, hm.only (.cons _ (.cons_cons _ (.cons_cons _ (.cons_cons _ (List.nil_sublist _)))))⟩)
  · -- else
    obtain rfl : j = proof.length := by omega
    rw [List.take_length] at hrow
    refine sw_exit (into ?_)
    refine sw_seq ?_
    refine sw_region ?_
    refine ow_val (val_move rfl) rfl ?_   -- 61
    refine ow_val (val_load_all 2 rfl rfl Tryd.isAgg23 Tryd.sizeOf23 (by show (List.map vU8 x).length = _; rw [List.length_map]; exact hxl)) rfl ?_   -- 62
    refine ow_val (val_move rfl) rfl ?_   -- 63
    refine ow_val (val_move rfl) rfl ?_   -- 64
    refine ow_val (val_move rfl) rfl ?_   -- 65
    refine ow_call_pure (callsTo Tryd.func12 rfl (by kernel_rfl) rfl) rfl (fun w hm => mroot_any (k : Int) x hxl i n w (hK.mem0 hm) ap proof.length cp (proof.map (cutw k)) (by rw [List.length_map]) (fun y hy => by obtain ⟨d, hd, rfl⟩ := List.mem_map.1 hy; exact cutw_len (hpl d hd) h2) (hrow.rdAt hm (i := 0) rfl) hrow.le (by omega) (by omega)) ?_   -- 66
    refine ow_val (val_move rfl) rfl ?_   -- 60
    refine ow_val (val_extract rfl rfl) rfl ?_   -- 67
    refine ow_val (val_extract rfl rfl) rfl ?_   -- 68
    refine ow_new (acts_alloc zD) rfl (fun b20 hb20 => ?_)   -- 20
    refine ow_do_eq (does_store_all 0 rfl rfl rfl (one_u8s _) Tryd.sizeOf23 (by show (List.map vU8 ((rootO (k : Int) x i n (proof.map (cutw k))).1)).length = _; rw [List.length_map]; exact (rootO_len hxl)) (by show (List.map vU8 zeros32).length = _; rw [List.length_map]; exact zeros32_len)) ?_
    refine ow_val (val_assign rfl) rfl ?_   -- 21
    refine ow_nil (into ?_)
    refine sw_seq ?_
    refine sw_region ?_
    refine ow_val (val_move rfl) rfl ?_   -- 70
    refine ow_val (val_load_all 2 rfl rfl Tryd.isAgg23 Tryd.sizeOf23 (by show (List.map vU8 y).length = _; rw [List.length_map]; exact hyl)) rfl ?_   -- 71
    refine ow_val (val_move rfl) rfl ?_   -- 72
    refine ow_val (val_move rfl) rfl ?_   -- 73
    refine ow_val (val_move rfl) rfl ?_   -- 74
    refine ow_call_pure (callsTo Tryd.func12 rfl (by kernel_rfl) rfl) rfl (fun w hm => mroot_any (k : Int) y hyl i n w (hK.mem0 hm) ap proof.length cp (proof.map (cutw k)) (by rw [List.length_map]) (fun y hy => by obtain ⟨d, hd, rfl⟩ := List.mem_map.1 hy; exact cutw_len (hpl d hd) h2) (hrow.rdAt hm (i := 1) rfl) hrow.le (by omega) (by omega)) ?_   -- 75
    refine ow_val (val_move rfl) rfl ?_   -- 69
    refine ow_val (val_extract rfl rfl) rfl ?_   -- 76
    refine ow_val (val_extract rfl rfl) rfl ?_   -- 77
    refine ow_new (acts_alloc zD) rfl (fun b22 hb22 => ?_)   -- 22
    refine ow_do_eq (does_store_all 0 rfl rfl rfl (one_u8s _) Tryd.sizeOf23 (by show (List.map vU8 ((rootO (k : Int) y i n (proof.map (cutw k))).1)).length = _; rw [List.length_map]; exact (rootO_len hyl)) (by show (List.map vU8 zeros32).length = _; rw [List.length_map]; exact zeros32_len)) ?_
    refine ow_val (val_assign rfl) rfl ?_   -- 23
    refine ow_nil (into ?_)
    refine sw_seq ?_
    refine sw_seq ?_
    refine sw_region ?_
    refine ow_val (val_move rfl) rfl ?_   -- 78
    refine ow_val (val_move rfl) rfl ?_   -- 79
    refine ow_val ((val_neq_int rfl rfl).to (congrArg Value.bool (decide_eq_false ((fun h => h (by rw [hL.same])))))) rfl ?_   -- 80
    refine ow_val (val_move rfl) rfl ?_   -- 81
    refine ow_guard_yes rfl rfl rfl ?_
    refine ow_val (val_move rfl) rfl ?_   -- 82
    refine ow_guard_yes rfl rfl rfl ?_
    refine ow_val ((val_eql_int rfl rfl).to (v' := .bool false) (congrArg Value.bool (decide_eq_false (by omega)))) rfl ?_   -- 83
    refine ow_guard_yes rfl rfl rfl ?_
    refine ow_val (val_move rfl) rfl ?_   -- 84
    first | refine ow_guard_no rfl rfl rfl rfl rfl ?_ | refine ow_guard_none rfl rfl rfl rfl rfl ?_
    first | refine ow_guard_no rfl rfl rfl rfl rfl ?_ | refine ow_guard_none rfl rfl rfl rfl rfl ?_
    first | refine ow_guard_no rfl rfl rfl rfl rfl ?_ | refine ow_guard_none rfl rfl rfl rfl rfl ?_
    refine ow_guard_yes rfl rfl rfl ?_
    refine ow_val (val_pick_false rfl rfl) rfl ?_   -- 88
    refine ow_val (val_pick_false rfl rfl) rfl ?_   -- 89
    refine ow_nil (into ?_)
    refine sw_false rfl rfl ?_
    refine sw_skip (into ?_)
    refine sw_seq ?_
    refine sw_seq ?_
    refine sw_region ?_
    refine ow_val (val_move rfl) rfl ?_   -- 90
    refine ow_val ((val_neq_int rfl rfl).to (v' := .bool true) (congrArg Value.bool (decide_eq_true (by omega)))) rfl ?_   -- 91
    refine ow_nil (into ?_)
    refine sw_true rfl rfl ?_
    refine sw_seq ?_
    refine sw_region ?_
    refine ow_val (val_load_all 1 rfl rfl Tryd.isAgg23 Tryd.sizeOf23 (by show (List.map vU8 ((rootO (k : Int) x i n (proof.map (cutw k))).1)).length = _; rw [List.length_map]; exact (rootO_len hxl))) rfl ?_   -- 92
    refine ow_val (val_build' (cs := zeros32.map vU8) rfl (by kernel_rfl)) rfl ?_   -- 93
    refine ow_val ((val_eql_u8s rfl rfl Tryd.eqGuardType23 Tryd.underlying23 Tryd.underlying5 Tryd.sizeOf5 Tryd.isAgg5 (rootO_len hxl) zeros32_len).to (congrArg Value.bool (decide_eq_true ((hL.zx hgood))))) rfl ?_   -- 94
    refine ow_val (val_move rfl) rfl ?_   -- 95
    refine ow_guard_yes rfl rfl rfl ?_
    refine ow_val (val_load_all 0 rfl rfl Tryd.isAgg23 Tryd.sizeOf23 (by show (List.map vU8 ((rootO (k : Int) y i n (proof.map (cutw k))).1)).length = _; rw [List.length_map]; exact (rootO_len hyl))) rfl ?_   -- 96
    refine ow_guard_yes rfl rfl rfl ?_
    refine ow_val (val_load_all 1 rfl rfl Tryd.isAgg23 Tryd.sizeOf23 (by show (List.map vU8 ((rootO (k : Int) x i n (proof.map (cutw k))).1)).length = _; rw [List.length_map]; exact (rootO_len hxl))) rfl ?_   -- 97
    refine ow_guard_yes rfl rfl rfl ?_
    refine ow_val ((val_eql_u8s rfl rfl Tryd.eqGuardType23 Tryd.underlying23 Tryd.underlying5 Tryd.sizeOf5 Tryd.isAgg5 (rootO_len hyl) (rootO_len hxl)).to (congrArg Value.bool (decide_eq_true (((hL.zy hgood).trans (hL.zx hgood).symm))))) rfl ?_   -- 98
    refine ow_val (val_pick_true rfl rfl) rfl ?_   -- 99
    refine ow_val (val_assign rfl) rfl ?_   -- 12
    refine ow_nil (into ?_)
    refine sw_ret (fun w hm => ?_)
    try dsimp only [thenP, blockP, Nat.beq, cond]
    exact ret_one _ rfl rfl ⟨rfl, hm.forgetAll⟩

theorem wholeRootOf_any (w8 : UInt8) (da db : List UInt8) (hal : da.length = 32) (hbl : db.length = 32) (i n : UInt64) (w : World) (hK : KW w) (a : Option Addr) (c : Nat) (proof : List (List UInt8)) (hpl : ∀ d ∈ proof, d.length = 32) (hr : Rd w a (proof.flatMap fun d => d.map vU8)) (hc : proof.length ≤ c) (hl : proof.length < 9223372036854775808) (hb : (proof.length + 2) * 32 ≤ 140737488355328) : Calls Tryd.prog 11 #[vU8 w8, .agg ((da).map vU8).toArray, .agg ((db).map vU8).toArray, vU64 i, vU64 n, .slice a proof.length c] w fun e w' => ∃ v, e = .returned v ∧ v = .bool true ∧ Mem w [] [] w' := by
  obtain ⟨k, hk⟩ : ∃ k, 1 + w8.toNat % 32 = k := ⟨_, rfl⟩
  have h1 : 1 ≤ k := by omega
  have h2 : k ≤ 32 := by omega
  have hxf := fm_cut h1 h2 da hal
  have hyf := fm_cut h1 h2 db hbl
  have hL : RootLaw k (cutw k da) (cutw k db) i n (proof.map (cutw k)) := root_law h1 h2 hxf hyf (fun d hd => by obtain ⟨x, hx, rfl⟩ := List.mem_map.1 hd; exact fm_cut h1 h2 x (hpl x hx))
  by_cases hg : (rootO (k : Int) (cutw k da) i n (proof.map (cutw k))).2 = 0
  · exact whole_good w8 da db hal hbl i n w hK a c proof hpl hr hc hl hb k hk h1 h2 _ _ rfl rfl (cutw_len hal h2) (cutw_len hbl h2) hxf hyf hL hg
  · exact whole_bad w8 da db hal hbl i n w hK a c proof hpl hr hc hl hb k hk h1 h2 _ _ rfl rfl (cutw_len hal h2) (cutw_len hbl h2) hxf hyf hL hg
end Go.Proofs.YtbhbhdojmacpmaaDoor
