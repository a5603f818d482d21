import Derived.Test.YtpmnhmfahgchgaaDoorDig7
import Derived.Test.YtpmnhmfahgchgaaDoorProg
set_option linter.unusedVariables false
set_option linter.unusedSimpArgs false
namespace Go.Proofs.YtpmnhmfahgchgaaDoor
open Go.Sx Go.Ps
/-- A width out of any number. -/
def wid (v : Int) : Nat := ((if v.tmod 32 < 0 then v.tmod 32 + 32 else v.tmod 32) + 1).toNat
theorem wid_range (v : Int) : 1 ≤ wid v ∧ wid v ≤ 32 := by
  have h1 := Int.tmod_lt_of_pos v (show (0 : Int) < 32 by decide)
  have h2 := Int.lt_tmod_of_pos v (show (0 : Int) < 32 by decide)
  unfold wid; split <;> omega
theorem shaOf_len (p : List UInt8) : (shaOf p).length = 32 := hash_len _
theorem sha_get {p : List UInt8} {i : Nat} (h : i < 32) : ((shaOf p).map vU8)[i]? = some (vU8 ((shaOf p).getD i default)) := get_map vU8 (shaOf p) i (by rw [shaOf_len]; exact h)
theorem dig_get {k : Nat} (hk : k ≤ 32) {p : List UInt8} {i : Nat} (h : i < 32) : ((dig k p).map vU8)[i]? = some (vU8 ((dig k p).getD i default)) := get_map vU8 (dig k p) i (by rw [dig_len _ hk]; exact h)
theorem dig_lo {k : Nat} {p : List UInt8} {i : Nat} (hi : i < k) (hk : k ≤ 32) : (dig k p).getD i default = (shaOf p).getD i default := by
  have hl : (shaOf p).length = 32 := hash_len _
  show (cutw k (shaOf p)).getD i default = _
  rw [cutw, List.getD_eq_getElem?_getD, List.getD_eq_getElem?_getD, List.getElem?_append_left (by rw [List.length_take]; omega), List.getElem?_take_of_lt hi]
theorem dig_hi {k : Nat} {p : List UInt8} {i : Nat} (hi : k ≤ i) (hk : i < 32) : (dig k p).getD i default = 0 := by
  have hl : (shaOf p).length = 32 := hash_len _
  show (cutw k (shaOf p)).getD i default = _
  rw [cutw, List.getD_eq_getElem?_getD, List.getElem?_append_right (by rw [List.length_take]; omega), List.getElem?_replicate]
  split <;> rfl

theorem lwidth_neg (v0 : Int) (w : World) (hn : v0.tmod 32 < 0) : Calls Tryd.prog 23 #[vInt v0] w fun e w' => ∃ v, e = .returned v ∧ v = vInt ((wid v0 : Nat) : Int) ∧ Mem w [] [] w' := by
  have hr1 := Int.tmod_lt_of_pos v0 (show (0 : Int) < 32 by decide)
  have hr2 := Int.lt_tmod_of_pos v0 (show (0 : Int) < 32 by decide)
  refine calls_of_sw (vs := [vInt v0]) Tryd.func23 rfl Tryd.ntmps23 rfl (SW.begin ?_)
  refine sw_seq ?_
  refine sw_region ?_
  refine ow_val (val_assign rfl) rfl ?_   -- 2
  refine ow_nil (into ?_)
  refine sw_seq ?_
  refine sw_region ?_
  refine ow_val (val_move rfl) rfl ?_   -- 3
  refine ow_val (val_rem_int rfl rfl (by decide)) rfl ?_   -- 4
  refine ow_val (val_assign rfl) rfl ?_   -- 0
  refine ow_nil (into ?_)
  refine sw_seq ?_
  refine sw_seq ?_
  refine sw_region ?_
  refine ow_val (val_move rfl) rfl ?_   -- 5
  refine ow_val ((val_lss_int rfl rfl).to (congrArg Value.bool (decide_eq_true (hn)))) rfl ?_   -- 6
  refine ow_nil (into ?_)
  refine sw_true rfl rfl ?_
  refine sw_region ?_
  refine ow_val (val_move rfl) rfl ?_   -- 7
  refine ow_val (val_add_int (v0.tmod 32 + 32) rfl rfl rfl (by omega)) rfl ?_   -- 8
  refine ow_val (val_assign rfl) rfl ?_   -- 0
  refine ow_nil (into ?_)
  refine sw_seq ?_
  refine sw_region ?_
  refine ow_val (val_move rfl) rfl ?_   -- 9
  refine ow_val (val_add_int (v0.tmod 32 + 32 + 1) rfl rfl rfl (by omega)) rfl ?_   -- 10
  refine ow_val (val_assign rfl) rfl ?_   -- 2
  refine ow_nil (into ?_)
  refine sw_ret (fun w hm => ?_)
  try dsimp only [thenP, blockP, Nat.beq, cond]
  exact ret_one _ rfl rfl ⟨congrArg vInt (by rw [wid, if_pos hn, Int.toNat_of_nonneg (by omega)]), hm⟩

theorem lwidth_pos (v0 : Int) (w : World) (hn : ¬ v0.tmod 32 < 0) : Calls Tryd.prog 23 #[vInt v0] w fun e w' => ∃ v, e = .returned v ∧ v = vInt ((wid v0 : Nat) : Int) ∧ Mem w [] [] w' := by
  have hr1 := Int.tmod_lt_of_pos v0 (show (0 : Int) < 32 by decide)
  have hr2 := Int.lt_tmod_of_pos v0 (show (0 : Int) < 32 by decide)
  refine calls_of_sw (vs := [vInt v0]) Tryd.func23 rfl Tryd.ntmps23 rfl (SW.begin ?_)
  refine sw_seq ?_
  refine sw_region ?_
  refine ow_val (val_assign rfl) rfl ?_   -- 2
  refine ow_nil (into ?_)
  refine sw_seq ?_
  refine sw_region ?_
  refine ow_val (val_move rfl) rfl ?_   -- 3
  refine ow_val (val_rem_int rfl rfl (by decide)) rfl ?_   -- 4
  refine ow_val (val_assign rfl) rfl ?_   -- 0
  refine ow_nil (into ?_)
  refine sw_seq ?_
  refine sw_seq ?_
  refine sw_region ?_
  refine ow_val (val_move rfl) rfl ?_   -- 5
  refine ow_val ((val_lss_int rfl rfl).to (congrArg Value.bool (decide_eq_false (hn)))) rfl ?_   -- 6
  refine ow_nil (into ?_)
  refine sw_false rfl rfl ?_
  refine sw_skip (into ?_)
  refine sw_seq ?_
  refine sw_region ?_
  refine ow_val (val_move rfl) rfl ?_   -- 9
  refine ow_val (val_add_int (v0.tmod 32 + 1) rfl rfl rfl (by omega)) rfl ?_   -- 10
  refine ow_val (val_assign rfl) rfl ?_   -- 2
  refine ow_nil (into ?_)
  exact sw_ret (fun w hm => ret_one _ rfl rfl ⟨congrArg vInt (by rw [wid, if_neg hn, Int.toNat_of_nonneg (by omega)]), hm⟩)

theorem lwidth_any (v0 : Int) (w : World) : Calls Tryd.prog 23 #[vInt v0] w fun e w' => ∃ v, e = .returned v ∧ v = vInt ((wid v0 : Nat) : Int) ∧ Mem w [] [] w' := by
  by_cases hn : v0.tmod 32 < 0
  · exact lwidth_neg v0 w hn
  · exact lwidth_pos v0 w hn
theorem lwidth_is {v0 : Int} {k : Nat} (h : wid v0 = k) (w : World) : Calls Tryd.prog 23 #[vInt v0] w fun e w' => ∃ v, e = .returned v ∧ v = vInt (k : Int) ∧ Mem w [] [] w' := by subst h; exact lwidth_any v0 w

theorem pieces_ge (w0 v0 : Int) (w : World) (hK : KW w) (a : Option Addr) (c : Nat) (ps : List (Sl UInt8)) (hr : Rd w a (ps.map Sl.v)) (hps : ∀ s ∈ ps, Rd w s.a (s.xs.map vU8) ∧ s.xs.length ≤ s.c ∧ s.xs.length < 9223372036854775808) (hc : ps.length ≤ c) (hl : ps.length < 9223372036854775808) (hb : (ps.flatMap (·.xs)).length ≤ 140737488300000) (hbn : ps.length ≤ 1099511627776) (k j : Nat) (hwk : wid w0 = k) (hvj : wid v0 = j) (h1 : 1 ≤ k) (h2 : k ≤ 32) (h3 : 1 ≤ j) (h4 : j ≤ 32) (hkj : ¬ k < j) : Calls Tryd.prog 6 #[vInt w0, vInt v0, .slice a ps.length c] w fun e w' => ∃ v, e = .returned v ∧ v = .bool true ∧ Mem w [] [] w' := by
  obtain ⟨ti, hti, htz, htsz, htby⟩ := info_parts iu8'
  refine calls_of_sw (vs := [vInt w0, vInt v0, .slice a ps.length c]) Tryd.func6 rfl Tryd.ntmps6 rfl (SW.begin ?_)
  refine sw_seq ?_
  refine sw_region ?_
  refine ow_val (val_assign rfl) rfl ?_   -- 6
  refine ow_nil (into ?_)
  refine sw_seq ?_
  refine sw_region ?_
  refine ow_val (val_move rfl) rfl ?_   -- 18
  refine ow_call_pure (v := vInt (k : Int)) (callsTo Tryd.func23 rfl (by kernel_rfl) rfl) rfl (fun w hm => lwidth_is hwk w) ?_   -- 19
  refine ow_val (val_move rfl) rfl ?_   -- 20
  refine ow_call_pure (v := vInt (j : Int)) (callsTo Tryd.func23 rfl (by kernel_rfl) rfl) rfl (fun w hm => lwidth_is hvj w) ?_   -- 21
  refine ow_val (val_assign rfl) rfl ?_   -- 0
  refine ow_val (val_assign rfl) rfl ?_   -- 1
  refine ow_nil (into ?_)
  refine sw_seq ?_
  refine sw_seq ?_
  refine sw_region ?_
  refine ow_val (val_move rfl) rfl ?_   -- 22
  refine ow_val (val_move rfl) rfl ?_   -- 23
  refine ow_val ((val_lss_int rfl rfl).to (congrArg Value.bool (decide_eq_false (by omega)))) rfl ?_   -- 24
  refine ow_nil (into ?_)
  refine sw_false rfl rfl ?_
  refine sw_skip (into ?_)
  refine sw_seq ?_
  refine sw_region ?_
  refine ow_val (val_assign rfl) rfl ?_   -- 7
  refine ow_nil (into ?_)
  refine sw_seq ?_
  refine sw_seq ?_
  refine sw_region ?_
  refine ow_val (val_move rfl) rfl ?_   -- 27
  refine ow_val (val_len rfl Tryd.underlying32) rfl ?_   -- 28
  refine ow_val (val_move rfl) rfl ?_   -- 29
  refine ow_nil (into ?_)
  refine sw_block ?_
  refine sw_loop (σ := Nat × Option Addr × Nat × Ent × Nat) (fun x => x.1 ≤ ps.length ∧ x.2.2.2.2 = ((ps.take x.1).flatMap (·.xs)).length ∧ RowE (.slice x.2.1 x.2.2.2.2 x.2.2.1) 5 1 x.2.2.2.2 (((ps.take x.1).flatMap (·.xs)).map vU8) x.2.2.2.1) (fun x => [(29, vInt (x.1 : Int)), (28, vInt (ps.length : Int)), (27, .slice a ps.length c), (7, .slice x.2.1 x.2.2.2.2 x.2.2.1), (2, .slice a ps.length c), (1, vInt (j : Int)), (0, vInt (k : Int))]) (fun x => Mem w [] [x.2.2.2.1]) (fun x => ps.length - x.1) (0, none, 0, none, 0) ⟨Nat.zero_le _, rfl, RowE.nil _ _⟩ ⟨rfl, rfl, rfl, rfl, rfl, rfl, rfl, trivial⟩ (fun w hm => hm.forgetAll.place) ?_
  rintro ⟨i, a1, c1, e1, k1⟩ ⟨hi, hk1, hrow1⟩
  simp only at hi hk1 hrow1 ⊢
  refine sw_seq ?_
  refine sw_region ?_
  refine ow_val (val_lss_int rfl rfl) rfl ?_   -- 30
  refine ow_nil (into ?_)
  refine sw_seq ?_
  refine sw_if rfl (fun h0 => ?_) (fun h0 => ?_)
  · -- then
    obtain ⟨ba, oa, rfl⟩ := hr.addr (by rw [List.length_map]; omega)
    have hE := hps _ (getD_mem (l := ps) (i := i) (by omega))
    have hE1 := hE.2.1
    have hE2 := hE.2.2
    have hpt : (ps.take (i + 1)).flatMap (·.xs) = (ps.take i).flatMap (·.xs) ++ (ps.getD i default).xs := by rw [take_getD (l := ps) (by omega), List.flatMap_append, List.flatMap_cons, List.flatMap_nil, List.append_nil]
    have hpl := parts_le ps (i + 1)
    rw [hpt, List.length_append] at hpl
    refine sw_skip (into ?_)
    refine sw_seq ?_
    refine sw_block ?_
    refine sw_seq ?_
    refine sw_region ?_
    refine ow_val (val_indexAddr_slice (i) (oa + i) rfl rfl Tryd.underlying32 Tryd.sizeOf25 (by omega) (by omega) (by omega)) rfl ?_   -- 31
    refine ow_val (val_load (v := Sl.v (ps.getD i default)) rfl Tryd.isAgg25 (fun w' hm => Rd.get (p := ps) (k := i) (hr.mem hm) (by omega) (by omega))) rfl ?_   -- 32
    refine ow_val (val_assign rfl) rfl ?_   -- 9
    refine ow_nil (into ?_)
    refine sw_region ?_
    refine ow_val (val_move rfl) rfl ?_   -- 33
    refine ow_val (val_move rfl) rfl ?_   -- 34
    refine ow_append' (k := k1 + ((ps.getD i default).xs.length)) (acts_append (size := 1) (bytes := 1) 0 rfl rfl rfl hrow1 rfl Tryd.underlying25 hti htz htsz htby rfl (by decide) (fun w hm => ((hps _ (getD_mem (i := i) (by omega))).1.mem hm)) (by rw [List.length_map, Nat.mul_one]) (one_u8s _) (by omega) (by omega)) rfl (fun a35 c35 e35 hq35 => ?_)   -- 35
    have hr35 : RowE (.slice a35 (k1 + ((ps.getD i default).xs.length)) c35) 5 1 (k1 + ((ps.getD i default).xs.length)) (((((ps.take i).flatMap (·.xs)) ++ ((ps.getD i default).xs))).map vU8) e35 := hq35.cong rfl rfl (by rw [List.map_append (l₁ := ((ps.take i).flatMap (·.xs)))])
    refine ow_val (val_assign rfl) rfl ?_   -- 7
    refine ow_nil (into ?_)
    refine sw_region ?_
    refine ow_val (val_add_int ((i + 1 : Nat) : Int) rfl rfl (by omega) (by omega)) rfl ?_   -- 36
    refine ow_val (val_move rfl) rfl ?_   -- 29
    exact ow_nil (fun w hm => ⟨(i + 1, a35, c35, e35, _), ⟨by dsimp only; omega, (by dsimp only; rw [hpt, List.length_append, hk1]), (by dsimp only; rw [hpt]; exact hr35)⟩, by dsimp only; omega, ⟨rfl, rfl, rfl, rfl, rfl, rfl, rfl, trivial⟩, hm.only (.cons_cons _ (List.nil_sublist _))⟩)
  · -- else
    obtain rfl : i = ps.length := by omega
    rw [List.take_length] at hk1 hrow1
    have hle1 := hrow1.le
    refine sw_exit (into ?_)
    refine sw_seq ?_
    refine sw_region ?_
    refine ow_val (val_move rfl) rfl ?_   -- 38
    refine ow_val (val_move rfl) rfl ?_   -- 39
    refine ow_call_tail (fun t : Option Addr × Nat × List (Sl UInt8) × Ent × List Ent => .slice t.1 t.2.2.1.length t.2.1) (fun t => t.2.2.2.1 :: t.2.2.2.2) (fun t => RowE (.slice t.1 t.2.2.1.length t.2.1) 25 1 t.2.2.1.length (t.2.2.1.map Sl.v) t.2.2.2.1 ∧ t.2.2.1.map (·.xs) = (ps).map (·.xs) ∧ ∀ s ∈ t.2.2.1, OwnSl t.2.2.2.2 s) (callsTo Tryd.func18 rfl (by kernel_rfl) rfl) rfl (fun w hm => (twinAll_any w a c ps (hr.mem hm) (fun s hs => ⟨(hps s hs).1.mem hm, (hps s hs).2.1, (hps s hs).2.2⟩) hc hl hb hbn).mono fun _ _ ⟨v, he, t, hv, hi, hm'⟩ => ⟨v, he, t, hv, hi, hm'⟩) ?_
    rintro ⟨a40, c40, ss40, e40, es40⟩ ⟨hrow40, hxs40, hss40⟩
    simp only at hrow40 hxs40 hss40 ⊢
    have hfl40 := flat_same hxs40
    have hln40 : ss40.length = ps.length := by have := congrArg List.length hxs40; simpa using this
    have hcr40 := hrow40.le
    refine ow_call_pure (v := .tuple #[.agg ((dig k (ps.flatMap (·.xs))).map vU8).toArray, vInt ((0 : Nat) : Int)]) (callsTo Tryd.func17 rfl (by kernel_rfl) rfl) rfl (fun w hm => (by have h := (by have h := dsum_any (k : Int) w (hK.mem0 hm) a40 c40 ss40 (hrow40.rdAt hm (i := 1) rfl) (fun s hs => hss40 s hs w (hm.heldSub (.cons _ (.cons _ (List.Sublist.refl _))))) hcr40 (by omega); rw [hfl40] at h; exact h); rw [digO_yes (by omega) (by omega)] at h; exact h)) ?_   -- 41
    refine ow_val (val_move rfl) rfl ?_   -- 37
    refine ow_val (val_extract rfl rfl) rfl ?_   -- 42
    refine ow_val (val_extract rfl rfl) rfl ?_   -- 43
    refine ow_new (acts_alloc zD) rfl (fun b10 hb10 => ?_)   -- 10
    refine ow_do_eq (does_store_all 0 rfl rfl rfl (one_u8s _) Tryd.sizeOf27 (by show (List.map vU8 (dig k (ps.flatMap (·.xs)))).length = _; rw [List.length_map]; exact (dig_len (k := k) _ h2)) (by show (List.map vU8 zeros32).length = _; rw [List.length_map]; exact zeros32_len)) ?_
    refine ow_val (val_assign rfl) rfl ?_   -- 11
    refine ow_nil (into ?_)
    refine sw_seq ?_
    refine sw_region ?_
    refine ow_val (val_move rfl) rfl ?_   -- 45
    refine ow_val (val_move rfl) rfl ?_   -- 46
    refine ow_make (acts_buildSlice (cs := [.slice a1 k1 c1]) Tryd.underlying32 Tryd.sizeOf25 Tryd.zeroValue25 rfl rfl (by kernel_rfl)) rfl (fun b47 hb47 => ?_)   -- 47
    refine ow_call_pure (v := .tuple #[.agg ((dig k (ps.flatMap (·.xs))).map vU8).toArray, vInt ((0 : Nat) : Int)]) (callsTo Tryd.func17 rfl (by kernel_rfl) rfl) rfl (fun w hm => (by have h := dsum1_any (k : Int) w (hK.mem0 hm) b47 (Rd.blk (hm.at (i := 0) rfl)) ((ps.flatMap (·.xs))) hk1.symm (hrow1.rdAt hm (i := 2) rfl) hrow1.le (by omega); rw [digO_yes (by omega) (by omega)] at h; exact h)) ?_   -- 48
    refine ow_val (val_move rfl) rfl ?_   -- 44
    refine ow_val (val_extract rfl rfl) rfl ?_   -- 49
    refine ow_val (val_extract rfl rfl) rfl ?_   -- 50
    refine ow_new (acts_alloc zD) rfl (fun b12 hb12 => ?_)   -- 12
    refine ow_do_eq (does_store_all 0 rfl rfl rfl (one_u8s _) Tryd.sizeOf27 (by show (List.map vU8 (dig k (ps.flatMap (·.xs)))).length = _; rw [List.length_map]; exact (dig_len (k := k) _ h2)) (by show (List.map vU8 zeros32).length = _; rw [List.length_map]; exact zeros32_len)) ?_
    refine ow_val (val_assign rfl) rfl ?_   -- 13
    refine ow_nil (into ?_)
    refine sw_seq ?_
    refine sw_region ?_
    refine ow_val (val_move rfl) rfl ?_   -- 52
    refine ow_val (val_move rfl) rfl ?_   -- 53
    refine ow_make (acts_buildSlice (cs := [.slice a1 k1 c1]) Tryd.underlying32 Tryd.sizeOf25 Tryd.zeroValue25 rfl rfl (by kernel_rfl)) rfl (fun b54 hb54 => ?_)   -- 54
    refine ow_call_pure (v := .tuple #[.agg ((dig j (ps.flatMap (·.xs))).map vU8).toArray, vInt ((0 : Nat) : Int)]) (callsTo Tryd.func17 rfl (by kernel_rfl) rfl) rfl (fun w hm => (by have h := dsum1_any (j : Int) w (hK.mem0 hm) b54 (Rd.blk (hm.at (i := 0) rfl)) ((ps.flatMap (·.xs))) hk1.symm (hrow1.rdAt hm (i := 4) rfl) hrow1.le (by omega); rw [digO_yes (by omega) (by omega)] at h; exact h)) ?_   -- 55
    refine ow_val (val_move rfl) rfl ?_   -- 51
    refine ow_val (val_extract rfl rfl) rfl ?_   -- 56
    refine ow_val (val_extract rfl rfl) rfl ?_   -- 57
    refine ow_new (acts_alloc zD) rfl (fun b14 hb14 => ?_)   -- 14
    refine ow_do_eq (does_store_all 0 rfl rfl rfl (one_u8s _) Tryd.sizeOf27 (by show (List.map vU8 (dig j (ps.flatMap (·.xs)))).length = _; rw [List.length_map]; exact (dig_len (k := j) _ h4)) (by show (List.map vU8 zeros32).length = _; rw [List.length_map]; exact zeros32_len)) ?_
    refine ow_val (val_assign rfl) rfl ?_   -- 15
    refine ow_nil (into ?_)
    refine sw_seq ?_
    refine sw_region ?_
    refine ow_val (val_move rfl) rfl ?_   -- 58
    refine ow_call_pure (callsTo Tryd.func24 rfl (by kernel_rfl) rfl) rfl (fun w hm => sum256h_any _ _ _ (ps.flatMap (·.xs)) hk1.symm w (hK.mem0 hm) (hrow1.rdAt hm (i := 5) rfl) (by omega) (by omega)) ?_   -- 59
    refine ow_new (acts_alloc zD32) rfl (fun b16 hb16 => ?_)   -- 16
    refine ow_do_eq (does_store_all 0 rfl rfl rfl (one_u8s _) Tryd.sizeOf26 (by show (List.map vU8 (shaOf (ps.flatMap (·.xs)))).length = _; rw [List.length_map]; exact (shaOf_len _)) (by show (List.map vU8 zeros32).length = _; rw [List.length_map]; exact zeros32_len)) ?_
    refine ow_nil (into ?_)
    refine sw_seq ?_
    refine sw_seq ?_
    refine sw_region ?_
    refine ow_call_pure (v := .bool true) (callsTo Tryd.func14 rfl (by kernel_rfl) rfl) rfl (fun w hm => awake_any w (hK.mem0 hm)) ?_   -- 60
    refine ow_val (val_not rfl) rfl ?_   -- 61
    refine ow_val (val_move rfl) rfl ?_   -- 62
    refine ow_guard_yes rfl rfl rfl ?_
    refine ow_val (val_move rfl) rfl ?_   -- 63
    refine ow_guard_yes rfl rfl rfl ?_
    refine ow_val ((val_neq_int rfl rfl).to (v' := .bool false) (congrArg Value.bool (decide_eq_false (fun h => h (by simp))))) rfl ?_   -- 64
    refine ow_val (val_pick_false rfl rfl) rfl ?_   -- 65
    refine ow_val (val_move rfl) rfl ?_   -- 66
    refine ow_guard_yes rfl rfl rfl ?_
    refine ow_val (val_move rfl) rfl ?_   -- 67
    refine ow_guard_yes rfl rfl rfl ?_
    refine ow_val ((val_neq_int rfl rfl).to (v' := .bool false) (congrArg Value.bool (decide_eq_false (fun h => h (by simp))))) rfl ?_   -- 68
    refine ow_val (val_pick_false rfl rfl) rfl ?_   -- 69
    refine ow_val (val_move rfl) rfl ?_   -- 70
    refine ow_guard_yes rfl rfl rfl ?_
    refine ow_val (val_move rfl) rfl ?_   -- 71
    refine ow_guard_yes rfl rfl rfl ?_
    refine ow_val ((val_neq_int rfl rfl).to (v' := .bool false) (congrArg Value.bool (decide_eq_false (fun h => h (by simp))))) rfl ?_   -- 72
    refine ow_val (val_pick_false rfl rfl) rfl ?_   -- 73
    refine ow_val (val_move rfl) rfl ?_   -- 74
    refine ow_guard_yes rfl rfl rfl ?_
    refine ow_val (val_load_all 5 rfl rfl Tryd.isAgg27 Tryd.sizeOf27 (by show (List.map vU8 (dig k (ps.flatMap (·.xs)))).length = _; rw [List.length_map]; exact (dig_len (k := k) _ h2))) rfl ?_   -- 75
    refine ow_guard_yes rfl rfl rfl ?_
    refine ow_val (val_load_all 3 rfl rfl Tryd.isAgg27 Tryd.sizeOf27 (by show (List.map vU8 (dig k (ps.flatMap (·.xs)))).length = _; rw [List.length_map]; exact (dig_len (k := k) _ h2))) rfl ?_   -- 76
    refine ow_guard_yes rfl rfl rfl ?_
    refine ow_val ((val_neq_u8s rfl rfl Tryd.eqGuardType27 Tryd.underlying27 Tryd.underlying5 Tryd.sizeOf5 Tryd.isAgg5 (dig_len (k := k) _ h2) (dig_len (k := k) _ h2)).to (congrArg Value.bool (show _ = false by simp [txt]))) rfl ?_   -- 77
    refine ow_val (val_pick_false rfl rfl) rfl ?_   -- 78
    refine ow_nil (into ?_)
    refine sw_false rfl rfl ?_
    refine sw_skip (into ?_)
    refine sw_seq ?_
    refine sw_seq ?_
    refine sw_region ?_
    refine ow_val (val_assign rfl) rfl ?_   -- 17
    refine ow_nil (into ?_)
    refine sw_block ?_
    refine sw_loop (σ := Nat) (fun i => i ≤ 32) (fun i => [(17, vInt (i : Int)), (16, .pointer (some ⟨b16, 0, none⟩)), (14, .pointer (some ⟨b14, 0, none⟩)), (10, .pointer (some ⟨b10, 0, none⟩)), (1, vInt (j : Int)), (0, vInt (k : Int))]) (fun _ => Mem w [] [some (b16, blk ((shaOf (ps.flatMap (·.xs))).map vU8) 26), some (b14, blk ((dig j (ps.flatMap (·.xs))).map vU8) 27), some (b10, blk ((dig k (ps.flatMap (·.xs))).map vU8) 27)]) (fun i => 32 - i) 0 (by omega) ⟨rfl, rfl, rfl, rfl, rfl, rfl, trivial⟩ (fun w hm => hm.only (.cons_cons _ (.cons_cons _ (.cons _ (.cons _ (.cons _ (.cons_cons _ (List.nil_sublist _)))))))) ?_
    intro i hi
    refine sw_seq ?_
    refine sw_seq ?_
    refine sw_region ?_
    refine ow_val (val_move rfl) rfl ?_   -- 79
    refine ow_val (val_lss_int rfl rfl) rfl ?_   -- 80
    refine ow_nil (into ?_)
    refine sw_if rfl (fun hc3 => ?_) (fun hc3 => ?_)
    · -- then
      refine sw_skip (into ?_)
      refine sw_seq ?_
      refine sw_block ?_
      refine sw_seq ?_
      by_cases hiK : i < k
      · -- yes
        by_cases hiJ : i < j
        · -- yes
          refine sw_region_lex _ [] [(0, 0), (1, 0), (2, 0), (3, 0), (4, 0), (5, 0), (7, 0), (8, 0), (6, 1), (9, 1), (10, 0), (11, 0), (12, 0), (13, 0), (14, 0), (15, 0), (16, 0), (17, 0), (18, 0), (19, 0), (20, 0), (21, 0), (22, 0), (23, 0), (24, 0), (25, 0), (26, 0), (27, 0), (28, 0), (29, 0), (31, 0), (32, 0), (30, 1), (33, 1), (34, 0), (35, 0), (36, 0), (37, 0), (38, 0), (39, 0), (40, 0), (41, 0), (42, 0), (43, 0), (44, 0), (45, 0), (46, 0), (47, 0)] (by kernel_rfl) (by kernel_rfl) (fun _ _ _ h => h) (fun _ h => h) (fun _ h => h.drawn _) ?_
          refine lw_pure rfl (val_move rfl) rfl ?_   -- 83
          refine lw_pure rfl (val_move rfl) rfl ?_   -- 84
          refine lw_pure rfl ((val_lss_int rfl rfl).to (congrArg Value.bool (decide_eq_true (by omega)))) rfl ?_   -- 85
          refine lw_pure rfl (val_move rfl) rfl ?_   -- 86
          refine lwg_pure rfl (wg rfl rfl) (val_move rfl) rfl ?_   -- 87
          refine lwg_pure rfl (wg rfl rfl) (val_indexAddr (i) (i) rfl rfl Tryd.underlying27 Tryd.sizeOf5 (by omega) (by omega) (by omega)) rfl ?_   -- 88
          refine lwg_pure rfl (wg rfl rfl) (val_move rfl) rfl ?_   -- 90
          refine lwg_pure rfl (wg rfl rfl) (val_indexAddr (i) (i) rfl rfl Tryd.underlying26 Tryd.sizeOf5 (by omega) (by omega) (by omega)) rfl ?_   -- 91
          refine lwg_held rfl (wg rfl rfl) (val_load_at 2 rfl rfl Tryd.isAgg5 (dig_get (k := k) (by omega) (by omega))) rfl ?_   -- 89
          refine lwg_held rfl (wg rfl rfl) (val_load_at 0 rfl rfl Tryd.isAgg5 (sha_get (by omega))) rfl ?_   -- 92
          refine lwg_pure rfl (wg rfl rfl) ((val_neq_u8 rfl rfl).to (congrArg Value.bool (decide_eq_false ((fun h => h (dig_lo hiK (by omega))))))) rfl ?_   -- 93
          refine lw_pure rfl (val_pick_true rfl rfl) rfl ?_   -- 94
          refine lw_pure rfl (val_move rfl) rfl ?_   -- 95
          refine lwg_pure rfl (wg rfl rfl) (val_move rfl) rfl ?_   -- 96
          refine lwg_pure rfl (wg rfl rfl) (val_move rfl) rfl ?_   -- 97
          refine lwg_pure rfl (wg rfl rfl) ((val_geq_int rfl rfl).to (congrArg Value.bool (decide_eq_false (by omega)))) rfl ?_   -- 98
          refine lwg_pure rfl (wg rfl rfl) (val_move rfl) rfl ?_   -- 99
          first | refine lwg_no rfl (ng1 rfl rfl) rfl ?_ | refine lwg_no rfl (ng2 rfl rfl) rfl ?_   -- 100
          first | refine lwg_no rfl (ng1 rfl rfl) rfl ?_ | refine lwg_no rfl (ng2 rfl rfl) rfl ?_   -- 101
          first | refine lwg_no rfl (ng1 rfl rfl) rfl ?_ | refine lwg_no rfl (ng2 rfl rfl) rfl ?_   -- 102
          first | refine lwg_no rfl (ng1 rfl rfl) rfl ?_ | refine lwg_no rfl (ng2 rfl rfl) rfl ?_   -- 103
          refine lwg_pure rfl (wg rfl rfl) (val_pick_false rfl rfl) rfl ?_   -- 104
          refine lw_pure rfl (val_pick_false rfl rfl) rfl ?_   -- 105
          refine lw_pure rfl (val_move rfl) rfl ?_   -- 106
          refine lwg_pure rfl (wg rfl rfl) (val_move rfl) rfl ?_   -- 107
          refine lwg_pure rfl (wg rfl rfl) (val_move rfl) rfl ?_   -- 108
          refine lwg_pure rfl (wg rfl rfl) ((val_lss_int rfl rfl).to (congrArg Value.bool (decide_eq_true (by omega)))) rfl ?_   -- 109
          refine lwg_pure rfl (wg rfl rfl) (val_move rfl) rfl ?_   -- 110
          refine lwg_pure rfl (wg rfl rfl) (val_move rfl) rfl ?_   -- 111
          refine lwg_pure rfl (wg rfl rfl) (val_indexAddr (i) (i) rfl rfl Tryd.underlying27 Tryd.sizeOf5 (by omega) (by omega) (by omega)) rfl ?_   -- 112
          refine lwg_pure rfl (wg rfl rfl) (val_move rfl) rfl ?_   -- 114
          refine lwg_pure rfl (wg rfl rfl) (val_indexAddr (i) (i) rfl rfl Tryd.underlying26 Tryd.sizeOf5 (by omega) (by omega) (by omega)) rfl ?_   -- 115
          refine lwg_held rfl (wg rfl rfl) (val_load_at 1 rfl rfl Tryd.isAgg5 (dig_get (k := j) (by omega) (by omega))) rfl ?_   -- 113
          refine lwg_held rfl (wg rfl rfl) (val_load_at 0 rfl rfl Tryd.isAgg5 (sha_get (by omega))) rfl ?_   -- 116
          refine lwg_pure rfl (wg rfl rfl) ((val_neq_u8 rfl rfl).to (congrArg Value.bool (decide_eq_false ((fun h => h (dig_lo hiJ (by omega))))))) rfl ?_   -- 117
          refine lwg_pure rfl (wg rfl rfl) (val_pick_true rfl rfl) rfl ?_   -- 118
          refine lw_pure rfl (val_pick_false rfl rfl) rfl ?_   -- 119
          refine lw_pure rfl (val_move rfl) rfl ?_   -- 120
          refine lwg_pure rfl (wg rfl rfl) (val_move rfl) rfl ?_   -- 121
          refine lwg_pure rfl (wg rfl rfl) (val_move rfl) rfl ?_   -- 122
          refine lwg_pure rfl (wg rfl rfl) ((val_geq_int rfl rfl).to (congrArg Value.bool (decide_eq_false (by omega)))) rfl ?_   -- 123
          refine lwg_pure rfl (wg rfl rfl) (val_move rfl) rfl ?_   -- 124
          first | refine lwg_no rfl (ng1 rfl rfl) rfl ?_ | refine lwg_no rfl (ng2 rfl rfl) rfl ?_   -- 125
          first | refine lwg_no rfl (ng1 rfl rfl) rfl ?_ | refine lwg_no rfl (ng2 rfl rfl) rfl ?_   -- 126
          first | refine lwg_no rfl (ng1 rfl rfl) rfl ?_ | refine lwg_no rfl (ng2 rfl rfl) rfl ?_   -- 127
          first | refine lwg_no rfl (ng1 rfl rfl) rfl ?_ | refine lwg_no rfl (ng2 rfl rfl) rfl ?_   -- 128
          refine lwg_pure rfl (wg rfl rfl) (val_pick_false rfl rfl) rfl ?_   -- 129
          refine lw_pure rfl (val_pick_false rfl rfl) rfl ?_   -- 130
          refine lw_nil (into ?_)
          refine sw_false rfl rfl ?_
          refine sw_skip (into ?_)
          refine sw_region ?_
          refine ow_val (val_move rfl) rfl ?_   -- 81
          refine ow_val (val_add_int ((i + 1 : Nat) : Int) rfl rfl (by omega) (by omega)) rfl ?_   -- 82
          refine ow_val (val_assign rfl) rfl ?_   -- 17
          exact ow_nil (fun w hm => ⟨i + 1, by omega, by omega, ⟨rfl, rfl, rfl, rfl, rfl, rfl, trivial⟩, hm⟩)
        · -- no
          refine sw_region_lex _ [] [(0, 0), (1, 0), (2, 0), (3, 0), (4, 0), (5, 0), (7, 0), (8, 0), (6, 1), (9, 1), (10, 0), (11, 0), (12, 0), (13, 0), (14, 0), (15, 0), (16, 0), (17, 0), (18, 0), (19, 0), (20, 0), (21, 0), (22, 0), (23, 0), (24, 0), (25, 0), (26, 0), (27, 0), (28, 0), (29, 0), (30, 0), (31, 0), (32, 0), (33, 0), (34, 0), (35, 0), (36, 0), (37, 0), (38, 0), (39, 0), (40, 0), (41, 0), (42, 0), (43, 0), (44, 1), (45, 0), (46, 0), (47, 0)] (by kernel_rfl) (by kernel_rfl) (fun _ _ _ h => h) (fun _ h => h) (fun _ h => h.drawn _) ?_
          refine lw_pure rfl (val_move rfl) rfl ?_   -- 83
          refine lw_pure rfl (val_move rfl) rfl ?_   -- 84
          refine lw_pure rfl ((val_lss_int rfl rfl).to (congrArg Value.bool (decide_eq_true (by omega)))) rfl ?_   -- 85
          refine lw_pure rfl (val_move rfl) rfl ?_   -- 86
          refine lwg_pure rfl (wg rfl rfl) (val_move rfl) rfl ?_   -- 87
          refine lwg_pure rfl (wg rfl rfl) (val_indexAddr (i) (i) rfl rfl Tryd.underlying27 Tryd.sizeOf5 (by omega) (by omega) (by omega)) rfl ?_   -- 88
          refine lwg_pure rfl (wg rfl rfl) (val_move rfl) rfl ?_   -- 90
          refine lwg_pure rfl (wg rfl rfl) (val_indexAddr (i) (i) rfl rfl Tryd.underlying26 Tryd.sizeOf5 (by omega) (by omega) (by omega)) rfl ?_   -- 91
          refine lwg_held rfl (wg rfl rfl) (val_load_at 2 rfl rfl Tryd.isAgg5 (dig_get (k := k) (by omega) (by omega))) rfl ?_   -- 89
          refine lwg_held rfl (wg rfl rfl) (val_load_at 0 rfl rfl Tryd.isAgg5 (sha_get (by omega))) rfl ?_   -- 92
          refine lwg_pure rfl (wg rfl rfl) ((val_neq_u8 rfl rfl).to (congrArg Value.bool (decide_eq_false ((fun h => h (dig_lo hiK (by omega))))))) rfl ?_   -- 93
          refine lw_pure rfl (val_pick_true rfl rfl) rfl ?_   -- 94
          refine lw_pure rfl (val_move rfl) rfl ?_   -- 95
          refine lwg_pure rfl (wg rfl rfl) (val_move rfl) rfl ?_   -- 96
          refine lwg_pure rfl (wg rfl rfl) (val_move rfl) rfl ?_   -- 97
          refine lwg_pure rfl (wg rfl rfl) ((val_geq_int rfl rfl).to (congrArg Value.bool (decide_eq_false (by omega)))) rfl ?_   -- 98
          refine lwg_pure rfl (wg rfl rfl) (val_move rfl) rfl ?_   -- 99
          first | refine lwg_no rfl (ng1 rfl rfl) rfl ?_ | refine lwg_no rfl (ng2 rfl rfl) rfl ?_   -- 100
          first | refine lwg_no rfl (ng1 rfl rfl) rfl ?_ | refine lwg_no rfl (ng2 rfl rfl) rfl ?_   -- 101
          first | refine lwg_no rfl (ng1 rfl rfl) rfl ?_ | refine lwg_no rfl (ng2 rfl rfl) rfl ?_   -- 102
          first | refine lwg_no rfl (ng1 rfl rfl) rfl ?_ | refine lwg_no rfl (ng2 rfl rfl) rfl ?_   -- 103
          refine lwg_pure rfl (wg rfl rfl) (val_pick_false rfl rfl) rfl ?_   -- 104
          refine lw_pure rfl (val_pick_false rfl rfl) rfl ?_   -- 105
          refine lw_pure rfl (val_move rfl) rfl ?_   -- 106
          refine lwg_pure rfl (wg rfl rfl) (val_move rfl) rfl ?_   -- 107
          refine lwg_pure rfl (wg rfl rfl) (val_move rfl) rfl ?_   -- 108
          refine lwg_pure rfl (wg rfl rfl) ((val_lss_int rfl rfl).to (congrArg Value.bool (decide_eq_false (by omega)))) rfl ?_   -- 109
          refine lwg_pure rfl (wg rfl rfl) (val_move rfl) rfl ?_   -- 110
          first | refine lwg_no rfl (ng1 rfl rfl) rfl ?_ | refine lwg_no rfl (ng2 rfl rfl) rfl ?_   -- 111
          first | refine lwg_no rfl (ng1 rfl rfl) rfl ?_ | refine lwg_no rfl (ng2 rfl rfl) rfl ?_   -- 112
          first | refine lwg_no rfl (ng1 rfl rfl) rfl ?_ | refine lwg_no rfl (ng2 rfl rfl) rfl ?_   -- 113
          first | refine lwg_no rfl (ng1 rfl rfl) rfl ?_ | refine lwg_no rfl (ng2 rfl rfl) rfl ?_   -- 114
          first | refine lwg_no rfl (ng1 rfl rfl) rfl ?_ | refine lwg_no rfl (ng2 rfl rfl) rfl ?_   -- 115
          first | refine lwg_no rfl (ng1 rfl rfl) rfl ?_ | refine lwg_no rfl (ng2 rfl rfl) rfl ?_   -- 116
          first | refine lwg_no rfl (ng1 rfl rfl) rfl ?_ | refine lwg_no rfl (ng2 rfl rfl) rfl ?_   -- 117
          refine lwg_pure rfl (wg rfl rfl) (val_pick_false rfl rfl) rfl ?_   -- 118
          refine lw_pure rfl (val_pick_false rfl rfl) rfl ?_   -- 119
          refine lw_pure rfl (val_move rfl) rfl ?_   -- 120
          refine lwg_pure rfl (wg rfl rfl) (val_move rfl) rfl ?_   -- 121
          refine lwg_pure rfl (wg rfl rfl) (val_move rfl) rfl ?_   -- 122
          refine lwg_pure rfl (wg rfl rfl) ((val_geq_int rfl rfl).to (congrArg Value.bool (decide_eq_true (by omega)))) rfl ?_   -- 123
          refine lwg_pure rfl (wg rfl rfl) (val_move rfl) rfl ?_   -- 124
          refine lwg_pure rfl (wg rfl rfl) (val_move rfl) rfl ?_   -- 125
          refine lwg_pure rfl (wg rfl rfl) (val_indexAddr (i) (i) rfl rfl Tryd.underlying27 Tryd.sizeOf5 (by omega) (by omega) (by omega)) rfl ?_   -- 126
          refine lwg_held rfl (wg rfl rfl) (val_load_at 1 rfl rfl Tryd.isAgg5 (dig_get (k := j) (by omega) (by omega))) rfl ?_   -- 127
          refine lwg_pure rfl (wg rfl rfl) ((val_neq_u8 rfl rfl).to (congrArg Value.bool (decide_eq_false ((fun h => h (dig_hi (by omega) (by omega))))))) rfl ?_   -- 128
          refine lwg_pure rfl (wg rfl rfl) (val_pick_true rfl rfl) rfl ?_   -- 129
          refine lw_pure rfl (val_pick_false rfl rfl) rfl ?_   -- 130
          refine lw_nil (into ?_)
          refine sw_false rfl rfl ?_
          refine sw_skip (into ?_)
          refine sw_region ?_
          refine ow_val (val_move rfl) rfl ?_   -- 81
          refine ow_val (val_add_int ((i + 1 : Nat) : Int) rfl rfl (by omega) (by omega)) rfl ?_   -- 82
          refine ow_val (val_assign rfl) rfl ?_   -- 17
          exact ow_nil (fun w hm => ⟨i + 1, by omega, by omega, ⟨rfl, rfl, rfl, rfl, rfl, rfl, trivial⟩, hm⟩)
      · -- no
        by_cases hiJ : i < j
        · -- yes
          refine sw_region_lex _ [] [(0, 0), (1, 0), (2, 0), (3, 0), (4, 0), (5, 0), (6, 0), (7, 0), (8, 0), (9, 0), (10, 0), (11, 0), (12, 0), (13, 0), (14, 0), (15, 0), (16, 0), (17, 0), (18, 0), (19, 1), (20, 0), (21, 0), (22, 0), (23, 0), (24, 0), (25, 0), (26, 0), (27, 0), (28, 0), (29, 0), (31, 0), (32, 0), (30, 1), (33, 1), (34, 0), (35, 0), (36, 0), (37, 0), (38, 0), (39, 0), (40, 0), (41, 0), (42, 0), (43, 0), (44, 0), (45, 0), (46, 0), (47, 0)] (by kernel_rfl) (by kernel_rfl) (fun _ _ _ h => h) (fun _ h => h) (fun _ h => h.drawn _) ?_
          refine lw_pure rfl (val_move rfl) rfl ?_   -- 83
          refine lw_pure rfl (val_move rfl) rfl ?_   -- 84
          refine lw_pure rfl ((val_lss_int rfl rfl).to (congrArg Value.bool (decide_eq_false (by omega)))) rfl ?_   -- 85
          refine lw_pure rfl (val_move rfl) rfl ?_   -- 86
          first | refine lwg_no rfl (ng1 rfl rfl) rfl ?_ | refine lwg_no rfl (ng2 rfl rfl) rfl ?_   -- 87
          first | refine lwg_no rfl (ng1 rfl rfl) rfl ?_ | refine lwg_no rfl (ng2 rfl rfl) rfl ?_   -- 88
          first | refine lwg_no rfl (ng1 rfl rfl) rfl ?_ | refine lwg_no rfl (ng2 rfl rfl) rfl ?_   -- 89
          first | refine lwg_no rfl (ng1 rfl rfl) rfl ?_ | refine lwg_no rfl (ng2 rfl rfl) rfl ?_   -- 90
          first | refine lwg_no rfl (ng1 rfl rfl) rfl ?_ | refine lwg_no rfl (ng2 rfl rfl) rfl ?_   -- 91
          first | refine lwg_no rfl (ng1 rfl rfl) rfl ?_ | refine lwg_no rfl (ng2 rfl rfl) rfl ?_   -- 92
          first | refine lwg_no rfl (ng1 rfl rfl) rfl ?_ | refine lwg_no rfl (ng2 rfl rfl) rfl ?_   -- 93
          refine lw_pure rfl (val_pick_false rfl rfl) rfl ?_   -- 94
          refine lw_pure rfl (val_move rfl) rfl ?_   -- 95
          refine lwg_pure rfl (wg rfl rfl) (val_move rfl) rfl ?_   -- 96
          refine lwg_pure rfl (wg rfl rfl) (val_move rfl) rfl ?_   -- 97
          refine lwg_pure rfl (wg rfl rfl) ((val_geq_int rfl rfl).to (congrArg Value.bool (decide_eq_true (by omega)))) rfl ?_   -- 98
          refine lwg_pure rfl (wg rfl rfl) (val_move rfl) rfl ?_   -- 99
          refine lwg_pure rfl (wg rfl rfl) (val_move rfl) rfl ?_   -- 100
          refine lwg_pure rfl (wg rfl rfl) (val_indexAddr (i) (i) rfl rfl Tryd.underlying27 Tryd.sizeOf5 (by omega) (by omega) (by omega)) rfl ?_   -- 101
          refine lwg_held rfl (wg rfl rfl) (val_load_at 2 rfl rfl Tryd.isAgg5 (dig_get (k := k) (by omega) (by omega))) rfl ?_   -- 102
          refine lwg_pure rfl (wg rfl rfl) ((val_neq_u8 rfl rfl).to (congrArg Value.bool (decide_eq_false ((fun h => h (dig_hi (by omega) (by omega))))))) rfl ?_   -- 103
          refine lwg_pure rfl (wg rfl rfl) (val_pick_true rfl rfl) rfl ?_   -- 104
          refine lw_pure rfl (val_pick_false rfl rfl) rfl ?_   -- 105
          refine lw_pure rfl (val_move rfl) rfl ?_   -- 106
          refine lwg_pure rfl (wg rfl rfl) (val_move rfl) rfl ?_   -- 107
          refine lwg_pure rfl (wg rfl rfl) (val_move rfl) rfl ?_   -- 108
          refine lwg_pure rfl (wg rfl rfl) ((val_lss_int rfl rfl).to (congrArg Value.bool (decide_eq_true (by omega)))) rfl ?_   -- 109
          refine lwg_pure rfl (wg rfl rfl) (val_move rfl) rfl ?_   -- 110
          refine lwg_pure rfl (wg rfl rfl) (val_move rfl) rfl ?_   -- 111
          refine lwg_pure rfl (wg rfl rfl) (val_indexAddr (i) (i) rfl rfl Tryd.underlying27 Tryd.sizeOf5 (by omega) (by omega) (by omega)) rfl ?_   -- 112
          refine lwg_pure rfl (wg rfl rfl) (val_move rfl) rfl ?_   -- 114
          refine lwg_pure rfl (wg rfl rfl) (val_indexAddr (i) (i) rfl rfl Tryd.underlying26 Tryd.sizeOf5 (by omega) (by omega) (by omega)) rfl ?_   -- 115
          refine lwg_held rfl (wg rfl rfl) (val_load_at 1 rfl rfl Tryd.isAgg5 (dig_get (k := j) (by omega) (by omega))) rfl ?_   -- 113
          refine lwg_held rfl (wg rfl rfl) (val_load_at 0 rfl rfl Tryd.isAgg5 (sha_get (by omega))) rfl ?_   -- 116
          refine lwg_pure rfl (wg rfl rfl) ((val_neq_u8 rfl rfl).to (congrArg Value.bool (decide_eq_false ((fun h => h (dig_lo hiJ (by omega))))))) rfl ?_   -- 117
          refine lwg_pure rfl (wg rfl rfl) (val_pick_true rfl rfl) rfl ?_   -- 118
          refine lw_pure rfl (val_pick_false rfl rfl) rfl ?_   -- 119
          refine lw_pure rfl (val_move rfl) rfl ?_   -- 120
          refine lwg_pure rfl (wg rfl rfl) (val_move rfl) rfl ?_   -- 121
          refine lwg_pure rfl (wg rfl rfl) (val_move rfl) rfl ?_   -- 122
          refine lwg_pure rfl (wg rfl rfl) ((val_geq_int rfl rfl).to (congrArg Value.bool (decide_eq_false (by omega)))) rfl ?_   -- 123
          refine lwg_pure rfl (wg rfl rfl) (val_move rfl) rfl ?_   -- 124
          first | refine lwg_no rfl (ng1 rfl rfl) rfl ?_ | refine lwg_no rfl (ng2 rfl rfl) rfl ?_   -- 125
          first | refine lwg_no rfl (ng1 rfl rfl) rfl ?_ | refine lwg_no rfl (ng2 rfl rfl) rfl ?_   -- 126
          first | refine lwg_no rfl (ng1 rfl rfl) rfl ?_ | refine lwg_no rfl (ng2 rfl rfl) rfl ?_   -- 127
          first | refine lwg_no rfl (ng1 rfl rfl) rfl ?_ | refine lwg_no rfl (ng2 rfl rfl) rfl ?_   -- 128
          refine lwg_pure rfl (wg rfl rfl) (val_pick_false rfl rfl) rfl ?_   -- 129
          refine lw_pure rfl (val_pick_false rfl rfl) rfl ?_   -- 130
          refine lw_nil (into ?_)
          refine sw_false rfl rfl ?_
          refine sw_skip (into ?_)
          refine sw_region ?_
          refine ow_val (val_move rfl) rfl ?_   -- 81
          refine ow_val (val_add_int ((i + 1 : Nat) : Int) rfl rfl (by omega) (by omega)) rfl ?_   -- 82
          refine ow_val (val_assign rfl) rfl ?_   -- 17
          exact ow_nil (fun w hm => ⟨i + 1, by omega, by omega, ⟨rfl, rfl, rfl, rfl, rfl, rfl, trivial⟩, hm⟩)
        · -- no
          refine sw_region_lex _ [] [(0, 0), (1, 0), (2, 0), (3, 0), (4, 0), (5, 0), (6, 0), (7, 0), (8, 0), (9, 0), (10, 0), (11, 0), (12, 0), (13, 0), (14, 0), (15, 0), (16, 0), (17, 0), (18, 0), (19, 1), (20, 0), (21, 0), (22, 0), (23, 0), (24, 0), (25, 0), (26, 0), (27, 0), (28, 0), (29, 0), (30, 0), (31, 0), (32, 0), (33, 0), (34, 0), (35, 0), (36, 0), (37, 0), (38, 0), (39, 0), (40, 0), (41, 0), (42, 0), (43, 0), (44, 1), (45, 0), (46, 0), (47, 0)] (by kernel_rfl) (by kernel_rfl) (fun _ _ _ h => h) (fun _ h => h) (fun _ h => h.drawn _) ?_
          refine lw_pure rfl (val_move rfl) rfl ?_   -- 83
          refine lw_pure rfl (val_move rfl) rfl ?_   -- 84
          refine lw_pure rfl ((val_lss_int rfl rfl).to (congrArg Value.bool (decide_eq_false (by omega)))) rfl ?_   -- 85
          refine lw_pure rfl (val_move rfl) rfl ?_   -- 86
          first | refine lwg_no rfl (ng1 rfl rfl) rfl ?_ | refine lwg_no rfl (ng2 rfl rfl) rfl ?_   -- 87
          first | refine lwg_no rfl (ng1 rfl rfl) rfl ?_ | refine lwg_no rfl (ng2 rfl rfl) rfl ?_   -- 88
          first | refine lwg_no rfl (ng1 rfl rfl) rfl ?_ | refine lwg_no rfl (ng2 rfl rfl) rfl ?_   -- 89
          first | refine lwg_no rfl (ng1 rfl rfl) rfl ?_ | refine lwg_no rfl (ng2 rfl rfl) rfl ?_   -- 90
          first | refine lwg_no rfl (ng1 rfl rfl) rfl ?_ | refine lwg_no rfl (ng2 rfl rfl) rfl ?_   -- 91
          first | refine lwg_no rfl (ng1 rfl rfl) rfl ?_ | refine lwg_no rfl (ng2 rfl rfl) rfl ?_   -- 92
          first | refine lwg_no rfl (ng1 rfl rfl) rfl ?_ | refine lwg_no rfl (ng2 rfl rfl) rfl ?_   -- 93
          refine lw_pure rfl (val_pick_false rfl rfl) rfl ?_   -- 94
          refine lw_pure rfl (val_move rfl) rfl ?_   -- 95
          refine lwg_pure rfl (wg rfl rfl) (val_move rfl) rfl ?_   -- 96
          refine lwg_pure rfl (wg rfl rfl) (val_move rfl) rfl ?_   -- 97
          refine lwg_pure rfl (wg rfl rfl) ((val_geq_int rfl rfl).to (congrArg Value.bool (decide_eq_true (by omega)))) rfl ?_   -- 98
          refine lwg_pure rfl (wg rfl rfl) (val_move rfl) rfl ?_   -- 99
          refine lwg_pure rfl (wg rfl rfl) (val_move rfl) rfl ?_   -- 100
          refine lwg_pure rfl (wg rfl rfl) (val_indexAddr (i) (i) rfl rfl Tryd.underlying27 Tryd.sizeOf5 (by omega) (by omega) (by omega)) rfl ?_   -- 101
          refine lwg_held rfl (wg rfl rfl) (val_load_at 2 rfl rfl Tryd.isAgg5 (dig_get (k := k) (by omega) (by omega))) rfl ?_   -- 102
          refine lwg_pure rfl (wg rfl rfl) ((val_neq_u8 rfl rfl).to (congrArg Value.bool (decide_eq_false ((fun h => h (dig_hi (by omega) (by omega))))))) rfl ?_   -- 103
          refine lwg_pure rfl (wg rfl rfl) (val_pick_true rfl rfl) rfl ?_   -- 104
          refine lw_pure rfl (val_pick_false rfl rfl) rfl ?_   -- 105
          refine lw_pure rfl (val_move rfl) rfl ?_   -- 106
          refine lwg_pure rfl (wg rfl rfl) (val_move rfl) rfl ?_   -- 107
          refine lwg_pure rfl (wg rfl rfl) (val_move rfl) rfl ?_   -- 108
          refine lwg_pure rfl (wg rfl rfl) ((val_lss_int rfl rfl).to (congrArg Value.bool (decide_eq_false (by omega)))) rfl ?_   -- 109
          refine lwg_pure rfl (wg rfl rfl) (val_move rfl) rfl ?_   -- 110
          first | refine lwg_no rfl (ng1 rfl rfl) rfl ?_ | refine lwg_no rfl (ng2 rfl rfl) rfl ?_   -- 111
          first | refine lwg_no rfl (ng1 rfl rfl) rfl ?_ | refine lwg_no rfl (ng2 rfl rfl) rfl ?_   -- 112
          first | refine lwg_no rfl (ng1 rfl rfl) rfl ?_ | refine lwg_no rfl (ng2 rfl rfl) rfl ?_   -- 113
          first | refine lwg_no rfl (ng1 rfl rfl) rfl ?_ | refine lwg_no rfl (ng2 rfl rfl) rfl ?_   -- 114
          first | refine lwg_no rfl (ng1 rfl rfl) rfl ?_ | refine lwg_no rfl (ng2 rfl rfl) rfl ?_   -- 115
          first | refine lwg_no rfl (ng1 rfl rfl) rfl ?_ | refine lwg_no rfl (ng2 rfl rfl) rfl ?_   -- 116
          first | refine lwg_no rfl (ng1 rfl rfl) rfl ?_ | refine lwg_no rfl (ng2 rfl rfl) rfl ?_   -- 117
          refine lwg_pure rfl (wg rfl rfl) (val_pick_false rfl rfl) rfl ?_   -- 118
          refine lw_pure rfl (val_pick_false rfl rfl) rfl ?_   -- 119
          refine lw_pure rfl (val_move rfl) rfl ?_   -- 120
          refine lwg_pure rfl (wg rfl rfl) (val_move rfl) rfl ?_   -- 121
          refine lwg_pure rfl (wg rfl rfl) (val_move rfl) rfl ?_   -- 122
          refine lwg_pure rfl (wg rfl rfl) ((val_geq_int rfl rfl).to (congrArg Value.bool (decide_eq_true (by omega)))) rfl ?_   -- 123
          refine lwg_pure rfl (wg rfl rfl) (val_move rfl) rfl ?_   -- 124
          refine lwg_pure rfl (wg rfl rfl) (val_move rfl) rfl ?_   -- 125
          refine lwg_pure rfl (wg rfl rfl) (val_indexAddr (i) (i) rfl rfl Tryd.underlying27 Tryd.sizeOf5 (by omega) (by omega) (by omega)) rfl ?_   -- 126
          refine lwg_held rfl (wg rfl rfl) (val_load_at 1 rfl rfl Tryd.isAgg5 (dig_get (k := j) (by omega) (by omega))) rfl ?_   -- 127
          refine lwg_pure rfl (wg rfl rfl) ((val_neq_u8 rfl rfl).to (congrArg Value.bool (decide_eq_false ((fun h => h (dig_hi (by omega) (by omega))))))) rfl ?_   -- 128
          refine lwg_pure rfl (wg rfl rfl) (val_pick_true rfl rfl) rfl ?_   -- 129
          refine lw_pure rfl (val_pick_false rfl rfl) rfl ?_   -- 130
          refine lw_nil (into ?_)
          refine sw_false rfl rfl ?_
          refine sw_skip (into ?_)
          refine sw_region ?_
          refine ow_val (val_move rfl) rfl ?_   -- 81
          refine ow_val (val_add_int ((i + 1 : Nat) : Int) rfl rfl (by omega) (by omega)) rfl ?_   -- 82
          refine ow_val (val_assign rfl) rfl ?_   -- 17
          exact ow_nil (fun w hm => ⟨i + 1, by omega, by omega, ⟨rfl, rfl, rfl, rfl, rfl, rfl, trivial⟩, hm⟩)
    · -- else
      refine sw_exit (into ?_)
      refine sw_seq ?_
      refine sw_region ?_
      refine ow_val (val_assign rfl) rfl ?_   -- 6
      refine ow_nil (into ?_)
      exact sw_ret (fun w hm => ret_one _ rfl rfl ⟨rfl, hm.forgetAll⟩)

theorem pieces_lt (w0 v0 : Int) (w : World) (hK : KW w) (a : Option Addr) (c : Nat) (ps : List (Sl UInt8)) (hr : Rd w a (ps.map Sl.v)) (hps : ∀ s ∈ ps, Rd w s.a (s.xs.map vU8) ∧ s.xs.length ≤ s.c ∧ s.xs.length < 9223372036854775808) (hc : ps.length ≤ c) (hl : ps.length < 9223372036854775808) (hb : (ps.flatMap (·.xs)).length ≤ 140737488300000) (hbn : ps.length ≤ 1099511627776) (k j : Nat) (hwk : wid w0 = k) (hvj : wid v0 = j) (h1 : 1 ≤ k) (h2 : k ≤ 32) (h3 : 1 ≤ j) (h4 : j ≤ 32) (hkj : k < j) : Calls Tryd.prog 6 #[vInt w0, vInt v0, .slice a ps.length c] w fun e w' => ∃ v, e = .returned v ∧ v = .bool true ∧ Mem w [] [] w' := by
  obtain ⟨ti, hti, htz, htsz, htby⟩ := info_parts iu8'
  refine calls_of_sw (vs := [vInt w0, vInt v0, .slice a ps.length c]) Tryd.func6 rfl Tryd.ntmps6 rfl (SW.begin ?_)
  refine sw_seq ?_
  refine sw_region ?_
  refine ow_val (val_assign rfl) rfl ?_   -- 6
  refine ow_nil (into ?_)
  refine sw_seq ?_
  refine sw_region ?_
  refine ow_val (val_move rfl) rfl ?_   -- 18
  refine ow_call_pure (v := vInt (k : Int)) (callsTo Tryd.func23 rfl (by kernel_rfl) rfl) rfl (fun w hm => lwidth_is hwk w) ?_   -- 19
  refine ow_val (val_move rfl) rfl ?_   -- 20
  refine ow_call_pure (v := vInt (j : Int)) (callsTo Tryd.func23 rfl (by kernel_rfl) rfl) rfl (fun w hm => lwidth_is hvj w) ?_   -- 21
  refine ow_val (val_assign rfl) rfl ?_   -- 0
  refine ow_val (val_assign rfl) rfl ?_   -- 1
  refine ow_nil (into ?_)
  refine sw_seq ?_
  refine sw_seq ?_
  refine sw_region ?_
  refine ow_val (val_move rfl) rfl ?_   -- 22
  refine ow_val (val_move rfl) rfl ?_   -- 23
  refine ow_val ((val_lss_int rfl rfl).to (congrArg Value.bool (decide_eq_true (by omega)))) rfl ?_   -- 24
  refine ow_nil (into ?_)
  refine sw_true rfl rfl ?_
  refine sw_region ?_
  refine ow_val (val_move rfl) rfl ?_   -- 25
  refine ow_val (val_move rfl) rfl ?_   -- 26
  refine ow_val (val_assign rfl) rfl ?_   -- 0
  refine ow_val (val_assign rfl) rfl ?_   -- 1
  refine ow_nil (into ?_)
  refine sw_seq ?_
  refine sw_region ?_
  refine ow_val (val_assign rfl) rfl ?_   -- 7
  refine ow_nil (into ?_)
  refine sw_seq ?_
  refine sw_seq ?_
  refine sw_region ?_
  refine ow_val (val_move rfl) rfl ?_   -- 27
  refine ow_val (val_len rfl Tryd.underlying32) rfl ?_   -- 28
  refine ow_val (val_move rfl) rfl ?_   -- 29
  refine ow_nil (into ?_)
  refine sw_block ?_
  refine sw_loop (σ := Nat × Option Addr × Nat × Ent × Nat) (fun x => x.1 ≤ ps.length ∧ x.2.2.2.2 = ((ps.take x.1).flatMap (·.xs)).length ∧ RowE (.slice x.2.1 x.2.2.2.2 x.2.2.1) 5 1 x.2.2.2.2 (((ps.take x.1).flatMap (·.xs)).map vU8) x.2.2.2.1) (fun x => [(29, vInt (x.1 : Int)), (28, vInt (ps.length : Int)), (27, .slice a ps.length c), (7, .slice x.2.1 x.2.2.2.2 x.2.2.1), (2, .slice a ps.length c), (1, vInt (k : Int)), (0, vInt (j : Int))]) (fun x => Mem w [] [x.2.2.2.1]) (fun x => ps.length - x.1) (0, none, 0, none, 0) ⟨Nat.zero_le _, rfl, RowE.nil _ _⟩ ⟨rfl, rfl, rfl, rfl, rfl, rfl, rfl, trivial⟩ (fun w hm => hm.forgetAll.place) ?_
  rintro ⟨i, a1, c1, e1, k1⟩ ⟨hi, hk1, hrow1⟩
  simp only at hi hk1 hrow1 ⊢
  refine sw_seq ?_
  refine sw_region ?_
  refine ow_val (val_lss_int rfl rfl) rfl ?_   -- 30
  refine ow_nil (into ?_)
  refine sw_seq ?_
  refine sw_if rfl (fun h0 => ?_) (fun h0 => ?_)
  · -- then
    obtain ⟨ba, oa, rfl⟩ := hr.addr (by rw [List.length_map]; omega)
    have hE := hps _ (getD_mem (l := ps) (i := i) (by omega))
    have hE1 := hE.2.1
    have hE2 := hE.2.2
    have hpt : (ps.take (i + 1)).flatMap (·.xs) = (ps.take i).flatMap (·.xs) ++ (ps.getD i default).xs := by rw [take_getD (l := ps) (by omega), List.flatMap_append, List.flatMap_cons, List.flatMap_nil, List.append_nil]
    have hpl := parts_le ps (i + 1)
    rw [hpt, List.length_append] at hpl
    refine sw_skip (into ?_)
    refine sw_seq ?_
    refine sw_block ?_
    refine sw_seq ?_
    refine sw_region ?_
    refine ow_val (val_indexAddr_slice (i) (oa + i) rfl rfl Tryd.underlying32 Tryd.sizeOf25 (by omega) (by omega) (by omega)) rfl ?_   -- 31
    refine ow_val (val_load (v := Sl.v (ps.getD i default)) rfl Tryd.isAgg25 (fun w' hm => Rd.get (p := ps) (k := i) (hr.mem hm) (by omega) (by omega))) rfl ?_   -- 32
    refine ow_val (val_assign rfl) rfl ?_   -- 9
    refine ow_nil (into ?_)
    refine sw_region ?_
    refine ow_val (val_move rfl) rfl ?_   -- 33
    refine ow_val (val_move rfl) rfl ?_   -- 34
    refine ow_append' (k := k1 + ((ps.getD i default).xs.length)) (acts_append (size := 1) (bytes := 1) 0 rfl rfl rfl hrow1 rfl Tryd.underlying25 hti htz htsz htby rfl (by decide) (fun w hm => ((hps _ (getD_mem (i := i) (by omega))).1.mem hm)) (by rw [List.length_map, Nat.mul_one]) (one_u8s _) (by omega) (by omega)) rfl (fun a35 c35 e35 hq35 => ?_)   -- 35
    have hr35 : RowE (.slice a35 (k1 + ((ps.getD i default).xs.length)) c35) 5 1 (k1 + ((ps.getD i default).xs.length)) (((((ps.take i).flatMap (·.xs)) ++ ((ps.getD i default).xs))).map vU8) e35 := hq35.cong rfl rfl (by rw [List.map_append (l₁ := ((ps.take i).flatMap (·.xs)))])
    refine ow_val (val_assign rfl) rfl ?_   -- 7
    refine ow_nil (into ?_)
    refine sw_region ?_
    refine ow_val (val_add_int ((i + 1 : Nat) : Int) rfl rfl (by omega) (by omega)) rfl ?_   -- 36
    refine ow_val (val_move rfl) rfl ?_   -- 29
    exact ow_nil (fun w hm => ⟨(i + 1, a35, c35, e35, _), ⟨by dsimp only; omega, (by dsimp only; rw [hpt, List.length_append, hk1]), (by dsimp only; rw [hpt]; exact hr35)⟩, by dsimp only; omega, ⟨rfl, rfl, rfl, rfl, rfl, rfl, rfl, trivial⟩, hm.only (.cons_cons _ (List.nil_sublist _))⟩)
  · -- else
    obtain rfl : i = ps.length := by omega
    rw [List.take_length] at hk1 hrow1
    have hle1 := hrow1.le
    refine sw_exit (into ?_)
    refine sw_seq ?_
    refine sw_region ?_
    refine ow_val (val_move rfl) rfl ?_   -- 38
    refine ow_val (val_move rfl) rfl ?_   -- 39
    refine ow_call_tail (fun t : Option Addr × Nat × List (Sl UInt8) × Ent × List Ent => .slice t.1 t.2.2.1.length t.2.1) (fun t => t.2.2.2.1 :: t.2.2.2.2) (fun t => RowE (.slice t.1 t.2.2.1.length t.2.1) 25 1 t.2.2.1.length (t.2.2.1.map Sl.v) t.2.2.2.1 ∧ t.2.2.1.map (·.xs) = (ps).map (·.xs) ∧ ∀ s ∈ t.2.2.1, OwnSl t.2.2.2.2 s) (callsTo Tryd.func18 rfl (by kernel_rfl) rfl) rfl (fun w hm => (twinAll_any w a c ps (hr.mem hm) (fun s hs => ⟨(hps s hs).1.mem hm, (hps s hs).2.1, (hps s hs).2.2⟩) hc hl hb hbn).mono fun _ _ ⟨v, he, t, hv, hi, hm'⟩ => ⟨v, he, t, hv, hi, hm'⟩) ?_
    rintro ⟨a40, c40, ss40, e40, es40⟩ ⟨hrow40, hxs40, hss40⟩
    simp only at hrow40 hxs40 hss40 ⊢
    have hfl40 := flat_same hxs40
    have hln40 : ss40.length = ps.length := by have := congrArg List.length hxs40; simpa using this
    have hcr40 := hrow40.le
    refine ow_call_pure (v := .tuple #[.agg ((dig j (ps.flatMap (·.xs))).map vU8).toArray, vInt ((0 : Nat) : Int)]) (callsTo Tryd.func17 rfl (by kernel_rfl) rfl) rfl (fun w hm => (by have h := (by have h := dsum_any (j : Int) w (hK.mem0 hm) a40 c40 ss40 (hrow40.rdAt hm (i := 1) rfl) (fun s hs => hss40 s hs w (hm.heldSub (.cons _ (.cons _ (List.Sublist.refl _))))) hcr40 (by omega); rw [hfl40] at h; exact h); rw [digO_yes (by omega) (by omega)] at h; exact h)) ?_   -- 41
    refine ow_val (val_move rfl) rfl ?_   -- 37
    refine ow_val (val_extract rfl rfl) rfl ?_   -- 42
    refine ow_val (val_extract rfl rfl) rfl ?_   -- 43
    refine ow_new (acts_alloc zD) rfl (fun b10 hb10 => ?_)   -- 10
    refine ow_do_eq (does_store_all 0 rfl rfl rfl (one_u8s _) Tryd.sizeOf27 (by show (List.map vU8 (dig j (ps.flatMap (·.xs)))).length = _; rw [List.length_map]; exact (dig_len (k := j) _ h4)) (by show (List.map vU8 zeros32).length = _; rw [List.length_map]; exact zeros32_len)) ?_
    refine ow_val (val_assign rfl) rfl ?_   -- 11
    refine ow_nil (into ?_)
    refine sw_seq ?_
    refine sw_region ?_
    refine ow_val (val_move rfl) rfl ?_   -- 45
    refine ow_val (val_move rfl) rfl ?_   -- 46
    refine ow_make (acts_buildSlice (cs := [.slice a1 k1 c1]) Tryd.underlying32 Tryd.sizeOf25 Tryd.zeroValue25 rfl rfl (by kernel_rfl)) rfl (fun b47 hb47 => ?_)   -- 47
    refine ow_call_pure (v := .tuple #[.agg ((dig j (ps.flatMap (·.xs))).map vU8).toArray, vInt ((0 : Nat) : Int)]) (callsTo Tryd.func17 rfl (by kernel_rfl) rfl) rfl (fun w hm => (by have h := dsum1_any (j : Int) w (hK.mem0 hm) b47 (Rd.blk (hm.at (i := 0) rfl)) ((ps.flatMap (·.xs))) hk1.symm (hrow1.rdAt hm (i := 2) rfl) hrow1.le (by omega); rw [digO_yes (by omega) (by omega)] at h; exact h)) ?_   -- 48
    refine ow_val (val_move rfl) rfl ?_   -- 44
    refine ow_val (val_extract rfl rfl) rfl ?_   -- 49
    refine ow_val (val_extract rfl rfl) rfl ?_   -- 50
    refine ow_new (acts_alloc zD) rfl (fun b12 hb12 => ?_)   -- 12
    refine ow_do_eq (does_store_all 0 rfl rfl rfl (one_u8s _) Tryd.sizeOf27 (by show (List.map vU8 (dig j (ps.flatMap (·.xs)))).length = _; rw [List.length_map]; exact (dig_len (k := j) _ h4)) (by show (List.map vU8 zeros32).length = _; rw [List.length_map]; exact zeros32_len)) ?_
    refine ow_val (val_assign rfl) rfl ?_   -- 13
    refine ow_nil (into ?_)
    refine sw_seq ?_
    refine sw_region ?_
    refine ow_val (val_move rfl) rfl ?_   -- 52
    refine ow_val (val_move rfl) rfl ?_   -- 53
    refine ow_make (acts_buildSlice (cs := [.slice a1 k1 c1]) Tryd.underlying32 Tryd.sizeOf25 Tryd.zeroValue25 rfl rfl (by kernel_rfl)) rfl (fun b54 hb54 => ?_)   -- 54
    refine ow_call_pure (v := .tuple #[.agg ((dig k (ps.flatMap (·.xs))).map vU8).toArray, vInt ((0 : Nat) : Int)]) (callsTo Tryd.func17 rfl (by kernel_rfl) rfl) rfl (fun w hm => (by have h := dsum1_any (k : Int) w (hK.mem0 hm) b54 (Rd.blk (hm.at (i := 0) rfl)) ((ps.flatMap (·.xs))) hk1.symm (hrow1.rdAt hm (i := 4) rfl) hrow1.le (by omega); rw [digO_yes (by omega) (by omega)] at h; exact h)) ?_   -- 55
    refine ow_val (val_move rfl) rfl ?_   -- 51
    refine ow_val (val_extract rfl rfl) rfl ?_   -- 56
    refine ow_val (val_extract rfl rfl) rfl ?_   -- 57
    refine ow_new (acts_alloc zD) rfl (fun b14 hb14 => ?_)   -- 14
    refine ow_do_eq (does_store_all 0 rfl rfl rfl (one_u8s _) Tryd.sizeOf27 (by show (List.map vU8 (dig k (ps.flatMap (·.xs)))).length = _; rw [List.length_map]; exact (dig_len (k := k) _ h2)) (by show (List.map vU8 zeros32).length = _; rw [List.length_map]; exact zeros32_len)) ?_
    refine ow_val (val_assign rfl) rfl ?_   -- 15
    refine ow_nil (into ?_)
    refine sw_seq ?_
    refine sw_region ?_
    refine ow_val (val_move rfl) rfl ?_   -- 58
    refine ow_call_pure (callsTo Tryd.func24 rfl (by kernel_rfl) rfl) rfl (fun w hm => sum256h_any _ _ _ (ps.flatMap (·.xs)) hk1.symm w (hK.mem0 hm) (hrow1.rdAt hm (i := 5) rfl) (by omega) (by omega)) ?_   -- 59
    refine ow_new (acts_alloc zD32) rfl (fun b16 hb16 => ?_)   -- 16
    refine ow_do_eq (does_store_all 0 rfl rfl rfl (one_u8s _) Tryd.sizeOf26 (by show (List.map vU8 (shaOf (ps.flatMap (·.xs)))).length = _; rw [List.length_map]; exact (shaOf_len _)) (by show (List.map vU8 zeros32).length = _; rw [List.length_map]; exact zeros32_len)) ?_
    refine ow_nil (into ?_)
    refine sw_seq ?_
    refine sw_seq ?_
    refine sw_region ?_
    refine ow_call_pure (v := .bool true) (callsTo Tryd.func14 rfl (by kernel_rfl) rfl) rfl (fun w hm => awake_any w (hK.mem0 hm)) ?_   -- 60
    refine ow_val (val_not rfl) rfl ?_   -- 61
    refine ow_val (val_move rfl) rfl ?_   -- 62
    refine ow_guard_yes rfl rfl rfl ?_
    refine ow_val (val_move rfl) rfl ?_   -- 63
    refine ow_guard_yes rfl rfl rfl ?_
    refine ow_val ((val_neq_int rfl rfl).to (v' := .bool false) (congrArg Value.bool (decide_eq_false (fun h => h (by simp))))) rfl ?_   -- 64
    refine ow_val (val_pick_false rfl rfl) rfl ?_   -- 65
    refine ow_val (val_move rfl) rfl ?_   -- 66
    refine ow_guard_yes rfl rfl rfl ?_
    refine ow_val (val_move rfl) rfl ?_   -- 67
    refine ow_guard_yes rfl rfl rfl ?_
    refine ow_val ((val_neq_int rfl rfl).to (v' := .bool false) (congrArg Value.bool (decide_eq_false (fun h => h (by simp))))) rfl ?_   -- 68
    refine ow_val (val_pick_false rfl rfl) rfl ?_   -- 69
    refine ow_val (val_move rfl) rfl ?_   -- 70
    refine ow_guard_yes rfl rfl rfl ?_
    refine ow_val (val_move rfl) rfl ?_   -- 71
    refine ow_guard_yes rfl rfl rfl ?_
    refine ow_val ((val_neq_int rfl rfl).to (v' := .bool false) (congrArg Value.bool (decide_eq_false (fun h => h (by simp))))) rfl ?_   -- 72
    refine ow_val (val_pick_false rfl rfl) rfl ?_   -- 73
    refine ow_val (val_move rfl) rfl ?_   -- 74
    refine ow_guard_yes rfl rfl rfl ?_
    refine ow_val (val_load_all 5 rfl rfl Tryd.isAgg27 Tryd.sizeOf27 (by show (List.map vU8 (dig j (ps.flatMap (·.xs)))).length = _; rw [List.length_map]; exact (dig_len (k := j) _ h4))) rfl ?_   -- 75
    refine ow_guard_yes rfl rfl rfl ?_
    refine ow_val (val_load_all 3 rfl rfl Tryd.isAgg27 Tryd.sizeOf27 (by show (List.map vU8 (dig j (ps.flatMap (·.xs)))).length = _; rw [List.length_map]; exact (dig_len (k := j) _ h4))) rfl ?_   -- 76
    refine ow_guard_yes rfl rfl rfl ?_
    refine ow_val ((val_neq_u8s rfl rfl Tryd.eqGuardType27 Tryd.underlying27 Tryd.underlying5 Tryd.sizeOf5 Tryd.isAgg5 (dig_len (k := j) _ h4) (dig_len (k := j) _ h4)).to (congrArg Value.bool (show _ = false by simp [txt]))) rfl ?_   -- 77
    refine ow_val (val_pick_false rfl rfl) rfl ?_   -- 78
    refine ow_nil (into ?_)
    refine sw_false rfl rfl ?_
    refine sw_skip (into ?_)
    refine sw_seq ?_
    refine sw_seq ?_
    refine sw_region ?_
    refine ow_val (val_assign rfl) rfl ?_   -- 17
    refine ow_nil (into ?_)
    refine sw_block ?_
    refine sw_loop (σ := Nat) (fun i => i ≤ 32) (fun i => [(17, vInt (i : Int)), (16, .pointer (some ⟨b16, 0, none⟩)), (14, .pointer (some ⟨b14, 0, none⟩)), (10, .pointer (some ⟨b10, 0, none⟩)), (1, vInt (k : Int)), (0, vInt (j : Int))]) (fun _ => Mem w [] [some (b16, blk ((shaOf (ps.flatMap (·.xs))).map vU8) 26), some (b14, blk ((dig k (ps.flatMap (·.xs))).map vU8) 27), some (b10, blk ((dig j (ps.flatMap (·.xs))).map vU8) 27)]) (fun i => 32 - i) 0 (by omega) ⟨rfl, rfl, rfl, rfl, rfl, rfl, trivial⟩ (fun w hm => hm.only (.cons_cons _ (.cons_cons _ (.cons _ (.cons _ (.cons _ (.cons_cons _ (List.nil_sublist _)))))))) ?_
    intro i hi
    refine sw_seq ?_
    refine sw_seq ?_
    refine sw_region ?_
    refine ow_val (val_move rfl) rfl ?_   -- 79
    refine ow_val (val_lss_int rfl rfl) rfl ?_   -- 80
    refine ow_nil (into ?_)
    refine sw_if rfl (fun hc3 => ?_) (fun hc3 => ?_)
    · -- then
      refine sw_skip (into ?_)
      refine sw_seq ?_
      refine sw_block ?_
      refine sw_seq ?_
      by_cases hiK : i < j
      · -- yes
        by_cases hiJ : i < k
        · -- yes
          refine sw_region_lex _ [] [(0, 0), (1, 0), (2, 0), (3, 0), (4, 0), (5, 0), (7, 0), (8, 0), (6, 1), (9, 1), (10, 0), (11, 0), (12, 0), (13, 0), (14, 0), (15, 0), (16, 0), (17, 0), (18, 0), (19, 0), (20, 0), (21, 0), (22, 0), (23, 0), (24, 0), (25, 0), (26, 0), (27, 0), (28, 0), (29, 0), (31, 0), (32, 0), (30, 1), (33, 1), (34, 0), (35, 0), (36, 0), (37, 0), (38, 0), (39, 0), (40, 0), (41, 0), (42, 0), (43, 0), (44, 0), (45, 0), (46, 0), (47, 0)] (by kernel_rfl) (by kernel_rfl) (fun _ _ _ h => h) (fun _ h => h) (fun _ h => h.drawn _) ?_
          refine lw_pure rfl (val_move rfl) rfl ?_   -- 83
          refine lw_pure rfl (val_move rfl) rfl ?_   -- 84
          refine lw_pure rfl ((val_lss_int rfl rfl).to (congrArg Value.bool (decide_eq_true (by omega)))) rfl ?_   -- 85
          refine lw_pure rfl (val_move rfl) rfl ?_   -- 86
          refine lwg_pure rfl (wg rfl rfl) (val_move rfl) rfl ?_   -- 87
          refine lwg_pure rfl (wg rfl rfl) (val_indexAddr (i) (i) rfl rfl Tryd.underlying27 Tryd.sizeOf5 (by omega) (by omega) (by omega)) rfl ?_   -- 88
          refine lwg_pure rfl (wg rfl rfl) (val_move rfl) rfl ?_   -- 90
          refine lwg_pure rfl (wg rfl rfl) (val_indexAddr (i) (i) rfl rfl Tryd.underlying26 Tryd.sizeOf5 (by omega) (by omega) (by omega)) rfl ?_   -- 91
          refine lwg_held rfl (wg rfl rfl) (val_load_at 2 rfl rfl Tryd.isAgg5 (dig_get (k := j) (by omega) (by omega))) rfl ?_   -- 89
          refine lwg_held rfl (wg rfl rfl) (val_load_at 0 rfl rfl Tryd.isAgg5 (sha_get (by omega))) rfl ?_   -- 92
          refine lwg_pure rfl (wg rfl rfl) ((val_neq_u8 rfl rfl).to (congrArg Value.bool (decide_eq_false ((fun h => h (dig_lo hiK (by omega))))))) rfl ?_   -- 93
          refine lw_pure rfl (val_pick_true rfl rfl) rfl ?_   -- 94
          refine lw_pure rfl (val_move rfl) rfl ?_   -- 95
          refine lwg_pure rfl (wg rfl rfl) (val_move rfl) rfl ?_   -- 96
          refine lwg_pure rfl (wg rfl rfl) (val_move rfl) rfl ?_   -- 97
          refine lwg_pure rfl (wg rfl rfl) ((val_geq_int rfl rfl).to (congrArg Value.bool (decide_eq_false (by omega)))) rfl ?_   -- 98
          refine lwg_pure rfl (wg rfl rfl) (val_move rfl) rfl ?_   -- 99
          first | refine lwg_no rfl (ng1 rfl rfl) rfl ?_ | refine lwg_no rfl (ng2 rfl rfl) rfl ?_   -- 100
          first | refine lwg_no rfl (ng1 rfl rfl) rfl ?_ | refine lwg_no rfl (ng2 rfl rfl) rfl ?_   -- 101
          first | refine lwg_no rfl (ng1 rfl rfl) rfl ?_ | refine lwg_no rfl (ng2 rfl rfl) rfl ?_   -- 102
          first | refine lwg_no rfl (ng1 rfl rfl) rfl ?_ | refine lwg_no rfl (ng2 rfl rfl) rfl ?_   -- 103
          refine lwg_pure rfl (wg rfl rfl) (val_pick_false rfl rfl) rfl ?_   -- 104
          refine lw_pure rfl (val_pick_false rfl rfl) rfl ?_   -- 105
          refine lw_pure rfl (val_move rfl) rfl ?_   -- 106
          refine lwg_pure rfl (wg rfl rfl) (val_move rfl) rfl ?_   -- 107
          refine lwg_pure rfl (wg rfl rfl) (val_move rfl) rfl ?_   -- 108
          refine lwg_pure rfl (wg rfl rfl) ((val_lss_int rfl rfl).to (congrArg Value.bool (decide_eq_true (by omega)))) rfl ?_   -- 109
          refine lwg_pure rfl (wg rfl rfl) (val_move rfl) rfl ?_   -- 110
          refine lwg_pure rfl (wg rfl rfl) (val_move rfl) rfl ?_   -- 111
          refine lwg_pure rfl (wg rfl rfl) (val_indexAddr (i) (i) rfl rfl Tryd.underlying27 Tryd.sizeOf5 (by omega) (by omega) (by omega)) rfl ?_   -- 112
          refine lwg_pure rfl (wg rfl rfl) (val_move rfl) rfl ?_   -- 114
          refine lwg_pure rfl (wg rfl rfl) (val_indexAddr (i) (i) rfl rfl Tryd.underlying26 Tryd.sizeOf5 (by omega) (by omega) (by omega)) rfl ?_   -- 115
          refine lwg_held rfl (wg rfl rfl) (val_load_at 1 rfl rfl Tryd.isAgg5 (dig_get (k := k) (by omega) (by omega))) rfl ?_   -- 113
          refine lwg_held rfl (wg rfl rfl) (val_load_at 0 rfl rfl Tryd.isAgg5 (sha_get (by omega))) rfl ?_   -- 116
          refine lwg_pure rfl (wg rfl rfl) ((val_neq_u8 rfl rfl).to (congrArg Value.bool (decide_eq_false ((fun h => h (dig_lo hiJ (by omega))))))) rfl ?_   -- 117
          refine lwg_pure rfl (wg rfl rfl) (val_pick_true rfl rfl) rfl ?_   -- 118
          refine lw_pure rfl (val_pick_false rfl rfl) rfl ?_   -- 119
          refine lw_pure rfl (val_move rfl) rfl ?_   -- 120
          refine lwg_pure rfl (wg rfl rfl) (val_move rfl) rfl ?_   -- 121
          refine lwg_pure rfl (wg rfl rfl) (val_move rfl) rfl ?_   -- 122
          refine lwg_pure rfl (wg rfl rfl) ((val_geq_int rfl rfl).to (congrArg Value.bool (decide_eq_false (by omega)))) rfl ?_   -- 123
          refine lwg_pure rfl (wg rfl rfl) (val_move rfl) rfl ?_   -- 124
          first | refine lwg_no rfl (ng1 rfl rfl) rfl ?_ | refine lwg_no rfl (ng2 rfl rfl) rfl ?_   -- 125
          first | refine lwg_no rfl (ng1 rfl rfl) rfl ?_ | refine lwg_no rfl (ng2 rfl rfl) rfl ?_   -- 126
          first | refine lwg_no rfl (ng1 rfl rfl) rfl ?_ | refine lwg_no rfl (ng2 rfl rfl) rfl ?_   -- 127
          first | refine lwg_no rfl (ng1 rfl rfl) rfl ?_ | refine lwg_no rfl (ng2 rfl rfl) rfl ?_   -- 128
          refine lwg_pure rfl (wg rfl rfl) (val_pick_false rfl rfl) rfl ?_   -- 129
          refine lw_pure rfl (val_pick_false rfl rfl) rfl ?_   -- 130
          refine lw_nil (into ?_)
          refine sw_false rfl rfl ?_
          refine sw_skip (into ?_)
          refine sw_region ?_
          refine ow_val (val_move rfl) rfl ?_   -- 81
          refine ow_val (val_add_int ((i + 1 : Nat) : Int) rfl rfl (by omega) (by omega)) rfl ?_   -- 82
          refine ow_val (val_assign rfl) rfl ?_   -- 17
          exact ow_nil (fun w hm => ⟨i + 1, by omega, by omega, ⟨rfl, rfl, rfl, rfl, rfl, rfl, trivial⟩, hm⟩)
        · -- no
          refine sw_region_lex _ [] [(0, 0), (1, 0), (2, 0), (3, 0), (4, 0), (5, 0), (7, 0), (8, 0), (6, 1), (9, 1), (10, 0), (11, 0), (12, 0), (13, 0), (14, 0), (15, 0), (16, 0), (17, 0), (18, 0), (19, 0), (20, 0), (21, 0), (22, 0), (23, 0), (24, 0), (25, 0), (26, 0), (27, 0), (28, 0), (29, 0), (30, 0), (31, 0), (32, 0), (33, 0), (34, 0), (35, 0), (36, 0), (37, 0), (38, 0), (39, 0), (40, 0), (41, 0), (42, 0), (43, 0), (44, 1), (45, 0), (46, 0), (47, 0)] (by kernel_rfl) (by kernel_rfl) (fun _ _ _ h => h) (fun _ h => h) (fun _ h => h.drawn _) ?_
          refine lw_pure rfl (val_move rfl) rfl ?_   -- 83
          refine lw_pure rfl (val_move rfl) rfl ?_   -- 84
          refine lw_pure rfl ((val_lss_int rfl rfl).to (congrArg Value.bool (decide_eq_true (by omega)))) rfl ?_   -- 85
          refine lw_pure rfl (val_move rfl) rfl ?_   -- 86
          refine lwg_pure rfl (wg rfl rfl) (val_move rfl) rfl ?_   -- 87
          refine lwg_pure rfl (wg rfl rfl) (val_indexAddr (i) (i) rfl rfl Tryd.underlying27 Tryd.sizeOf5 (by omega) (by omega) (by omega)) rfl ?_   -- 88
          refine lwg_pure rfl (wg rfl rfl) (val_move rfl) rfl ?_   -- 90
          refine lwg_pure rfl (wg rfl rfl) (val_indexAddr (i) (i) rfl rfl Tryd.underlying26 Tryd.sizeOf5 (by omega) (by omega) (by omega)) rfl ?_   -- 91
          refine lwg_held rfl (wg rfl rfl) (val_load_at 2 rfl rfl Tryd.isAgg5 (dig_get (k := j) (by omega) (by omega))) rfl ?_   -- 89
          refine lwg_held rfl (wg rfl rfl) (val_load_at 0 rfl rfl Tryd.isAgg5 (sha_get (by omega))) rfl ?_   -- 92
          refine lwg_pure rfl (wg rfl rfl) ((val_neq_u8 rfl rfl).to (congrArg Value.bool (decide_eq_false ((fun h => h (dig_lo hiK (by omega))))))) rfl ?_   -- 93
          refine lw_pure rfl (val_pick_true rfl rfl) rfl ?_   -- 94
          refine lw_pure rfl (val_move rfl) rfl ?_   -- 95
          refine lwg_pure rfl (wg rfl rfl) (val_move rfl) rfl ?_   -- 96
          refine lwg_pure rfl (wg rfl rfl) (val_move rfl) rfl ?_   -- 97
          refine lwg_pure rfl (wg rfl rfl) ((val_geq_int rfl rfl).to (congrArg Value.bool (decide_eq_false (by omega)))) rfl ?_   -- 98
          refine lwg_pure rfl (wg rfl rfl) (val_move rfl) rfl ?_   -- 99
          first | refine lwg_no rfl (ng1 rfl rfl) rfl ?_ | refine lwg_no rfl (ng2 rfl rfl) rfl ?_   -- 100
          first | refine lwg_no rfl (ng1 rfl rfl) rfl ?_ | refine lwg_no rfl (ng2 rfl rfl) rfl ?_   -- 101
          first | refine lwg_no rfl (ng1 rfl rfl) rfl ?_ | refine lwg_no rfl (ng2 rfl rfl) rfl ?_   -- 102
          first | refine lwg_no rfl (ng1 rfl rfl) rfl ?_ | refine lwg_no rfl (ng2 rfl rfl) rfl ?_   -- 103
          refine lwg_pure rfl (wg rfl rfl) (val_pick_false rfl rfl) rfl ?_   -- 104
          refine lw_pure rfl (val_pick_false rfl rfl) rfl ?_   -- 105
          refine lw_pure rfl (val_move rfl) rfl ?_   -- 106
          refine lwg_pure rfl (wg rfl rfl) (val_move rfl) rfl ?_   -- 107
          refine lwg_pure rfl (wg rfl rfl) (val_move rfl) rfl ?_   -- 108
          refine lwg_pure rfl (wg rfl rfl) ((val_lss_int rfl rfl).to (congrArg Value.bool (decide_eq_false (by omega)))) rfl ?_   -- 109
          refine lwg_pure rfl (wg rfl rfl) (val_move rfl) rfl ?_   -- 110
          first | refine lwg_no rfl (ng1 rfl rfl) rfl ?_ | refine lwg_no rfl (ng2 rfl rfl) rfl ?_   -- 111
          first | refine lwg_no rfl (ng1 rfl rfl) rfl ?_ | refine lwg_no rfl (ng2 rfl rfl) rfl ?_   -- 112
          first | refine lwg_no rfl (ng1 rfl rfl) rfl ?_ | refine lwg_no rfl (ng2 rfl rfl) rfl ?_   -- 113
          first | refine lwg_no rfl (ng1 rfl rfl) rfl ?_ | refine lwg_no rfl (ng2 rfl rfl) rfl ?_   -- 114
          first | refine lwg_no rfl (ng1 rfl rfl) rfl ?_ | refine lwg_no rfl (ng2 rfl rfl) rfl ?_   -- 115
          first | refine lwg_no rfl (ng1 rfl rfl) rfl ?_ | refine lwg_no rfl (ng2 rfl rfl) rfl ?_   -- 116
          first | refine lwg_no rfl (ng1 rfl rfl) rfl ?_ | refine lwg_no rfl (ng2 rfl rfl) rfl ?_   -- 117
          refine lwg_pure rfl (wg rfl rfl) (val_pick_false rfl rfl) rfl ?_   -- 118
          refine lw_pure rfl (val_pick_false rfl rfl) rfl ?_   -- 119
          refine lw_pure rfl (val_move rfl) rfl ?_   -- 120
          refine lwg_pure rfl (wg rfl rfl) (val_move rfl) rfl ?_   -- 121
          refine lwg_pure rfl (wg rfl rfl) (val_move rfl) rfl ?_   -- 122
          refine lwg_pure rfl (wg rfl rfl) ((val_geq_int rfl rfl).to (congrArg Value.bool (decide_eq_true (by omega)))) rfl ?_   -- 123
          refine lwg_pure rfl (wg rfl rfl) (val_move rfl) rfl ?_   -- 124
          refine lwg_pure rfl (wg rfl rfl) (val_move rfl) rfl ?_   -- 125
          refine lwg_pure rfl (wg rfl rfl) (val_indexAddr (i) (i) rfl rfl Tryd.underlying27 Tryd.sizeOf5 (by omega) (by omega) (by omega)) rfl ?_   -- 126
          refine lwg_held rfl (wg rfl rfl) (val_load_at 1 rfl rfl Tryd.isAgg5 (dig_get (k := k) (by omega) (by omega))) rfl ?_   -- 127
          refine lwg_pure rfl (wg rfl rfl) ((val_neq_u8 rfl rfl).to (congrArg Value.bool (decide_eq_false ((fun h => h (dig_hi (by omega) (by omega))))))) rfl ?_   -- 128
          refine lwg_pure rfl (wg rfl rfl) (val_pick_true rfl rfl) rfl ?_   -- 129
          refine lw_pure rfl (val_pick_false rfl rfl) rfl ?_   -- 130
          refine lw_nil (into ?_)
          refine sw_false rfl rfl ?_
          refine sw_skip (into ?_)
          refine sw_region ?_
          refine ow_val (val_move rfl) rfl ?_   -- 81
          refine ow_val (val_add_int ((i + 1 : Nat) : Int) rfl rfl (by omega) (by omega)) rfl ?_   -- 82
          refine ow_val (val_assign rfl) rfl ?_   -- 17
          exact ow_nil (fun w hm => ⟨i + 1, by omega, by omega, ⟨rfl, rfl, rfl, rfl, rfl, rfl, trivial⟩, hm⟩)
      · -- no
        by_cases hiJ : i < k
        · -- yes
          refine sw_region_lex _ [] [(0, 0), (1, 0), (2, 0), (3, 0), (4, 0), (5, 0), (6, 0), (7, 0), (8, 0), (9, 0), (10, 0), (11, 0), (12, 0), (13, 0), (14, 0), (15, 0), (16, 0), (17, 0), (18, 0), (19, 1), (20, 0), (21, 0), (22, 0), (23, 0), (24, 0), (25, 0), (26, 0), (27, 0), (28, 0), (29, 0), (31, 0), (32, 0), (30, 1), (33, 1), (34, 0), (35, 0), (36, 0), (37, 0), (38, 0), (39, 0), (40, 0), (41, 0), (42, 0), (43, 0), (44, 0), (45, 0), (46, 0), (47, 0)] (by kernel_rfl) (by kernel_rfl) (fun _ _ _ h => h) (fun _ h => h) (fun _ h => h.drawn _) ?_
          refine lw_pure rfl (val_move rfl) rfl ?_   -- 83
          refine lw_pure rfl (val_move rfl) rfl ?_   -- 84
          refine lw_pure rfl ((val_lss_int rfl rfl).to (congrArg Value.bool (decide_eq_false (by omega)))) rfl ?_   -- 85
          refine lw_pure rfl (val_move rfl) rfl ?_   -- 86
          first | refine lwg_no rfl (ng1 rfl rfl) rfl ?_ | refine lwg_no rfl (ng2 rfl rfl) rfl ?_   -- 87
          first | refine lwg_no rfl (ng1 rfl rfl) rfl ?_ | refine lwg_no rfl (ng2 rfl rfl) rfl ?_   -- 88
          first | refine lwg_no rfl (ng1 rfl rfl) rfl ?_ | refine lwg_no rfl (ng2 rfl rfl) rfl ?_   -- 89
          first | refine lwg_no rfl (ng1 rfl rfl) rfl ?_ | refine lwg_no rfl (ng2 rfl rfl) rfl ?_   -- 90
          first | refine lwg_no rfl (ng1 rfl rfl) rfl ?_ | refine lwg_no rfl (ng2 rfl rfl) rfl ?_   -- 91
          first | refine lwg_no rfl (ng1 rfl rfl) rfl ?_ | refine lwg_no rfl (ng2 rfl rfl) rfl ?_   -- 92
          first | refine lwg_no rfl (ng1 rfl rfl) rfl ?_ | refine lwg_no rfl (ng2 rfl rfl) rfl ?_   -- 93
          refine lw_pure rfl (val_pick_false rfl rfl) rfl ?_   -- 94
          refine lw_pure rfl (val_move rfl) rfl ?_   -- 95
          refine lwg_pure rfl (wg rfl rfl) (val_move rfl) rfl ?_   -- 96
          refine lwg_pure rfl (wg rfl rfl) (val_move rfl) rfl ?_   -- 97
          refine lwg_pure rfl (wg rfl rfl) ((val_geq_int rfl rfl).to (congrArg Value.bool (decide_eq_true (by omega)))) rfl ?_   -- 98
          refine lwg_pure rfl (wg rfl rfl) (val_move rfl) rfl ?_   -- 99
          refine lwg_pure rfl (wg rfl rfl) (val_move rfl) rfl ?_   -- 100
          refine lwg_pure rfl (wg rfl rfl) (val_indexAddr (i) (i) rfl rfl Tryd.underlying27 Tryd.sizeOf5 (by omega) (by omega) (by omega)) rfl ?_   -- 101
          refine lwg_held rfl (wg rfl rfl) (val_load_at 2 rfl rfl Tryd.isAgg5 (dig_get (k := j) (by omega) (by omega))) rfl ?_   -- 102
          refine lwg_pure rfl (wg rfl rfl) ((val_neq_u8 rfl rfl).to (congrArg Value.bool (decide_eq_false ((fun h => h (dig_hi (by omega) (by omega))))))) rfl ?_   -- 103
          refine lwg_pure rfl (wg rfl rfl) (val_pick_true rfl rfl) rfl ?_   -- 104
          refine lw_pure rfl (val_pick_false rfl rfl) rfl ?_   -- 105
          refine lw_pure rfl (val_move rfl) rfl ?_   -- 106
          refine lwg_pure rfl (wg rfl rfl) (val_move rfl) rfl ?_   -- 107
          refine lwg_pure rfl (wg rfl rfl) (val_move rfl) rfl ?_   -- 108
          refine lwg_pure rfl (wg rfl rfl) ((val_lss_int rfl rfl).to (congrArg Value.bool (decide_eq_true (by omega)))) rfl ?_   -- 109
          refine lwg_pure rfl (wg rfl rfl) (val_move rfl) rfl ?_   -- 110
          refine lwg_pure rfl (wg rfl rfl) (val_move rfl) rfl ?_   -- 111
          refine lwg_pure rfl (wg rfl rfl) (val_indexAddr (i) (i) rfl rfl Tryd.underlying27 Tryd.sizeOf5 (by omega) (by omega) (by omega)) rfl ?_   -- 112
          refine lwg_pure rfl (wg rfl rfl) (val_move rfl) rfl ?_   -- 114
          refine lwg_pure rfl (wg rfl rfl) (val_indexAddr (i) (i) rfl rfl Tryd.underlying26 Tryd.sizeOf5 (by omega) (by omega) (by omega)) rfl ?_   -- 115
          refine lwg_held rfl (wg rfl rfl) (val_load_at 1 rfl rfl Tryd.isAgg5 (dig_get (k := k) (by omega) (by omega))) rfl ?_   -- 113
          refine lwg_held rfl (wg rfl rfl) (val_load_at 0 rfl rfl Tryd.isAgg5 (sha_get (by omega))) rfl ?_   -- 116
          refine lwg_pure rfl (wg rfl rfl) ((val_neq_u8 rfl rfl).to (congrArg Value.bool (decide_eq_false ((fun h => h (dig_lo hiJ (by omega))))))) rfl ?_   -- 117
          refine lwg_pure rfl (wg rfl rfl) (val_pick_true rfl rfl) rfl ?_   -- 118
          refine lw_pure rfl (val_pick_false rfl rfl) rfl ?_   -- 119
          refine lw_pure rfl (val_move rfl) rfl ?_   -- 120
          refine lwg_pure rfl (wg rfl rfl) (val_move rfl) rfl ?_   -- 121
          refine lwg_pure rfl (wg rfl rfl) (val_move rfl) rfl ?_   -- 122
          refine lwg_pure rfl (wg rfl rfl) ((val_geq_int rfl rfl).to (congrArg Value.bool (decide_eq_false (by omega)))) rfl ?_   -- 123
          refine lwg_pure rfl (wg rfl rfl) (val_move rfl) rfl ?_   -- 124
          first | refine lwg_no rfl (ng1 rfl rfl) rfl ?_ | refine lwg_no rfl (ng2 rfl rfl) rfl ?_   -- 125
          first | refine lwg_no rfl (ng1 rfl rfl) rfl ?_ | refine lwg_no rfl (ng2 rfl rfl) rfl ?_   -- 126
          first | refine lwg_no rfl (ng1 rfl rfl) rfl ?_ | refine lwg_no rfl (ng2 rfl rfl) rfl ?_   -- 127
          first | refine lwg_no rfl (ng1 rfl rfl) rfl ?_ | refine lwg_no rfl (ng2 rfl rfl) rfl ?_   -- 128
          refine lwg_pure rfl (wg rfl rfl) (val_pick_false rfl rfl) rfl ?_   -- 129
          refine lw_pure rfl (val_pick_false rfl rfl) rfl ?_   -- 130
          refine lw_nil (into ?_)
          refine sw_false rfl rfl ?_
          refine sw_skip (into ?_)
          refine sw_region ?_
          refine ow_val (val_move rfl) rfl ?_   -- 81
          refine ow_val (val_add_int ((i + 1 : Nat) : Int) rfl rfl (by omega) (by omega)) rfl ?_   -- 82
          refine ow_val (val_assign rfl) rfl ?_   -- 17
          exact ow_nil (fun w hm => ⟨i + 1, by omega, by omega, ⟨rfl, rfl, rfl, rfl, rfl, rfl, trivial⟩, hm⟩)
        · -- no
          refine sw_region_lex _ [] [(0, 0), (1, 0), (2, 0), (3, 0), (4, 0), (5, 0), (6, 0), (7, 0), (8, 0), (9, 0), (10, 0), (11, 0), (12, 0), (13, 0), (14, 0), (15, 0), (16, 0), (17, 0), (18, 0), (19, 1), (20, 0), (21, 0), (22, 0), (23, 0), (24, 0), (25, 0), (26, 0), (27, 0), (28, 0), (29, 0), (30, 0), (31, 0), (32, 0), (33, 0), (34, 0), (35, 0), (36, 0), (37, 0), (38, 0), (39, 0), (40, 0), (41, 0), (42, 0), (43, 0), (44, 1), (45, 0), (46, 0), (47, 0)] (by kernel_rfl) (by kernel_rfl) (fun _ _ _ h => h) (fun _ h => h) (fun _ h => h.drawn _) ?_
          refine lw_pure rfl (val_move rfl) rfl ?_   -- 83
          refine lw_pure rfl (val_move rfl) rfl ?_   -- 84
          refine lw_pure rfl ((val_lss_int rfl rfl).to (congrArg Value.bool (decide_eq_false (by omega)))) rfl ?_   -- 85
          refine lw_pure rfl (val_move rfl) rfl ?_   -- 86
          first | refine lwg_no rfl (ng1 rfl rfl) rfl ?_ | refine lwg_no rfl (ng2 rfl rfl) rfl ?_   -- 87
          first | refine lwg_no rfl (ng1 rfl rfl) rfl ?_ | refine lwg_no rfl (ng2 rfl rfl) rfl ?_   -- 88
          first | refine lwg_no rfl (ng1 rfl rfl) rfl ?_ | refine lwg_no rfl (ng2 rfl rfl) rfl ?_   -- 89
          first | refine lwg_no rfl (ng1 rfl rfl) rfl ?_ | refine lwg_no rfl (ng2 rfl rfl) rfl ?_   -- 90
          first | refine lwg_no rfl (ng1 rfl rfl) rfl ?_ | refine lwg_no rfl (ng2 rfl rfl) rfl ?_   -- 91
          first | refine lwg_no rfl (ng1 rfl rfl) rfl ?_ | refine lwg_no rfl (ng2 rfl rfl) rfl ?_   -- 92
          first | refine lwg_no rfl (ng1 rfl rfl) rfl ?_ | refine lwg_no rfl (ng2 rfl rfl) rfl ?_   -- 93
          refine lw_pure rfl (val_pick_false rfl rfl) rfl ?_   -- 94
          refine lw_pure rfl (val_move rfl) rfl ?_   -- 95
          refine lwg_pure rfl (wg rfl rfl) (val_move rfl) rfl ?_   -- 96
          refine lwg_pure rfl (wg rfl rfl) (val_move rfl) rfl ?_   -- 97
          refine lwg_pure rfl (wg rfl rfl) ((val_geq_int rfl rfl).to (congrArg Value.bool (decide_eq_true (by omega)))) rfl ?_   -- 98
          refine lwg_pure rfl (wg rfl rfl) (val_move rfl) rfl ?_   -- 99
          refine lwg_pure rfl (wg rfl rfl) (val_move rfl) rfl ?_   -- 100
          refine lwg_pure rfl (wg rfl rfl) (val_indexAddr (i) (i) rfl rfl Tryd.underlying27 Tryd.sizeOf5 (by omega) (by omega) (by omega)) rfl ?_   -- 101
          refine lwg_held rfl (wg rfl rfl) (val_load_at 2 rfl rfl Tryd.isAgg5 (dig_get (k := j) (by omega) (by omega))) rfl ?_   -- 102
          refine lwg_pure rfl (wg rfl rfl) ((val_neq_u8 rfl rfl).to (congrArg Value.bool (decide_eq_false ((fun h => h (dig_hi (by omega) (by omega))))))) rfl ?_   -- 103
          refine lwg_pure rfl (wg rfl rfl) (val_pick_true rfl rfl) rfl ?_   -- 104
          refine lw_pure rfl (val_pick_false rfl rfl) rfl ?_   -- 105
          refine lw_pure rfl (val_move rfl) rfl ?_   -- 106
          refine lwg_pure rfl (wg rfl rfl) (val_move rfl) rfl ?_   -- 107
          refine lwg_pure rfl (wg rfl rfl) (val_move rfl) rfl ?_   -- 108
          refine lwg_pure rfl (wg rfl rfl) ((val_lss_int rfl rfl).to (congrArg Value.bool (decide_eq_false (by omega)))) rfl ?_   -- 109
          refine lwg_pure rfl (wg rfl rfl) (val_move rfl) rfl ?_   -- 110
          first | refine lwg_no rfl (ng1 rfl rfl) rfl ?_ | refine lwg_no rfl (ng2 rfl rfl) rfl ?_   -- 111
          first | refine lwg_no rfl (ng1 rfl rfl) rfl ?_ | refine lwg_no rfl (ng2 rfl rfl) rfl ?_   -- 112
          first | refine lwg_no rfl (ng1 rfl rfl) rfl ?_ | refine lwg_no rfl (ng2 rfl rfl) rfl ?_   -- 113
          first | refine lwg_no rfl (ng1 rfl rfl) rfl ?_ | refine lwg_no rfl (ng2 rfl rfl) rfl ?_   -- 114
          first | refine lwg_no rfl (ng1 rfl rfl) rfl ?_ | refine lwg_no rfl (ng2 rfl rfl) rfl ?_   -- 115
          first | refine lwg_no rfl (ng1 rfl rfl) rfl ?_ | refine lwg_no rfl (ng2 rfl rfl) rfl ?_   -- 116
          first | refine lwg_no rfl (ng1 rfl rfl) rfl ?_ | refine lwg_no rfl (ng2 rfl rfl) rfl ?_   -- 117
          refine lwg_pure rfl (wg rfl rfl) (val_pick_false rfl rfl) rfl ?_   -- 118
          refine lw_pure rfl (val_pick_false rfl rfl) rfl ?_   -- 119
          refine lw_pure rfl (val_move rfl) rfl ?_   -- 120
          refine lwg_pure rfl (wg rfl rfl) (val_move rfl) rfl ?_   -- 121
          refine lwg_pure rfl (wg rfl rfl) (val_move rfl) rfl ?_   -- 122
          refine lwg_pure rfl (wg rfl rfl) ((val_geq_int rfl rfl).to (congrArg Value.bool (decide_eq_true (by omega)))) rfl ?_   -- 123
          refine lwg_pure rfl (wg rfl rfl) (val_move rfl) rfl ?_   -- 124
          refine lwg_pure rfl (wg rfl rfl) (val_move rfl) rfl ?_   -- 125
          refine lwg_pure rfl (wg rfl rfl) (val_indexAddr (i) (i) rfl rfl Tryd.underlying27 Tryd.sizeOf5 (by omega) (by omega) (by omega)) rfl ?_   -- 126
          refine lwg_held rfl (wg rfl rfl) (val_load_at 1 rfl rfl Tryd.isAgg5 (dig_get (k := k) (by omega) (by omega))) rfl ?_   -- 127
          refine lwg_pure rfl (wg rfl rfl) ((val_neq_u8 rfl rfl).to (congrArg Value.bool (decide_eq_false ((fun h => h (dig_hi (by omega) (by omega))))))) rfl ?_   -- 128
          refine lwg_pure rfl (wg rfl rfl) (val_pick_true rfl rfl) rfl ?_   -- 129
          refine lw_pure rfl (val_pick_false rfl rfl) rfl ?_   -- 130
          refine lw_nil (into ?_)
          refine sw_false rfl rfl ?_
          refine sw_skip (into ?_)
          refine sw_region ?_
          refine ow_val (val_move rfl) rfl ?_   -- 81
          refine ow_val (val_add_int ((i + 1 : Nat) : Int) rfl rfl (by omega) (by omega)) rfl ?_   -- 82
          refine ow_val (val_assign rfl) rfl ?_   -- 17
          exact ow_nil (fun w hm => ⟨i + 1, by omega, by omega, ⟨rfl, rfl, rfl, rfl, rfl, rfl, trivial⟩, hm⟩)
    · -- else
      refine sw_exit (into ?_)
      refine sw_seq ?_
      refine sw_region ?_
      refine ow_val (val_assign rfl) rfl ?_   -- 6
      refine ow_nil (into ?_)
      refine sw_ret (fun w hm => ?_)
      try dsimp only [thenP, blockP, Nat.beq, cond]
      exact ret_one _ rfl rfl ⟨rfl, hm.forgetAll⟩

theorem digestPieces_any (w0 v0 : Int) (w : World) (hK : KW w) (a : Option Addr) (c : Nat) (ps : List (Sl UInt8)) (hr : Rd w a (ps.map Sl.v)) (hps : ∀ s ∈ ps, Rd w s.a (s.xs.map vU8) ∧ s.xs.length ≤ s.c ∧ s.xs.length < 9223372036854775808) (hc : ps.length ≤ c) (hl : ps.length < 9223372036854775808) (hb : (ps.flatMap (·.xs)).length ≤ 140737488300000) (hbn : ps.length ≤ 1099511627776) : Calls Tryd.prog 6 #[vInt w0, vInt v0, .slice a ps.length c] w fun e w' => ∃ v, e = .returned v ∧ v = .bool true ∧ Mem w [] [] w' := by
  have hw := wid_range w0
  have hv := wid_range v0
  by_cases hkj : wid w0 < wid v0
  · exact pieces_lt w0 v0 w hK a c ps hr hps hc hl hb hbn _ _ rfl rfl hw.1 hw.2 hv.1 hv.2 hkj
  · exact pieces_ge w0 v0 w hK a c ps hr hps hc hl hb hbn _ _ rfl rfl hw.1 hw.2 hv.1 hv.2 hkj
end Go.Proofs.YtpmnhmfahgchgaaDoor
