import Derived.Test.YtcappcjogcekkaaDoorMt13
import Derived.Test.YtcappcjogcekkaaDoorProg
set_option linter.unusedVariables false
set_option linter.unusedSimpArgs false
namespace Go.Proofs.YtcappcjogcekkaaDoor
open Go.Sx Go.Ps
theorem take_succ_getD {L : List (List UInt8)} {i : Nat} (h : i < L.length) : L.take i ++ [L.getD i default] = L.take (i + 1) := by
  rw [List.take_succ_eq_append_getElem h, List.getD_eq_getElem?_getD, List.getElem?_eq_getElem h, Option.getD_some]
theorem seg_take {L : List (List UInt8)} {n : Nat} : seg (L.take n) 0 n = seg L 0 n := by
  rw [seg, seg, List.drop_zero, List.drop_zero, Nat.sub_zero, List.take_take, Nat.min_self]

theorem wtree_0 (w8 : UInt8) (a2 a3 a4 : UInt16) (k : Nat) (h1 : 1 ≤ k) (h2 : k ≤ 32) (hk : 1 + w8.toNat % 32 = k) (sz hf lo hi : Nat) (hsz : 1 + a2.toNat % 300 = sz) (hhf : 1 + a3.toNat % sz = hf) (hlo : a4.toNat % sz = lo) (hhi : lo + 1 + a3.toNat % (sz - lo) = hi) (w : World) (hK : KW w) (a : Option Addr) (c : Nat) (q : List (List UInt8)) (hdq : ∀ d ∈ q, d.length = 32) (hr : Rd w a (q.flatMap fun d => d.map vU8)) (hc : q.length ≤ c) (hl : q.length < 9223372036854775808) (L P : List (List UInt8)) (hL : lvs k q sz = L) (hPd : L.take hf = P) : Calls Tryd.prog 11 #[vU8 w8, .slice a q.length c, vU16 a2, vU16 a3, vU16 a4] w fun e w' => ∃ v, e = .returned v ∧ v = .bool true ∧ Mem w [] [] w' := by
  have hsz0 : 1 ≤ sz := by omega
  have hsz1 : sz ≤ 300 := by have h9 := Nat.mod_lt a2.toNat (show 0 < 300 by omega); omega
  have hhf1 : hf ≤ sz := by have h9 := Nat.mod_lt a3.toNat (show 0 < sz by omega); omega
  have hhf0 : 1 ≤ hf := by omega
  have hlo1 : lo < sz := by have h9 := Nat.mod_lt a4.toNat (show 0 < sz by omega); omega
  have hhi1 : hi ≤ sz := by have h9 := Nat.mod_lt a3.toNat (show 0 < sz - lo by omega); omega
  have hLn : L.length = sz := by rw [← hL]; exact lvs_len _ _ _
  have hdL : ∀ d ∈ L, d.length = 32 := by rw [← hL]; exact (lvs_ok h1 h2 hdq sz).1
  have hfL : ∀ d ∈ L, fm (k : Int) d = true := by rw [← hL]; exact (lvs_ok h1 h2 hdq sz).2
  have hPn : P.length = hf := by rw [← hPd, List.length_take]; omega
  have hdP : ∀ d ∈ P, d.length = 32 := fun d hd => by rw [← hPd] at hd; exact hdL d (List.mem_of_mem_take hd)
  have hfP : ∀ d ∈ P, fm (k : Int) d = true := fun d hd => by rw [← hPd] at hd; exact hfL d (List.mem_of_mem_take hd)
  have hPr : ∀ {w : World} {a : Option Addr}, Rd w a (L.flatMap fun d => d.map vU8) → Rd w a (P.flatMap fun d => d.map vU8) := fun h => by rw [← hPd]; exact rdTakeD h hf
  have hPs : seg P 0 hf = seg L 0 hf := by rw [← hPd]; exact seg_take
  have hn0 : ∀ d ∈ ([] : List (List UInt8)), d.length = 32 := fun _ h => by cases h
  have hn1 : ∀ d ∈ ([] : List (List UInt8)), fm (k : Int) d = true := fun _ h => by cases h
  have hnn : ([] : List (List UInt8)).length = 0 := rfl
  refine calls_of_sw (vs := [vU8 w8, .slice a q.length c, vU16 a2, vU16 a3, vU16 a4]) Tryd.func11 rfl Tryd.ntmps11 rfl (SW.begin ?_)
  refine sw_seq ?_
  refine sw_region ?_
  refine ow_val (val_assign rfl) rfl ?_   -- 10
  refine ow_nil (into ?_)
  refine sw_seq ?_
  refine sw_region ?_
  refine ow_val (val_move rfl) rfl ?_   -- 35
  refine ow_call_pure (v := vInt (k : Int)) (callsTo Tryd.func34 rfl (by kernel_rfl) rfl) rfl (fun w hm => tw_is hk w) ?_   -- 36
  refine ow_val (val_assign rfl) rfl ?_   -- 11
  refine ow_nil (into ?_)
  refine sw_seq ?_
  refine sw_region ?_
  refine ow_val (val_move rfl) rfl ?_   -- 37
  refine ow_val (val_conv_u16_i64 Tryd.underlying67 Tryd.underlying3 rfl) rfl ?_   -- 38
  refine ow_val (val_rem_nn ((a2.toNat % 300 : Nat) : Int) rfl rfl (by omega) (by omega) (by omega)) rfl ?_   -- 39
  refine ow_val ((val_add_int ((1 + a2.toNat % 300 : Nat) : Int) rfl rfl (by omega) (by omega)).to (v' := vInt (sz : Int)) (by rw [← hsz])) rfl ?_   -- 40
  refine ow_val (val_assign rfl) rfl ?_   -- 12
  refine ow_nil (into ?_)
  refine sw_seq ?_
  refine sw_region ?_
  refine ow_val (val_move rfl) rfl ?_   -- 41
  refine ow_val (val_move rfl) rfl ?_   -- 42
  refine ow_val (val_move rfl) rfl ?_   -- 43
  refine ow_call_row (E := 43) (size := 32) (k := sz) (xs := L.flatMap fun d => d.map vU8) (callsTo Tryd.func35 rfl (by kernel_rfl) rfl) rfl (fun w hm => leaves_is k h1 h2 sz (by omega) w (hK.mem0 hm) a c q hdq (hr.mem hm) hc hl hL) (fun a44 c44 e44 hr44 => ?_)   -- 44
  refine ow_val (val_assign rfl) rfl ?_   -- 13
  refine ow_nil (into ?_)
  refine sw_seq ?_
  refine sw_region ?_
  refine ow_val (val_move rfl) rfl ?_   -- 46
  refine ow_call_tail (σ := Nat × List Ent) (fun q9 => .tuple #[vPtr q9.1, vInt ((0 : Nat) : Int)]) (fun q9 => q9.2) (fun q9 => TrOn 95 75 k q9.2 q9.1 []) (callsTo Tryd.func13 rfl (by kernel_rfl) rfl) rfl (fun w hm => new_tr k h1 h2 w) ?_   -- 47
  rintro ⟨b47, es47⟩ htr47
  simp only at htr47 ⊢
  refine ow_val (val_move rfl) rfl ?_   -- 45
  refine ow_val (val_extract rfl rfl) rfl ?_   -- 48
  refine ow_val (val_extract rfl rfl) rfl ?_   -- 49
  refine ow_val (val_assign rfl) rfl ?_   -- 14
  refine ow_val (val_assign rfl) rfl ?_   -- 15
  refine ow_nil (into ?_)
  refine sw_seq ?_
  refine sw_seq ?_
  refine sw_region ?_
  refine ow_val (val_move rfl) rfl ?_   -- 50
  refine ow_val ((val_neq_int rfl rfl).to (v' := .bool false) (congrArg Value.bool (decide_eq_false (fun h => h (by simp))))) rfl ?_   -- 51
  refine ow_val (val_move rfl) rfl ?_   -- 52
  refine ow_guard_yes rfl rfl rfl ?_
  refine ow_val (val_move rfl) rfl ?_   -- 53
  refine ow_guard_yes rfl rfl rfl ?_
  refine ow_val (val_eql_nilptr Tryd.underlying24 rfl rfl) rfl ?_   -- 54
  refine ow_val (val_pick_false rfl rfl) rfl ?_   -- 55
  refine ow_nil (into ?_)
  refine sw_false rfl rfl ?_
  refine sw_skip (into ?_)
  refine sw_seq ?_
  refine sw_region ?_
  refine ow_val (val_move rfl) rfl ?_   -- 57
  refine ow_val (val_move rfl) rfl ?_   -- 58
  refine ow_call_tail (σ := Nat × List Ent) (fun q9 => .tuple #[vPtr q9.1, vInt ((0 : Nat) : Int)]) (fun q9 => q9.2) (fun q9 => TrOn 95 75 k (es47 ++ q9.2) q9.1 L) (callsTo Tryd.func16 rfl (by kernel_rfl) rfl) rfl (fun w hm => (append_tr k h1 h2 w (hK.mem0 hm) es47 (hm.heldSub (.cons _ (List.Sublist.refl _))) b47 [] htr47 (by assumption) (by assumption) a44 sz c44 L hLn hdL (hr44.rdAt hm (i := 0) rfl) hr44.le (by omega) hfL (by omega)).mono fun _ _ ⟨u, he, q9, hu, hi, hm'⟩ => ⟨u, he, q9, hu, hi.cast (List.nil_append _), hm'⟩) ?_   -- 59
  rintro ⟨b59, es59⟩ htr59
  simp only at htr59 ⊢
  refine ow_val (val_move rfl) rfl ?_   -- 56
  refine ow_val (val_extract rfl rfl) rfl ?_   -- 60
  refine ow_val (val_extract rfl rfl) rfl ?_   -- 61
  refine ow_val (val_assign rfl) rfl ?_   -- 16
  refine ow_val (val_assign rfl) rfl ?_   -- 17
  refine ow_nil (into ?_)
  refine sw_seq ?_
  refine sw_region ?_
  refine ow_val (val_move rfl) rfl ?_   -- 62
  refine ow_val (val_conv_u16_i64 Tryd.underlying67 Tryd.underlying3 rfl) rfl ?_   -- 63
  refine ow_val (val_move rfl) rfl ?_   -- 64
  refine ow_val (val_rem_nn ((a3.toNat % sz : Nat) : Int) rfl rfl (by omega) (by omega) (by omega)) rfl ?_   -- 65
  refine ow_val ((val_add_int ((1 + a3.toNat % sz : Nat) : Int) rfl rfl (by omega) (by omega)).to (v' := vInt (hf : Int)) (by rw [← hhf])) rfl ?_   -- 66
  refine ow_val (val_assign rfl) rfl ?_   -- 18
  refine ow_nil (into ?_)
  refine sw_seq ?_
  refine sw_region ?_
  refine ow_val (val_move rfl) rfl ?_   -- 68
  refine ow_val (val_move rfl) rfl ?_   -- 69
  refine ow_val (val_move rfl) rfl ?_   -- 70
  refine ow_val (val_slice_hi hf rfl rfl Tryd.underlying32 Tryd.sizeOf43 (by omega) (by have h9 := hr44.le; omega)) rfl ?_   -- 71
  refine ow_call_tail (σ := Nat × List Ent) (fun q9 => .tuple #[vPtr q9.1, vInt ((0 : Nat) : Int)]) (fun q9 => q9.2) (fun q9 => TrOn 95 75 k ((es47 ++ es59) ++ q9.2) q9.1 P) (callsTo Tryd.func16 rfl (by kernel_rfl) rfl) rfl (fun w hm => (append_tr k h1 h2 w (hK.mem0 hm) (es47 ++ es59) (hm.heldSub (.cons _ (List.Sublist.refl _))) b47 [] (htr47.left (T' := es59)) (by assumption) (by assumption) a44 hf c44 P hPn hdP (hPr (hr44.rdAt hm (i := 0) rfl)) (by have h9 := hr44.le; omega) (by omega) hfP (by omega)).mono fun _ _ ⟨u, he, q9, hu, hi, hm'⟩ => ⟨u, he, q9, hu, hi.cast (List.nil_append _), hm'⟩) ?_   -- 72
  rintro ⟨b72, es72⟩ htr72
  simp only at htr72 ⊢
  refine ow_val (val_move rfl) rfl ?_   -- 67
  refine ow_val (val_extract rfl rfl) rfl ?_   -- 73
  refine ow_val (val_extract rfl rfl) rfl ?_   -- 74
  refine ow_val (val_assign rfl) rfl ?_   -- 19
  refine ow_val (val_assign rfl) rfl ?_   -- 20
  refine ow_nil (into ?_)
  refine sw_seq ?_
  refine sw_seq ?_
  refine sw_region ?_
  refine ow_val (val_move rfl) rfl ?_   -- 75
  refine ow_val ((val_neq_int rfl rfl).to (v' := .bool false) (congrArg Value.bool (decide_eq_false (fun h => h (by simp))))) rfl ?_   -- 76
  refine ow_val (val_move rfl) rfl ?_   -- 77
  refine ow_guard_yes rfl rfl rfl ?_
  refine ow_val (val_move rfl) rfl ?_   -- 78
  refine ow_guard_yes rfl rfl rfl ?_
  refine ow_val ((val_neq_int rfl rfl).to (v' := .bool false) (congrArg Value.bool (decide_eq_false (fun h => h (by simp))))) rfl ?_   -- 79
  refine ow_val (val_pick_false rfl rfl) rfl ?_   -- 80
  refine ow_val (val_move rfl) rfl ?_   -- 81
  refine ow_guard_yes rfl rfl rfl ?_
  refine ow_val (val_move rfl) rfl ?_   -- 82
  refine ow_guard_yes rfl rfl rfl ?_
  refine ow_call_pure (v := vU64 (UInt64.ofNat L.length)) (callsTo Tryd.func24 rfl (by kernel_rfl) rfl) rfl (fun w hm => tsize_is b59 L w ((htr59.left (T' := es72)).is (hm.heldSub (.cons _ (List.Sublist.refl _))))) ?_   -- 83
  refine ow_guard_yes rfl rfl rfl ?_
  refine ow_val (val_move rfl) rfl ?_   -- 84
  refine ow_guard_yes rfl rfl rfl ?_
  refine ow_val (val_conv_n_u64 sz Tryd.underlying3 Tryd.underlying46 rfl rfl) rfl ?_   -- 85
  refine ow_guard_yes rfl rfl rfl ?_
  refine ow_val ((val_neq_u64 rfl rfl).to (congrArg Value.bool (decide_eq_false ((fun h => h (by rw [hLn])))))) rfl ?_   -- 86
  refine ow_val (val_pick_false rfl rfl) rfl ?_   -- 87
  refine ow_val (val_move rfl) rfl ?_   -- 88
  refine ow_guard_yes rfl rfl rfl ?_
  refine ow_val (val_move rfl) rfl ?_   -- 89
  refine ow_guard_yes rfl rfl rfl ?_
  refine ow_call_pure (v := vU64 (UInt64.ofNat P.length)) (callsTo Tryd.func24 rfl (by kernel_rfl) rfl) rfl (fun w hm => tsize_is b72 P w (htr72.is (hm.heldSub (.cons _ (List.Sublist.refl _))))) ?_   -- 90
  refine ow_guard_yes rfl rfl rfl ?_
  refine ow_val (val_move rfl) rfl ?_   -- 91
  refine ow_guard_yes rfl rfl rfl ?_
  refine ow_val (val_conv_n_u64 hf Tryd.underlying3 Tryd.underlying46 rfl rfl) rfl ?_   -- 92
  refine ow_guard_yes rfl rfl rfl ?_
  refine ow_val ((val_neq_u64 rfl rfl).to (congrArg Value.bool (decide_eq_false ((fun h => h (by rw [hPn])))))) rfl ?_   -- 93
  refine ow_val (val_pick_false rfl rfl) rfl ?_   -- 94
  refine ow_val (val_move rfl) rfl ?_   -- 95
  refine ow_guard_yes rfl rfl rfl ?_
  refine ow_val (val_move rfl) rfl ?_   -- 96
  refine ow_guard_yes rfl rfl rfl ?_
  refine ow_call_pure (v := vU64 (UInt64.ofNat [].length)) (callsTo Tryd.func24 rfl (by kernel_rfl) rfl) rfl (fun w hm => tsize_is b47 [] w (((htr47.left (T' := es59)).left (T' := es72)).is (hm.heldSub (.cons _ (List.Sublist.refl _))))) ?_   -- 97
  refine ow_guard_yes rfl rfl rfl ?_
  refine ow_val ((val_neq_u64 rfl rfl).to (congrArg Value.bool (decide_eq_false ((fun h => h rfl))))) rfl ?_   -- 98
  refine ow_val (val_pick_false rfl rfl) rfl ?_   -- 99
  refine ow_nil (into ?_)
  refine sw_false rfl rfl ?_
  refine sw_skip (into ?_)
  refine sw_seq ?_
  refine sw_region ?_
  refine ow_val (val_move rfl) rfl ?_   -- 100
  refine ow_val (val_assign rfl) rfl ?_   -- 21
  refine ow_nil (into ?_)
  refine sw_seq ?_
  refine sw_seq ?_
  refine sw_region ?_
  refine ow_val (val_move rfl) rfl ?_   -- 101
  refine ow_val (val_assign rfl) rfl ?_   -- 22
  refine ow_nil (into ?_)
  refine sw_block ?_
  refine sw_loop (σ := Nat × Nat × List Ent) (fun t => hf ≤ t.1 ∧ t.1 ≤ sz ∧ TrOn 95 75 k t.2.2 t.2.1 (L.take t.1) ∧ TrOn 95 75 k t.2.2 b59 L ∧ TrOn 95 75 k t.2.2 b72 P) (fun t => [(22, vInt (t.1 : Int)), (21, vPtr t.2.1), (13, .slice a44 sz c44), (12, vInt (sz : Int)), (16, vPtr b59), (19, vPtr b72), (18, vInt (hf : Int)), (11, vInt (k : Int)), (3, vU16 a3), (4, vU16 a4)]) (fun t => Mem w [] (e44 :: t.2.2)) (fun t => sz - t.1) (hf, b72, ((es47 ++ es59) ++ es72)) ⟨Nat.le_refl _, by omega, htr72.cast hPd.symm, (htr59.left (T' := es72)), htr72⟩ ⟨rfl, rfl, rfl, rfl, rfl, rfl, rfl, rfl, rfl, rfl, trivial⟩ (fun w hm => hm.only (.cons_cons _ (List.Sublist.refl _))) ?_
  rintro ⟨i, b1, T1⟩ ⟨hi1, hi2, htr, hall, hpart⟩
  simp only at hi1 hi2 htr hall hpart ⊢
  have hrc := hr44.le
  refine sw_seq ?_
  refine sw_seq ?_
  refine sw_region ?_
  refine ow_val (val_move rfl) rfl ?_   -- 102
  refine ow_val (val_move rfl) rfl ?_   -- 103
  refine ow_val (val_lss_int rfl rfl) rfl ?_   -- 104
  refine ow_nil (into ?_)
  refine sw_if rfl (fun h0 => ?_) (fun h0 => ?_)
  · -- then
    have htn : (L.take i).length = i := by rw [List.length_take]; omega
    have htd : ∀ d ∈ L.take i, d.length = 32 := fun d hd => hdL d (List.mem_of_mem_take hd)
    have htf : ∀ d ∈ L.take i, fm (k : Int) d = true := fun d hd => hfL d (List.mem_of_mem_take hd)
    obtain ⟨bL, oL, rfl⟩ := rowAddr32 hr44 (by omega)
    refine sw_skip (into ?_)
    refine sw_seq ?_
    refine sw_block ?_
    refine sw_seq ?_
    refine sw_region ?_
    refine ow_val (val_move rfl) rfl ?_   -- 108
    refine ow_val (val_move rfl) rfl ?_   -- 109
    refine ow_val (val_move rfl) rfl ?_   -- 110
    refine ow_val (val_indexAddr_slice (i) (oL + i * 32) rfl rfl Tryd.underlying32 Tryd.sizeOf43 (by omega) (by omega) (by omega)) rfl ?_   -- 111
    refine ow_val (val_load_elem (cells := fun d => d.map vU8) (l := L) (o := oL) (i := i) rfl Tryd.isAgg43 Tryd.sizeOf43 (fun x hx => by rw [List.length_map]; exact hdL x hx) (by omega) (by omega) (fun w' hm => hr44.rdAt hm (i := 0) rfl)) rfl ?_   -- 112
    refine ow_make (acts_buildSlice (cs := [((L.getD i default)).map vU8].flatten) Tryd.underlying32 Tryd.sizeOf43 zD rfl rfl (fill_aggs [((L.getD i default)).map vU8] (by decide) rfl (by simp only [List.forall_mem_cons, List.length_map]; exact ⟨(hdL _ (getD_mem (by omega))), fun _ h => by cases h⟩))) rfl (fun b113 hb113 => ?_)   -- 113
    refine ow_call_tail (σ := Nat × List Ent) (fun q9 => .tuple #[vPtr q9.1, vInt ((0 : Nat) : Int)]) (fun q9 => q9.2) (fun q9 => TrOn 95 75 k (T1 ++ q9.2) q9.1 (L.take (i + 1))) (callsTo Tryd.func16 rfl (by kernel_rfl) rfl) rfl (fun w hm => (append_tr k h1 h2 w (hK.mem0 hm) T1 (hm.heldSub (.cons _ (.cons _ (List.Sublist.refl _)))) b1 (L.take i) htr (by assumption) (by assumption) (some ⟨b113, 0, none⟩) 1 1 [(L.getD i default)] rfl (by simp only [List.forall_mem_cons]; exact ⟨(hdL _ (getD_mem (by omega))), fun _ h => by cases h⟩) (Rd.blk (hm.at (i := 0) rfl)) (Nat.le_refl _) (by decide) (by simp only [List.forall_mem_cons]; exact ⟨(hfL _ (getD_mem (by omega))), fun _ h => by cases h⟩) (by (try simp only [List.length_cons, List.length_nil]); omega)).mono fun _ _ ⟨u, he, q9, hu, hi, hm'⟩ => ⟨u, he, q9, hu, hi.cast (take_succ_getD (by omega)), hm'⟩) ?_   -- 114
    rintro ⟨b114, es114⟩ htr114
    simp only at htr114 ⊢
    refine ow_val (val_move rfl) rfl ?_   -- 107
    refine ow_val (val_extract rfl rfl) rfl ?_   -- 115
    refine ow_val (val_extract rfl rfl) rfl ?_   -- 116
    refine ow_val (val_assign rfl) rfl ?_   -- 23
    refine ow_val (val_assign rfl) rfl ?_   -- 24
    refine ow_nil (into ?_)
    refine sw_seq ?_
    refine sw_seq ?_
    refine sw_region ?_
    refine ow_val (val_move rfl) rfl ?_   -- 117
    refine ow_val ((val_neq_int rfl rfl).to (v' := .bool false) (congrArg Value.bool (decide_eq_false (fun h => h (by simp))))) rfl ?_   -- 118
    refine ow_nil (into ?_)
    refine sw_false rfl rfl ?_
    refine sw_skip (into ?_)
    refine sw_region ?_
    refine ow_val (val_move rfl) rfl ?_   -- 119
    refine ow_val (val_assign rfl) rfl ?_   -- 21
    refine ow_nil (into ?_)
    refine sw_region ?_
    refine ow_val (val_move rfl) rfl ?_   -- 105
    refine ow_val (val_add_int ((i + 1 : Nat) : Int) rfl rfl (by omega) (by omega)) rfl ?_   -- 106
    refine ow_val (val_assign rfl) rfl ?_   -- 22
    exact ow_nil (fun w hm => ⟨(i + 1, b114, (T1 ++ es114)), ⟨by dsimp only; omega, by dsimp only; omega, htr114, (hall.left (T' := es114)), (hpart.left (T' := es114))⟩, by dsimp only; omega, ⟨rfl, rfl, rfl, rfl, rfl, rfl, rfl, rfl, rfl, rfl, trivial⟩, hm.only (.cons _ (.cons_cons _ (List.Sublist.refl _)))⟩)
  · -- else
    obtain rfl : sz = i := by omega
    rw [List.take_of_length_le (by omega)] at htr
    refine sw_exit (into ?_)
    refine sw_seq ?_
    refine sw_region ?_
    refine ow_val (val_move rfl) rfl ?_   -- 121
    refine ow_val (val_move rfl) rfl ?_   -- 122
    refine ow_val (val_conv_n_u64 sz Tryd.underlying3 Tryd.underlying46 rfl rfl) rfl ?_   -- 123
    refine ow_call_pure (v := .tuple #[.agg ((lg k (seg L 0 sz)).map vU8).toArray, vInt ((0 : Nat) : Int)]) (callsTo Tryd.func21 rfl (by kernel_rfl) rfl) rfl (fun w hm => (by have h := root_any k h1 h2 b59 L (by assumption) (by assumption) (UInt64.ofNat sz) w (hK.mem0 hm) (hall.is (hm.heldSub (.cons _ (List.Sublist.refl _)))) (by omega); rw [rngO_root k (by omega) (by omega)] at h; exact h)) ?_   -- 124
    refine ow_val (val_move rfl) rfl ?_   -- 120
    refine ow_val (val_extract rfl rfl) rfl ?_   -- 125
    refine ow_val (val_extract rfl rfl) rfl ?_   -- 126
    refine ow_new (acts_alloc zD) rfl (fun b25 hb25 => ?_)   -- 25
    refine ow_do_eq (does_store_all 0 rfl rfl rfl (one_u8s _) Tryd.sizeOf43 (by show (List.map vU8 (lg k (seg L 0 sz))).length = _; rw [List.length_map]; exact (lg_len h2 _ rfl (seg_all (by assumption)))) (by show (List.map vU8 zeros32).length = _; rw [List.length_map]; exact zeros32_len)) ?_
    refine ow_val (val_assign rfl) rfl ?_   -- 26
    refine ow_nil (into ?_)
    refine sw_seq ?_
    refine sw_region ?_
    refine ow_val (val_move rfl) rfl ?_   -- 128
    refine ow_val (val_move rfl) rfl ?_   -- 129
    refine ow_val (val_conv_n_u64 sz Tryd.underlying3 Tryd.underlying46 rfl rfl) rfl ?_   -- 130
    refine ow_call_pure (v := .tuple #[.agg ((lg k (seg L 0 sz)).map vU8).toArray, vInt ((0 : Nat) : Int)]) (callsTo Tryd.func21 rfl (by kernel_rfl) rfl) rfl (fun w hm => (by have h := root_any k h1 h2 b1 L (by assumption) (by assumption) (UInt64.ofNat sz) w (hK.mem0 hm) (htr.is (hm.heldSub (.cons _ (.cons _ (List.Sublist.refl _))))) (by omega); rw [rngO_root k (by omega) (by omega)] at h; exact h)) ?_   -- 131
    refine ow_val (val_move rfl) rfl ?_   -- 127
    refine ow_val (val_extract rfl rfl) rfl ?_   -- 132
    refine ow_val (val_extract rfl rfl) rfl ?_   -- 133
    refine ow_new (acts_alloc zD) rfl (fun b27 hb27 => ?_)   -- 27
    refine ow_do_eq (does_store_all 0 rfl rfl rfl (one_u8s _) Tryd.sizeOf43 (by show (List.map vU8 (lg k (seg L 0 sz))).length = _; rw [List.length_map]; exact (lg_len h2 _ rfl (seg_all (by assumption)))) (by show (List.map vU8 zeros32).length = _; rw [List.length_map]; exact zeros32_len)) ?_
    refine ow_val (val_assign rfl) rfl ?_   -- 28
    refine ow_nil (into ?_)
    refine sw_seq ?_
    refine sw_region ?_
    refine ow_val (val_move rfl) rfl ?_   -- 135
    refine ow_val (val_move rfl) rfl ?_   -- 136
    refine ow_val (val_conv_n_u64 hf Tryd.underlying3 Tryd.underlying46 rfl rfl) rfl ?_   -- 137
    refine ow_call_pure (v := .tuple #[.agg ((lg k (seg L 0 hf)).map vU8).toArray, vInt ((0 : Nat) : Int)]) (callsTo Tryd.func21 rfl (by kernel_rfl) rfl) rfl (fun w hm => (by have h := root_any k h1 h2 b59 L (by assumption) (by assumption) (UInt64.ofNat hf) w (hK.mem0 hm) (hall.is (hm.heldSub (.cons _ (.cons _ (.cons _ (List.Sublist.refl _)))))) (by omega); rw [rngO_root k (by omega) (by omega)] at h; exact h)) ?_   -- 138
    refine ow_val (val_move rfl) rfl ?_   -- 134
    refine ow_val (val_extract rfl rfl) rfl ?_   -- 139
    refine ow_val (val_extract rfl rfl) rfl ?_   -- 140
    refine ow_new (acts_alloc zD) rfl (fun b29 hb29 => ?_)   -- 29
    refine ow_do_eq (does_store_all 0 rfl rfl rfl (one_u8s _) Tryd.sizeOf43 (by show (List.map vU8 (lg k (seg L 0 hf))).length = _; rw [List.length_map]; exact (lg_len h2 _ rfl (seg_all (by assumption)))) (by show (List.map vU8 zeros32).length = _; rw [List.length_map]; exact zeros32_len)) ?_
    refine ow_val (val_assign rfl) rfl ?_   -- 30
    refine ow_nil (into ?_)
    refine sw_seq ?_
    refine sw_region ?_
    refine ow_val (val_move rfl) rfl ?_   -- 142
    refine ow_val (val_move rfl) rfl ?_   -- 143
    refine ow_val (val_conv_n_u64 hf Tryd.underlying3 Tryd.underlying46 rfl rfl) rfl ?_   -- 144
    refine ow_call_pure (v := .tuple #[.agg ((lg k (seg L 0 hf)).map vU8).toArray, vInt ((0 : Nat) : Int)]) (callsTo Tryd.func21 rfl (by kernel_rfl) rfl) rfl (fun w hm => (by have h := (by have h := root_any k h1 h2 b72 P (by assumption) (by assumption) (UInt64.ofNat hf) w (hK.mem0 hm) (hpart.is (hm.heldSub (.cons _ (.cons _ (.cons _ (.cons _ (List.Sublist.refl _))))))) (by omega); rw [rngO_root k (by omega) (by omega)] at h; exact h); rw [hPs] at h; exact h)) ?_   -- 145
    refine ow_val (val_move rfl) rfl ?_   -- 141
    refine ow_val (val_extract rfl rfl) rfl ?_   -- 146
    refine ow_val (val_extract rfl rfl) rfl ?_   -- 147
    refine ow_new (acts_alloc zD) rfl (fun b31 hb31 => ?_)   -- 31
    refine ow_do_eq (does_store_all 0 rfl rfl rfl (one_u8s _) Tryd.sizeOf43 (by show (List.map vU8 (lg k (seg L 0 hf))).length = _; rw [List.length_map]; exact (lg_len h2 _ rfl (seg_all (by assumption)))) (by show (List.map vU8 zeros32).length = _; rw [List.length_map]; exact zeros32_len)) ?_
    refine ow_val (val_assign rfl) rfl ?_   -- 32
    refine ow_nil (into ?_)
    refine sw_seq ?_
    refine sw_seq ?_
    refine sw_region ?_
    refine ow_val (val_move rfl) rfl ?_   -- 148
    refine ow_val ((val_neq_int rfl rfl).to (v' := .bool false) (congrArg Value.bool (decide_eq_false (fun h => h (by simp))))) rfl ?_   -- 149
    refine ow_val (val_move rfl) rfl ?_   -- 150
    refine ow_guard_yes rfl rfl rfl ?_
    refine ow_val (val_move rfl) rfl ?_   -- 151
    refine ow_guard_yes rfl rfl rfl ?_
    refine ow_val ((val_neq_int rfl rfl).to (v' := .bool false) (congrArg Value.bool (decide_eq_false (fun h => h (by simp))))) rfl ?_   -- 152
    refine ow_val (val_pick_false rfl rfl) rfl ?_   -- 153
    refine ow_val (val_move rfl) rfl ?_   -- 154
    refine ow_guard_yes rfl rfl rfl ?_
    refine ow_val (val_move rfl) rfl ?_   -- 155
    refine ow_guard_yes rfl rfl rfl ?_
    refine ow_val ((val_neq_int rfl rfl).to (v' := .bool false) (congrArg Value.bool (decide_eq_false (fun h => h (by simp))))) rfl ?_   -- 156
    refine ow_val (val_pick_false rfl rfl) rfl ?_   -- 157
    refine ow_val (val_move rfl) rfl ?_   -- 158
    refine ow_guard_yes rfl rfl rfl ?_
    refine ow_val (val_move rfl) rfl ?_   -- 159
    refine ow_guard_yes rfl rfl rfl ?_
    refine ow_val ((val_neq_int rfl rfl).to (v' := .bool false) (congrArg Value.bool (decide_eq_false (fun h => h (by simp))))) rfl ?_   -- 160
    refine ow_val (val_pick_false rfl rfl) rfl ?_   -- 161
    refine ow_val (val_move rfl) rfl ?_   -- 162
    refine ow_guard_yes rfl rfl rfl ?_
    refine ow_val (val_load_all 3 rfl rfl Tryd.isAgg43 Tryd.sizeOf43 (by show (List.map vU8 (lg k (seg L 0 sz))).length = _; rw [List.length_map]; exact (lg_len h2 _ rfl (seg_all (by assumption))))) rfl ?_   -- 163
    refine ow_guard_yes rfl rfl rfl ?_
    refine ow_val (val_load_all 2 rfl rfl Tryd.isAgg43 Tryd.sizeOf43 (by show (List.map vU8 (lg k (seg L 0 sz))).length = _; rw [List.length_map]; exact (lg_len h2 _ rfl (seg_all (by assumption))))) rfl ?_   -- 164
    refine ow_guard_yes rfl rfl rfl ?_
    refine ow_val ((val_neq_u8s rfl rfl Tryd.eqGuardType43 Tryd.underlying43 Tryd.underlying5 Tryd.sizeOf5 Tryd.isAgg5 (lg_len h2 _ rfl (seg_all (by assumption))) (lg_len h2 _ rfl (seg_all (by assumption)))).to (congrArg Value.bool (show _ = false by simp [txt]))) rfl ?_   -- 165
    refine ow_val (val_pick_false rfl rfl) rfl ?_   -- 166
    refine ow_val (val_move rfl) rfl ?_   -- 167
    refine ow_guard_yes rfl rfl rfl ?_
    refine ow_val (val_load_all 1 rfl rfl Tryd.isAgg43 Tryd.sizeOf43 (by show (List.map vU8 (lg k (seg L 0 hf))).length = _; rw [List.length_map]; exact (lg_len h2 _ rfl (seg_all (by assumption))))) rfl ?_   -- 168
    refine ow_guard_yes rfl rfl rfl ?_
    refine ow_val (val_load_all 0 rfl rfl Tryd.isAgg43 Tryd.sizeOf43 (by show (List.map vU8 (lg k (seg L 0 hf))).length = _; rw [List.length_map]; exact (lg_len h2 _ rfl (seg_all (by assumption))))) rfl ?_   -- 169
    refine ow_guard_yes rfl rfl rfl ?_
    refine ow_val ((val_neq_u8s rfl rfl Tryd.eqGuardType43 Tryd.underlying43 Tryd.underlying5 Tryd.sizeOf5 Tryd.isAgg5 (lg_len h2 _ rfl (seg_all (by assumption))) (lg_len h2 _ rfl (seg_all (by assumption)))).to (congrArg Value.bool (show _ = false by simp [txt]))) rfl ?_   -- 170
    refine ow_val (val_pick_false rfl rfl) rfl ?_   -- 171
    refine ow_val (val_move rfl) rfl ?_   -- 172
    refine ow_guard_yes rfl rfl rfl ?_
    refine ow_val (val_move rfl) rfl ?_   -- 173
    refine ow_guard_yes rfl rfl rfl ?_
    refine ow_call_pure (v := vU64 (UInt64.ofNat P.length)) (callsTo Tryd.func24 rfl (by kernel_rfl) rfl) rfl (fun w hm => tsize_is b72 P w (hpart.is (hm.heldSub (.cons _ (.cons _ (.cons _ (.cons _ (.cons _ (List.Sublist.refl _))))))))) ?_   -- 174
    refine ow_guard_yes rfl rfl rfl ?_
    refine ow_val (val_move rfl) rfl ?_   -- 175
    refine ow_guard_yes rfl rfl rfl ?_
    refine ow_val (val_conv_n_u64 hf Tryd.underlying3 Tryd.underlying46 rfl rfl) rfl ?_   -- 176
    refine ow_guard_yes rfl rfl rfl ?_
    refine ow_val ((val_neq_u64 rfl rfl).to (congrArg Value.bool (decide_eq_false ((fun h => h (by rw [hPn])))))) rfl ?_   -- 177
    refine ow_val (val_pick_false rfl rfl) rfl ?_   -- 178
    refine ow_nil (into ?_)
    refine sw_false rfl rfl ?_
    refine sw_skip (into ?_)
    refine sw_seq ?_
    refine sw_region ?_
    refine ow_val (val_move rfl) rfl ?_   -- 179
    refine ow_val (val_conv_u16_i64 Tryd.underlying67 Tryd.underlying3 rfl) rfl ?_   -- 180
    refine ow_val (val_move rfl) rfl ?_   -- 181
    refine ow_val ((val_rem_nn ((a4.toNat % sz : Nat) : Int) rfl rfl (by omega) (by omega) (by omega)).to (v' := vInt (lo : Int)) (by rw [← hlo])) rfl ?_   -- 182
    refine ow_val (val_assign rfl) rfl ?_   -- 33
    refine ow_nil (into ?_)
    refine sw_seq ?_
    refine sw_region ?_
    refine ow_val (val_move rfl) rfl ?_   -- 183
    refine ow_val (val_add_int ((lo + 1 : Nat) : Int) rfl rfl (by omega) (by omega)) rfl ?_   -- 184
    refine ow_val (val_move rfl) rfl ?_   -- 185
    refine ow_val (val_conv_u16_i64 Tryd.underlying67 Tryd.underlying3 rfl) rfl ?_   -- 186
    refine ow_val (val_move rfl) rfl ?_   -- 187
    refine ow_val (val_move rfl) rfl ?_   -- 188
    refine ow_val (val_sub_int ((sz - lo : Nat) : Int) rfl rfl (by omega) (by omega)) rfl ?_   -- 189
    refine ow_val (val_rem_nn ((a3.toNat % (sz - lo) : Nat) : Int) rfl rfl (by omega) (by omega) (by omega)) rfl ?_   -- 190
    refine ow_val ((val_add_int ((lo + 1 + a3.toNat % (sz - lo) : Nat) : Int) rfl rfl (by omega) (by omega)).to (v' := vInt (hi : Int)) (by rw [← hhi])) rfl ?_   -- 191
    refine ow_val (val_assign rfl) rfl ?_   -- 34
    refine ow_nil (into ?_)
    refine sw_seq ?_
    refine sw_region ?_
    refine ow_val (val_move rfl) rfl ?_   -- 192
    refine ow_val (val_move rfl) rfl ?_   -- 193
    refine ow_val (val_move rfl) rfl ?_   -- 194
    refine ow_val (val_move rfl) rfl ?_   -- 195
    refine ow_call_pure (v := .bool true) (callsTo Tryd.func36 rfl (by kernel_rfl) rfl) rfl (fun w hm => halves_any k h1 h2 w (hK.mem0 hm) b59 L (hall.is (hm.heldSub (.cons _ (.cons _ (.cons _ (.cons _ (.cons _ (List.Sublist.refl _)))))))) (by assumption) (by assumption) (by omega) lo hi (by omega) (by omega)) ?_   -- 196
    refine ow_val (val_assign rfl) rfl ?_   -- 10
    refine ow_nil (into ?_)
    exact sw_ret (fun w hm => ret_one _ rfl rfl ⟨rfl, hm.forgetAll⟩)

theorem wholeTree_any (w8 : UInt8) (w : World) (hK : KW w) (a : Option Addr) (c : Nat) (q : List (List UInt8)) (hdq : ∀ d ∈ q, d.length = 32) (hr : Rd w a (q.flatMap fun d => d.map vU8)) (hc : q.length ≤ c) (hl : q.length < 9223372036854775808) (a2 a3 a4 : UInt16) : Calls Tryd.prog 11 #[vU8 w8, .slice a q.length c, vU16 a2, vU16 a3, vU16 a4] w fun e w' => ∃ v, e = .returned v ∧ v = .bool true ∧ Mem w [] [] w' :=
  wtree_0 w8 a2 a3 a4 _ (by omega) (by have h9 := Nat.mod_lt w8.toNat (show 0 < 32 by omega); omega) rfl _ _ _ _ rfl rfl rfl rfl w hK a c q hdq hr hc hl _ _ rfl rfl
end Go.Proofs.YtcappcjogcekkaaDoor
