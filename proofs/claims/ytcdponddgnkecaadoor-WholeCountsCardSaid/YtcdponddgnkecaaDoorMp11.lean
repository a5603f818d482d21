import Derived.Test.YtcdponddgnkecaaDoorMp10
import Derived.Test.YtcdponddgnkecaaDoorProg
set_option linter.unusedVariables false
set_option linter.unusedSimpArgs false
namespace Go.Proofs.YtcdponddgnkecaaDoor
open Go.Sx Go.Ps
theorem inc_pop {P X : List (List UInt8)} {d : List UInt8} {r : Nat} (h1 : 1 ≤ r) (hr : r ≤ P.length) (h : P.take r = X ++ [d]) : d = P.getD (r - 1) default ∧ P.take (r - 1) = X := by
  have h2 : P.take (r - 1) ++ [P.getD (r - 1) default] = X ++ [d] := by
    rw [take_succ_getD (by omega), show r - 1 + 1 = r by omega, h]
  obtain ⟨a, b⟩ := List.append_inj' h2 rfl
  exact ⟨by injection b with b; exact b.symm, a⟩
theorem seg_fst {L : List (List UInt8)} {lo hi m : Nat} (h : m ≤ hi - lo) : (seg L lo hi).take m = seg L lo (lo + m) := by
  rw [seg, seg, List.take_take, Nat.min_eq_left h, Nat.add_sub_cancel_left]
theorem seg_snd {L : List (List UInt8)} {lo hi m : Nat} : (seg L lo hi).drop m = seg L (lo + m) hi := by
  rw [seg, seg, List.drop_take, List.drop_drop, Nat.sub_sub]
theorem seg_whole {L : List (List UInt8)} {n : Nat} (h : L.length = n) : seg L 0 n = L := by
  rw [seg, List.drop_zero, Nat.sub_zero, List.take_of_length_le (by omega)]

theorem wcounts_0 (w8 : UInt8) (a1 a2 a3 : UInt16) (k : Nat) (h1 : 1 ≤ k) (h2 : k ≤ 32) (hk : 1 + w8.toNat % 32 = k) (sz ia om : Nat) (hsz : 1 + a1.toNat % 300 = sz) (hia : a2.toNat % sz = ia) (hom : a3.toNat % (sz + 1) = om) (w : World) (hK : KW w) (L : List (List UInt8)) (hL : lvs k [] sz = L) : Calls Tryd.prog 12 #[vU8 w8, vU16 a1, vU16 a2, vU16 a3] w fun e w' => ∃ v, e = .returned v ∧ v = .bool true ∧ Mem w [] [] w' := by
  have hsz0 : 1 ≤ sz := by omega
  have hsz1 : sz ≤ 300 := by have h9 := Nat.mod_lt a1.toNat (show 0 < 300 by omega); omega
  have hat1 : ia < sz := by have h9 := Nat.mod_lt a2.toNat (show 0 < sz by omega); omega
  have hold1 : om ≤ sz := by have h9 := Nat.mod_lt a3.toNat (show 0 < sz + 1 by omega); omega
  have hLn : L.length = sz := by rw [← hL]; exact lvs_len _ _ _
  have hq0 : ∀ d ∈ ([] : List (List UInt8)), d.length = 32 := fun _ h => by cases h
  have hdL : ∀ d ∈ L, d.length = 32 := by rw [← hL]; exact (lvs_ok h1 h2 hq0 sz).1
  have hfL : ∀ d ∈ L, fm (k : Int) d = true := by rw [← hL]; exact (lvs_ok h1 h2 hq0 sz).2
  have hn1 : ∀ d ∈ ([] : List (List UInt8)), fm (k : Int) d = true := fun _ h => by cases h
  have hnn : ([] : List (List UInt8)).length = 0 := rfl
  have ea : (UInt64.ofNat ia).toNat = ia := of_nat (by omega)
  have es : (UInt64.ofNat sz).toNat = sz := of_nat (by omega)
  have eo : (UInt64.ofNat om).toNat = om := of_nat (by omega)
  have es1 : (UInt64.ofNat (sz + 1)).toNat = sz + 1 := of_nat (by omega)
  have hsL := seg_whole hLn
  obtain ⟨P, hP2⟩ : ∃ P, incL k L ia = P := ⟨_, rfl⟩
  have hP : incL k (seg L 0 (UInt64.ofNat sz).toNat) (UInt64.ofNat ia).toNat = P := by rw [ea, es, hsL]; exact hP2
  have hPm := incL_mem h1 h2 _ (Nat.le_refl _) hdL hfL (i := ia) (l := L)
  rw [hP2] at hPm
  have hPd := fun d hd => (hPm d hd).1
  have hPf := fun d hd => (hPm d hd).2
  have hPn : P.length < 300 := by rw [← hP2]; have h7 := incL_len (k := k) _ (l := L) (i := ia) (Nat.le_refl _); omega
  obtain ⟨Q, hQ2⟩ : ∃ P, conO k L om sz = P := ⟨_, rfl⟩
  have hQ : conO k L (UInt64.ofNat om).toNat (UInt64.ofNat sz).toNat = Q := by rw [eo, es]; exact hQ2
  have hQm := conO_mem h1 h2 hdL hfL (i := om) (n := sz)
  rw [hQ2] at hQm
  have hQd := fun d hd => (hQm d hd).1
  have hQf := fun d hd => (hQm d hd).2
  have hQn : Q.length < 302 := by rw [← hQ2]; have h7 := conO_len (k := k) (l := L) (i := om) (n := sz) (by omega); omega
  have hI1 : (UInt64.ofNat ia).toNat < (UInt64.ofNat sz).toNat ∧ (UInt64.ofNat sz).toNat ≤ L.length := by rw [ea, es]; omega
  have hJ1 : (UInt64.ofNat om).toNat ≤ (UInt64.ofNat sz).toNat ∧ (UInt64.ofNat sz).toNat ≤ L.length := by rw [eo, es]; omega
  have hPpos : 1 < sz → P.length ≠ 0 := fun h h9 => by rw [← hP2] at h9; exact incL_ne (k := k) (i := ia) (l := L) (by omega) (List.length_eq_zero_iff.1 h9)
  have hQz : om = 0 ∨ om = sz → Q.length = 0 := fun h => by
    rw [← hQ2, conO]; split
    · rfl
    · rw [hsL, conL_end (by omega)]; rfl
  have hQnz : om ≠ 0 → om ≠ sz → Q.length ≠ 0 := fun h h' h9 => by
    rw [← hQ2, conO, if_neg h, hsL] at h9; exact conL_ne (k := k) (b := true) (l := L) (m := om) (by omega) (by omega) (List.length_eq_zero_iff.1 h9)
  have hcx : (splitsL (UInt64.ofNat ia) (UInt64.ofNat sz)).length = P.length := by
    rw [splitsL_st _ _ _ (Nat.le_refl _) (UInt64.lt_iff_toNat_lt.2 hI1.1), ea, es, ← hP2, incL_st k _ (Nat.le_refl _), hLn]
  have hcy : cntZ (UInt64.ofNat om) (UInt64.ofNat sz) = Q.length := by
    rw [cntZ]; split
    · rename_i h; exact (hQz (.inl (by rw [← eo, h]; rfl))).symm
    · rename_i h
      have h0 : om ≠ 0 := fun h9 => h (UInt64.toNat.inj (by rw [eo, h9]; rfl))
      have h7 := conL_cnt k _ (l := L) (m := UInt64.ofNat om) (n := UInt64.ofNat sz) (known := true) (Nat.le_refl _) (by rw [es]; exact hLn) h (UInt64.le_iff_toNat_le.2 hJ1.1)
      rw [← h7, eo, ← hQ2, conO, if_neg h0, hsL]
  have hcnt : cntO (UInt64.ofNat ia) (UInt64.ofNat om) (UInt64.ofNat sz) = ((P.length, Q.length), 0) := by
    rw [cntO, if_neg (by rw [UInt64.le_iff_toNat_le, UInt64.lt_iff_toNat_lt, ea, eo, es]; omega), hcx, hcy]
  have hno1 : ¬ ((UInt64.ofNat sz).toNat < (UInt64.ofNat sz).toNat ∧ (UInt64.ofNat sz).toNat ≤ L.length) := fun h => Nat.lt_irrefl _ h.1
  have hno2 : ¬ ((UInt64.ofNat (sz + 1)).toNat ≤ (UInt64.ofNat sz).toNat ∧ (UInt64.ofNat sz).toNat ≤ L.length) := by rw [es, es1]; omega
  have hno3 : ¬ ((0 : UInt64).toNat < (UInt64.ofNat (sz + 1)).toNat ∧ (UInt64.ofNat (sz + 1)).toNat ≤ L.length) := by rw [es1]; omega
  refine calls_of_sw (vs := [vU8 w8, vU16 a1, vU16 a2, vU16 a3]) Tryd.func12 rfl Tryd.ntmps12 rfl (SW.begin ?_)
  refine sw_seq ?_
  refine sw_region ?_
  refine ow_val (val_assign rfl) rfl ?_   -- 8
  refine ow_nil (into ?_)
  refine sw_seq ?_
  refine sw_region ?_
  refine ow_val (val_move rfl) rfl ?_   -- 35
  refine ow_call_pure (v := vInt (k : Int)) (callsTo Tryd.func35 rfl (by kernel_rfl) rfl) rfl (fun w hm => tw_is hk w) ?_   -- 36
  refine ow_val (val_assign rfl) rfl ?_   -- 9
  refine ow_nil (into ?_)
  refine sw_seq ?_
  refine sw_region ?_
  refine ow_val (val_move rfl) rfl ?_   -- 37
  refine ow_val (val_conv_u16_i64 Tryd.underlying56 Tryd.underlying3 rfl) rfl ?_   -- 38
  refine ow_val (val_rem_nn ((a1.toNat % 300 : Nat) : Int) rfl rfl (by omega) (by omega) (by omega)) rfl ?_   -- 39
  refine ow_val ((val_add_int ((1 + a1.toNat % 300 : Nat) : Int) rfl rfl (by omega) (by omega)).to (v' := vInt (sz : Int)) (by rw [← hsz])) rfl ?_   -- 40
  refine ow_val (val_assign rfl) rfl ?_   -- 10
  refine ow_nil (into ?_)
  refine sw_seq ?_
  refine sw_region ?_
  refine ow_val (val_move rfl) rfl ?_   -- 42
  refine ow_call_tail (σ := Nat × List Ent) (fun q9 => .tuple #[vPtr q9.1, vInt ((0 : Nat) : Int)]) (fun q9 => q9.2) (fun q9 => TrOn 110 79 k q9.2 q9.1 []) (callsTo Tryd.func36 rfl (by kernel_rfl) rfl) rfl (fun w hm => new_tr k h1 h2 w) ?_   -- 43
  rintro ⟨b43, es43⟩ htr43
  simp only at htr43 ⊢
  refine ow_val (val_move rfl) rfl ?_   -- 41
  refine ow_val (val_extract rfl rfl) rfl ?_   -- 44
  refine ow_val (val_extract rfl rfl) rfl ?_   -- 45
  refine ow_val (val_assign rfl) rfl ?_   -- 11
  refine ow_val (val_assign rfl) rfl ?_   -- 12
  refine ow_nil (into ?_)
  refine sw_seq ?_
  refine sw_region ?_
  refine ow_val (val_move rfl) rfl ?_   -- 47
  refine ow_val (val_move rfl) rfl ?_   -- 48
  refine ow_val (val_move rfl) rfl ?_   -- 49
  refine ow_call_row (E := 41) (size := 32) (k := sz) (xs := List.flatMap (fun d : List UInt8 => List.map vU8 d) L) (callsTo Tryd.func38 rfl (by kernel_rfl) rfl) rfl (fun w hm => leaves_nil k h1 h2 sz (by omega) w (hK.mem0 hm) hL) (fun a50 c50 e50 hr50 => ?_)   -- 50
  refine ow_call_tail (σ := Nat × List Ent) (fun q9 => .tuple #[vPtr q9.1, vInt ((0 : Nat) : Int)]) (fun q9 => q9.2) (fun q9 => TrOn 110 79 k (es43 ++ q9.2) q9.1 L) (callsTo Tryd.func37 rfl (by kernel_rfl) rfl) rfl (fun w hm => (append_tr k h1 h2 w (hK.mem0 hm) es43 (hm.heldSub (.cons _ (List.Sublist.refl _))) b43 [] htr43 (by assumption) (by assumption) a50 sz c50 L hLn hdL (hr50.rdAt hm (i := 0) rfl) hr50.le (by omega) hfL (by omega)).mono fun _ _ ⟨u, he, q9, hu, hi, hm'⟩ => ⟨u, he, q9, hu, hi.cast (List.nil_append _), hm'⟩) ?_   -- 51
  rintro ⟨b51, es51⟩ htr51
  simp only at htr51 ⊢
  refine ow_val (val_move rfl) rfl ?_   -- 46
  refine ow_val (val_extract rfl rfl) rfl ?_   -- 52
  refine ow_val (val_extract rfl rfl) rfl ?_   -- 53
  refine ow_val (val_assign rfl) rfl ?_   -- 13
  refine ow_val (val_assign rfl) rfl ?_   -- 14
  refine ow_nil (into ?_)
  refine sw_seq ?_
  refine sw_seq ?_
  refine sw_region ?_
  refine ow_val (val_move rfl) rfl ?_   -- 54
  refine ow_val ((val_neq_int rfl rfl).to (v' := .bool false) (congrArg Value.bool (decide_eq_false (fun h => h (by simp))))) rfl ?_   -- 55
  refine ow_nil (into ?_)
  refine sw_false rfl rfl ?_
  refine sw_skip (into ?_)
  refine sw_seq ?_
  refine sw_region ?_
  refine ow_val (val_move rfl) rfl ?_   -- 56
  refine ow_val (val_conv_u16_i64 Tryd.underlying56 Tryd.underlying3 rfl) rfl ?_   -- 57
  refine ow_val (val_move rfl) rfl ?_   -- 58
  refine ow_val ((val_rem_nn ((a2.toNat % sz : Nat) : Int) rfl rfl (by omega) (by omega) (by omega)).to (v' := vInt (ia : Int)) (by rw [← hia])) rfl ?_   -- 59
  refine ow_val (val_conv_n_u64 ia Tryd.underlying3 Tryd.underlying23 rfl rfl) rfl ?_   -- 60
  refine ow_val (val_assign rfl) rfl ?_   -- 15
  refine ow_nil (into ?_)
  refine sw_seq ?_
  refine sw_region ?_
  refine ow_val (val_move rfl) rfl ?_   -- 61
  refine ow_val (val_conv_u16_i64 Tryd.underlying56 Tryd.underlying3 rfl) rfl ?_   -- 62
  refine ow_val (val_move rfl) rfl ?_   -- 63
  refine ow_val (val_add_int ((sz + 1 : Nat) : Int) rfl rfl (by omega) (by omega)) rfl ?_   -- 64
  refine ow_val ((val_rem_nn ((a3.toNat % (sz + 1) : Nat) : Int) rfl rfl (by omega) (by omega) (by omega)).to (v' := vInt (om : Int)) (by rw [← hom])) rfl ?_   -- 65
  refine ow_val (val_conv_n_u64 om Tryd.underlying3 Tryd.underlying23 rfl rfl) rfl ?_   -- 66
  refine ow_val (val_assign rfl) rfl ?_   -- 16
  refine ow_nil (into ?_)
  refine sw_seq ?_
  refine sw_region ?_
  refine ow_val (val_move rfl) rfl ?_   -- 68
  refine ow_val (val_move rfl) rfl ?_   -- 69
  refine ow_val (val_move rfl) rfl ?_   -- 70
  refine ow_val (val_conv_n_u64 sz Tryd.underlying3 Tryd.underlying23 rfl rfl) rfl ?_   -- 71
  refine ow_call_row2 (E := 41) (size := 32) (k := P.length) (xs := List.flatMap (fun d : List UInt8 => List.map vU8 d) P) (x := vInt ((0 : Nat) : Int)) (callsTo Tryd.func16 rfl (by kernel_rfl) rfl) rfl (fun w hm => incl_okU k h1 h2 b51 L (by assumption) (by assumption) (by omega) (UInt64.ofNat ia) (UInt64.ofNat sz) w (hK.mem0 hm) (htr51.is (hm.heldSub (.cons _ (List.Sublist.refl _)))) hI1 _ hP) (fun a72 c72 e72 hr72 => ?_)   -- 72
  refine ow_val (val_move rfl) rfl ?_   -- 67
  refine ow_val (val_extract rfl rfl) rfl ?_   -- 73
  refine ow_val (val_extract rfl rfl) rfl ?_   -- 74
  refine ow_val (val_assign rfl) rfl ?_   -- 17
  refine ow_val (val_assign rfl) rfl ?_   -- 18
  refine ow_nil (into ?_)
  refine sw_seq ?_
  refine sw_region ?_
  refine ow_val (val_move rfl) rfl ?_   -- 76
  refine ow_val (val_move rfl) rfl ?_   -- 77
  refine ow_val (val_move rfl) rfl ?_   -- 78
  refine ow_val (val_conv_n_u64 sz Tryd.underlying3 Tryd.underlying23 rfl rfl) rfl ?_   -- 79
  refine ow_call_row2 (E := 41) (size := 32) (k := Q.length) (xs := List.flatMap (fun d : List UInt8 => List.map vU8 d) Q) (x := vInt ((0 : Nat) : Int)) (callsTo Tryd.func19 rfl (by kernel_rfl) rfl) rfl (fun w hm => cons_okU k h1 h2 b51 L (by assumption) (by assumption) (by omega) (UInt64.ofNat om) (UInt64.ofNat sz) w (hK.mem0 hm) (htr51.is (hm.heldSub (.cons _ (.cons _ (List.Sublist.refl _))))) hJ1 _ hQ) (fun a80 c80 e80 hr80 => ?_)   -- 80
  refine ow_val (val_move rfl) rfl ?_   -- 75
  refine ow_val (val_extract rfl rfl) rfl ?_   -- 81
  refine ow_val (val_extract rfl rfl) rfl ?_   -- 82
  refine ow_val (val_assign rfl) rfl ?_   -- 19
  refine ow_val (val_assign rfl) rfl ?_   -- 20
  refine ow_nil (into ?_)
  refine sw_seq ?_
  refine sw_region ?_
  refine ow_val (val_move rfl) rfl ?_   -- 84
  refine ow_val (val_move rfl) rfl ?_   -- 85
  refine ow_val (val_move rfl) rfl ?_   -- 86
  refine ow_val (val_conv_n_u64 sz Tryd.underlying3 Tryd.underlying23 rfl rfl) rfl ?_   -- 87
  refine ow_call_pure (v := .tuple #[vInt ((P.length : Nat) : Int), vInt ((Q.length : Nat) : Int), vInt ((0 : Nat) : Int)]) (callsTo Tryd.func21 rfl (by kernel_rfl) rfl) rfl (fun w hm => (by have h := counts_any (UInt64.ofNat ia) (UInt64.ofNat om) (UInt64.ofNat sz) w; rw [hcnt] at h; exact h)) ?_   -- 88
  refine ow_val (val_move rfl) rfl ?_   -- 83
  refine ow_val (val_extract rfl rfl) rfl ?_   -- 89
  refine ow_val (val_extract rfl rfl) rfl ?_   -- 90
  refine ow_val (val_extract rfl rfl) rfl ?_   -- 91
  refine ow_val (val_assign rfl) rfl ?_   -- 21
  refine ow_val (val_assign rfl) rfl ?_   -- 22
  refine ow_val (val_assign rfl) rfl ?_   -- 23
  refine ow_nil (into ?_)
  refine sw_seq ?_
  refine sw_seq ?_
  refine sw_region ?_
  refine ow_val (val_move rfl) rfl ?_   -- 92
  refine ow_val ((val_neq_int rfl rfl).to (v' := .bool false) (congrArg Value.bool (decide_eq_false (fun h => h (by simp))))) rfl ?_   -- 93
  refine ow_val (val_move rfl) rfl ?_   -- 94
  refine ow_guard_yes rfl rfl rfl ?_
  refine ow_val (val_move rfl) rfl ?_   -- 95
  refine ow_guard_yes rfl rfl rfl ?_
  refine ow_val ((val_neq_int rfl rfl).to (v' := .bool false) (congrArg Value.bool (decide_eq_false (fun h => h (by simp))))) rfl ?_   -- 96
  refine ow_val (val_pick_false rfl rfl) rfl ?_   -- 97
  refine ow_val (val_move rfl) rfl ?_   -- 98
  refine ow_guard_yes rfl rfl rfl ?_
  refine ow_val (val_move rfl) rfl ?_   -- 99
  refine ow_guard_yes rfl rfl rfl ?_
  refine ow_val ((val_neq_int rfl rfl).to (v' := .bool false) (congrArg Value.bool (decide_eq_false (fun h => h (by simp))))) rfl ?_   -- 100
  refine ow_val (val_pick_false rfl rfl) rfl ?_   -- 101
  refine ow_val (val_move rfl) rfl ?_   -- 102
  refine ow_guard_yes rfl rfl rfl ?_
  refine ow_val (val_move rfl) rfl ?_   -- 103
  refine ow_guard_yes rfl rfl rfl ?_
  refine ow_val (val_len rfl Tryd.underlying22) rfl ?_   -- 104
  refine ow_guard_yes rfl rfl rfl ?_
  refine ow_val (val_move rfl) rfl ?_   -- 105
  refine ow_guard_yes rfl rfl rfl ?_
  refine ow_val ((val_neq_int rfl rfl).to (v' := .bool false) (congrArg Value.bool (decide_eq_false (fun h => h rfl)))) rfl ?_   -- 106
  refine ow_val (val_pick_false rfl rfl) rfl ?_   -- 107
  refine ow_val (val_move rfl) rfl ?_   -- 108
  refine ow_guard_yes rfl rfl rfl ?_
  refine ow_val (val_move rfl) rfl ?_   -- 109
  refine ow_guard_yes rfl rfl rfl ?_
  refine ow_val (val_len rfl Tryd.underlying22) rfl ?_   -- 110
  refine ow_guard_yes rfl rfl rfl ?_
  refine ow_val (val_move rfl) rfl ?_   -- 111
  refine ow_guard_yes rfl rfl rfl ?_
  refine ow_val ((val_neq_int rfl rfl).to (v' := .bool false) (congrArg Value.bool (decide_eq_false (fun h => h rfl)))) rfl ?_   -- 112
  refine ow_val (val_pick_false rfl rfl) rfl ?_   -- 113
  refine ow_nil (into ?_)
  refine sw_false rfl rfl ?_
  refine sw_skip (into ?_)
  refine sw_seq ?_
  refine sw_region ?_
  refine ow_val (val_move rfl) rfl ?_   -- 115
  refine ow_val (val_move rfl) rfl ?_   -- 116
  refine ow_val (val_conv_n_u64 sz Tryd.underlying3 Tryd.underlying23 rfl rfl) rfl ?_   -- 117
  refine ow_val (val_move rfl) rfl ?_   -- 118
  refine ow_val (val_conv_n_u64 sz Tryd.underlying3 Tryd.underlying23 rfl rfl) rfl ?_   -- 119
  refine ow_call_pure (v := .tuple #[.slice none 0 0, vInt ((4 : Nat) : Int)]) (callsTo Tryd.func16 rfl (by kernel_rfl) rfl) rfl (fun w hm => incl_noU k b51 L (UInt64.ofNat sz) (UInt64.ofNat sz) w (htr51.is (hm.heldSub (.cons _ (.cons _ (.cons _ (List.Sublist.refl _)))))) (by omega) hno1) ?_   -- 120
  refine ow_val (val_move rfl) rfl ?_   -- 114
  refine ow_val (val_extract rfl rfl) rfl ?_   -- 121
  refine ow_val (val_extract rfl rfl) rfl ?_   -- 122
  refine ow_val (val_assign rfl) rfl ?_   -- 24
  refine ow_val (val_assign rfl) rfl ?_   -- 25
  refine ow_nil (into ?_)
  refine sw_seq ?_
  refine sw_region ?_
  refine ow_val (val_move rfl) rfl ?_   -- 124
  refine ow_val (val_move rfl) rfl ?_   -- 125
  refine ow_val (val_conv_n_u64 sz Tryd.underlying3 Tryd.underlying23 rfl rfl) rfl ?_   -- 126
  refine ow_val ((val_add_u64 rfl rfl).to (congrArg vU64 (of_add (a := sz) (b := 1) (by omega)))) rfl ?_   -- 127
  refine ow_val (val_move rfl) rfl ?_   -- 128
  refine ow_val (val_conv_n_u64 sz Tryd.underlying3 Tryd.underlying23 rfl rfl) rfl ?_   -- 129
  refine ow_call_pure (v := .tuple #[.slice none 0 0, vInt ((4 : Nat) : Int)]) (callsTo Tryd.func19 rfl (by kernel_rfl) rfl) rfl (fun w hm => cons_noU k b51 L ((UInt64.ofNat (sz + 1))) (UInt64.ofNat sz) w (htr51.is (hm.heldSub (.cons _ (.cons _ (.cons _ (List.Sublist.refl _)))))) (by omega) hno2) ?_   -- 130
  refine ow_val (val_move rfl) rfl ?_   -- 123
  refine ow_val (val_extract rfl rfl) rfl ?_   -- 131
  refine ow_val (val_extract rfl rfl) rfl ?_   -- 132
  refine ow_val (val_assign rfl) rfl ?_   -- 26
  refine ow_val (val_assign rfl) rfl ?_   -- 27
  refine ow_nil (into ?_)
  refine sw_seq ?_
  refine sw_region ?_
  refine ow_val (val_move rfl) rfl ?_   -- 134
  refine ow_val (val_move rfl) rfl ?_   -- 135
  refine ow_val (val_conv_n_u64 sz Tryd.underlying3 Tryd.underlying23 rfl rfl) rfl ?_   -- 136
  refine ow_val ((val_add_u64 rfl rfl).to (congrArg vU64 (of_add (a := sz) (b := 1) (by omega)))) rfl ?_   -- 137
  refine ow_call_pure (v := .tuple #[.slice none 0 0, vInt ((4 : Nat) : Int)]) (callsTo Tryd.func16 rfl (by kernel_rfl) rfl) rfl (fun w hm => incl_noU k b51 L 0 ((UInt64.ofNat (sz + 1))) w (htr51.is (hm.heldSub (.cons _ (.cons _ (.cons _ (List.Sublist.refl _)))))) (by omega) hno3) ?_   -- 138
  refine ow_val (val_move rfl) rfl ?_   -- 133
  refine ow_val (val_extract rfl rfl) rfl ?_   -- 139
  refine ow_val (val_extract rfl rfl) rfl ?_   -- 140
  refine ow_val (val_assign rfl) rfl ?_   -- 28
  refine ow_val (val_assign rfl) rfl ?_   -- 29
  refine ow_nil (into ?_)
  refine sw_seq ?_
  refine sw_seq ?_
  refine sw_region ?_
  refine ow_val (val_move rfl) rfl ?_   -- 141
  refine ow_val ((val_neq_int rfl rfl).to (v' := .bool false) (congrArg Value.bool (decide_eq_false (fun h => h (by simp))))) rfl ?_   -- 142
  refine ow_val (val_move rfl) rfl ?_   -- 143
  refine ow_guard_yes rfl rfl rfl ?_
  refine ow_val (val_move rfl) rfl ?_   -- 144
  refine ow_guard_yes rfl rfl rfl ?_
  refine ow_val ((val_neq_int rfl rfl).to (v' := .bool false) (congrArg Value.bool (decide_eq_false (fun h => h (by simp))))) rfl ?_   -- 145
  refine ow_val (val_pick_false rfl rfl) rfl ?_   -- 146
  refine ow_val (val_move rfl) rfl ?_   -- 147
  refine ow_guard_yes rfl rfl rfl ?_
  refine ow_val (val_move rfl) rfl ?_   -- 148
  refine ow_guard_yes rfl rfl rfl ?_
  refine ow_val ((val_neq_int rfl rfl).to (v' := .bool false) (congrArg Value.bool (decide_eq_false (fun h => h (by simp))))) rfl ?_   -- 149
  refine ow_val (val_pick_false rfl rfl) rfl ?_   -- 150
  refine ow_nil (into ?_)
  refine sw_false rfl rfl ?_
  refine sw_skip (into ?_)
  refine sw_join (σ := Unit) (fun _ => True) (fun _ => [(10, vInt (sz : Int)), (13, vPtr b51), (15, vU64 (UInt64.ofNat ia)), (17, .slice a72 P.length c72)]) (fun _ => Mem w [] (e72 :: (es43 ++ es51))) ?_ (fun _ _ => ?_)
  · -- part
    refine sw_seq ?_
    rcases (show om = 0 ∨ (om ≠ 0 ∧ om = sz) ∨ (om ≠ 0 ∧ om ≠ sz) by omega) with ho | ⟨ho, ho2⟩ | ⟨ho, ho2⟩
    · -- case
      have hql := hQz (.inl ho)
      refine sw_region ?_
      refine ow_val (val_move rfl) rfl ?_   -- 151
      by_cases hs1 : 1 < sz
      · -- yes
        refine ow_val ((val_gtr_int rfl rfl).to (congrArg Value.bool (decide_eq_true (by omega)))) rfl ?_   -- 152
        refine ow_val (val_move rfl) rfl ?_   -- 153
        refine ow_guard_yes rfl rfl rfl ?_
        refine ow_val (val_move rfl) rfl ?_   -- 154
        refine ow_guard_yes rfl rfl rfl ?_
        refine ow_val (val_len rfl Tryd.underlying22) rfl ?_   -- 155
        refine ow_guard_yes rfl rfl rfl ?_
        refine ow_val ((val_eql_int rfl rfl).to (congrArg Value.bool (decide_eq_false ((by have h9 := hPpos hs1; omega))))) rfl ?_   -- 156
        refine ow_val (val_pick_true rfl rfl) rfl ?_   -- 157
        refine ow_val (val_move rfl) rfl ?_   -- 158
        refine ow_guard_yes rfl rfl rfl ?_
        refine ow_val (val_move rfl) rfl ?_   -- 159
        refine ow_guard_yes rfl rfl rfl ?_
        refine ow_val ((val_eql_u64 rfl rfl).to (congrArg Value.bool (decide_eq_true ((UInt64.toNat.inj (by rw [eo, ho]; rfl)))))) rfl ?_   -- 160
        refine ow_guard_yes rfl rfl rfl ?_
        refine ow_val (val_move rfl) rfl ?_   -- 161
        first | refine ow_guard_no rfl rfl rfl rfl rfl ?_ | refine ow_guard_none rfl rfl rfl rfl rfl ?_
        first | refine ow_guard_no rfl rfl rfl rfl rfl ?_ | refine ow_guard_none rfl rfl rfl rfl rfl ?_
        first | refine ow_guard_no rfl rfl rfl rfl rfl ?_ | refine ow_guard_none rfl rfl rfl rfl rfl ?_
        first | refine ow_guard_no rfl rfl rfl rfl rfl ?_ | refine ow_guard_none rfl rfl rfl rfl rfl ?_
        refine ow_guard_yes rfl rfl rfl ?_
        refine ow_val (val_pick_true rfl rfl) rfl ?_   -- 166
        refine ow_guard_yes rfl rfl rfl ?_
        refine ow_val (val_move rfl) rfl ?_   -- 167
        refine ow_guard_yes rfl rfl rfl ?_
        refine ow_val (val_len rfl Tryd.underlying22) rfl ?_   -- 168
        refine ow_guard_yes rfl rfl rfl ?_
        refine ow_val ((val_eql_int rfl rfl).to (congrArg Value.bool (decide_eq_true ((by omega))))) rfl ?_   -- 169
        refine ow_guard_yes rfl rfl rfl ?_
        refine ow_val (val_neq_bool Tryd.underlying4 rfl rfl) rfl ?_   -- 170
        refine ow_val (val_pick_false rfl rfl) rfl ?_   -- 171
        refine ow_nil (into ?_)
        refine sw_false rfl rfl ?_
        exact sw_skip (fun w hm => ⟨(), trivial, ⟨rfl, rfl, rfl, rfl, trivial⟩, hm.only (.cons _ (.cons_cons _ (.cons _ (List.Sublist.refl _))))⟩)
      · -- no
        refine ow_val ((val_gtr_int rfl rfl).to (congrArg Value.bool (decide_eq_false (by omega)))) rfl ?_   -- 152
        refine ow_val (val_move rfl) rfl ?_   -- 153
        first | refine ow_guard_no rfl rfl rfl rfl rfl ?_ | refine ow_guard_none rfl rfl rfl rfl rfl ?_
        first | refine ow_guard_no rfl rfl rfl rfl rfl ?_ | refine ow_guard_none rfl rfl rfl rfl rfl ?_
        first | refine ow_guard_no rfl rfl rfl rfl rfl ?_ | refine ow_guard_none rfl rfl rfl rfl rfl ?_
        refine ow_val (val_pick_false rfl rfl) rfl ?_   -- 157
        refine ow_val (val_move rfl) rfl ?_   -- 158
        refine ow_guard_yes rfl rfl rfl ?_
        refine ow_val (val_move rfl) rfl ?_   -- 159
        refine ow_guard_yes rfl rfl rfl ?_
        refine ow_val ((val_eql_u64 rfl rfl).to (congrArg Value.bool (decide_eq_true ((UInt64.toNat.inj (by rw [eo, ho]; rfl)))))) rfl ?_   -- 160
        refine ow_guard_yes rfl rfl rfl ?_
        refine ow_val (val_move rfl) rfl ?_   -- 161
        first | refine ow_guard_no rfl rfl rfl rfl rfl ?_ | refine ow_guard_none rfl rfl rfl rfl rfl ?_
        first | refine ow_guard_no rfl rfl rfl rfl rfl ?_ | refine ow_guard_none rfl rfl rfl rfl rfl ?_
        first | refine ow_guard_no rfl rfl rfl rfl rfl ?_ | refine ow_guard_none rfl rfl rfl rfl rfl ?_
        first | refine ow_guard_no rfl rfl rfl rfl rfl ?_ | refine ow_guard_none rfl rfl rfl rfl rfl ?_
        refine ow_guard_yes rfl rfl rfl ?_
        refine ow_val (val_pick_true rfl rfl) rfl ?_   -- 166
        refine ow_guard_yes rfl rfl rfl ?_
        refine ow_val (val_move rfl) rfl ?_   -- 167
        refine ow_guard_yes rfl rfl rfl ?_
        refine ow_val (val_len rfl Tryd.underlying22) rfl ?_   -- 168
        refine ow_guard_yes rfl rfl rfl ?_
        refine ow_val ((val_eql_int rfl rfl).to (congrArg Value.bool (decide_eq_true ((by omega))))) rfl ?_   -- 169
        refine ow_guard_yes rfl rfl rfl ?_
        refine ow_val (val_neq_bool Tryd.underlying4 rfl rfl) rfl ?_   -- 170
        refine ow_val (val_pick_false rfl rfl) rfl ?_   -- 171
        refine ow_nil (into ?_)
        refine sw_false rfl rfl ?_
        exact sw_skip (fun w hm => ⟨(), trivial, ⟨rfl, rfl, rfl, rfl, trivial⟩, hm.only (.cons _ (.cons_cons _ (.cons _ (List.Sublist.refl _))))⟩)
    · -- case
      have hql := hQz (.inr ho2)
      refine sw_region ?_
      refine ow_val (val_move rfl) rfl ?_   -- 151
      by_cases hs1 : 1 < sz
      · -- yes
        refine ow_val ((val_gtr_int rfl rfl).to (congrArg Value.bool (decide_eq_true (by omega)))) rfl ?_   -- 152
        refine ow_val (val_move rfl) rfl ?_   -- 153
        refine ow_guard_yes rfl rfl rfl ?_
        refine ow_val (val_move rfl) rfl ?_   -- 154
        refine ow_guard_yes rfl rfl rfl ?_
        refine ow_val (val_len rfl Tryd.underlying22) rfl ?_   -- 155
        refine ow_guard_yes rfl rfl rfl ?_
        refine ow_val ((val_eql_int rfl rfl).to (congrArg Value.bool (decide_eq_false ((by have h9 := hPpos hs1; omega))))) rfl ?_   -- 156
        refine ow_val (val_pick_true rfl rfl) rfl ?_   -- 157
        refine ow_val (val_move rfl) rfl ?_   -- 158
        refine ow_guard_yes rfl rfl rfl ?_
        refine ow_val (val_move rfl) rfl ?_   -- 159
        refine ow_guard_yes rfl rfl rfl ?_
        refine ow_val ((val_eql_u64 rfl rfl).to (congrArg Value.bool (decide_eq_false ((fun h => ho (by rw [← eo, h]; rfl)))))) rfl ?_   -- 160
        refine ow_guard_yes rfl rfl rfl ?_
        refine ow_val (val_move rfl) rfl ?_   -- 161
        refine ow_guard_yes rfl rfl rfl ?_
        refine ow_val (val_move rfl) rfl ?_   -- 162
        refine ow_guard_yes rfl rfl rfl ?_
        refine ow_val (val_move rfl) rfl ?_   -- 163
        refine ow_guard_yes rfl rfl rfl ?_
        refine ow_val (val_conv_n_u64 sz Tryd.underlying3 Tryd.underlying23 rfl rfl) rfl ?_   -- 164
        refine ow_guard_yes rfl rfl rfl ?_
        refine ow_val ((val_eql_u64 rfl rfl).to (congrArg Value.bool (decide_eq_true ((by rw [ho2]))))) rfl ?_   -- 165
        refine ow_guard_yes rfl rfl rfl ?_
        refine ow_val (val_pick_false rfl rfl) rfl ?_   -- 166
        refine ow_guard_yes rfl rfl rfl ?_
        refine ow_val (val_move rfl) rfl ?_   -- 167
        refine ow_guard_yes rfl rfl rfl ?_
        refine ow_val (val_len rfl Tryd.underlying22) rfl ?_   -- 168
        refine ow_guard_yes rfl rfl rfl ?_
        refine ow_val ((val_eql_int rfl rfl).to (congrArg Value.bool (decide_eq_true ((by omega))))) rfl ?_   -- 169
        refine ow_guard_yes rfl rfl rfl ?_
        refine ow_val (val_neq_bool Tryd.underlying4 rfl rfl) rfl ?_   -- 170
        refine ow_val (val_pick_false rfl rfl) rfl ?_   -- 171
        refine ow_nil (into ?_)
        refine sw_false rfl rfl ?_
        exact sw_skip (fun w hm => ⟨(), trivial, ⟨rfl, rfl, rfl, rfl, trivial⟩, hm.only (.cons _ (.cons_cons _ (.cons _ (List.Sublist.refl _))))⟩)
      · -- no
        refine ow_val ((val_gtr_int rfl rfl).to (congrArg Value.bool (decide_eq_false (by omega)))) rfl ?_   -- 152
        refine ow_val (val_move rfl) rfl ?_   -- 153
        first | refine ow_guard_no rfl rfl rfl rfl rfl ?_ | refine ow_guard_none rfl rfl rfl rfl rfl ?_
        first | refine ow_guard_no rfl rfl rfl rfl rfl ?_ | refine ow_guard_none rfl rfl rfl rfl rfl ?_
        first | refine ow_guard_no rfl rfl rfl rfl rfl ?_ | refine ow_guard_none rfl rfl rfl rfl rfl ?_
        refine ow_val (val_pick_false rfl rfl) rfl ?_   -- 157
        refine ow_val (val_move rfl) rfl ?_   -- 158
        refine ow_guard_yes rfl rfl rfl ?_
        refine ow_val (val_move rfl) rfl ?_   -- 159
        refine ow_guard_yes rfl rfl rfl ?_
        refine ow_val ((val_eql_u64 rfl rfl).to (congrArg Value.bool (decide_eq_false ((fun h => ho (by rw [← eo, h]; rfl)))))) rfl ?_   -- 160
        refine ow_guard_yes rfl rfl rfl ?_
        refine ow_val (val_move rfl) rfl ?_   -- 161
        refine ow_guard_yes rfl rfl rfl ?_
        refine ow_val (val_move rfl) rfl ?_   -- 162
        refine ow_guard_yes rfl rfl rfl ?_
        refine ow_val (val_move rfl) rfl ?_   -- 163
        refine ow_guard_yes rfl rfl rfl ?_
        refine ow_val (val_conv_n_u64 sz Tryd.underlying3 Tryd.underlying23 rfl rfl) rfl ?_   -- 164
        refine ow_guard_yes rfl rfl rfl ?_
        refine ow_val ((val_eql_u64 rfl rfl).to (congrArg Value.bool (decide_eq_true ((by rw [ho2]))))) rfl ?_   -- 165
        refine ow_guard_yes rfl rfl rfl ?_
        refine ow_val (val_pick_false rfl rfl) rfl ?_   -- 166
        refine ow_guard_yes rfl rfl rfl ?_
        refine ow_val (val_move rfl) rfl ?_   -- 167
        refine ow_guard_yes rfl rfl rfl ?_
        refine ow_val (val_len rfl Tryd.underlying22) rfl ?_   -- 168
        refine ow_guard_yes rfl rfl rfl ?_
        refine ow_val ((val_eql_int rfl rfl).to (congrArg Value.bool (decide_eq_true ((by omega))))) rfl ?_   -- 169
        refine ow_guard_yes rfl rfl rfl ?_
        refine ow_val (val_neq_bool Tryd.underlying4 rfl rfl) rfl ?_   -- 170
        refine ow_val (val_pick_false rfl rfl) rfl ?_   -- 171
        refine ow_nil (into ?_)
        refine sw_false rfl rfl ?_
        exact sw_skip (fun w hm => ⟨(), trivial, ⟨rfl, rfl, rfl, rfl, trivial⟩, hm.only (.cons _ (.cons_cons _ (.cons _ (List.Sublist.refl _))))⟩)
    · -- case
      have hql := hQnz ho ho2
      refine sw_region ?_
      refine ow_val (val_move rfl) rfl ?_   -- 151
      by_cases hs1 : 1 < sz
      · -- yes
        refine ow_val ((val_gtr_int rfl rfl).to (congrArg Value.bool (decide_eq_true (by omega)))) rfl ?_   -- 152
        refine ow_val (val_move rfl) rfl ?_   -- 153
        refine ow_guard_yes rfl rfl rfl ?_
        refine ow_val (val_move rfl) rfl ?_   -- 154
        refine ow_guard_yes rfl rfl rfl ?_
        refine ow_val (val_len rfl Tryd.underlying22) rfl ?_   -- 155
        refine ow_guard_yes rfl rfl rfl ?_
        refine ow_val ((val_eql_int rfl rfl).to (congrArg Value.bool (decide_eq_false ((by have h9 := hPpos hs1; omega))))) rfl ?_   -- 156
        refine ow_val (val_pick_true rfl rfl) rfl ?_   -- 157
        refine ow_val (val_move rfl) rfl ?_   -- 158
        refine ow_guard_yes rfl rfl rfl ?_
        refine ow_val (val_move rfl) rfl ?_   -- 159
        refine ow_guard_yes rfl rfl rfl ?_
        refine ow_val ((val_eql_u64 rfl rfl).to (congrArg Value.bool (decide_eq_false ((fun h => ho (by rw [← eo, h]; rfl)))))) rfl ?_   -- 160
        refine ow_guard_yes rfl rfl rfl ?_
        refine ow_val (val_move rfl) rfl ?_   -- 161
        refine ow_guard_yes rfl rfl rfl ?_
        refine ow_val (val_move rfl) rfl ?_   -- 162
        refine ow_guard_yes rfl rfl rfl ?_
        refine ow_val (val_move rfl) rfl ?_   -- 163
        refine ow_guard_yes rfl rfl rfl ?_
        refine ow_val (val_conv_n_u64 sz Tryd.underlying3 Tryd.underlying23 rfl rfl) rfl ?_   -- 164
        refine ow_guard_yes rfl rfl rfl ?_
        refine ow_val ((val_eql_u64 rfl rfl).to (congrArg Value.bool (decide_eq_false ((fun h => ho2 (by rw [← eo, h, es])))))) rfl ?_   -- 165
        refine ow_guard_yes rfl rfl rfl ?_
        refine ow_val (val_pick_false rfl rfl) rfl ?_   -- 166
        refine ow_guard_yes rfl rfl rfl ?_
        refine ow_val (val_move rfl) rfl ?_   -- 167
        refine ow_guard_yes rfl rfl rfl ?_
        refine ow_val (val_len rfl Tryd.underlying22) rfl ?_   -- 168
        refine ow_guard_yes rfl rfl rfl ?_
        refine ow_val ((val_eql_int rfl rfl).to (congrArg Value.bool (decide_eq_false ((by omega))))) rfl ?_   -- 169
        refine ow_guard_yes rfl rfl rfl ?_
        refine ow_val (val_neq_bool Tryd.underlying4 rfl rfl) rfl ?_   -- 170
        refine ow_val (val_pick_false rfl rfl) rfl ?_   -- 171
        refine ow_nil (into ?_)
        refine sw_false rfl rfl ?_
        exact sw_skip (fun w hm => ⟨(), trivial, ⟨rfl, rfl, rfl, rfl, trivial⟩, hm.only (.cons _ (.cons_cons _ (.cons _ (List.Sublist.refl _))))⟩)
      · -- no
        refine ow_val ((val_gtr_int rfl rfl).to (congrArg Value.bool (decide_eq_false (by omega)))) rfl ?_   -- 152
        refine ow_val (val_move rfl) rfl ?_   -- 153
        first | refine ow_guard_no rfl rfl rfl rfl rfl ?_ | refine ow_guard_none rfl rfl rfl rfl rfl ?_
        first | refine ow_guard_no rfl rfl rfl rfl rfl ?_ | refine ow_guard_none rfl rfl rfl rfl rfl ?_
        first | refine ow_guard_no rfl rfl rfl rfl rfl ?_ | refine ow_guard_none rfl rfl rfl rfl rfl ?_
        refine ow_val (val_pick_false rfl rfl) rfl ?_   -- 157
        refine ow_val (val_move rfl) rfl ?_   -- 158
        refine ow_guard_yes rfl rfl rfl ?_
        refine ow_val (val_move rfl) rfl ?_   -- 159
        refine ow_guard_yes rfl rfl rfl ?_
        refine ow_val ((val_eql_u64 rfl rfl).to (congrArg Value.bool (decide_eq_false ((fun h => ho (by rw [← eo, h]; rfl)))))) rfl ?_   -- 160
        refine ow_guard_yes rfl rfl rfl ?_
        refine ow_val (val_move rfl) rfl ?_   -- 161
        refine ow_guard_yes rfl rfl rfl ?_
        refine ow_val (val_move rfl) rfl ?_   -- 162
        refine ow_guard_yes rfl rfl rfl ?_
        refine ow_val (val_move rfl) rfl ?_   -- 163
        refine ow_guard_yes rfl rfl rfl ?_
        refine ow_val (val_conv_n_u64 sz Tryd.underlying3 Tryd.underlying23 rfl rfl) rfl ?_   -- 164
        refine ow_guard_yes rfl rfl rfl ?_
        refine ow_val ((val_eql_u64 rfl rfl).to (congrArg Value.bool (decide_eq_false ((fun h => ho2 (by rw [← eo, h, es])))))) rfl ?_   -- 165
        refine ow_guard_yes rfl rfl rfl ?_
        refine ow_val (val_pick_false rfl rfl) rfl ?_   -- 166
        refine ow_guard_yes rfl rfl rfl ?_
        refine ow_val (val_move rfl) rfl ?_   -- 167
        refine ow_guard_yes rfl rfl rfl ?_
        refine ow_val (val_len rfl Tryd.underlying22) rfl ?_   -- 168
        refine ow_guard_yes rfl rfl rfl ?_
        refine ow_val ((val_eql_int rfl rfl).to (congrArg Value.bool (decide_eq_false ((by omega))))) rfl ?_   -- 169
        refine ow_guard_yes rfl rfl rfl ?_
        refine ow_val (val_neq_bool Tryd.underlying4 rfl rfl) rfl ?_   -- 170
        refine ow_val (val_pick_false rfl rfl) rfl ?_   -- 171
        refine ow_nil (into ?_)
        refine sw_false rfl rfl ?_
        exact sw_skip (fun w hm => ⟨(), trivial, ⟨rfl, rfl, rfl, rfl, trivial⟩, hm.only (.cons _ (.cons_cons _ (.cons _ (List.Sublist.refl _))))⟩)
  · -- rest
    refine sw_seq ?_
    refine sw_region ?_
    refine ow_val (val_assign rfl) rfl ?_   -- 30
    refine ow_nil (into ?_)
    refine sw_seq ?_
    refine sw_region ?_
    refine ow_val (val_move rfl) rfl ?_   -- 172
    refine ow_val (val_conv_n_u64 sz Tryd.underlying3 Tryd.underlying23 rfl rfl) rfl ?_   -- 173
    refine ow_val (val_assign rfl) rfl ?_   -- 31
    refine ow_nil (into ?_)
    refine sw_seq ?_
    refine sw_seq ?_
    refine sw_region ?_
    refine ow_val (val_move rfl) rfl ?_   -- 174
    refine ow_val (val_len rfl Tryd.underlying22) rfl ?_   -- 175
    refine ow_val (val_sub_int ((P.length : Int) - 1) rfl rfl rfl (by omega)) rfl ?_   -- 176
    refine ow_val (val_assign rfl) rfl ?_   -- 32
    refine ow_nil (into ?_)
    refine sw_block ?_
    refine sw_loop (σ := Nat × Nat × Nat) (fun t => t.1 ≤ ia ∧ ia < t.2.1 ∧ t.2.1 ≤ sz ∧ t.2.2 ≤ P.length ∧ P.take t.2.2 = incL k (seg L t.1 t.2.1) (ia - t.1)) (fun t => [(32, vInt ((t.2.2 : Int) - 1)), (31, vU64 (UInt64.ofNat t.2.1)), (30, vU64 (UInt64.ofNat t.1)), (10, vInt (sz : Int)), (13, vPtr b51), (15, vU64 (UInt64.ofNat ia)), (17, .slice a72 P.length c72)]) (fun _ => Mem w [] (e72 :: (es43 ++ es51))) (fun t => t.2.2) (0, sz, P.length) ⟨Nat.zero_le _, hat1, Nat.le_refl _, Nat.le_refl _, by rw [List.take_length, hsL, Nat.sub_zero]; exact hP2.symm⟩ ⟨rfl, rfl, rfl, rfl, rfl, rfl, rfl, trivial⟩ (fun w hm => hm.only (.cons_cons _ (List.Sublist.refl _))) ?_
    rintro ⟨lo, hi, r⟩ ⟨hl1, hl2, hl3, hrP, hPt⟩
    simp only at hl1 hl2 hl3 hrP hPt ⊢
    refine sw_seq ?_
    refine sw_seq ?_
    refine sw_region ?_
    refine ow_val (val_move rfl) rfl ?_   -- 177
    refine ow_val (val_geq_int rfl rfl) rfl ?_   -- 178
    refine ow_nil (into ?_)
    refine sw_if rfl (fun h0r => ?_) (fun h0r => ?_)
    · -- then
      have hr1 : 1 ≤ r := by omega
      have hsn : (seg L lo hi).length = hi - lo := seg_len (by omega)
      have hn2 : 2 ≤ hi - lo := by
        rcases Nat.lt_or_ge (hi - lo) 2 with h9 | h9
        · rw [incL_one (by omega)] at hPt; have h8 := congrArg List.length hPt; rw [List.length_take, List.length_nil] at h8; omega
        · exact h9
      have hsub : UInt64.ofNat hi - UInt64.ofNat lo = UInt64.ofNat (hi - lo) := at_sub0 (by omega) (by omega)
      obtain ⟨bP, oP, rfl⟩ := rowAddr32 hr72 (by omega)
      refine sw_skip (into ?_)
      refine sw_seq ?_
      refine sw_block ?_
      refine sw_seq ?_
      refine sw_region ?_
      refine ow_val (val_assign rfl) rfl ?_   -- 33
      refine ow_nil (into ?_)
      refine sw_seq ?_
      refine sw_block ?_
      refine sw_loop (σ := UInt64) (fun v => (∃ j, v.toNat = 2 ^ j) ∧ v.toNat < hi - lo) (fun v => [(33, vU64 v), (32, vInt ((r : Int) - 1)), (31, vU64 (UInt64.ofNat hi)), (30, vU64 (UInt64.ofNat lo)), (10, vInt (sz : Int)), (13, vPtr b51), (15, vU64 (UInt64.ofNat ia)), (17, .slice (some ⟨bP, oP, none⟩) P.length c72)]) (fun _ => Mem w [] (e72 :: (es43 ++ es51))) (fun v => hi - lo - v.toNat) (UInt64.ofNat (Int.toNat 1)) ⟨⟨0, rfl⟩, (show 1 < hi - lo by omega)⟩ ⟨rfl, rfl, rfl, rfl, rfl, rfl, rfl, rfl, trivial⟩ (fun w hm => hm.only (.cons_cons _ (List.Sublist.refl _))) ?_
      rintro v ⟨⟨j, hj⟩, hv⟩
      have hvp : 1 ≤ v.toNat := by rw [hj]; exact Nat.one_le_two_pow
      refine sw_seq ?_
      refine sw_seq ?_
      refine sw_region ?_
      refine ow_val (val_move rfl) rfl ?_   -- 181
      refine ow_val (val_mul_u64 rfl rfl) rfl ?_   -- 182
      refine ow_val (val_move rfl) rfl ?_   -- 183
      refine ow_val (val_move rfl) rfl ?_   -- 184
      refine ow_val ((val_sub_u64 rfl rfl).to (congrArg vU64 hsub)) rfl ?_   -- 185
      refine ow_val (val_lss_u64 rfl rfl) rfl ?_   -- 186
      refine ow_nil (into ?_)
      refine sw_if rfl (fun h0 => ?_) (fun h0 => ?_)
      · -- then
        have hlt : 2 * v.toNat < hi - lo := (dbl_lt (by omega) hv).1 h0
        have hm2 : (v * UInt64.ofNat (Int.toNat 2)).toNat = v.toNat * 2 := by
          rw [UInt64.toNat_mul]; show v.toNat * 2 % 2 ^ 64 = _; omega
        refine sw_skip (into ?_)
        refine sw_block ?_
        refine sw_region ?_
        refine ow_val (val_move rfl) rfl ?_   -- 187
        refine ow_val (val_mul_u64 rfl rfl) rfl ?_   -- 188
        refine ow_val (val_assign rfl) rfl ?_   -- 33
        exact ow_nil (fun w hm => ⟨v * UInt64.ofNat (Int.toNat 2), ⟨⟨j + 1, by rw [hm2, hj, Nat.pow_succ]⟩, by rw [hm2]; omega⟩, by rw [hm2]; omega, ⟨rfl, rfl, rfl, rfl, rfl, rfl, rfl, rfl, trivial⟩, hm⟩)
      · -- else
        have hge : hi - lo ≤ 2 * v.toNat := Nat.le_of_not_lt fun h3 => h0 ((dbl_lt (by omega) hv).2 h3)
        obtain rfl := pw_eq hj hv hge
        obtain ⟨m, hm⟩ : ∃ m, splitN (hi - lo) = m := ⟨_, rfl⟩
        rw [hm]
        have hs1 := splitN_lt (n := hi - lo) (by omega)
        have hs2 := splitN_pos (hi - lo)
        rw [hm] at hs1 hs2
        refine sw_exit (into ?_)
        refine sw_seq ?_
        refine sw_region ?_
        refine ow_new (acts_alloc zD) rfl (fun b34 hb34 => ?_)   -- 34
        refine ow_nil (into ?_)
        refine sw_seq ?_
        refine sw_seq ?_
        refine sw_region ?_
        refine ow_val (val_move rfl) rfl ?_   -- 189
        refine ow_val (val_move rfl) rfl ?_   -- 190
        refine ow_val (val_move rfl) rfl ?_   -- 191
        refine ow_val ((val_add_u64 rfl rfl).to (congrArg vU64 (of_add (a := lo) (b := m) (by omega)))) rfl ?_   -- 192
        by_cases h5 : ia < lo + m
        · -- yes
          have h6 := incL_left (k := k) (i := ia - lo) (l := seg L lo hi) (by omega) (s := m) (by rw [hsn]; exact hm) (by omega)
          rw [seg_fst (by omega), seg_snd] at h6
          obtain ⟨hE, hT⟩ := inc_pop hr1 hrP (hPt.trans h6)
          refine ow_val ((val_lss_u64 rfl rfl).to (congrArg Value.bool (decide_eq_true ((at_lt (by omega) (by omega)).2 h5)))) rfl ?_   -- 193
          refine ow_nil (into ?_)
          refine sw_true rfl rfl ?_
          refine sw_seq ?_
          refine sw_region ?_
          refine ow_val (val_move rfl) rfl ?_   -- 195
          refine ow_val (val_move rfl) rfl ?_   -- 196
          refine ow_val (val_move rfl) rfl ?_   -- 197
          refine ow_val ((val_add_u64 rfl rfl).to (congrArg vU64 (of_add (a := lo) (b := m) (by omega)))) rfl ?_   -- 198
          refine ow_val (val_move rfl) rfl ?_   -- 199
          refine ow_call_pure (v := .tuple #[.agg ((lg k (seg L (lo + m) hi)).map vU8).toArray, vInt ((0 : Nat) : Int)]) (callsTo Tryd.func39 rfl (by kernel_rfl) rfl) rfl (fun w hm => (by have h := range_any k h1 h2 b51 L (by assumption) (by assumption) (UInt64.ofNat (lo + m)) (UInt64.ofNat hi) w (hK.mem0 hm) (htr51.is (hm.heldSub (.cons _ (.cons _ (List.Sublist.refl _))))) (by omega); rw [rngO_nat k (by omega) (by omega) (by omega)] at h; exact h)) ?_   -- 200
          refine ow_val (val_move rfl) rfl ?_   -- 194
          refine ow_val (val_extract rfl rfl) rfl ?_   -- 201
          refine ow_val (val_extract rfl rfl) rfl ?_   -- 202
          refine ow_do_eq (does_store_all 0 rfl rfl rfl (one_u8s _) Tryd.sizeOf41 (by show (List.map vU8 (lg k (seg L (lo + m) hi))).length = _; rw [List.length_map]; exact (lg_len h2 _ rfl (seg_all (by assumption)))) (by show (List.map vU8 zeros32).length = _; rw [List.length_map]; exact zeros32_len)) ?_
          refine ow_val (val_assign rfl) rfl ?_   -- 14
          refine ow_nil (into ?_)
          refine sw_region ?_
          refine ow_val (val_move rfl) rfl ?_   -- 203
          refine ow_val (val_move rfl) rfl ?_   -- 204
          refine ow_val ((val_add_u64 rfl rfl).to (congrArg vU64 (of_add (a := lo) (b := m) (by omega)))) rfl ?_   -- 205
          refine ow_val (val_assign rfl) rfl ?_   -- 31
          refine ow_nil (into ?_)
          refine sw_seq ?_
          refine sw_region_lex _ [] [(0, 0), (1, 0), (2, 0), (4, 0), (5, 0), (6, 0), (3, 1), (7, 1), (8, 0), (9, 0)] (by kernel_rfl) (by kernel_rfl) (fun _ _ _ h => h) (fun _ h => h) (fun _ h => h.drawn _) ?_
          refine lw_pure rfl (val_move rfl) rfl ?_   -- 218
          refine lw_pure rfl ((val_neq_int rfl rfl).to (v' := .bool false) (congrArg Value.bool (decide_eq_false (fun h => h (by simp))))) rfl ?_   -- 219
          refine lw_pure rfl (val_move rfl) rfl ?_   -- 220
          refine lwg_pure rfl (wg rfl rfl) (val_move rfl) rfl ?_   -- 222
          refine lwg_pure rfl (wg rfl rfl) (val_move rfl) rfl ?_   -- 223
          refine lwg_pure rfl (wg rfl rfl) (val_indexAddr_slice (r - 1) (oP + (r - 1) * 32) rfl rfl Tryd.underlying22 Tryd.sizeOf41 (by omega) (by omega) (by omega)) rfl ?_   -- 224
          refine lwg_held rfl (wg rfl rfl) (val_load_all 0 rfl rfl Tryd.isAgg41 Tryd.sizeOf41 (by show (List.map vU8 (lg k (seg L (lo + m) hi))).length = _; rw [List.length_map]; exact (lg_len h2 _ rfl (seg_all (by assumption))))) rfl ?_   -- 221
          refine lwg_held rfl (wg rfl rfl) (val_load_elem (cells := fun d => d.map vU8) (l := P) (o := oP) (i := r - 1) rfl Tryd.isAgg41 Tryd.sizeOf41 (fun x hx => by rw [List.length_map]; exact hPd x hx) (by omega) (by omega) (fun w' hm => hr72.rdAt hm (i := 1) rfl)) rfl ?_   -- 225
          refine lwg_pure rfl (wg rfl rfl) ((val_neq_u8s rfl rfl Tryd.eqGuardType41 Tryd.underlying41 Tryd.underlying5 Tryd.sizeOf5 Tryd.isAgg5 (lg_len h2 _ rfl (seg_all (by assumption))) (hPd _ (getD_mem (by omega)))).to (congrArg Value.bool (show (!decide _) = false by rw [decide_eq_true hE]; rfl))) rfl ?_   -- 226
          refine lw_pure rfl (val_pick_false rfl rfl) rfl ?_   -- 227
          refine lw_nil (into ?_)
          refine sw_false rfl rfl ?_
          refine sw_skip (into ?_)
          refine sw_region ?_
          refine ow_val (val_move rfl) rfl ?_   -- 179
          refine ow_val (val_sub_int (((r - 1 : Nat) : Int) - 1) rfl rfl (by omega) (by omega)) rfl ?_   -- 180
          refine ow_val (val_assign rfl) rfl ?_   -- 32
          exact ow_nil (fun w hm => ⟨(lo, lo + m, r - 1), ⟨by dsimp only; omega, by dsimp only; omega, by dsimp only; omega, by dsimp only; omega, hT⟩, by dsimp only; omega, ⟨rfl, rfl, rfl, rfl, rfl, rfl, rfl, trivial⟩, hm.only (.cons _ (.cons_cons _ (List.Sublist.refl _)))⟩)
        · -- no
          have h6 := incL_right (k := k) (i := ia - lo) (l := seg L lo hi) (by omega) (s := m) (by rw [hsn]; exact hm) (by omega)
          rw [seg_fst (by omega), seg_snd, Nat.sub_sub] at h6
          obtain ⟨hE, hT⟩ := inc_pop hr1 hrP (hPt.trans h6)
          refine ow_val ((val_lss_u64 rfl rfl).to (congrArg Value.bool (decide_eq_false (mt (at_lt (by omega) (by omega)).1 h5)))) rfl ?_   -- 193
          refine ow_nil (into ?_)
          refine sw_false rfl rfl ?_
          refine sw_seq ?_
          refine sw_region ?_
          refine ow_val (val_move rfl) rfl ?_   -- 207
          refine ow_val (val_move rfl) rfl ?_   -- 208
          refine ow_val (val_move rfl) rfl ?_   -- 209
          refine ow_val (val_move rfl) rfl ?_   -- 210
          refine ow_val ((val_add_u64 rfl rfl).to (congrArg vU64 (of_add (a := lo) (b := m) (by omega)))) rfl ?_   -- 211
          refine ow_call_pure (v := .tuple #[.agg ((lg k (seg L lo (lo + m))).map vU8).toArray, vInt ((0 : Nat) : Int)]) (callsTo Tryd.func39 rfl (by kernel_rfl) rfl) rfl (fun w hm => (by have h := range_any k h1 h2 b51 L (by assumption) (by assumption) (UInt64.ofNat lo) (UInt64.ofNat (lo + m)) w (hK.mem0 hm) (htr51.is (hm.heldSub (.cons _ (.cons _ (List.Sublist.refl _))))) (by omega); rw [rngO_nat k (by omega) (by omega) (by omega)] at h; exact h)) ?_   -- 212
          refine ow_val (val_move rfl) rfl ?_   -- 206
          refine ow_val (val_extract rfl rfl) rfl ?_   -- 213
          refine ow_val (val_extract rfl rfl) rfl ?_   -- 214
          refine ow_do_eq (does_store_all 0 rfl rfl rfl (one_u8s _) Tryd.sizeOf41 (by show (List.map vU8 (lg k (seg L lo (lo + m)))).length = _; rw [List.length_map]; exact (lg_len h2 _ rfl (seg_all (by assumption)))) (by show (List.map vU8 zeros32).length = _; rw [List.length_map]; exact zeros32_len)) ?_
          refine ow_val (val_assign rfl) rfl ?_   -- 14
          refine ow_nil (into ?_)
          refine sw_region ?_
          refine ow_val (val_move rfl) rfl ?_   -- 215
          refine ow_val (val_move rfl) rfl ?_   -- 216
          refine ow_val ((val_add_u64 rfl rfl).to (congrArg vU64 (of_add (a := lo) (b := m) (by omega)))) rfl ?_   -- 217
          refine ow_val (val_assign rfl) rfl ?_   -- 30
          refine ow_nil (into ?_)
          refine sw_seq ?_
          refine sw_region_lex _ [] [(0, 0), (1, 0), (2, 0), (4, 0), (5, 0), (6, 0), (3, 1), (7, 1), (8, 0), (9, 0)] (by kernel_rfl) (by kernel_rfl) (fun _ _ _ h => h) (fun _ h => h) (fun _ h => h.drawn _) ?_
          refine lw_pure rfl (val_move rfl) rfl ?_   -- 218
          refine lw_pure rfl ((val_neq_int rfl rfl).to (v' := .bool false) (congrArg Value.bool (decide_eq_false (fun h => h (by simp))))) rfl ?_   -- 219
          refine lw_pure rfl (val_move rfl) rfl ?_   -- 220
          refine lwg_pure rfl (wg rfl rfl) (val_move rfl) rfl ?_   -- 222
          refine lwg_pure rfl (wg rfl rfl) (val_move rfl) rfl ?_   -- 223
          refine lwg_pure rfl (wg rfl rfl) (val_indexAddr_slice (r - 1) (oP + (r - 1) * 32) rfl rfl Tryd.underlying22 Tryd.sizeOf41 (by omega) (by omega) (by omega)) rfl ?_   -- 224
          refine lwg_held rfl (wg rfl rfl) (val_load_all 0 rfl rfl Tryd.isAgg41 Tryd.sizeOf41 (by show (List.map vU8 (lg k (seg L lo (lo + m)))).length = _; rw [List.length_map]; exact (lg_len h2 _ rfl (seg_all (by assumption))))) rfl ?_   -- 221
          refine lwg_held rfl (wg rfl rfl) (val_load_elem (cells := fun d => d.map vU8) (l := P) (o := oP) (i := r - 1) rfl Tryd.isAgg41 Tryd.sizeOf41 (fun x hx => by rw [List.length_map]; exact hPd x hx) (by omega) (by omega) (fun w' hm => hr72.rdAt hm (i := 1) rfl)) rfl ?_   -- 225
          refine lwg_pure rfl (wg rfl rfl) ((val_neq_u8s rfl rfl Tryd.eqGuardType41 Tryd.underlying41 Tryd.underlying5 Tryd.sizeOf5 Tryd.isAgg5 (lg_len h2 _ rfl (seg_all (by assumption))) (hPd _ (getD_mem (by omega)))).to (congrArg Value.bool (show (!decide _) = false by rw [decide_eq_true hE]; rfl))) rfl ?_   -- 226
          refine lw_pure rfl (val_pick_false rfl rfl) rfl ?_   -- 227
          refine lw_nil (into ?_)
          refine sw_false rfl rfl ?_
          refine sw_skip (into ?_)
          refine sw_region ?_
          refine ow_val (val_move rfl) rfl ?_   -- 179
          refine ow_val (val_sub_int (((r - 1 : Nat) : Int) - 1) rfl rfl (by omega) (by omega)) rfl ?_   -- 180
          refine ow_val (val_assign rfl) rfl ?_   -- 32
          exact ow_nil (fun w hm => ⟨(lo + m, hi, r - 1), ⟨by dsimp only; omega, by dsimp only; omega, by dsimp only; omega, by dsimp only; omega, hT⟩, by dsimp only; omega, ⟨rfl, rfl, rfl, rfl, rfl, rfl, rfl, trivial⟩, hm.only (.cons _ (.cons_cons _ (List.Sublist.refl _)))⟩)
    · -- else
      have hr0 : r = 0 := by omega
      have hn1' : ¬ 2 ≤ hi - lo := fun h9 => by
        rw [hr0, List.take_zero] at hPt; exact incL_ne (k := k) (i := ia - lo) (l := seg L lo hi) (by rw [seg_len (by omega)]; exact h9) hPt.symm
      have hsub : UInt64.ofNat hi - UInt64.ofNat lo = UInt64.ofNat (hi - lo) := at_sub0 (by omega) (by omega)
      refine sw_exit (into ?_)
      refine sw_seq ?_
      refine sw_region ?_
      refine ow_val (val_move rfl) rfl ?_   -- 228
      refine ow_val (val_move rfl) rfl ?_   -- 229
      refine ow_val ((val_sub_u64 rfl rfl).to (congrArg vU64 hsub)) rfl ?_   -- 230
      refine ow_val ((val_eql_u64 rfl rfl).to (congrArg Value.bool (decide_eq_true ((by rw [show hi - lo = 1 by omega]; rfl))))) rfl ?_   -- 231
      refine ow_val (val_assign rfl) rfl ?_   -- 8
      refine ow_nil (into ?_)
      refine sw_ret (fun w hm => ?_)
      try dsimp only [thenP, blockP, Nat.beq, cond]
      exact ret_one _ rfl rfl ⟨rfl, hm.forgetAll⟩

theorem wholeCounts_any (w8 : UInt8) (a1 a2 a3 : UInt16) (w : World) (hK : KW w) : Calls Tryd.prog 12 #[vU8 w8, vU16 a1, vU16 a2, vU16 a3] w fun e w' => ∃ v, e = .returned v ∧ v = .bool true ∧ Mem w [] [] w' :=
  wcounts_0 w8 a1 a2 a3 _ (by omega) (by have h9 := Nat.mod_lt w8.toNat (show 0 < 32 by omega); omega) rfl _ _ _ rfl rfl rfl w hK _ rfl
end Go.Proofs.YtcdponddgnkecaaDoor
