import Derived.Test.YtcappcjogcekkaaDoorRf10
import Derived.Test.YtcappcjogcekkaaDoorMt6
import Derived.Test.YtcappcjogcekkaaDoorMtW
import Derived.Test.YtcappcjogcekkaaDoorProg
set_option linter.unusedVariables false
set_option linter.unusedSimpArgs false
namespace Go.Proofs.YtcappcjogcekkaaDoor
open Go.Sx Go.Ps
theorem tsize_is {k : Nat} (b : Nat) (l : List (List UInt8)) (w : World) (ht : TreeIs 95 75 k w b l) : Calls Tryd.prog 24 #[vPtr b] w fun e w' => ∃ v, e = .returned v ∧ v = vU64 (UInt64.ofNat l.length) ∧ Mem w [] [] w' := by
  obtain ⟨ps, a, c, h⟩ := ht; exact tsize_any k w b _ _ h.blk
theorem twidth_is {k : Nat} (b : Nat) (l : List (List UInt8)) (w : World) (ht : TreeIs 95 75 k w b l) : Calls Tryd.prog 25 #[vPtr b] w fun e w' => ∃ v, e = .returned v ∧ v = vInt (k : Int) ∧ Mem w [] [] w' := by
  obtain ⟨ps, a, c, h⟩ := ht; exact twidth_any k w b _ _ h.blk
theorem new_tr (k : Nat) (h1 : 1 ≤ k) (h2 : k ≤ 32) (w : World) : Calls Tryd.prog 13 #[vInt (k : Int)] w fun e w' => ∃ u, e = .returned u ∧ ∃ s : Nat × List Ent, u = .tuple #[vPtr s.1, vInt ((0 : Nat) : Int)] ∧ TrOn 95 75 k s.2 s.1 [] ∧ Mem w [] s.2 w' :=
  (new_yes k h1 h2 w).mono fun _ _ ⟨u, he, b, hu, hm⟩ => ⟨u, he, (b, _), hu, TrOn.new, hm⟩
theorem append_tr (k : Nat) (h1 : 1 ≤ k) (h2 : k ≤ 32) (w : World) (hK : KW w) (T : List Ent) (hh : Held T w) (b : Nat) (l : List (List UInt8)) (ht : TrOn 95 75 k T b l) (hdl : ∀ x ∈ l, x.length = 32) (hfl : ∀ x ∈ l, fm (k : Int) x = true) (a2 : Option Addr) (m c2 : Nat) (ms : List (List UInt8)) (hlm : ms.length = m) (hml : ∀ d ∈ ms, d.length = 32) (hmr : Rd w a2 (ms.flatMap fun d => d.map vU8)) (hmc : m ≤ c2) (hm63 : m < 9223372036854775808) (hmsf : ∀ d ∈ ms, fm (k : Int) d = true) (hbig : l.length + m + 1 ≤ 1048576) :
    Calls Tryd.prog 16 #[vPtr b, .slice a2 m c2] w fun e w' => ∃ u, e = .returned u ∧ ∃ s : Nat × List Ent, u = .tuple #[vPtr s.1, vInt ((0 : Nat) : Int)] ∧ TrOn 95 75 k (T ++ s.2) s.1 (l ++ ms) ∧ Mem w [] s.2 w' := by
  subst hlm
  obtain ⟨ps, a, c, ht⟩ := ht
  exact (append_go k h1 h2 w hK b l ps a c (ht w hh) hdl hfl a2 c2 ms hml hmr hmc hm63 hbig hmsf).mono fun _ _ ⟨u, he, b', ps', a', c', es, hu, h, hm⟩ =>
    ⟨u, he, (b', es), hu, ⟨ps', a', c', fun w'' hw => h w'' (hw.sub (List.sublist_append_right _ _)) (ht w'' (hw.sub (List.sublist_append_left _ _))).nodes⟩, hm⟩

def awS : List UInt8 := ([7] : List UInt8) ++ List.replicate 31 0
def awN : List UInt8 := ([9] : List UInt8) ++ List.replicate 31 0
theorem awS_len : awS.length = 32 := rfl
theorem awN_len : awN.length = 32 := rfl
theorem awS_fm : fm ((1 : Nat) : Int) awS = true := by decide +kernel
theorem awN_fm : fm ((1 : Nat) : Int) awN = true := by decide +kernel
theorem aw_leaf : leafO ([] ++ [awS, awN]) 1 = (awN, 0) := by rw [leafO, if_neg (by decide)]; rfl
theorem aw_root : rngO 1 ([] ++ [awS, awN]) 0 2 = (nd 1 awS awN, 0) := by
  rw [rngO, if_neg (by decide), show ((([] ++ [awS, awN] : List (List UInt8)).drop (0 : UInt64).toNat).take ((2 : UInt64).toNat - (0 : UInt64).toNat)) = [awS] ++ [awN] from rfl, lg_join (p := 0) 1 rfl rfl, lg_one, lg_one]

theorem awake_any (w : World) (hK : KW w) : Calls Tryd.prog 12 #[] w fun e w' => ∃ v, e = .returned v ∧ v = .bool true ∧ Mem w [] [] w' := by
  have h1 : 1 ≤ 1 := by omega
  have h2 : 1 ≤ 32 := by omega
  have hn0 : ∀ d ∈ ([] : List (List UInt8)), d.length = 32 := fun _ h => by cases h
  have hn1 : ∀ d ∈ ([] : List (List UInt8)), fm ((1 : Nat) : Int) d = true := fun _ h => by cases h
  have ha0 : ∀ d ∈ ([] ++ [awS, awN] : List (List UInt8)), d.length = 32 := by decide
  have ha1 : ∀ d ∈ ([] ++ [awS, awN] : List (List UInt8)), fm ((1 : Nat) : Int) d = true := by decide +kernel
  have hln : ([] ++ [awS, awN] : List (List UInt8)).length = 2 := rfl
  refine calls_of_sw (vs := []) Tryd.func12 rfl Tryd.ntmps12 rfl (SW.begin ?_)
  refine sw_seq ?_
  refine sw_region ?_
  refine ow_val (val_assign rfl) rfl ?_   -- 0
  refine ow_nil (into ?_)
  refine sw_seq ?_
  refine sw_region ?_
  refine ow_call_tail (σ := Nat × List Ent) (fun q9 => .tuple #[vPtr q9.1, vInt ((0 : Nat) : Int)]) (fun q9 => q9.2) (fun q9 => TrOn 95 75 1 q9.2 q9.1 []) (callsTo Tryd.func13 rfl (by kernel_rfl) rfl) rfl (fun w hm => new_tr 1 h1 h2 w) ?_   -- 10
  rintro ⟨b10, es10⟩ htr10
  simp only at htr10 ⊢
  refine ow_val (val_move rfl) rfl ?_   -- 9
  refine ow_val (val_extract rfl rfl) rfl ?_   -- 11
  refine ow_val (val_extract rfl rfl) rfl ?_   -- 12
  refine ow_val (val_assign rfl) rfl ?_   -- 1
  refine ow_val (val_assign rfl) rfl ?_   -- 2
  refine ow_nil (into ?_)
  refine sw_seq ?_
  refine sw_seq ?_
  refine sw_region ?_
  refine ow_val (val_move rfl) rfl ?_   -- 13
  refine ow_val ((val_neq_int rfl rfl).to (v' := .bool false) (congrArg Value.bool (decide_eq_false (fun h => h (by simp))))) rfl ?_   -- 14
  refine ow_val (val_move rfl) rfl ?_   -- 15
  refine ow_guard_yes rfl rfl rfl ?_
  refine ow_val (val_move rfl) rfl ?_   -- 16
  refine ow_guard_yes rfl rfl rfl ?_
  refine ow_val (val_eql_nilptr Tryd.underlying24 rfl rfl) rfl ?_   -- 17
  refine ow_val (val_pick_false rfl rfl) rfl ?_   -- 18
  refine ow_nil (into ?_)
  refine sw_false rfl rfl ?_
  refine sw_skip (into ?_)
  refine sw_seq ?_
  refine sw_region ?_
  refine ow_val (val_move rfl) rfl ?_   -- 20
  refine ow_val (val_build' (cs := awS.map vU8) rfl (by kernel_rfl)) rfl ?_   -- 21
  refine ow_val (val_build' (cs := awN.map vU8) rfl (by kernel_rfl)) rfl ?_   -- 22
  refine ow_make (acts_buildSlice (cs := [awS.map vU8, awN.map vU8].flatten) Tryd.underlying32 Tryd.sizeOf43 zD rfl rfl (fill_aggs [awS.map vU8, awN.map vU8] (by decide) rfl (by simp only [List.forall_mem_cons, List.length_map]; exact ⟨awS_len, awN_len, fun _ h => by cases h⟩))) rfl (fun b23 hb23 => ?_)   -- 23
  refine ow_call_tail (σ := Nat × List Ent) (fun q9 => .tuple #[vPtr q9.1, vInt ((0 : Nat) : Int)]) (fun q9 => q9.2) (fun q9 => TrOn 95 75 1 (es10 ++ q9.2) q9.1 ([] ++ [awS, awN] : List (List UInt8))) (callsTo Tryd.func16 rfl (by kernel_rfl) rfl) rfl (fun w hm => append_tr 1 h1 h2 w (hK.mem0 hm) es10 (hm.heldSub (.cons _ (List.Sublist.refl _))) b10 [] htr10 (by assumption) (by assumption) (some ⟨b23, 0, none⟩) 2 2 [awS, awN] rfl (by simp only [List.forall_mem_cons]; exact ⟨awS_len, awN_len, fun _ h => by cases h⟩) (Rd.blk (hm.at (i := 0) rfl)) (Nat.le_refl _) (by decide) (by simp only [List.forall_mem_cons]; exact ⟨awS_fm, awN_fm, fun _ h => by cases h⟩) (by simp only [List.length_cons, List.length_nil]; omega)) ?_   -- 24
  rintro ⟨b24, es24⟩ htr24
  simp only at htr24 ⊢
  refine ow_val (val_move rfl) rfl ?_   -- 19
  refine ow_val (val_extract rfl rfl) rfl ?_   -- 25
  refine ow_val (val_extract rfl rfl) rfl ?_   -- 26
  refine ow_val (val_assign rfl) rfl ?_   -- 3
  refine ow_val (val_assign rfl) rfl ?_   -- 4
  refine ow_nil (into ?_)
  refine sw_seq ?_
  refine sw_seq ?_
  refine sw_region ?_
  refine ow_val (val_move rfl) rfl ?_   -- 27
  refine ow_val ((val_neq_int rfl rfl).to (v' := .bool false) (congrArg Value.bool (decide_eq_false (fun h => h (by simp))))) rfl ?_   -- 28
  refine ow_val (val_move rfl) rfl ?_   -- 29
  refine ow_guard_yes rfl rfl rfl ?_
  refine ow_val (val_move rfl) rfl ?_   -- 30
  refine ow_guard_yes rfl rfl rfl ?_
  refine ow_val (val_eql_nilptr Tryd.underlying24 rfl rfl) rfl ?_   -- 31
  refine ow_val (val_pick_false rfl rfl) rfl ?_   -- 32
  refine ow_val (val_move rfl) rfl ?_   -- 33
  refine ow_guard_yes rfl rfl rfl ?_
  refine ow_val (val_move rfl) rfl ?_   -- 34
  refine ow_guard_yes rfl rfl rfl ?_
  refine ow_call_pure (v := vU64 (UInt64.ofNat (([] ++ [awS, awN] : List (List UInt8))).length)) (callsTo Tryd.func24 rfl (by kernel_rfl) rfl) rfl (fun w hm => tsize_is b24 (([] ++ [awS, awN] : List (List UInt8))) w (htr24.is (hm.heldSub (.cons _ (List.Sublist.refl _))))) ?_   -- 35
  refine ow_guard_yes rfl rfl rfl ?_
  refine ow_val ((val_neq_u64 rfl rfl).to (congrArg Value.bool (decide_eq_false ((fun h => h rfl))))) rfl ?_   -- 36
  refine ow_val (val_pick_false rfl rfl) rfl ?_   -- 37
  refine ow_val (val_move rfl) rfl ?_   -- 38
  refine ow_guard_yes rfl rfl rfl ?_
  refine ow_val (val_move rfl) rfl ?_   -- 39
  refine ow_guard_yes rfl rfl rfl ?_
  refine ow_call_pure (v := vU64 (UInt64.ofNat [].length)) (callsTo Tryd.func24 rfl (by kernel_rfl) rfl) rfl (fun w hm => tsize_is b10 [] w ((htr10.left (T' := es24)).is (hm.heldSub (.cons _ (List.Sublist.refl _))))) ?_   -- 40
  refine ow_guard_yes rfl rfl rfl ?_
  refine ow_val ((val_neq_u64 rfl rfl).to (congrArg Value.bool (decide_eq_false ((fun h => h rfl))))) rfl ?_   -- 41
  refine ow_val (val_pick_false rfl rfl) rfl ?_   -- 42
  refine ow_val (val_move rfl) rfl ?_   -- 43
  refine ow_guard_yes rfl rfl rfl ?_
  refine ow_val (val_move rfl) rfl ?_   -- 44
  refine ow_guard_yes rfl rfl rfl ?_
  refine ow_call_pure (v := vInt ((1 : Nat) : Int)) (callsTo Tryd.func25 rfl (by kernel_rfl) rfl) rfl (fun w hm => twidth_is b24 (([] ++ [awS, awN] : List (List UInt8))) w (htr24.is (hm.heldSub (.cons _ (List.Sublist.refl _))))) ?_   -- 45
  refine ow_guard_yes rfl rfl rfl ?_
  refine ow_val ((val_neq_int rfl rfl).to (congrArg Value.bool (decide_eq_false ((fun h => h rfl))))) rfl ?_   -- 46
  refine ow_val (val_pick_false rfl rfl) rfl ?_   -- 47
  refine ow_nil (into ?_)
  refine sw_false rfl rfl ?_
  refine sw_skip (into ?_)
  refine sw_seq ?_
  refine sw_region ?_
  refine ow_val (val_move rfl) rfl ?_   -- 49
  refine ow_call_pure (v := .tuple #[.agg ((awN).map vU8).toArray, vInt ((0 : Nat) : Int)]) (callsTo Tryd.func22 rfl (by kernel_rfl) rfl) rfl (fun w hm => (by have h := tleaf_any 1 h1 h2 b24 (([] ++ [awS, awN] : List (List UInt8))) (by assumption) 1 w (htr24.is (hm.heldSub (.cons _ (List.Sublist.refl _)))) (by omega); rw [aw_leaf] at h; exact h)) ?_   -- 50
  refine ow_val (val_move rfl) rfl ?_   -- 48
  refine ow_val (val_extract rfl rfl) rfl ?_   -- 51
  refine ow_val (val_extract rfl rfl) rfl ?_   -- 52
  refine ow_new (acts_alloc zD) rfl (fun b5 hb5 => ?_)   -- 5
  refine ow_do_eq (does_store_all 0 rfl rfl rfl (one_u8s _) Tryd.sizeOf43 (by show (List.map vU8 awN).length = _; rw [List.length_map]; exact awN_len) (by show (List.map vU8 zeros32).length = _; rw [List.length_map]; exact zeros32_len)) ?_
  refine ow_val (val_assign rfl) rfl ?_   -- 6
  refine ow_nil (into ?_)
  refine sw_seq ?_
  refine sw_region ?_
  refine ow_val (val_move rfl) rfl ?_   -- 54
  refine ow_call_pure (v := .tuple #[.agg (((nd 1 awS awN)).map vU8).toArray, vInt ((0 : Nat) : Int)]) (callsTo Tryd.func21 rfl (by kernel_rfl) rfl) rfl (fun w hm => (by have h := root_any 1 h1 h2 b24 (([] ++ [awS, awN] : List (List UInt8))) (by assumption) (by assumption) 2 w (hK.mem0 hm) (htr24.is (hm.heldSub (.cons _ (.cons _ (List.Sublist.refl _))))) (by omega); rw [aw_root] at h; exact h)) ?_   -- 55
  refine ow_val (val_move rfl) rfl ?_   -- 53
  refine ow_val (val_extract rfl rfl) rfl ?_   -- 56
  refine ow_val (val_extract rfl rfl) rfl ?_   -- 57
  refine ow_new (acts_alloc zD) rfl (fun b7 hb7 => ?_)   -- 7
  refine ow_do_eq (does_store_all 0 rfl rfl rfl (one_u8s _) Tryd.sizeOf43 (by show (List.map vU8 (nd 1 awS awN)).length = _; rw [List.length_map]; exact (nd_len _ _ _ h2)) (by show (List.map vU8 zeros32).length = _; rw [List.length_map]; exact zeros32_len)) ?_
  refine ow_val (val_assign rfl) rfl ?_   -- 8
  refine ow_nil (into ?_)
  refine sw_seq ?_
  refine sw_region_lex _ [] [(0, 0), (1, 0), (2, 0), (4, 0), (3, 1), (5, 0), (6, 0), (7, 0), (8, 0), (9, 0), (10, 0), (11, 0), (13, 0), (14, 0), (12, 1), (15, 2), (16, 0), (17, 0), (18, 0)] (by kernel_rfl) (by kernel_rfl) (fun _ _ _ h => h) (fun _ h => h) (fun _ h => h.drawn _) ?_
  refine lw_pure rfl (val_move rfl) rfl ?_   -- 58
  refine lw_pure rfl ((val_eql_int rfl rfl).to (v' := .bool true) (congrArg Value.bool (decide_eq_true (by simp)))) rfl ?_   -- 59
  refine lw_pure rfl (val_move rfl) rfl ?_   -- 60
  refine lwg_pure rfl (wg rfl rfl) (val_build' (cs := awN.map vU8) rfl (by kernel_rfl)) rfl ?_   -- 62
  refine lwg_held rfl (wg rfl rfl) (val_load_all 1 rfl rfl Tryd.isAgg43 Tryd.sizeOf43 (by show (List.map vU8 awN).length = _; rw [List.length_map]; exact awN_len)) rfl ?_   -- 61
  refine lwg_pure rfl (wg rfl rfl) ((val_eql_u8s rfl rfl Tryd.eqGuardType43 Tryd.underlying43 Tryd.underlying5 Tryd.sizeOf5 Tryd.isAgg5 awN_len awN_len).to (congrArg Value.bool (show _ = true by simp [txt]))) rfl ?_   -- 63
  refine lw_pure rfl (val_pick_true rfl rfl) rfl ?_   -- 64
  refine lw_pure rfl (val_move rfl) rfl ?_   -- 65
  refine lwg_pure rfl (wg rfl rfl) (val_move rfl) rfl ?_   -- 66
  refine lwg_pure rfl (wg rfl rfl) ((val_eql_int rfl rfl).to (v' := .bool true) (congrArg Value.bool (decide_eq_true (by simp)))) rfl ?_   -- 67
  refine lw_pure rfl (val_pick_true rfl rfl) rfl ?_   -- 68
  refine lw_pure rfl (val_move rfl) rfl ?_   -- 69
  refine lwg_pure rfl (wg rfl rfl) (val_build' (cs := awS.map vU8) rfl (by kernel_rfl)) rfl ?_   -- 71
  refine lwg_pure rfl (wg rfl rfl) (val_build' (cs := awN.map vU8) rfl (by kernel_rfl)) rfl ?_   -- 72
  refine lwg_held rfl (wg rfl rfl) (val_load_all 0 rfl rfl Tryd.isAgg43 Tryd.sizeOf43 (by show (List.map vU8 (nd 1 awS awN)).length = _; rw [List.length_map]; exact (nd_len _ _ _ h2))) rfl ?_   -- 70
  refine lwg_call_pure rfl (wg rfl rfl) (callsTo Tryd.func37 rfl (by kernel_rfl) rfl) rfl (fun w hm => rnd_any 1 h1 h2 awS awN awS_len awN_len w) ?_   -- 73
  refine lwg_pure rfl (wg rfl rfl) ((val_eql_u8s rfl rfl Tryd.eqGuardType43 Tryd.underlying43 Tryd.underlying5 Tryd.sizeOf5 Tryd.isAgg5 (nd_len _ _ _ h2) (nd_len _ _ _ h2)).to (congrArg Value.bool (show _ = true by simp [txt]))) rfl ?_   -- 74
  refine lw_pure rfl (val_pick_true rfl rfl) rfl ?_   -- 75
  refine lw_pure rfl (val_assign rfl) rfl ?_   -- 0
  refine lw_nil (into ?_)
  exact sw_ret (fun w hm => ret_one _ rfl rfl ⟨rfl, hm.forgetAll⟩)

def fitO (v0 : Int) (l : List (List UInt8)) : Bool := wd v0 && l.all (fm v0)
theorem fitO_iff {v0 : Int} {l : List (List UInt8)} : fitO v0 l = true ↔ wd v0 = true ∧ ∀ d ∈ l, fm v0 d = true := by simp [fitO]

theorem fit_no (v0 : Int) (w : World) (a : Option Addr) (c : Nat) (l : List (List UInt8)) (hdl : ∀ d ∈ l, d.length = 32) (hr : Rd w a (l.flatMap fun d => d.map vU8)) (hc : l.length ≤ c) (hl : l.length < 9223372036854775808) (hwd : wd v0 = false) : Calls Tryd.prog 29 #[vInt v0, .slice a l.length c] w fun e w' => ∃ v, e = .returned v ∧ v = .bool (fitO v0 l) ∧ Mem w [] [] w' := by
  refine calls_of_sw (vs := [vInt v0, .slice a l.length c]) Tryd.func29 rfl Tryd.ntmps29 rfl (SW.begin ?_)
  refine sw_seq ?_
  refine sw_region ?_
  refine ow_val (val_assign rfl) rfl ?_   -- 4
  refine ow_nil (into ?_)
  refine sw_seq ?_
  refine sw_seq ?_
  refine sw_region ?_
  refine ow_val (val_move rfl) rfl ?_   -- 7
  refine ow_call_pure (v := .bool false) (callsTo Tryd.func26 rfl (by kernel_rfl) rfl) rfl (fun w hm => rwidth_is hwd w) ?_   -- 8
  refine ow_val (val_not rfl) rfl ?_   -- 9
  refine ow_nil (into ?_)
  refine sw_true rfl rfl ?_
  refine sw_seq ?_
  refine sw_region ?_
  refine ow_val (val_assign rfl) rfl ?_   -- 4
  refine ow_nil (into ?_)
  refine sw_ret (fun w hm => ?_)
  try dsimp only [thenP, blockP, Nat.beq, cond]
  exact ret_one _ rfl rfl ⟨by simp [fitO, hwd] <;> rfl, hm.forgetAll⟩

theorem fit_bad {v0 : Int} {l : List (List UInt8)} {d : List UInt8} (hd : d ∈ l) (h : fm v0 d = false) : fitO v0 l = false := by
  rw [← Bool.not_eq_true, fitO_iff]; exact fun h2 => by rw [h2.2 _ hd] at h; cases h

theorem fit_yes (v0 : Int) (w : World) (a : Option Addr) (c : Nat) (l : List (List UInt8)) (hdl : ∀ d ∈ l, d.length = 32) (hr : Rd w a (l.flatMap fun d => d.map vU8)) (hc : l.length ≤ c) (hl : l.length < 9223372036854775808) (hwd : wd v0 = true) : Calls Tryd.prog 29 #[vInt v0, .slice a l.length c] w fun e w' => ∃ v, e = .returned v ∧ v = .bool (fitO v0 l) ∧ Mem w [] [] w' := by
  refine calls_of_sw (vs := [vInt v0, .slice a l.length c]) Tryd.func29 rfl Tryd.ntmps29 rfl (SW.begin ?_)
  refine sw_seq ?_
  refine sw_region ?_
  refine ow_val (val_assign rfl) rfl ?_   -- 4
  refine ow_nil (into ?_)
  refine sw_seq ?_
  refine sw_seq ?_
  refine sw_region ?_
  refine ow_val (val_move rfl) rfl ?_   -- 7
  refine ow_call_pure (v := .bool true) (callsTo Tryd.func26 rfl (by kernel_rfl) rfl) rfl (fun w hm => rwidth_is hwd w) ?_   -- 8
  refine ow_val (val_not rfl) rfl ?_   -- 9
  refine ow_nil (into ?_)
  refine sw_false rfl rfl ?_
  refine sw_skip (into ?_)
  refine sw_seq ?_
  refine sw_seq ?_
  refine sw_region ?_
  refine ow_val (val_move rfl) rfl ?_   -- 10
  refine ow_val (val_len rfl Tryd.underlying32) rfl ?_   -- 11
  refine ow_val (val_move rfl) rfl ?_   -- 12
  refine ow_nil (into ?_)
  refine sw_block ?_
  refine sw_loop (σ := Nat) (fun i => i ≤ l.length ∧ ∀ j, j < i → fm v0 (l.getD j default) = true) (fun i => [(12, vInt (i : Int)), (11, vInt (l.length : Int)), (10, .slice a l.length c), (0, vInt v0)]) (fun _ => Mem w [] []) (fun i => l.length - i) 0 ⟨Nat.zero_le _, fun j h => absurd h (Nat.not_lt_zero j)⟩ ⟨rfl, rfl, rfl, rfl, trivial⟩ (fun w hm => hm.forgetAll) ?_
  rintro i ⟨hi, hall⟩
  refine sw_seq ?_
  refine sw_region ?_
  refine ow_val (val_lss_int rfl rfl) rfl ?_   -- 13
  refine ow_nil (into ?_)
  refine sw_seq ?_
  refine sw_if rfl (fun h0 => ?_) (fun h0 => ?_)
  · -- then
    obtain ⟨ba, oa, rfl⟩ := hr.addr (by rw [flatMap_size l (n := 32) (fun y hy => by rw [List.length_map]; exact hdl y hy)]; omega)
    refine sw_skip (into ?_)
    refine sw_seq ?_
    refine sw_block ?_
    refine sw_seq ?_
    refine sw_region ?_
    refine ow_val (val_indexAddr_slice (i) (oa + i * 32) rfl rfl Tryd.underlying32 Tryd.sizeOf43 (by omega) (by omega) (by omega)) rfl ?_   -- 14
    refine ow_val (val_load_elem (cells := fun d => d.map vU8) (l := l) (o := oa) (i := i) rfl Tryd.isAgg43 Tryd.sizeOf43 (fun x hx => by rw [List.length_map]; exact hdl x hx) (by omega) (by omega) (fun w' hm => hr.mem hm)) rfl ?_   -- 15
    refine ow_new (acts_alloc zD) rfl (fun b6 hb6 => ?_)   -- 6
    refine ow_do_eq (does_store_all 0 rfl rfl rfl (one_u8s _) Tryd.sizeOf43 (by show (List.map vU8 (l.getD i default)).length = _; rw [List.length_map]; exact (hdl _ (getD_mem (by omega)))) (by show (List.map vU8 zeros32).length = _; rw [List.length_map]; exact zeros32_len)) ?_
    refine ow_nil (into ?_)
    refine sw_seq ?_
    refine sw_region ?_
    refine ow_val (val_move rfl) rfl ?_   -- 16
    refine ow_val (val_load_all 0 rfl rfl Tryd.isAgg43 Tryd.sizeOf43 (by show (List.map vU8 (l.getD i default)).length = _; rw [List.length_map]; exact (hdl _ (getD_mem (by omega))))) rfl ?_   -- 17
    refine ow_call_pure (callsTo Tryd.func41 rfl (by kernel_rfl) rfl) rfl (fun w hm => docForm_any v0 (l.getD i default) (hdl _ (getD_mem (by omega))) w) ?_   -- 18
    refine ow_val (val_not rfl) rfl ?_   -- 19
    refine ow_nil (into ?_)
    refine sw_cond rfl (fun hf0 => ?_) (fun hf0 => ?_)
    · -- then
      have hf : fm v0 (l.getD i default) = false := by simpa using hf0
      refine sw_seq ?_
      refine sw_region ?_
      refine ow_val (val_assign rfl) rfl ?_   -- 4
      refine ow_nil (into ?_)
      refine sw_ret (fun w hm => ?_)
      try dsimp only [thenP, blockP, Nat.beq, cond]
      exact ret_one _ rfl rfl ⟨by rw [fit_bad (getD_mem (by omega)) hf] <;> rfl, hm.forgetAll⟩
    · -- else
      have hf : fm v0 (l.getD i default) = true := by simpa using hf0
      refine sw_skip (into ?_)
      refine sw_region ?_
      refine ow_val (val_add_int ((i + 1 : Nat) : Int) rfl rfl (by omega) (by omega)) rfl ?_   -- 20
      refine ow_val (val_move rfl) rfl ?_   -- 12
      exact ow_nil (fun w hm => ⟨i + 1, ⟨by omega, fun j hj => (Nat.lt_or_ge j i).elim (hall j) (fun h => (show i = j by omega) ▸ hf)⟩, by omega, ⟨rfl, rfl, rfl, rfl, trivial⟩, hm.forgetAll⟩)
  · -- else
    refine sw_exit (into ?_)
    refine sw_seq ?_
    refine sw_region ?_
    refine ow_val (val_assign rfl) rfl ?_   -- 4
    refine ow_nil (into ?_)
    exact sw_ret (fun w hm => ret_one _ rfl rfl ⟨by rw [fitO_iff.2 ⟨hwd, fun d hd => by obtain ⟨j, hj⟩ := List.mem_iff_getElem?.1 hd; have hj2 := (List.getElem?_eq_some_iff.1 hj).1; have h9 := hall j (by omega); simpa [List.getD_eq_getElem?_getD, hj] using h9⟩] <;> rfl, hm.forgetAll⟩)

theorem fit_any (v0 : Int) (w : World) (a : Option Addr) (m c : Nat) (l : List (List UInt8)) (hlm : l.length = m) (hdl : ∀ d ∈ l, d.length = 32) (hr : Rd w a (l.flatMap fun d => d.map vU8)) (hc : m ≤ c) (hl : m < 9223372036854775808) : Calls Tryd.prog 29 #[vInt v0, .slice a m c] w fun e w' => ∃ v, e = .returned v ∧ v = .bool (fitO v0 l) ∧ Mem w [] [] w' := by
  subst hlm
  cases hwd : wd v0 with
  | true => exact fit_yes v0 w a c l hdl hr hc hl hwd
  | false => exact fit_no v0 w a c l hdl hr hc hl hwd
theorem fit_is {v0 : Int} {b : Bool} (w : World) (a : Option Addr) (m c : Nat) (l : List (List UInt8)) (hlm : l.length = m) (hdl : ∀ d ∈ l, d.length = 32) (hr : Rd w a (l.flatMap fun d => d.map vU8)) (hc : m ≤ c) (hl : m < 9223372036854775808) (h : fitO v0 l = b) : Calls Tryd.prog 29 #[vInt v0, .slice a m c] w fun e w' => ∃ v, e = .returned v ∧ v = .bool b ∧ Mem w [] [] w' := by
  rw [← h]; exact fit_any v0 w a m c l hlm hdl hr hc hl

theorem reads_0 (k : Nat) (h1 : 1 ≤ k) (h2 : k ≤ 32) (w : World) (hK : KW w) (b : Nat) (l : List (List UInt8)) (ht : TreeIs 95 75 k w b l) (a : Option Addr) (c : Nat) (hdl : ∀ d ∈ l, d.length = 32) (hfl : ∀ d ∈ l, fm (k : Int) d = true) (hr : Rd w a (l.flatMap fun d => d.map vU8)) (hc : l.length ≤ c) (hb : l.length ≤ 1048576) : Calls Tryd.prog 15 #[vPtr b, vInt (k : Int), .slice a l.length c] w fun e w' => ∃ v, e = .returned v ∧ v = .bool true ∧ Mem w [] [] w' := by
  refine calls_of_sw (vs := [vPtr b, vInt (k : Int), .slice a l.length c]) Tryd.func15 rfl Tryd.ntmps15 rfl (SW.begin ?_)
  refine sw_seq ?_
  refine sw_region ?_
  refine ow_val (val_assign rfl) rfl ?_   -- 6
  refine ow_nil (into ?_)
  refine sw_seq ?_
  refine sw_region ?_
  refine ow_val (val_move rfl) rfl ?_   -- 19
  refine ow_val (val_len rfl Tryd.underlying32) rfl ?_   -- 20
  refine ow_val (val_conv_n_u64 l.length Tryd.underlying3 Tryd.underlying46 rfl rfl) rfl ?_   -- 21
  refine ow_val (val_assign rfl) rfl ?_   -- 7
  refine ow_nil (into ?_)
  refine sw_seq ?_
  refine sw_seq ?_
  refine sw_region ?_
  refine ow_val (val_move rfl) rfl ?_   -- 22
  refine ow_val (val_eql_nilptr Tryd.underlying24 rfl rfl) rfl ?_   -- 23
  refine ow_val (val_move rfl) rfl ?_   -- 24
  refine ow_guard_yes rfl rfl rfl ?_
  refine ow_val (val_move rfl) rfl ?_   -- 25
  refine ow_guard_yes rfl rfl rfl ?_
  refine ow_call_pure (v := vInt ((k : Nat) : Int)) (callsTo Tryd.func25 rfl (by kernel_rfl) rfl) rfl (fun w hm => twidth_is b l w (ht.mem hm)) ?_   -- 26
  refine ow_guard_yes rfl rfl rfl ?_
  refine ow_val (val_move rfl) rfl ?_   -- 27
  refine ow_guard_yes rfl rfl rfl ?_
  refine ow_val ((val_neq_int rfl rfl).to (v' := .bool false) (congrArg Value.bool (decide_eq_false (fun h => h rfl)))) rfl ?_   -- 28
  refine ow_val (val_pick_false rfl rfl) rfl ?_   -- 29
  refine ow_val (val_move rfl) rfl ?_   -- 30
  refine ow_guard_yes rfl rfl rfl ?_
  refine ow_val (val_move rfl) rfl ?_   -- 31
  refine ow_guard_yes rfl rfl rfl ?_
  refine ow_call_pure (v := vU64 (UInt64.ofNat l.length)) (callsTo Tryd.func24 rfl (by kernel_rfl) rfl) rfl (fun w hm => tsize_is b l w (ht.mem hm)) ?_   -- 32
  refine ow_guard_yes rfl rfl rfl ?_
  refine ow_val (val_move rfl) rfl ?_   -- 33
  refine ow_guard_yes rfl rfl rfl ?_
  refine ow_val ((val_neq_u64 rfl rfl).to (congrArg Value.bool (decide_eq_false ((fun h => h rfl))))) rfl ?_   -- 34
  refine ow_val (val_pick_false rfl rfl) rfl ?_   -- 35
  refine ow_nil (into ?_)
  refine sw_false rfl rfl ?_
  refine sw_skip (into ?_)
  refine sw_seq ?_
  refine sw_seq ?_
  refine sw_region ?_
  refine ow_val (val_assign rfl) rfl ?_   -- 8
  refine ow_nil (into ?_)
  refine sw_block ?_
  refine sw_loop (σ := UInt64) (fun _ => True) (fun x => [(8, vU64 x), (7, vU64 (UInt64.ofNat l.length)), (0, vPtr b), (1, vInt (k : Int)), (2, .slice a l.length c)]) (fun _ => Mem w [] []) (fun x => l.length + 2 - x.toNat) 0 trivial ⟨rfl, rfl, rfl, rfl, rfl, trivial⟩ (fun w hm => hm.forgetAll) ?_
  intro x _
  refine sw_seq ?_
  refine sw_seq ?_
  refine sw_region ?_
  refine ow_val (val_move rfl) rfl ?_   -- 36
  refine ow_val (val_move rfl) rfl ?_   -- 37
  refine ow_val (val_add_u64 rfl rfl) rfl ?_   -- 38
  refine ow_val (val_lss_u64 rfl rfl) rfl ?_   -- 39
  refine ow_nil (into ?_)
  refine sw_if rfl (fun h0 => ?_) (fun h0 => ?_)
  · -- then
    have hx : x.toNat < l.length + 2 := by
      have h9 := UInt64.lt_iff_toNat_lt.1 h0
      rw [UInt64.toNat_add, of_nat (by omega), show (UInt64.ofNat (Int.toNat 2)).toNat = 2 from rfl, Nat.mod_eq_of_lt (by omega)] at h9
      exact h9
    have hx1 : (x + UInt64.ofNat (Int.toNat 1)).toNat = x.toNat + 1 := by
      rw [UInt64.toNat_add, show (UInt64.ofNat (Int.toNat 1)).toNat = 1 from rfl, Nat.mod_eq_of_lt (by omega)]
    refine sw_skip (into ?_)
    refine sw_seq ?_
    refine sw_block ?_
    refine sw_seq ?_
    refine sw_region ?_
    refine ow_val (val_move rfl) rfl ?_   -- 43
    refine ow_val (val_move rfl) rfl ?_   -- 44
    refine ow_call_pure (v := .tuple #[.agg (((leafO l x).1).map vU8).toArray, vInt (((leafO l x).2 : Nat) : Int)]) (callsTo Tryd.func22 rfl (by kernel_rfl) rfl) rfl (fun w hm => tleaf_any k h1 h2 b l (by assumption) x w (ht.mem hm) (by omega)) ?_   -- 45
    refine ow_val (val_move rfl) rfl ?_   -- 42
    refine ow_val (val_extract rfl rfl) rfl ?_   -- 46
    refine ow_val (val_extract rfl rfl) rfl ?_   -- 47
    refine ow_new (acts_alloc zD) rfl (fun b9 hb9 => ?_)   -- 9
    refine ow_do_eq (does_store_all 0 rfl rfl rfl (one_u8s _) Tryd.sizeOf43 (by show (List.map vU8 ((leafO l x).1)).length = _; rw [List.length_map]; exact (leafO_len (by assumption))) (by show (List.map vU8 zeros32).length = _; rw [List.length_map]; exact zeros32_len)) ?_
    refine ow_val (val_assign rfl) rfl ?_   -- 10
    refine ow_nil (into ?_)
    refine sw_seq ?_
    refine sw_region ?_
    refine ow_val (val_move rfl) rfl ?_   -- 49
    refine ow_val (val_move rfl) rfl ?_   -- 50
    refine ow_call_pure (v := .tuple #[.agg (((leafO l x).1).map vU8).toArray, vInt (((leafO l x).2 : Nat) : Int)]) (callsTo Tryd.func23 rfl (by kernel_rfl) rfl) rfl (fun w hm => rleaf_any x w a l.length c l rfl hdl (hr.mem hm) (by omega) (by omega)) ?_   -- 51
    refine ow_val (val_move rfl) rfl ?_   -- 48
    refine ow_val (val_extract rfl rfl) rfl ?_   -- 52
    refine ow_val (val_extract rfl rfl) rfl ?_   -- 53
    refine ow_new (acts_alloc zD) rfl (fun b11 hb11 => ?_)   -- 11
    refine ow_do_eq (does_store_all 0 rfl rfl rfl (one_u8s _) Tryd.sizeOf43 (by show (List.map vU8 ((leafO l x).1)).length = _; rw [List.length_map]; exact (leafO_len (by assumption))) (by show (List.map vU8 zeros32).length = _; rw [List.length_map]; exact zeros32_len)) ?_
    refine ow_val (val_assign rfl) rfl ?_   -- 12
    refine ow_nil (into ?_)
    refine sw_seq ?_
    refine sw_region ?_
    refine ow_val (val_load_all 1 rfl rfl Tryd.isAgg43 Tryd.sizeOf43 (by show (List.map vU8 ((leafO l x).1)).length = _; rw [List.length_map]; exact (leafO_len (by assumption)))) rfl ?_   -- 54
    refine ow_val (val_load_all 0 rfl rfl Tryd.isAgg43 Tryd.sizeOf43 (by show (List.map vU8 ((leafO l x).1)).length = _; rw [List.length_map]; exact (leafO_len (by assumption)))) rfl ?_   -- 55
    refine ow_val ((val_neq_u8s rfl rfl Tryd.eqGuardType43 Tryd.underlying43 Tryd.underlying5 Tryd.sizeOf5 Tryd.isAgg5 (leafO_len (by assumption)) (leafO_len (by assumption))).to (congrArg Value.bool (show _ = false by simp [txt]))) rfl ?_   -- 56
    refine ow_val (val_move rfl) rfl ?_   -- 57
    refine ow_guard_yes rfl rfl rfl ?_
    refine ow_val (val_move rfl) rfl ?_   -- 58
    refine ow_guard_yes rfl rfl rfl ?_
    refine ow_val (val_move rfl) rfl ?_   -- 59
    refine ow_guard_yes rfl rfl rfl ?_
    refine ow_val ((val_neq_int rfl rfl).to (v' := .bool false) (congrArg Value.bool (decide_eq_false (fun h => h rfl)))) rfl ?_   -- 60
    refine ow_val (val_pick_false rfl rfl) rfl ?_   -- 61
    refine ow_nil (into ?_)
    refine sw_false rfl rfl ?_
    refine sw_skip (into ?_)
    refine sw_region ?_
    refine ow_val (val_move rfl) rfl ?_   -- 40
    refine ow_val (val_add_u64 rfl rfl) rfl ?_   -- 41
    refine ow_val (val_assign rfl) rfl ?_   -- 8
    exact ow_nil (fun w hm => ⟨x + UInt64.ofNat (Int.toNat 1), trivial, by rw [hx1]; omega, ⟨rfl, rfl, rfl, rfl, rfl, trivial⟩, hm.forgetAll⟩)
  · -- else
    refine sw_exit (into ?_)
    refine sw_seq ?_
    refine sw_seq ?_
    refine sw_region ?_
    refine ow_val (val_move rfl) rfl ?_   -- 62
    refine ow_val (val_quo_u64 rfl rfl (by decide)) rfl ?_   -- 63
    refine ow_val (val_move rfl) rfl ?_   -- 64
    refine ow_val (val_sub_u64 rfl rfl) rfl ?_   -- 65
    refine ow_val (val_move rfl) rfl ?_   -- 66
    refine ow_val (val_move rfl) rfl ?_   -- 67
    refine ow_val (val_add_u64 rfl rfl) rfl ?_   -- 68
    refine ow_make (acts_buildSlice (cs := ([0, 1, ((UInt64.ofNat l.length) / 2), ((UInt64.ofNat l.length) - 1), (UInt64.ofNat l.length), ((UInt64.ofNat l.length) + 1), 18446744073709551615] : List UInt64).map vU64) Tryd.underlying39 Tryd.sizeOf46 Tryd.zeroValue46 rfl rfl (by kernel_rfl)) rfl (fun b69 hb69 => ?_)   -- 69
    refine ow_val (val_len rfl Tryd.underlying39) rfl ?_   -- 70
    refine ow_val (val_move rfl) rfl ?_   -- 71
    refine ow_nil (into ?_)
    refine sw_block ?_
    refine sw_loop (σ := Nat) (fun j => j ≤ 7) (fun j => [(71, vInt (j : Int)), (70, vInt ((7 : Nat) : Int)), (69, .slice (some ⟨b69, 0, none⟩) 7 7), (0, vPtr b), (1, vInt (k : Int)), (2, .slice a l.length c)]) (fun _ => Mem w [] [some (b69, blk (([0, 1, UInt64.ofNat l.length / 2, UInt64.ofNat l.length - 1, UInt64.ofNat l.length, UInt64.ofNat l.length + 1, 18446744073709551615] : List UInt64).map vU64) 46)]) (fun j => 7 - j) 0 (Nat.zero_le _) ⟨rfl, rfl, rfl, rfl, rfl, rfl, trivial⟩ (fun w hm => hm) ?_
    intro j hj
    obtain ⟨z, hz⟩ : ∃ z, ([0, 1, UInt64.ofNat l.length / 2, UInt64.ofNat l.length - 1, UInt64.ofNat l.length, UInt64.ofNat l.length + 1, 18446744073709551615] : List UInt64).getD j default = z := ⟨_, rfl⟩
    refine sw_seq ?_
    refine sw_region ?_
    refine ow_val (val_lss_int rfl rfl) rfl ?_   -- 72
    refine ow_nil (into ?_)
    refine sw_seq ?_
    refine sw_if rfl (fun h1q => ?_) (fun h1q => ?_)
    · -- then
      refine sw_skip (into ?_)
      refine sw_seq ?_
      refine sw_block ?_
      refine sw_seq ?_
      refine sw_region ?_
      refine ow_val (val_indexAddr_slice j j rfl rfl Tryd.underlying39 Tryd.sizeOf46 (by omega) (by omega) (by omega)) rfl ?_   -- 73
      refine ow_val ((val_load (v := vU64 (([0, 1, UInt64.ofNat l.length / 2, UInt64.ofNat l.length - 1, UInt64.ofNat l.length, UInt64.ofNat l.length + 1, 18446744073709551615] : List UInt64).getD j default)) rfl Tryd.isAgg46 (fun w' hm => Rd.get (V := vU64) (p := ([0, 1, UInt64.ofNat l.length / 2, UInt64.ofNat l.length - 1, UInt64.ofNat l.length, UInt64.ofNat l.length + 1, 18446744073709551615] : List UInt64)) (k := j) (Rd.blk (hm.at (i := 0) rfl)) (by simp only [List.length_cons, List.length_nil]; omega) (by omega))).to (v' := vU64 z) (by rw [hz])) rfl ?_   -- 74
      refine ow_val (val_assign rfl) rfl ?_   -- 14
      refine ow_nil (into ?_)
      refine sw_seq ?_
      refine sw_region ?_
      refine ow_val (val_move rfl) rfl ?_   -- 76
      refine ow_val (val_move rfl) rfl ?_   -- 77
      refine ow_call_pure (v := .tuple #[.agg (((rngO k l 0 z).1).map vU8).toArray, vInt (((rngO k l 0 z).2 : Nat) : Int)]) (callsTo Tryd.func21 rfl (by kernel_rfl) rfl) rfl (fun w hm => root_any k h1 h2 b l (by assumption) (by assumption) z w (hK.mem0 hm) (ht.mem hm) (by omega)) ?_   -- 78
      refine ow_val (val_move rfl) rfl ?_   -- 75
      refine ow_val (val_extract rfl rfl) rfl ?_   -- 79
      refine ow_val (val_extract rfl rfl) rfl ?_   -- 80
      refine ow_new (acts_alloc zD) rfl (fun b15 hb15 => ?_)   -- 15
      refine ow_do_eq (does_store_all 0 rfl rfl rfl (one_u8s _) Tryd.sizeOf43 (by show (List.map vU8 ((rngO k l 0 z).1)).length = _; rw [List.length_map]; exact (rngO_len h2 (by assumption))) (by show (List.map vU8 zeros32).length = _; rw [List.length_map]; exact zeros32_len)) ?_
      refine ow_val (val_assign rfl) rfl ?_   -- 16
      refine ow_nil (into ?_)
      refine sw_seq ?_
      refine sw_region ?_
      refine ow_val (val_move rfl) rfl ?_   -- 82
      refine ow_val (val_move rfl) rfl ?_   -- 83
      refine ow_val (val_move rfl) rfl ?_   -- 84
      refine ow_call_pure (v := .tuple #[.agg (((rngO k l 0 z).1).map vU8).toArray, vInt (((rngO k l 0 z).2 : Nat) : Int)]) (callsTo Tryd.func20 rfl (by kernel_rfl) rfl) rfl (fun w hm => rrange_any k h1 h2 0 z w a l.length c l rfl hdl (by assumption) (hr.mem hm) (by omega) (by omega)) ?_   -- 85
      refine ow_val (val_move rfl) rfl ?_   -- 81
      refine ow_val (val_extract rfl rfl) rfl ?_   -- 86
      refine ow_val (val_extract rfl rfl) rfl ?_   -- 87
      refine ow_new (acts_alloc zD) rfl (fun b17 hb17 => ?_)   -- 17
      refine ow_do_eq (does_store_all 0 rfl rfl rfl (one_u8s _) Tryd.sizeOf43 (by show (List.map vU8 ((rngO k l 0 z).1)).length = _; rw [List.length_map]; exact (rngO_len h2 (by assumption))) (by show (List.map vU8 zeros32).length = _; rw [List.length_map]; exact zeros32_len)) ?_
      refine ow_val (val_assign rfl) rfl ?_   -- 18
      refine ow_nil (into ?_)
      refine sw_seq ?_
      refine sw_region ?_
      refine ow_val (val_load_all 1 rfl rfl Tryd.isAgg43 Tryd.sizeOf43 (by show (List.map vU8 ((rngO k l 0 z).1)).length = _; rw [List.length_map]; exact (rngO_len h2 (by assumption)))) rfl ?_   -- 88
      refine ow_val (val_load_all 0 rfl rfl Tryd.isAgg43 Tryd.sizeOf43 (by show (List.map vU8 ((rngO k l 0 z).1)).length = _; rw [List.length_map]; exact (rngO_len h2 (by assumption)))) rfl ?_   -- 89
      refine ow_val ((val_neq_u8s rfl rfl Tryd.eqGuardType43 Tryd.underlying43 Tryd.underlying5 Tryd.sizeOf5 Tryd.isAgg5 (rngO_len h2 (by assumption)) (rngO_len h2 (by assumption))).to (congrArg Value.bool (show _ = false by simp [txt]))) rfl ?_   -- 90
      refine ow_val (val_move rfl) rfl ?_   -- 91
      refine ow_guard_yes rfl rfl rfl ?_
      refine ow_val (val_move rfl) rfl ?_   -- 92
      refine ow_guard_yes rfl rfl rfl ?_
      refine ow_val (val_move rfl) rfl ?_   -- 93
      refine ow_guard_yes rfl rfl rfl ?_
      refine ow_val ((val_neq_int rfl rfl).to (v' := .bool false) (congrArg Value.bool (decide_eq_false (fun h => h rfl)))) rfl ?_   -- 94
      refine ow_val (val_pick_false rfl rfl) rfl ?_   -- 95
      refine ow_nil (into ?_)
      refine sw_false rfl rfl ?_
      refine sw_skip (into ?_)
      refine sw_region ?_
      refine ow_val (val_add_int ((j + 1 : Nat) : Int) rfl rfl (by omega) (by omega)) rfl ?_   -- 96
      refine ow_val (val_move rfl) rfl ?_   -- 71
      exact ow_nil (fun w hm => ⟨j + 1, by omega, by omega, ⟨rfl, rfl, rfl, rfl, rfl, rfl, trivial⟩, hm.only (.cons _ (.cons _ (.cons_cons _ (List.nil_sublist _))))⟩)
    · -- else
      obtain rfl : j = 7 := by omega
      refine sw_exit (into ?_)
      refine sw_seq ?_
      refine sw_region ?_
      refine ow_val (val_assign rfl) rfl ?_   -- 6
      refine ow_nil (into ?_)
      exact sw_ret (fun w hm => ret_one _ rfl rfl ⟨rfl, hm.forgetAll⟩)

theorem reads_any (k : Nat) (h1 : 1 ≤ k) (h2 : k ≤ 32) (w : World) (hK : KW w) (b : Nat) (l : List (List UInt8)) (ht : TreeIs 95 75 k w b l) (hb : l.length ≤ 1048576) (a : Option Addr) (m c : Nat) (hlm : l.length = m) (hdl : ∀ d ∈ l, d.length = 32) (hfl : ∀ d ∈ l, fm (k : Int) d = true) (hr : Rd w a (l.flatMap fun d => d.map vU8)) (hc : m ≤ c) (hl : m < 9223372036854775808) : Calls Tryd.prog 15 #[vPtr b, vInt (k : Int), .slice a m c] w fun e w' => ∃ v, e = .returned v ∧ v = .bool true ∧ Mem w [] [] w' := by
  subst hlm; exact reads_0 k h1 h2 w hK b l ht a c hdl hfl hr hc hb

theorem grown_w (v0 s : Int) (w : World) (a : Option Addr) (c : Nat) (l : List (List UInt8)) (hdl : ∀ d ∈ l, d.length = 32) (hr : Rd w a (l.flatMap fun d => d.map vU8)) (hc : l.length ≤ c) (hl : l.length < 9223372036854775808) (hwd : wd v0 = false) : Calls Tryd.prog 18 #[vInt v0, .slice a l.length c, vInt s] w fun e w' => ∃ v, e = .returned v ∧ v = .tuple #[.pointer none, .bool false] ∧ Mem w [] [] w' := by
  have hfit : fitO v0 l = false := by simp [fitO, hwd]
  refine calls_of_sw (vs := [vInt v0, .slice a l.length c, vInt s]) Tryd.func18 rfl Tryd.ntmps18 rfl (SW.begin ?_)
  refine sw_seq ?_
  refine sw_region ?_
  refine ow_val (val_assign rfl) rfl ?_   -- 6
  refine ow_val (val_assign rfl) rfl ?_   -- 7
  refine ow_nil (into ?_)
  refine sw_seq ?_
  refine sw_region ?_
  refine ow_val (val_move rfl) rfl ?_   -- 12
  refine ow_call_pure (v := .tuple #[.pointer none, vInt ((1 : Nat) : Int)]) (callsTo Tryd.func13 rfl (by kernel_rfl) rfl) rfl (fun w hm => new_no v0 hwd w) ?_   -- 13
  refine ow_val (val_move rfl) rfl ?_   -- 11
  refine ow_val (val_extract rfl rfl) rfl ?_   -- 14
  refine ow_val (val_extract rfl rfl) rfl ?_   -- 15
  refine ow_val (val_assign rfl) rfl ?_   -- 8
  refine ow_val (val_assign rfl) rfl ?_   -- 9
  refine ow_nil (into ?_)
  refine sw_seq ?_
  refine sw_seq ?_
  refine sw_region ?_
  refine ow_val (val_move rfl) rfl ?_   -- 16
  refine ow_val (val_len rfl Tryd.underlying32) rfl ?_   -- 17
  by_cases h4 : 400 < l.length
  · -- yes
    refine ow_val ((val_gtr_int rfl rfl).to (congrArg Value.bool (decide_eq_true (by omega)))) rfl ?_   -- 18
    refine ow_val (val_move rfl) rfl ?_   -- 19
    first | refine ow_guard_no rfl rfl rfl rfl rfl ?_ | refine ow_guard_none rfl rfl rfl rfl rfl ?_
    first | refine ow_guard_no rfl rfl rfl rfl rfl ?_ | refine ow_guard_none rfl rfl rfl rfl rfl ?_
    first | refine ow_guard_no rfl rfl rfl rfl rfl ?_ | refine ow_guard_none rfl rfl rfl rfl rfl ?_
    first | refine ow_guard_no rfl rfl rfl rfl rfl ?_ | refine ow_guard_none rfl rfl rfl rfl rfl ?_
    refine ow_val (val_pick_true rfl rfl) rfl ?_   -- 24
    refine ow_nil (into ?_)
    refine sw_true rfl rfl ?_
    refine sw_seq ?_
    refine sw_region ?_
    refine ow_val (val_assign rfl) rfl ?_   -- 6
    refine ow_val (val_assign rfl) rfl ?_   -- 7
    refine ow_nil (into ?_)
    refine sw_ret (fun w hm => ?_)
    try dsimp only [thenP, blockP, Nat.beq, cond]
    exact ret_two _ _ rfl rfl rfl ⟨rfl, hm.forgetAll⟩
  · -- no
    refine ow_val ((val_gtr_int rfl rfl).to (congrArg Value.bool (decide_eq_false (by omega)))) rfl ?_   -- 18
    refine ow_val (val_move rfl) rfl ?_   -- 19
    refine ow_guard_yes rfl rfl rfl ?_
    refine ow_val (val_move rfl) rfl ?_   -- 20
    refine ow_guard_yes rfl rfl rfl ?_
    refine ow_val (val_move rfl) rfl ?_   -- 21
    refine ow_guard_yes rfl rfl rfl ?_
    refine ow_call_pure (v := .bool false) (callsTo Tryd.func29 rfl (by kernel_rfl) rfl) rfl (fun w hm => fit_is w a l.length c l rfl hdl (hr.mem hm) (by omega) (by omega) hfit) ?_   -- 22
    refine ow_guard_yes rfl rfl rfl ?_
    refine ow_val (val_not rfl) rfl ?_   -- 23
    refine ow_val (val_pick_false rfl rfl) rfl ?_   -- 24
    refine ow_nil (into ?_)
    refine sw_true rfl rfl ?_
    refine sw_seq ?_
    refine sw_region ?_
    refine ow_val (val_assign rfl) rfl ?_   -- 6
    refine ow_val (val_assign rfl) rfl ?_   -- 7
    refine ow_nil (into ?_)
    refine sw_ret (fun w hm => ?_)
    try dsimp only [thenP, blockP, Nat.beq, cond]
    exact ret_two _ _ rfl rfl rfl ⟨rfl, hm.forgetAll⟩

theorem grown_big (k : Nat) (h1 : 1 ≤ k) (h2 : k ≤ 32) (s : Int) (w : World) (a : Option Addr) (c : Nat) (l : List (List UInt8)) (hdl : ∀ d ∈ l, d.length = 32) (hr : Rd w a (l.flatMap fun d => d.map vU8)) (hc : l.length ≤ c) (hl : l.length < 9223372036854775808) (h4 : 400 < l.length) : Calls Tryd.prog 18 #[vInt (k : Int), .slice a l.length c, vInt s] w fun e w' => ∃ v, e = .returned v ∧ v = .tuple #[.pointer none, .bool false] ∧ Mem w [] [] w' := by
  refine calls_of_sw (vs := [vInt (k : Int), .slice a l.length c, vInt s]) Tryd.func18 rfl Tryd.ntmps18 rfl (SW.begin ?_)
  refine sw_seq ?_
  refine sw_region ?_
  refine ow_val (val_assign rfl) rfl ?_   -- 6
  refine ow_val (val_assign rfl) rfl ?_   -- 7
  refine ow_nil (into ?_)
  refine sw_seq ?_
  refine sw_region ?_
  refine ow_val (val_move rfl) rfl ?_   -- 12
  refine ow_call_tail (σ := Nat × List Ent) (fun q9 => .tuple #[vPtr q9.1, vInt ((0 : Nat) : Int)]) (fun q9 => q9.2) (fun q9 => TrOn 95 75 k q9.2 q9.1 []) (callsTo Tryd.func13 rfl (by kernel_rfl) rfl) rfl (fun w hm => new_tr k h1 h2 w) ?_   -- 13
  rintro ⟨b13, es13⟩ htr13
  simp only at htr13 ⊢
  refine ow_val (val_move rfl) rfl ?_   -- 11
  refine ow_val (val_extract rfl rfl) rfl ?_   -- 14
  refine ow_val (val_extract rfl rfl) rfl ?_   -- 15
  refine ow_val (val_assign rfl) rfl ?_   -- 8
  refine ow_val (val_assign rfl) rfl ?_   -- 9
  refine ow_nil (into ?_)
  refine sw_seq ?_
  refine sw_seq ?_
  refine sw_region ?_
  refine ow_val (val_move rfl) rfl ?_   -- 16
  refine ow_val (val_len rfl Tryd.underlying32) rfl ?_   -- 17
  refine ow_val ((val_gtr_int rfl rfl).to (congrArg Value.bool (decide_eq_true (by omega)))) rfl ?_   -- 18
  refine ow_val (val_move rfl) rfl ?_   -- 19
  first | refine ow_guard_no rfl rfl rfl rfl rfl ?_ | refine ow_guard_none rfl rfl rfl rfl rfl ?_
  first | refine ow_guard_no rfl rfl rfl rfl rfl ?_ | refine ow_guard_none rfl rfl rfl rfl rfl ?_
  first | refine ow_guard_no rfl rfl rfl rfl rfl ?_ | refine ow_guard_none rfl rfl rfl rfl rfl ?_
  first | refine ow_guard_no rfl rfl rfl rfl rfl ?_ | refine ow_guard_none rfl rfl rfl rfl rfl ?_
  refine ow_val (val_pick_true rfl rfl) rfl ?_   -- 24
  refine ow_nil (into ?_)
  refine sw_true rfl rfl ?_
  refine sw_seq ?_
  refine sw_region ?_
  refine ow_val (val_assign rfl) rfl ?_   -- 6
  refine ow_val (val_assign rfl) rfl ?_   -- 7
  refine ow_nil (into ?_)
  refine sw_ret (fun w hm => ?_)
  try dsimp only [thenP, blockP, Nat.beq, cond]
  exact ret_two _ _ rfl rfl rfl ⟨rfl, hm.forgetAll⟩

theorem grown_bad (k : Nat) (h1 : 1 ≤ k) (h2 : k ≤ 32) (s : Int) (w : World) (a : Option Addr) (c : Nat) (l : List (List UInt8)) (hdl : ∀ d ∈ l, d.length = 32) (hr : Rd w a (l.flatMap fun d => d.map vU8)) (hc : l.length ≤ c) (hl : l.length < 9223372036854775808) (h4 : ¬ 400 < l.length) (hfit : fitO (k : Int) l = false) : Calls Tryd.prog 18 #[vInt (k : Int), .slice a l.length c, vInt s] w fun e w' => ∃ v, e = .returned v ∧ v = .tuple #[.pointer none, .bool false] ∧ Mem w [] [] w' := by
  refine calls_of_sw (vs := [vInt (k : Int), .slice a l.length c, vInt s]) Tryd.func18 rfl Tryd.ntmps18 rfl (SW.begin ?_)
  refine sw_seq ?_
  refine sw_region ?_
  refine ow_val (val_assign rfl) rfl ?_   -- 6
  refine ow_val (val_assign rfl) rfl ?_   -- 7
  refine ow_nil (into ?_)
  refine sw_seq ?_
  refine sw_region ?_
  refine ow_val (val_move rfl) rfl ?_   -- 12
  refine ow_call_tail (σ := Nat × List Ent) (fun q9 => .tuple #[vPtr q9.1, vInt ((0 : Nat) : Int)]) (fun q9 => q9.2) (fun q9 => TrOn 95 75 k q9.2 q9.1 []) (callsTo Tryd.func13 rfl (by kernel_rfl) rfl) rfl (fun w hm => new_tr k h1 h2 w) ?_   -- 13
  rintro ⟨b13, es13⟩ htr13
  simp only at htr13 ⊢
  refine ow_val (val_move rfl) rfl ?_   -- 11
  refine ow_val (val_extract rfl rfl) rfl ?_   -- 14
  refine ow_val (val_extract rfl rfl) rfl ?_   -- 15
  refine ow_val (val_assign rfl) rfl ?_   -- 8
  refine ow_val (val_assign rfl) rfl ?_   -- 9
  refine ow_nil (into ?_)
  refine sw_seq ?_
  refine sw_seq ?_
  refine sw_region ?_
  refine ow_val (val_move rfl) rfl ?_   -- 16
  refine ow_val (val_len rfl Tryd.underlying32) rfl ?_   -- 17
  refine ow_val ((val_gtr_int rfl rfl).to (congrArg Value.bool (decide_eq_false (by omega)))) rfl ?_   -- 18
  refine ow_val (val_move rfl) rfl ?_   -- 19
  refine ow_guard_yes rfl rfl rfl ?_
  refine ow_val (val_move rfl) rfl ?_   -- 20
  refine ow_guard_yes rfl rfl rfl ?_
  refine ow_val (val_move rfl) rfl ?_   -- 21
  refine ow_guard_yes rfl rfl rfl ?_
  refine ow_call_pure (v := .bool false) (callsTo Tryd.func29 rfl (by kernel_rfl) rfl) rfl (fun w hm => fit_is w a l.length c l rfl hdl (hr.mem hm) (by omega) (by omega) hfit) ?_   -- 22
  refine ow_guard_yes rfl rfl rfl ?_
  refine ow_val (val_not rfl) rfl ?_   -- 23
  refine ow_val (val_pick_false rfl rfl) rfl ?_   -- 24
  refine ow_nil (into ?_)
  refine sw_true rfl rfl ?_
  refine sw_seq ?_
  refine sw_region ?_
  refine ow_val (val_assign rfl) rfl ?_   -- 6
  refine ow_val (val_assign rfl) rfl ?_   -- 7
  refine ow_nil (into ?_)
  refine sw_ret (fun w hm => ?_)
  try dsimp only [thenP, blockP, Nat.beq, cond]
  exact ret_two _ _ rfl rfl rfl ⟨rfl, hm.forgetAll⟩

theorem take_more (l : List (List UInt8)) (j s : Nat) : l.take j ++ (l.drop j).take (min (j + s) l.length - j) = l.take (j + s) := by
  rw [List.take_add]; congr 1
  rcases Nat.le_total (j + s) l.length with h | h
  · rw [Nat.min_eq_left h, Nat.add_sub_cancel_left]
  · rw [Nat.min_eq_right h, List.take_of_length_le (by rw [List.length_drop]; omega), List.take_of_length_le (by rw [List.length_drop]; omega)]

theorem grown_0 (k : Nat) (h1 : 1 ≤ k) (h2 : k ≤ 32) (s : Nat) (hs : 1 ≤ s) (hs2 : s ≤ 1048576) (w : World) (hK : KW w) (a : Option Addr) (c : Nat) (l : List (List UInt8)) (hdl : ∀ d ∈ l, d.length = 32) (hr : Rd w a (l.flatMap fun d => d.map vU8)) (hc : l.length ≤ c) (hl : l.length < 9223372036854775808) (h4 : ¬ 400 < l.length) (hfit : fitO (k : Int) l = true) (hfl : ∀ d ∈ l, fm (k : Int) d = true) : Calls Tryd.prog 18 #[vInt (k : Int), .slice a l.length c, vInt (s : Int)] w fun e w' => ∃ u, e = .returned u ∧ ∃ s : Nat × List Ent, u = .tuple #[vPtr s.1, .bool true] ∧ TrOn 95 75 k s.2 s.1 l ∧ Mem w [] s.2 w' := by
  refine calls_of_sw (vs := [vInt (k : Int), .slice a l.length c, vInt (s : Int)]) Tryd.func18 rfl Tryd.ntmps18 rfl (SW.begin ?_)
  refine sw_seq ?_
  refine sw_region ?_
  refine ow_val (val_assign rfl) rfl ?_   -- 6
  refine ow_val (val_assign rfl) rfl ?_   -- 7
  refine ow_nil (into ?_)
  refine sw_seq ?_
  refine sw_region ?_
  refine ow_val (val_move rfl) rfl ?_   -- 12
  refine ow_call_tail (σ := Nat × List Ent) (fun q9 => .tuple #[vPtr q9.1, vInt ((0 : Nat) : Int)]) (fun q9 => q9.2) (fun q9 => TrOn 95 75 k q9.2 q9.1 []) (callsTo Tryd.func13 rfl (by kernel_rfl) rfl) rfl (fun w hm => new_tr k h1 h2 w) ?_   -- 13
  rintro ⟨b13, es13⟩ htr13
  simp only at htr13 ⊢
  refine ow_val (val_move rfl) rfl ?_   -- 11
  refine ow_val (val_extract rfl rfl) rfl ?_   -- 14
  refine ow_val (val_extract rfl rfl) rfl ?_   -- 15
  refine ow_val (val_assign rfl) rfl ?_   -- 8
  refine ow_val (val_assign rfl) rfl ?_   -- 9
  refine ow_nil (into ?_)
  refine sw_seq ?_
  refine sw_seq ?_
  refine sw_region ?_
  refine ow_val (val_move rfl) rfl ?_   -- 16
  refine ow_val (val_len rfl Tryd.underlying32) rfl ?_   -- 17
  refine ow_val ((val_gtr_int rfl rfl).to (congrArg Value.bool (decide_eq_false (by omega)))) rfl ?_   -- 18
  refine ow_val (val_move rfl) rfl ?_   -- 19
  refine ow_guard_yes rfl rfl rfl ?_
  refine ow_val (val_move rfl) rfl ?_   -- 20
  refine ow_guard_yes rfl rfl rfl ?_
  refine ow_val (val_move rfl) rfl ?_   -- 21
  refine ow_guard_yes rfl rfl rfl ?_
  refine ow_call_pure (v := .bool true) (callsTo Tryd.func29 rfl (by kernel_rfl) rfl) rfl (fun w hm => fit_is w a l.length c l rfl hdl (hr.mem hm) (by omega) (by omega) hfit) ?_   -- 22
  refine ow_guard_yes rfl rfl rfl ?_
  refine ow_val (val_not rfl) rfl ?_   -- 23
  refine ow_val (val_pick_false rfl rfl) rfl ?_   -- 24
  refine ow_nil (into ?_)
  refine sw_false rfl rfl ?_
  refine sw_skip (into ?_)
  refine sw_seq ?_
  refine sw_seq ?_
  refine sw_region ?_
  refine ow_val (val_assign rfl) rfl ?_   -- 10
  refine ow_nil (into ?_)
  refine sw_block ?_
  refine sw_loop (σ := Nat × Nat × List Ent) (fun t => t.1 ≤ l.length + s ∧ TrOn 95 75 k t.2.2 t.2.1 (l.take t.1)) (fun t => [(10, vInt (t.1 : Int)), (8, vPtr t.2.1), (0, vInt (k : Int)), (1, .slice a l.length c), (2, vInt (s : Int))]) (fun t => Mem w [] t.2.2) (fun t => l.length + s - t.1) (0, b13, es13) ⟨Nat.zero_le _, htr13⟩ ⟨rfl, rfl, rfl, rfl, rfl, trivial⟩ (fun w hm => hm) ?_
  rintro ⟨j, b1, T1⟩ ⟨hj, htr⟩
  simp only at hj htr ⊢
  have htdl : ∀ d ∈ l.take j, d.length = 32 := fun d hd => hdl d (List.mem_of_mem_take hd)
  have htfl : ∀ d ∈ l.take j, fm (k : Int) d = true := fun d hd => hfl d (List.mem_of_mem_take hd)
  have htn : (l.take j).length ≤ l.length := by rw [List.length_take]; omega
  refine sw_seq ?_
  refine sw_seq ?_
  refine sw_region ?_
  refine ow_val (val_move rfl) rfl ?_   -- 25
  refine ow_val (val_move rfl) rfl ?_   -- 26
  refine ow_val (val_len rfl Tryd.underlying32) rfl ?_   -- 27
  refine ow_val (val_lss_int rfl rfl) rfl ?_   -- 28
  refine ow_nil (into ?_)
  refine sw_if rfl (fun h0 => ?_) (fun h0 => ?_)
  · -- then
    refine sw_skip (into ?_)
    refine sw_seq ?_
    refine sw_block ?_
    refine sw_region ?_
    refine ow_val (val_move rfl) rfl ?_   -- 33
    refine ow_val (val_move rfl) rfl ?_   -- 34
    refine ow_val (val_move rfl) rfl ?_   -- 35
    refine ow_val (val_move rfl) rfl ?_   -- 36
    refine ow_val (val_move rfl) rfl ?_   -- 37
    refine ow_val (val_add_int ((j + s : Nat) : Int) rfl rfl (by omega) (by omega)) rfl ?_   -- 38
    refine ow_val (val_move rfl) rfl ?_   -- 39
    refine ow_val (val_len rfl Tryd.underlying32) rfl ?_   -- 40
    refine ow_val ((val_min rfl rfl).to (v' := vInt ((min (j + s) l.length : Nat) : Int)) (by congr 1; omega)) rfl ?_   -- 41
    refine ow_val (val_slice_cut j (min (j + s) l.length) rfl rfl rfl Tryd.underlying32 Tryd.sizeOf43 rfl rfl (by omega) (by omega)) rfl ?_   -- 42
    refine ow_call_tail (σ := Nat × List Ent) (fun q9 => .tuple #[vPtr q9.1, vInt ((0 : Nat) : Int)]) (fun q9 => q9.2) (fun q9 => TrOn 95 75 k (T1 ++ q9.2) q9.1 (l.take (j + s))) (callsTo Tryd.func16 rfl (by kernel_rfl) rfl) rfl (fun w hm => (append_tr k h1 h2 w (hK.mem0 hm) T1 (hm.heldSub (List.Sublist.refl _)) b1 (l.take j) htr (by assumption) (by assumption) (Sx.cut a c j 32) ((min (j + s) l.length - j)) (c - j) (((l.drop j).take (min (j + s) l.length - j))) (by rw [List.length_take, List.length_drop]; omega) (fun d hd => hdl d (List.mem_of_mem_drop (List.mem_of_mem_take hd))) (rdTakeD (rdCutD (hr.mem hm) hdl hc) _) (by omega) (by omega) (fun d hd => hfl d (List.mem_of_mem_drop (List.mem_of_mem_take hd))) (by omega)).mono fun _ _ ⟨u, he, q9, hu, hi, hm'⟩ => ⟨u, he, q9, hu, hi.cast (take_more l j s), hm'⟩) ?_   -- 43
    rintro ⟨b43, es43⟩ htr43
    simp only at htr43 ⊢
    refine ow_val (val_move rfl) rfl ?_   -- 32
    refine ow_val (val_extract rfl rfl) rfl ?_   -- 44
    refine ow_val (val_extract rfl rfl) rfl ?_   -- 45
    refine ow_val (val_assign rfl) rfl ?_   -- 8
    refine ow_nil (into ?_)
    refine sw_region ?_
    refine ow_val (val_move rfl) rfl ?_   -- 29
    refine ow_val (val_move rfl) rfl ?_   -- 30
    refine ow_val (val_add_int ((j + s : Nat) : Int) rfl rfl (by omega) (by omega)) rfl ?_   -- 31
    refine ow_val (val_assign rfl) rfl ?_   -- 10
    exact ow_nil (fun w hm => ⟨(j + s, b43, (T1 ++ es43)), ⟨by dsimp only; omega, htr43⟩, by dsimp only; omega, ⟨rfl, rfl, rfl, rfl, rfl, trivial⟩, hm⟩)
  · -- else
    have hjl : l.take j = l := List.take_of_length_le (by omega)
    rw [hjl] at htr
    refine sw_exit (into ?_)
    refine sw_seq ?_
    refine sw_region ?_
    refine ow_val (val_move rfl) rfl ?_   -- 46
    refine ow_val (val_assign rfl) rfl ?_   -- 6
    refine ow_val (val_assign rfl) rfl ?_   -- 7
    refine ow_nil (into ?_)
    exact sw_ret (fun w hm => ret_two _ _ rfl rfl rfl ⟨(b1, T1), rfl, htr, hm⟩)

theorem grown_any (k : Nat) (h1 : 1 ≤ k) (h2 : k ≤ 32) (s : Nat) (hs : 1 ≤ s) (hs2 : s ≤ 1048576) (w : World) (hK : KW w) (a : Option Addr) (m c : Nat) (l : List (List UInt8)) (hlm : l.length = m) (hdl : ∀ d ∈ l, d.length = 32) (hr : Rd w a (l.flatMap fun d => d.map vU8)) (hc : m ≤ c) (hl : m < 9223372036854775808) (h4 : l.length ≤ 400) (hfl : ∀ d ∈ l, fm (k : Int) d = true) : Calls Tryd.prog 18 #[vInt (k : Int), .slice a m c, vInt (s : Int)] w fun e w' => ∃ u, e = .returned u ∧ ∃ s : Nat × List Ent, u = .tuple #[vPtr s.1, .bool true] ∧ TrOn 95 75 k s.2 s.1 l ∧ Mem w [] s.2 w' := by
  subst hlm
  exact grown_0 k h1 h2 s hs hs2 w hK a c l hdl hr hc hl (by omega) (fitO_iff.2 ⟨wd_iff.2 (by omega), hfl⟩) hfl
theorem grown_none (v0 s : Int) (w : World) (a : Option Addr) (m c : Nat) (l : List (List UInt8)) (hlm : l.length = m) (hdl : ∀ d ∈ l, d.length = 32) (hr : Rd w a (l.flatMap fun d => d.map vU8)) (hc : m ≤ c) (hl : m < 9223372036854775808) (h : ¬ (l.length ≤ 400 ∧ fitO v0 l = true)) : Calls Tryd.prog 18 #[vInt v0, .slice a m c, vInt s] w fun e w' => ∃ v, e = .returned v ∧ v = .tuple #[.pointer none, .bool false] ∧ Mem w [] [] w' := by
  subst hlm
  cases hwd : wd v0 with
  | false => exact grown_w v0 s w a c l hdl hr hc hl hwd
  | true =>
    have h9 := wd_iff.1 hwd
    obtain ⟨k, rfl⟩ : ∃ k : Nat, v0 = (k : Int) := ⟨v0.toNat, by omega⟩
    by_cases h4 : 400 < l.length
    · exact grown_big k (by omega) (by omega) s w a c l hdl hr hc hl h4
    · exact grown_bad k (by omega) (by omega) s w a c l hdl hr hc hl h4 (by cases hf : fitO (k : Int) l with | false => rfl | true => exact absurd ⟨by omega, hf⟩ h)
end Go.Proofs.YtcappcjogcekkaaDoor
