import Derived.Test.YtcdponddgnkecaaDoorMp10
import Derived.Test.YtcdponddgnkecaaDoorMck3
import Derived.Test.YtcdponddgnkecaaDoorPMh
import Derived.Test.YtcdponddgnkecaaDoorProg
set_option linter.unusedVariables false
set_option linter.unusedSimpArgs false
namespace Go.Proofs.YtcdponddgnkecaaDoor
open Go.Sx Go.Ps

theorem seg_takeW {l : List (List UInt8)} {m n : Nat} (h : m ≤ n) : (seg l 0 n).take m = seg l 0 m := by
  rw [seg, seg, List.drop_zero, List.take_take, Nat.sub_zero, Nat.sub_zero, Nat.min_eq_left h]
theorem rngU (k : Nat) {l : List (List UInt8)} {n : UInt64} (h : n.toNat ≤ l.length) : rngO k l 0 n = (lg k (seg l 0 n.toNat), 0) := by
  rw [rngO, if_neg]; · rfl
  rw [UInt64.lt_iff_toNat_lt, show (0 : UInt64).toNat = 0 from rfl]; omega

theorem wincl_0 (w8 : UInt8) (a2 a3 a4 : UInt16) (k : Nat) (h1 : 1 ≤ k) (h2 : k ≤ 32) (hk : 1 + w8.toNat % 32 = k) (sz ia r1 nw om : Nat) (hsz : 1 + a2.toNat % 300 = sz) (hia : a3.toNat % sz = ia) (hr1 : a4.toNat % (sz - ia) = r1) (hnw : ia + 1 + r1 = nw) (hom : a4.toNat % (nw + 1) = om) (w : World) (hK : KW w) (a : Option Addr) (c : Nat) (q : List (List UInt8)) (hdq : ∀ d ∈ q, d.length = 32) (hr : Rd w a (q.flatMap fun d => d.map vU8)) (hc : q.length ≤ c) (hl : q.length < 9223372036854775808) (L : List (List UInt8)) (hL : lvs k q sz = L) : Calls Tryd.prog 13 #[vU8 w8, .slice a q.length c, vU16 a2, vU16 a3, vU16 a4] w fun e w' => ∃ v, e = .returned v ∧ v = .bool true ∧ Mem w [] [] w' := by
  obtain ⟨tiD, hDi, hDz, hDsz, hDby⟩ := info_parts iDg
  have hsz0 : 1 ≤ sz := by omega
  have hsz1 : sz ≤ 300 := by have h9 := Nat.mod_lt a2.toNat (show 0 < 300 by omega); omega
  have hat1 : ia < sz := by have h9 := Nat.mod_lt a3.toNat (show 0 < sz by omega); omega
  have hr1' : r1 < sz - ia := by have h9 := Nat.mod_lt a4.toNat (show 0 < sz - ia by omega); omega
  have hold1 : om ≤ nw := by have h9 := Nat.mod_lt a4.toNat (show 0 < nw + 1 by omega); omega
  have hLn : L.length = sz := by rw [← hL]; exact lvs_len _ _ _
  have hdL : ∀ d ∈ L, d.length = 32 := by rw [← hL]; exact (lvs_ok h1 h2 hdq sz).1
  have hfL : ∀ d ∈ L, fm (k : Int) d = true := by rw [← hL]; exact (lvs_ok h1 h2 hdq sz).2
  have hn0 : ∀ d ∈ ([] : List (List UInt8)), d.length = 32 := fun _ h => by cases h
  have hn1 : ∀ d ∈ ([] : List (List UInt8)), fm (k : Int) d = true := fun _ h => by cases h
  have hnn : ([] : List (List UInt8)).length = 0 := rfl
  have ea : (UInt64.ofNat ia).toNat = ia := of_nat (by omega)
  have en : (UInt64.ofNat nw).toNat = nw := of_nat (by omega)
  have eo : (UInt64.ofNat om).toNat = om := of_nat (by omega)
  obtain ⟨S, hS⟩ : ∃ S, seg L 0 (UInt64.ofNat nw).toNat = S := ⟨_, rfl⟩
  have hSn : S.length = (UInt64.ofNat nw).toNat := by rw [← hS]; exact seg_len (by omega)
  have hSd : ∀ d ∈ S, d.length = 32 := by rw [← hS]; exact seg_all hdL
  have hSf : ∀ d ∈ S, fm (k : Int) d = true := by rw [← hS]; exact seg_all hfL
  obtain ⟨SM, hSM⟩ : ∃ S, seg L 0 (UInt64.ofNat om).toNat = S := ⟨_, rfl⟩
  have hMd : ∀ d ∈ SM, d.length = 32 := by rw [← hSM]; exact seg_all hdL
  have hMf : ∀ d ∈ SM, fm (k : Int) d = true := by rw [← hSM]; exact seg_all hfL
  have hSMt : S.take (UInt64.ofNat om).toNat = SM := by rw [← hS, ← hSM, eo, en]; exact seg_takeW (by omega)
  have hnwL : (UInt64.ofNat nw).toNat ≤ L.length := by omega
  have homL : (UInt64.ofNat om).toNat ≤ L.length := by omega
  obtain ⟨x, hx⟩ : ∃ x, L.getD ia default = x := ⟨_, rfl⟩
  have hxd : x.length = 32 := by rw [← hx]; exact hdL _ (getD_mem (by omega))
  have hxf : fm (k : Int) x = true := by rw [← hx]; exact hfL _ (getD_mem (by omega))
  have hxS : S.getD (UInt64.ofNat ia).toNat default = x := by rw [← hx, ← hS, ea, en, seg, List.drop_zero, Nat.sub_zero, getD_take' (by omega)]
  obtain ⟨P, hP⟩ : ∃ P, incL k (seg L 0 (UInt64.ofNat nw).toNat) (UInt64.ofNat ia).toNat = P := ⟨_, rfl⟩
  have hP2 : incL k S (UInt64.ofNat ia).toNat = P := by rw [← hS]; exact hP
  have hPm := incL_mem h1 h2 _ (Nat.le_refl _) hSd hSf (i := (UInt64.ofNat ia).toNat) (l := S)
  rw [hP2] at hPm
  have hPd := fun d hd => (hPm d hd).1
  have hPf := fun d hd => (hPm d hd).2
  have hPn : P.length < 300 := by rw [← hP2]; have h7 := incL_len (k := k) _ (l := S) (i := (UInt64.ofNat ia).toNat) (Nat.le_refl _); omega
  have hI1 : (UInt64.ofNat ia).toNat < (UInt64.ofNat nw).toNat ∧ (UInt64.ofNat nw).toNat ≤ L.length := by omega
  have hcnt : P.length = (splitsL (UInt64.ofNat ia) (UInt64.ofNat nw)).length := by rw [← hP2]; exact inc_cnt k hSn hI1.1
  have hup : (upR k x (UInt64.ofNat ia) (UInt64.ofNat nw) P.reverse).1 = lg k S := by rw [← hP2, ← hxS]; exact upR_root k _ (Nat.le_refl _) hSn hI1.1
  have hrf : fm (k : Int) (lg k S) = true := lg_fm h1 h2 hSf
  have qR : rootO (k : Int) x (UInt64.ofNat ia) (UInt64.ofNat nw) P = (lg k S, 0) := by rw [rootO_flag h1 h2 hxf hPf hI1.1, if_pos hcnt, hup]
  have qI : inclO (k : Int) x (UInt64.ofNat ia) (UInt64.ofNat nw) P (lg k S) = 0 := by rw [inclO_flag h1 h2 hxf hPf hrf hI1.1, if_pos hcnt, hup, if_neg (by simp)]
  have hz1 : ∀ d ∈ [zeros32], fm (k : Int) d = true := fun d hd => by rw [List.mem_singleton.1 hd]; exact fm_zeros h1 h2
  have qI2 : inclO (k : Int) x (UInt64.ofNat ia) (UInt64.ofNat nw) (P ++ [zeros32]) (lg k S) = 10 := by rw [inclO_flag h1 h2 hxf (both hPf hz1) hrf hI1.1, if_neg (by rw [List.length_append, hcnt]; simp)]
  obtain ⟨P1, hP1⟩ : ∃ P1, P.take (P.length - 1) = P1 := ⟨_, rfl⟩
  have hP1n : P1.length = P.length - 1 := by rw [← hP1, List.length_take]; omega
  have hP1d : ∀ d ∈ P1, d.length = 32 := fun d hd => by rw [← hP1] at hd; exact hPd d (List.mem_of_mem_take hd)
  have hP1f : ∀ d ∈ P1, fm (k : Int) d = true := fun d hd => by rw [← hP1] at hd; exact hPf d (List.mem_of_mem_take hd)
  have hP1r : ∀ {w : World} {a : Option Addr}, Rd w a (P.flatMap fun d => d.map vU8) → Rd w a (P1.flatMap fun d => d.map vU8) := fun h => by rw [← hP1]; exact rdTakeD h _
  have qI3 : 0 < P.length → inclO (k : Int) x (UInt64.ofNat ia) (UInt64.ofNat nw) P1 (lg k S) = 10 := fun h => by rw [inclO_flag h1 h2 hxf hP1f hrf hI1.1, if_neg (by rw [hP1n, ← hcnt]; omega)]
  have qI4 : inclO (k : Int) x (UInt64.ofNat nw) (UInt64.ofNat nw) P (lg k S) = 4 := inclO_rng h1 h2 hxf hPf hrf (Nat.le_refl _)
  obtain ⟨Q, hQ⟩ : ∃ P, conO k L (UInt64.ofNat om).toNat (UInt64.ofNat nw).toNat = P := ⟨_, rfl⟩
  have hQm := conO_mem h1 h2 hdL hfL (i := (UInt64.ofNat om).toNat) (n := (UInt64.ofNat nw).toNat)
  rw [hQ] at hQm
  have hQd := fun d hd => (hQm d hd).1
  have hQf := fun d hd => (hQm d hd).2
  have hQn : Q.length < 302 := by rw [← hQ]; have h7 := conO_len (k := k) (l := L) (i := (UInt64.ofNat om).toNat) hnwL; omega
  have hJ1 : (UInt64.ofNat om).toNat ≤ (UInt64.ofNat nw).toNat ∧ (UInt64.ofNat nw).toNat ≤ L.length := by omega
  have hQ2 : Q = if (UInt64.ofNat om).toNat = 0 then [] else conL k S (UInt64.ofNat om).toNat true := by rw [← hQ, conO, hS]
  have qC : consO (k : Int) (UInt64.ofNat om) (UInt64.ofNat nw) (lg k SM) (lg k S) Q = 0 := by rw [hQ2, ← hSMt]; exact cons_honest h1 h2 hSd hSf hSn hJ1.1
  have qT : om ≠ 0 → om ≠ nw → rootsO (k : Int) (UInt64.ofNat om) (UInt64.ofNat nw) (lg k SM) Q = ((lg k SM, lg k S), 0) := fun h h' => by
    rw [hQ2, if_neg (by omega), ← hSMt]; exact roots_honest h1 h2 hSd hSf hSn (by omega) (by omega)
  have qC2 : om ≠ 0 → om ≠ nw → consO (k : Int) (UInt64.ofNat om) (UInt64.ofNat nw) (lg k SM) (lg k S) (Q ++ [zeros32]) = 10 := fun h h' => by
    rw [hQ2, if_neg (by omega), ← hSMt]; exact cons_more h1 h2 hSd hSf hSn (by omega) (by omega)
  have hQz : om = 0 ∨ om = nw → Q.length = 0 := fun h => by
    rw [hQ2]; split
    · rfl
    · rw [conL_end (by omega)]; rfl
  refine calls_of_sw (vs := [vU8 w8, .slice a q.length c, vU16 a2, vU16 a3, vU16 a4]) Tryd.func13 rfl Tryd.ntmps13 rfl (SW.begin ?_)
  refine sw_seq ?_
  refine sw_region ?_
  refine ow_val (val_assign rfl) rfl ?_
  refine ow_nil (into ?_)
  refine sw_seq ?_
  refine sw_region ?_
  refine ow_val (val_move rfl) rfl ?_
  refine ow_call_pure (v := vInt (k : Int)) (callsTo Tryd.func35 rfl (by kernel_rfl) rfl) rfl (fun w hm => tw_is hk w) ?_
  refine ow_val (val_assign rfl) rfl ?_
  refine ow_nil (into ?_)
  refine sw_seq ?_
  refine sw_region ?_
  refine ow_val (val_move rfl) rfl ?_
  refine ow_val (val_conv_u16_i64 Tryd.underlying56 Tryd.underlying3 rfl) rfl ?_
  refine ow_val (val_rem_nn ((a2.toNat % 300 : Nat) : Int) rfl rfl (by omega) (by omega) (by omega)) rfl ?_
  refine ow_val ((val_add_int ((1 + a2.toNat % 300 : Nat) : Int) rfl rfl (by omega) (by omega)).to (v' := vInt (sz : Int)) (by rw [← hsz])) rfl ?_
  refine ow_val (val_assign rfl) rfl ?_
  refine ow_nil (into ?_)
  refine sw_seq ?_
  refine sw_region ?_
  refine ow_val (val_move rfl) rfl ?_
  refine ow_val (val_move rfl) rfl ?_
  refine ow_val (val_move rfl) rfl ?_
  refine ow_call_row (E := 41) (size := 32) (k := sz) (xs := List.flatMap (fun d : List UInt8 => List.map vU8 d) L) (callsTo Tryd.func38 rfl (by kernel_rfl) rfl) rfl (fun w hm => leaves_is k h1 h2 sz (by omega) w (hK.mem0 hm) a c q hdq (hr.mem hm) hc hl hL) (fun a45 c45 e45 hr45 => ?_)
  refine ow_val (val_assign rfl) rfl ?_
  refine ow_nil (into ?_)
  refine sw_seq ?_
  refine sw_region ?_
  refine ow_val (val_move rfl) rfl ?_
  refine ow_call_tail (σ := Nat × List Ent) (fun q9 => .tuple #[vPtr q9.1, vInt ((0 : Nat) : Int)]) (fun q9 => q9.2) (fun q9 => TrOn 110 79 k q9.2 q9.1 []) (callsTo Tryd.func36 rfl (by kernel_rfl) rfl) rfl (fun w hm => new_tr k h1 h2 w) ?_
  rintro ⟨b48, es48⟩ htr48
  simp only at htr48 ⊢
  refine ow_val (val_move rfl) rfl ?_
  refine ow_val (val_extract rfl rfl) rfl ?_
  refine ow_val (val_extract rfl rfl) rfl ?_
  refine ow_val (val_assign rfl) rfl ?_
  refine ow_val (val_assign rfl) rfl ?_
  refine ow_nil (into ?_)
  refine sw_seq ?_
  refine sw_region ?_
  refine ow_val (val_move rfl) rfl ?_
  refine ow_val (val_move rfl) rfl ?_
  refine ow_call_tail (σ := Nat × List Ent) (fun q9 => .tuple #[vPtr q9.1, vInt ((0 : Nat) : Int)]) (fun q9 => q9.2) (fun q9 => TrOn 110 79 k (es48 ++ q9.2) q9.1 L) (callsTo Tryd.func37 rfl (by kernel_rfl) rfl) rfl (fun w hm => (append_tr k h1 h2 w (hK.mem0 hm) es48 (hm.heldSub (.cons _ (List.Sublist.refl _))) b48 [] htr48 (by assumption) (by assumption) a45 sz c45 L hLn hdL (hr45.rdAt hm (i := 0) rfl) hr45.le (by omega) hfL (by omega)).mono fun _ _ ⟨u, he, q9, hu, hi, hm'⟩ => ⟨u, he, q9, hu, hi.cast (List.nil_append _), hm'⟩) ?_
  rintro ⟨b54, es54⟩ htr54
  simp only at htr54 ⊢
  refine ow_val (val_move rfl) rfl ?_
  refine ow_val (val_extract rfl rfl) rfl ?_
  refine ow_val (val_extract rfl rfl) rfl ?_
  refine ow_val (val_assign rfl) rfl ?_
  refine ow_val (val_assign rfl) rfl ?_
  refine ow_nil (into ?_)
  refine sw_seq ?_
  refine sw_seq ?_
  refine sw_region ?_
  refine ow_val (val_move rfl) rfl ?_
  refine ow_val ((val_neq_int rfl rfl).to (v' := .bool false) (congrArg Value.bool (decide_eq_false (fun h => h (by simp))))) rfl ?_
  refine ow_nil (into ?_)
  refine sw_false rfl rfl ?_
  refine sw_skip (into ?_)
  refine sw_seq ?_
  refine sw_region ?_
  obtain ⟨bL, oL, rfl⟩ := rowAddr32 hr45 (by omega)
  refine ow_val (val_move rfl) rfl ?_
  refine ow_val (val_conv_u16_i64 Tryd.underlying56 Tryd.underlying3 rfl) rfl ?_
  refine ow_val (val_move rfl) rfl ?_
  refine ow_val ((val_rem_nn ((a3.toNat % sz : Nat) : Int) rfl rfl (by omega) (by omega) (by omega)).to (v' := vInt (ia : Int)) (by rw [← hia])) rfl ?_
  refine ow_val (val_conv_n_u64 ia Tryd.underlying3 Tryd.underlying23 rfl rfl) rfl ?_
  refine ow_val (val_assign rfl) rfl ?_
  refine ow_nil (into ?_)
  refine sw_seq ?_
  refine sw_region ?_
  refine ow_val (val_move rfl) rfl ?_
  refine ow_val ((val_add_u64 rfl rfl).to (congrArg vU64 (of_add (a := ia) (b := 1) (by omega)))) rfl ?_
  refine ow_val (val_move rfl) rfl ?_
  refine ow_val (val_conv_u16_i64 Tryd.underlying56 Tryd.underlying3 rfl) rfl ?_
  refine ow_val (val_move rfl) rfl ?_
  refine ow_val (val_move rfl) rfl ?_
  refine ow_val ((val_conv_u64_i64 Tryd.underlying23 Tryd.underlying3 rfl (by omega)).to (v' := vInt (ia : Int)) (by rw [ea])) rfl ?_
  refine ow_val (val_sub_int ((sz - ia : Nat) : Int) rfl rfl (by omega) (by omega)) rfl ?_
  refine ow_val ((val_rem_nn ((a4.toNat % (sz - ia) : Nat) : Int) rfl rfl (by omega) (by omega) (by omega)).to (v' := vInt (r1 : Int)) (by rw [← hr1])) rfl ?_
  refine ow_val (val_conv_n_u64 r1 Tryd.underlying3 Tryd.underlying23 rfl rfl) rfl ?_
  refine ow_val ((val_add_u64 rfl rfl).to (congrArg vU64 ((of_add (a := ia + 1) (b := r1) (by omega)).trans (congrArg UInt64.ofNat hnw)))) rfl ?_
  refine ow_val (val_assign rfl) rfl ?_
  refine ow_nil (into ?_)
  refine sw_seq ?_
  refine sw_region ?_
  refine ow_val (val_move rfl) rfl ?_
  refine ow_val (val_move rfl) rfl ?_
  refine ow_call_pure (v := .tuple #[.agg ((lg k S).map vU8).toArray, vInt ((0 : Nat) : Int)]) (callsTo Tryd.func26 rfl (by kernel_rfl) rfl) rfl (fun w hm => (by have h := root_any k h1 h2 b54 L (by assumption) (by assumption) (UInt64.ofNat nw) w (hK.mem0 hm) (htr54.is (hm.heldSub (.cons _ (List.Sublist.refl _)))) (by omega); rw [rngU k hnwL, hS] at h; exact h)) ?_
  refine ow_val (val_move rfl) rfl ?_
  refine ow_val (val_extract rfl rfl) rfl ?_
  refine ow_val (val_extract rfl rfl) rfl ?_
  refine ow_new (acts_alloc zD) rfl (fun b20 hb20 => ?_)
  refine ow_do_eq (does_store_all 0 rfl rfl rfl (one_u8s _) Tryd.sizeOf41 (by show (List.map vU8 (lg k S)).length = _; rw [List.length_map]; exact (lg_len h2 _ rfl hSd)) (by show (List.map vU8 zeros32).length = _; rw [List.length_map]; exact zeros32_len)) ?_
  refine ow_val (val_assign rfl) rfl ?_
  refine ow_nil (into ?_)
  refine sw_seq ?_
  refine sw_region ?_
  refine ow_val (val_move rfl) rfl ?_
  refine ow_val (val_move rfl) rfl ?_
  refine ow_val (val_move rfl) rfl ?_
  refine ow_call_row2 (E := 41) (size := 32) (k := P.length) (xs := List.flatMap (fun d : List UInt8 => List.map vU8 d) P) (x := vInt ((0 : Nat) : Int)) (callsTo Tryd.func16 rfl (by kernel_rfl) rfl) rfl (fun w hm => incl_okU k h1 h2 b54 L (by assumption) (by assumption) (by omega) (UInt64.ofNat ia) (UInt64.ofNat nw) w (hK.mem0 hm) (htr54.is (hm.heldSub (.cons _ (.cons _ (List.Sublist.refl _))))) hI1 _ hP) (fun a85 c85 e85 hr85 => ?_)
  refine ow_val (val_move rfl) rfl ?_
  refine ow_val (val_extract rfl rfl) rfl ?_
  refine ow_val (val_extract rfl rfl) rfl ?_
  refine ow_val (val_assign rfl) rfl ?_
  refine ow_val (val_assign rfl) rfl ?_
  refine ow_nil (into ?_)
  refine sw_seq ?_
  refine sw_region ?_
  refine ow_val (val_move rfl) rfl ?_
  refine ow_val (val_move rfl) rfl ?_
  refine ow_val (val_move rfl) rfl ?_
  refine ow_val (val_indexAddr_slice ia (oL + ia * 32) rfl rfl Tryd.underlying22 Tryd.sizeOf41 (by rw [ea]) (by omega) (by omega)) rfl ?_
  refine ow_val ((val_load_elem (cells := fun d => d.map vU8) (l := L) (o := oL) (i := ia) rfl Tryd.isAgg41 Tryd.sizeOf41 (fun x hx => by rw [List.length_map]; exact hdL x hx) (by omega) (by omega) (fun w' hm => hr45.rdAt hm (i := 2) rfl)).to (v' := .agg (x.map vU8).toArray) (by rw [hx])) rfl ?_
  refine ow_val (val_move rfl) rfl ?_
  refine ow_val (val_move rfl) rfl ?_
  refine ow_val (val_move rfl) rfl ?_
  refine ow_call_pure (v := .tuple #[.agg ((lg k S).map vU8).toArray, vInt ((0 : Nat) : Int)]) (callsTo Tryd.func34 rfl (by kernel_rfl) rfl) rfl (fun w hm => (by have h := mroot_any (k : Int) x hxd (UInt64.ofNat ia) (UInt64.ofNat nw) w (hK.mem0 hm) a85 P.length c85 P rfl hPd (hr85.rdAt hm (i := 0) rfl) hr85.le (by omega) (by omega); rw [qR] at h; exact h)) ?_
  refine ow_val (val_move rfl) rfl ?_
  refine ow_val (val_extract rfl rfl) rfl ?_
  refine ow_val (val_extract rfl rfl) rfl ?_
  refine ow_new (acts_alloc zD) rfl (fun b24 hb24 => ?_)
  refine ow_do_eq (does_store_all 0 rfl rfl rfl (one_u8s _) Tryd.sizeOf41 (by show (List.map vU8 (lg k S)).length = _; rw [List.length_map]; exact (lg_len h2 _ rfl hSd)) (by show (List.map vU8 zeros32).length = _; rw [List.length_map]; exact zeros32_len)) ?_
  refine ow_val (val_assign rfl) rfl ?_
  refine ow_nil (into ?_)
  refine sw_seq ?_
  refine sw_seq ?_
  refine sw_region_lex _ [] [(0, 0), (1, 0), (2, 0), (3, 0), (4, 0), (5, 0), (6, 0), (7, 0), (8, 0), (9, 0), (10, 0), (11, 1), (12, 1), (13, 0), (14, 0), (15, 0), (16, 0), (17, 0), (18, 0), (19, 0), (21, 0), (22, 0), (23, 0), (20, 1), (24, 1), (25, 2), (26, 0), (27, 0)] (by kernel_rfl) (by kernel_rfl) (fun _ _ _ h => h) (fun _ h => h) (fun _ h => h.drawn _) ?_
  refine lw_pure rfl (val_move rfl) rfl ?_
  refine lw_pure rfl ((val_neq_int rfl rfl).to (v' := .bool false) (congrArg Value.bool (decide_eq_false (fun h => h (by simp))))) rfl ?_
  refine lw_pure rfl (val_move rfl) rfl ?_
  refine lwg_pure rfl (wg rfl rfl) (val_move rfl) rfl ?_
  refine lwg_pure rfl (wg rfl rfl) ((val_neq_int rfl rfl).to (v' := .bool false) (congrArg Value.bool (decide_eq_false (fun h => h (by simp))))) rfl ?_
  refine lw_pure rfl (val_pick_false rfl rfl) rfl ?_
  refine lw_pure rfl (val_move rfl) rfl ?_
  refine lwg_pure rfl (wg rfl rfl) (val_move rfl) rfl ?_
  refine lwg_pure rfl (wg rfl rfl) ((val_neq_int rfl rfl).to (v' := .bool false) (congrArg Value.bool (decide_eq_false (fun h => h (by simp))))) rfl ?_
  refine lw_pure rfl (val_pick_false rfl rfl) rfl ?_
  refine lw_pure rfl (val_move rfl) rfl ?_
  refine lwg_held rfl (wg rfl rfl) (val_load_all 0 rfl rfl Tryd.isAgg41 Tryd.sizeOf41 (by show (List.map vU8 (lg k S)).length = _; rw [List.length_map]; exact (lg_len h2 _ rfl hSd))) rfl ?_
  refine lwg_held rfl (wg rfl rfl) (val_load_all 2 rfl rfl Tryd.isAgg41 Tryd.sizeOf41 (by show (List.map vU8 (lg k S)).length = _; rw [List.length_map]; exact (lg_len h2 _ rfl hSd))) rfl ?_
  refine lwg_pure rfl (wg rfl rfl) ((val_neq_u8s rfl rfl Tryd.eqGuardType41 Tryd.underlying41 Tryd.underlying5 Tryd.sizeOf5 Tryd.isAgg5 (lg_len h2 _ rfl hSd) (lg_len h2 _ rfl hSd)).to (congrArg Value.bool (show _ = false by simp [txt]))) rfl ?_
  refine lw_pure rfl (val_pick_false rfl rfl) rfl ?_
  refine lw_pure rfl (val_move rfl) rfl ?_
  refine lwg_pure rfl (wg rfl rfl) (val_move rfl) rfl ?_
  refine lwg_pure rfl (wg rfl rfl) (val_move rfl) rfl ?_
  refine lwg_pure rfl (wg rfl rfl) (val_move rfl) rfl ?_
  refine lwg_pure rfl (wg rfl rfl) (val_indexAddr_slice ia (oL + ia * 32) rfl rfl Tryd.underlying22 Tryd.sizeOf41 (by rw [ea]) (by omega) (by omega)) rfl ?_
  refine lwg_pure rfl (wg rfl rfl) (val_move rfl) rfl ?_
  refine lwg_pure rfl (wg rfl rfl) (val_move rfl) rfl ?_
  refine lwg_pure rfl (wg rfl rfl) (val_move rfl) rfl ?_
  refine lwg_held rfl (wg rfl rfl) ((val_load_elem (cells := fun d => d.map vU8) (l := L) (o := oL) (i := ia) rfl Tryd.isAgg41 Tryd.sizeOf41 (fun x hx => by rw [List.length_map]; exact hdL x hx) (by omega) (by omega) (fun w' hm => hr45.rdAt hm (i := 3) rfl)).to (v' := .agg (x.map vU8).toArray) (by rw [hx])) rfl ?_
  refine lwg_held rfl (wg rfl rfl) (val_load_all 2 rfl rfl Tryd.isAgg41 Tryd.sizeOf41 (by show (List.map vU8 (lg k S)).length = _; rw [List.length_map]; exact (lg_len h2 _ rfl hSd))) rfl ?_
  refine lwg_call_pure (v := vInt ((0 : Nat) : Int)) rfl (wg rfl rfl) (callsTo Tryd.func32 rfl (by kernel_rfl) rfl) rfl (fun w hm => (by have h := mincl_any (k : Int) x hxd (UInt64.ofNat ia) (UInt64.ofNat nw) (lg k S) (lg_len h2 _ rfl hSd) w (hK.mem0 hm) a85 P.length c85 P rfl hPd (hr85.rdAt hm (i := 1) rfl) hr85.le (by omega) (by omega); rw [qI] at h; exact h)) ?_
  refine lwg_pure rfl (wg rfl rfl) ((val_neq_int rfl rfl).to (v' := .bool false) (congrArg Value.bool (decide_eq_false (fun h => h (by simp))))) rfl ?_
  refine lw_pure rfl (val_pick_false rfl rfl) rfl ?_
  refine lw_nil (into ?_)
  refine sw_false rfl rfl ?_
  refine sw_skip (into ?_)
  refine sw_seq ?_
  refine sw_region ?_
  refine ow_make (acts_buildSlice (cs := [].flatten) Tryd.underlying22 Tryd.sizeOf41 zD rfl rfl (fill_aggs [] (by decide) rfl (fun _ h => by cases h))) rfl (fun b128 hb128 => ?_)
  refine ow_val (val_move rfl) rfl ?_
  refine ow_append' (k := P.length) (xs := P.flatMap fun d => d.map vU8) (acts_row (acts_append (size := 32) (bytes := 32) 0 rfl rfl rfl (RowE.full (n := 0) (size := 32) rfl (by decide)) rfl Tryd.underlying22 hDi hDz hDsz hDby rfl (by decide) (fun w hm => (hr85.rdAt hm (i := 2) rfl)) (flatMap_size' rfl hPd) (one_dgs _) (by omega) (by omega)) (Nat.zero_add _) (by simp only [List.flatMap_append, List.flatMap_cons, List.flatMap_nil, List.flatten_cons, List.flatten_nil, List.nil_append, List.append_nil])) rfl (fun a130 c130 e130 hr130' => ?_)
  refine ow_val (val_build' (cs := zeros32.map vU8) rfl (by kernel_rfl)) rfl ?_
  refine ow_make (acts_buildSlice (cs := [zeros32.map vU8].flatten) Tryd.underlying22 Tryd.sizeOf41 zD rfl rfl (fill_aggs [zeros32.map vU8] (by decide) rfl (by simp only [List.forall_mem_cons, List.length_map]; exact ⟨zeros32_len, fun _ h => by cases h⟩))) rfl (fun b132 hb132 => ?_)
  refine ow_append' (k := P.length + 1) (xs := (P ++ [zeros32]).flatMap fun d => d.map vU8) (acts_row (acts_append (size := 32) (bytes := 32) 1 rfl rfl rfl hr130' rfl Tryd.underlying22 hDi hDz hDsz hDby rfl (by decide) (fun w hm => (Rd.blk (hm.at (i := 0) rfl))) (by simp only [List.flatten_cons, List.flatten_nil, List.append_nil, List.length_append, List.length_map, zeros32_len]) (fun u hu => by simp only [List.flatten_cons, List.flatten_nil, List.append_nil, List.mem_append] at hu; rcases hu with hu <;> exact one_u8s _ u hu) (by omega) (by omega)) rfl (by simp only [List.flatMap_append, List.flatMap_cons, List.flatMap_nil, List.flatten_cons, List.flatten_nil, List.nil_append, List.append_nil])) rfl (fun a133 c133 e133 hr133' => ?_)
  have hx133 : (P ++ [zeros32]).length = P.length + 1 := by rw [List.length_append] <;> rfl
  refine ow_val (val_assign rfl) rfl ?_
  refine ow_nil (into ?_)
  refine sw_seq ?_
  refine sw_seq ?_
  refine sw_region_lex _ [] [(0, 0), (1, 0), (2, 0), (3, 0), (5, 0), (6, 0), (7, 0), (4, 1), (8, 1), (9, 2), (10, 0)] (by kernel_rfl) (by kernel_rfl) (fun _ _ _ h => h) (fun _ h => h) (fun _ h => h.drawn _) ?_
  refine lw_pure rfl (val_move rfl) rfl ?_
  refine lw_pure rfl (val_move rfl) rfl ?_
  refine lw_pure rfl (val_move rfl) rfl ?_
  refine lw_pure rfl (val_indexAddr_slice ia (oL + ia * 32) rfl rfl Tryd.underlying22 Tryd.sizeOf41 (by rw [ea]) (by omega) (by omega)) rfl ?_
  refine lw_pure rfl (val_move rfl) rfl ?_
  refine lw_pure rfl (val_move rfl) rfl ?_
  refine lw_pure rfl (val_move rfl) rfl ?_
  refine lw_held rfl ((val_load_elem (cells := fun d => d.map vU8) (l := L) (o := oL) (i := ia) rfl Tryd.isAgg41 Tryd.sizeOf41 (fun x hx => by rw [List.length_map]; exact hdL x hx) (by omega) (by omega) (fun w' hm => hr45.rdAt hm (i := 5) rfl)).to (v' := .agg (x.map vU8).toArray) (by rw [hx])) rfl ?_
  refine lw_held rfl (val_load_all 4 rfl rfl Tryd.isAgg41 Tryd.sizeOf41 (by show (List.map vU8 (lg k S)).length = _; rw [List.length_map]; exact (lg_len h2 _ rfl hSd))) rfl ?_
  refine lw_call_pure (v := vInt ((10 : Nat) : Int)) rfl (callsTo Tryd.func32 rfl (by kernel_rfl) rfl) rfl (fun w hm => (by have h := mincl_any (k : Int) x hxd (UInt64.ofNat ia) (UInt64.ofNat nw) (lg k S) (lg_len h2 _ rfl hSd) w (hK.mem0 hm) a133 (P.length + 1) c133 (P ++ [zeros32]) hx133 (both hPd (by simp only [List.forall_mem_cons]; exact ⟨zeros32_len, fun _ h => by cases h⟩)) (hr133'.rdAt hm (i := 1) rfl) hr133'.le (by omega) (by omega); rw [qI2] at h; exact h)) ?_
  refine lw_pure rfl ((val_neq_int rfl rfl).to (v' := .bool false) (congrArg Value.bool (decide_eq_false (fun h => h (by simp))))) rfl ?_
  refine lw_nil (into ?_)
  refine sw_false rfl rfl ?_
  refine sw_skip (into ?_)
  refine sw_join (σ := Unit) (fun _ => True) (fun _ => [(13, .slice (some ⟨bL, oL, none⟩) sz c45), (16, vPtr b54), (18, vU64 (UInt64.ofNat ia)), (19, vU64 (UInt64.ofNat nw)), (20, .pointer (some ⟨b20, 0, none⟩)), (22, .slice a85 P.length c85), (11, vInt (k : Int)), (4, vU16 a4)]) (fun _ => Mem w [] (e85 :: some (b20, blk ((lg k S).map vU8) 41) :: e45 :: (es48 ++ es54))) ?_ (fun _ _ => ?_)
  · -- part
    refine sw_seq ?_
    rcases Nat.eq_zero_or_pos P.length with hp0 | hp0
    · -- case
      refine sw_region_lex _ [] [(0, 0), (1, 0), (2, 0), (3, 0), (4, 0), (5, 0), (6, 0), (7, 0), (8, 0), (9, 0), (10, 0), (11, 0), (12, 0), (13, 0), (14, 0), (15, 0), (16, 0), (17, 0), (18, 0), (19, 0)] (by kernel_rfl) (by kernel_rfl) (fun _ _ _ h => h) (fun _ h => h) (fun _ h => h.drawn _) ?_
      refine lw_pure rfl (val_move rfl) rfl ?_
      refine lw_pure rfl (val_len rfl Tryd.underlying22) rfl ?_
      refine lw_pure rfl ((val_gtr_int rfl rfl).to (congrArg Value.bool (decide_eq_false ((by omega))))) rfl ?_
      refine lw_pure rfl (val_move rfl) rfl ?_
      first | refine lwg_no rfl (ng1 rfl rfl) rfl ?_ | refine lwg_no rfl (ng2 rfl rfl) rfl ?_
      first | refine lwg_no rfl (ng1 rfl rfl) rfl ?_ | refine lwg_no rfl (ng2 rfl rfl) rfl ?_
      first | refine lwg_no rfl (ng1 rfl rfl) rfl ?_ | refine lwg_no rfl (ng2 rfl rfl) rfl ?_
      first | refine lwg_no rfl (ng1 rfl rfl) rfl ?_ | refine lwg_no rfl (ng2 rfl rfl) rfl ?_
      first | refine lwg_no rfl (ng1 rfl rfl) rfl ?_ | refine lwg_no rfl (ng2 rfl rfl) rfl ?_
      first | refine lwg_no rfl (ng1 rfl rfl) rfl ?_ | refine lwg_no rfl (ng2 rfl rfl) rfl ?_
      first | refine lwg_no rfl (ng1 rfl rfl) rfl ?_ | refine lwg_no rfl (ng2 rfl rfl) rfl ?_
      first | refine lwg_no rfl (ng1 rfl rfl) rfl ?_ | refine lwg_no rfl (ng2 rfl rfl) rfl ?_
      first | refine lwg_no rfl (ng1 rfl rfl) rfl ?_ | refine lwg_no rfl (ng2 rfl rfl) rfl ?_
      first | refine lwg_no rfl (ng1 rfl rfl) rfl ?_ | refine lwg_no rfl (ng2 rfl rfl) rfl ?_
      first | refine lwg_no rfl (ng1 rfl rfl) rfl ?_ | refine lwg_no rfl (ng2 rfl rfl) rfl ?_
      first | refine lwg_no rfl (ng1 rfl rfl) rfl ?_ | refine lwg_no rfl (ng2 rfl rfl) rfl ?_
      first | refine lwg_no rfl (ng1 rfl rfl) rfl ?_ | refine lwg_no rfl (ng2 rfl rfl) rfl ?_
      first | refine lwg_no rfl (ng1 rfl rfl) rfl ?_ | refine lwg_no rfl (ng2 rfl rfl) rfl ?_
      first | refine lwg_no rfl (ng1 rfl rfl) rfl ?_ | refine lwg_no rfl (ng2 rfl rfl) rfl ?_
      refine lw_pure rfl (val_pick_false rfl rfl) rfl ?_
      refine lw_nil (into ?_)
      refine sw_false rfl rfl ?_
      exact sw_skip (fun w hm => ⟨(), trivial, ⟨rfl, rfl, rfl, rfl, rfl, rfl, rfl, rfl, trivial⟩, hm.only (.cons _ (.cons _ (.cons _ (.cons_cons _ (.cons_cons _ (.cons_cons _ (List.Sublist.refl _)))))))⟩)
    · -- case
      have qI3' := qI3 hp0
      refine sw_region_lex _ [] [(0, 0), (1, 0), (2, 0), (3, 0), (4, 0), (5, 0), (6, 0), (7, 0), (9, 0), (10, 0), (11, 0), (12, 0), (13, 0), (14, 0), (15, 0), (8, 1), (16, 1), (17, 2), (18, 0), (19, 0)] (by kernel_rfl) (by kernel_rfl) (fun _ _ _ h => h) (fun _ h => h) (fun _ h => h.drawn _) ?_
      refine lw_pure rfl (val_move rfl) rfl ?_
      refine lw_pure rfl (val_len rfl Tryd.underlying22) rfl ?_
      refine lw_pure rfl ((val_gtr_int rfl rfl).to (congrArg Value.bool (decide_eq_true ((by omega))))) rfl ?_
      refine lw_pure rfl (val_move rfl) rfl ?_
      refine lwg_pure rfl (wg rfl rfl) (val_move rfl) rfl ?_
      refine lwg_pure rfl (wg rfl rfl) (val_move rfl) rfl ?_
      refine lwg_pure rfl (wg rfl rfl) (val_move rfl) rfl ?_
      refine lwg_pure rfl (wg rfl rfl) (val_indexAddr_slice ia (oL + ia * 32) rfl rfl Tryd.underlying22 Tryd.sizeOf41 (by rw [ea]) (by omega) (by omega)) rfl ?_
      refine lwg_pure rfl (wg rfl rfl) (val_move rfl) rfl ?_
      refine lwg_pure rfl (wg rfl rfl) (val_move rfl) rfl ?_
      refine lwg_pure rfl (wg rfl rfl) (val_move rfl) rfl ?_
      refine lwg_pure rfl (wg rfl rfl) (val_move rfl) rfl ?_
      refine lwg_pure rfl (wg rfl rfl) (val_len rfl Tryd.underlying22) rfl ?_
      refine lwg_pure rfl (wg rfl rfl) (val_sub_int ((P.length - 1 : Nat) : Int) rfl rfl (by omega) (by omega)) rfl ?_
      refine lwg_pure rfl (wg rfl rfl) (val_slice_hi (P.length - 1) rfl rfl Tryd.underlying22 Tryd.sizeOf41 (by omega) (by have h9 := hr85.le; omega)) rfl ?_
      refine lwg_held rfl (wg rfl rfl) ((val_load_elem (cells := fun d => d.map vU8) (l := L) (o := oL) (i := ia) rfl Tryd.isAgg41 Tryd.sizeOf41 (fun x hx => by rw [List.length_map]; exact hdL x hx) (by omega) (by omega) (fun w' hm => hr45.rdAt hm (i := 5) rfl)).to (v' := .agg (x.map vU8).toArray) (by rw [hx])) rfl ?_
      refine lwg_held rfl (wg rfl rfl) (val_load_all 4 rfl rfl Tryd.isAgg41 Tryd.sizeOf41 (by show (List.map vU8 (lg k S)).length = _; rw [List.length_map]; exact (lg_len h2 _ rfl hSd))) rfl ?_
      refine lwg_call_pure (v := vInt ((10 : Nat) : Int)) rfl (wg rfl rfl) (callsTo Tryd.func32 rfl (by kernel_rfl) rfl) rfl (fun w hm => (by have h := mincl_any (k : Int) x hxd (UInt64.ofNat ia) (UInt64.ofNat nw) (lg k S) (lg_len h2 _ rfl hSd) w (hK.mem0 hm) a85 (P.length - 1) c85 P1 hP1n hP1d (hP1r (hr85.rdAt hm (i := 3) rfl)) (by have h9 := hr85.le; omega) (by omega) (by omega); rw [qI3'] at h; exact h)) ?_
      refine lwg_pure rfl (wg rfl rfl) ((val_neq_int rfl rfl).to (v' := .bool false) (congrArg Value.bool (decide_eq_false (fun h => h (by simp))))) rfl ?_
      refine lw_pure rfl (val_pick_true rfl rfl) rfl ?_
      refine lw_nil (into ?_)
      refine sw_false rfl rfl ?_
      exact sw_skip (fun w hm => ⟨(), trivial, ⟨rfl, rfl, rfl, rfl, rfl, rfl, rfl, rfl, trivial⟩, hm.only (.cons _ (.cons _ (.cons _ (.cons_cons _ (.cons_cons _ (.cons_cons _ (List.Sublist.refl _)))))))⟩)
  · -- rest
    refine sw_seq ?_
    refine sw_seq ?_
    refine sw_region_lex _ [] [(0, 0), (1, 0), (2, 0), (3, 0), (5, 0), (6, 0), (7, 0), (4, 1), (8, 1), (9, 2), (10, 0)] (by kernel_rfl) (by kernel_rfl) (fun _ _ _ h => h) (fun _ h => h) (fun _ h => h.drawn _) ?_
    refine lw_pure rfl (val_move rfl) rfl ?_
    refine lw_pure rfl (val_move rfl) rfl ?_
    refine lw_pure rfl (val_move rfl) rfl ?_
    refine lw_pure rfl (val_indexAddr_slice ia (oL + ia * 32) rfl rfl Tryd.underlying22 Tryd.sizeOf41 (by rw [ea]) (by omega) (by omega)) rfl ?_
    refine lw_pure rfl (val_move rfl) rfl ?_
    refine lw_pure rfl (val_move rfl) rfl ?_
    refine lw_pure rfl (val_move rfl) rfl ?_
    refine lw_held rfl ((val_load_elem (cells := fun d => d.map vU8) (l := L) (o := oL) (i := ia) rfl Tryd.isAgg41 Tryd.sizeOf41 (fun x hx => by rw [List.length_map]; exact hdL x hx) (by omega) (by omega) (fun w' hm => hr45.rdAt hm (i := 2) rfl)).to (v' := .agg (x.map vU8).toArray) (by rw [hx])) rfl ?_
    refine lw_held rfl (val_load_all 1 rfl rfl Tryd.isAgg41 Tryd.sizeOf41 (by show (List.map vU8 (lg k S)).length = _; rw [List.length_map]; exact (lg_len h2 _ rfl hSd))) rfl ?_
    refine lw_call_pure (v := vInt ((4 : Nat) : Int)) rfl (callsTo Tryd.func32 rfl (by kernel_rfl) rfl) rfl (fun w hm => (by have h := mincl_any (k : Int) x hxd (UInt64.ofNat nw) (UInt64.ofNat nw) (lg k S) (lg_len h2 _ rfl hSd) w (hK.mem0 hm) a85 P.length c85 P rfl hPd (hr85.rdAt hm (i := 0) rfl) hr85.le (by omega) (by omega); rw [qI4] at h; exact h)) ?_
    refine lw_pure rfl ((val_neq_int rfl rfl).to (v' := .bool false) (congrArg Value.bool (decide_eq_false (fun h => h (by simp))))) rfl ?_
    refine lw_nil (into ?_)
    refine sw_false rfl rfl ?_
    refine sw_skip (into ?_)
    refine sw_seq ?_
    refine sw_region ?_
    refine ow_val (val_move rfl) rfl ?_
    refine ow_val (val_conv_u16_i64 Tryd.underlying56 Tryd.underlying3 rfl) rfl ?_
    refine ow_val (val_move rfl) rfl ?_
    refine ow_val ((val_conv_u64_i64 Tryd.underlying23 Tryd.underlying3 rfl (by omega)).to (v' := vInt (nw : Int)) (by rw [en])) rfl ?_
    refine ow_val (val_add_int ((nw + 1 : Nat) : Int) rfl rfl (by omega) (by omega)) rfl ?_
    refine ow_val ((val_rem_nn ((a4.toNat % (nw + 1) : Nat) : Int) rfl rfl (by omega) (by omega) (by omega)).to (v' := vInt (om : Int)) (by rw [← hom])) rfl ?_
    refine ow_val (val_conv_n_u64 om Tryd.underlying3 Tryd.underlying23 rfl rfl) rfl ?_
    refine ow_val (val_assign rfl) rfl ?_
    refine ow_nil (into ?_)
    refine sw_seq ?_
    refine sw_region ?_
    refine ow_val (val_move rfl) rfl ?_
    refine ow_val (val_move rfl) rfl ?_
    refine ow_call_pure (v := .tuple #[.agg ((lg k SM).map vU8).toArray, vInt ((0 : Nat) : Int)]) (callsTo Tryd.func26 rfl (by kernel_rfl) rfl) rfl (fun w hm => (by have h := root_any k h1 h2 b54 L (by assumption) (by assumption) (UInt64.ofNat om) w (hK.mem0 hm) (htr54.is (hm.heldSub (.cons _ (.cons _ (.cons _ (List.Sublist.refl _)))))) (by omega); rw [rngU k homL, hSM] at h; exact h)) ?_
    refine ow_val (val_move rfl) rfl ?_
    refine ow_val (val_extract rfl rfl) rfl ?_
    refine ow_val (val_extract rfl rfl) rfl ?_
    refine ow_new (acts_alloc zD) rfl (fun b28 hb28 => ?_)
    refine ow_do_eq (does_store_all 0 rfl rfl rfl (one_u8s _) Tryd.sizeOf41 (by show (List.map vU8 (lg k SM)).length = _; rw [List.length_map]; exact (lg_len h2 _ rfl hMd)) (by show (List.map vU8 zeros32).length = _; rw [List.length_map]; exact zeros32_len)) ?_
    refine ow_val (val_assign rfl) rfl ?_
    refine ow_nil (into ?_)
    refine sw_seq ?_
    refine sw_region ?_
    refine ow_val (val_move rfl) rfl ?_
    refine ow_val (val_move rfl) rfl ?_
    refine ow_val (val_move rfl) rfl ?_
    refine ow_call_row2 (E := 41) (size := 32) (k := Q.length) (xs := List.flatMap (fun d : List UInt8 => List.map vU8 d) Q) (x := vInt ((0 : Nat) : Int)) (callsTo Tryd.func19 rfl (by kernel_rfl) rfl) rfl (fun w hm => cons_okU k h1 h2 b54 L (by assumption) (by assumption) (by omega) (UInt64.ofNat om) (UInt64.ofNat nw) w (hK.mem0 hm) (htr54.is (hm.heldSub (.cons _ (.cons _ (.cons _ (.cons _ (List.Sublist.refl _))))))) hJ1 _ hQ) (fun a193 c193 e193 hr193 => ?_)
    refine ow_val (val_move rfl) rfl ?_
    refine ow_val (val_extract rfl rfl) rfl ?_
    refine ow_val (val_extract rfl rfl) rfl ?_
    refine ow_val (val_assign rfl) rfl ?_
    refine ow_val (val_assign rfl) rfl ?_
    refine ow_nil (into ?_)
    refine sw_seq ?_
    refine sw_seq ?_
    refine sw_region ?_
    refine ow_val (val_move rfl) rfl ?_
    refine ow_val ((val_neq_int rfl rfl).to (v' := .bool false) (congrArg Value.bool (decide_eq_false (fun h => h (by simp))))) rfl ?_
    refine ow_val (val_move rfl) rfl ?_
    refine ow_guard_yes rfl rfl rfl ?_
    refine ow_val (val_move rfl) rfl ?_
    refine ow_guard_yes rfl rfl rfl ?_
    refine ow_val ((val_neq_int rfl rfl).to (v' := .bool false) (congrArg Value.bool (decide_eq_false (fun h => h (by simp))))) rfl ?_
    refine ow_val (val_pick_false rfl rfl) rfl ?_
    refine ow_val (val_move rfl) rfl ?_
    refine ow_guard_yes rfl rfl rfl ?_
    refine ow_val (val_move rfl) rfl ?_
    refine ow_guard_yes rfl rfl rfl ?_
    refine ow_val (val_move rfl) rfl ?_
    refine ow_guard_yes rfl rfl rfl ?_
    refine ow_val (val_move rfl) rfl ?_
    refine ow_guard_yes rfl rfl rfl ?_
    refine ow_val (val_load_all 1 rfl rfl Tryd.isAgg41 Tryd.sizeOf41 (by show (List.map vU8 (lg k SM)).length = _; rw [List.length_map]; exact (lg_len h2 _ rfl hMd))) rfl ?_
    refine ow_guard_yes rfl rfl rfl ?_
    refine ow_val (val_load_all 3 rfl rfl Tryd.isAgg41 Tryd.sizeOf41 (by show (List.map vU8 (lg k S)).length = _; rw [List.length_map]; exact (lg_len h2 _ rfl hSd))) rfl ?_
    refine ow_guard_yes rfl rfl rfl ?_
    refine ow_val (val_move rfl) rfl ?_
    refine ow_guard_yes rfl rfl rfl ?_
    refine ow_call_pure (v := vInt ((0 : Nat) : Int)) (callsTo Tryd.func33 rfl (by kernel_rfl) rfl) rfl (fun w hm => (by have h := mcons_any (k : Int) (lg k SM) (lg_len h2 _ rfl hMd) (UInt64.ofNat om) (UInt64.ofNat nw) (lg k S) (lg_len h2 _ rfl hSd) w (hK.mem0 hm) a193 Q.length c193 Q rfl hQd (hr193.rdAt hm (i := 0) rfl) hr193.le (by omega) (by omega); rw [qC] at h; exact h)) ?_
    refine ow_guard_yes rfl rfl rfl ?_
    refine ow_val ((val_neq_int rfl rfl).to (v' := .bool false) (congrArg Value.bool (decide_eq_false (fun h => h (by simp))))) rfl ?_
    refine ow_val (val_pick_false rfl rfl) rfl ?_
    refine ow_nil (into ?_)
    refine sw_false rfl rfl ?_
    refine sw_skip (into ?_)
    refine sw_seq ?_
    refine sw_seq ?_
    rcases (show om = 0 ∨ (om ≠ 0 ∧ om = nw) ∨ (om ≠ 0 ∧ om ≠ nw) by omega) with ho | ⟨ho, ho2⟩ | ⟨ho, ho2⟩
    · -- case
      have hql := hQz (.inl ho)
      refine sw_region ?_
      refine ow_val (val_move rfl) rfl ?_
      refine ow_val ((val_eql_u64 rfl rfl).to (congrArg Value.bool (decide_eq_true ((UInt64.toNat.inj (by rw [eo, ho]; rfl)))))) rfl ?_
      refine ow_val (val_move rfl) rfl ?_
      first | refine ow_guard_no rfl rfl rfl rfl rfl ?_ | refine ow_guard_none rfl rfl rfl rfl rfl ?_
      first | refine ow_guard_no rfl rfl rfl rfl rfl ?_ | refine ow_guard_none rfl rfl rfl rfl rfl ?_
      first | refine ow_guard_no rfl rfl rfl rfl rfl ?_ | refine ow_guard_none rfl rfl rfl rfl rfl ?_
      refine ow_val (val_pick_true rfl rfl) rfl ?_
      refine ow_nil (into ?_)
      refine sw_true rfl rfl ?_
      refine sw_seq ?_
      refine sw_region ?_
      refine ow_val (val_move rfl) rfl ?_
      refine ow_val (val_len rfl Tryd.underlying22) rfl ?_
      refine ow_val ((val_eql_int rfl rfl).to (congrArg Value.bool (decide_eq_true ((by omega))))) rfl ?_
      refine ow_val (val_assign rfl) rfl ?_
      refine ow_nil (into ?_)
      refine sw_ret (fun w hm => ?_)
      try dsimp only [thenP, blockP, Nat.beq, cond]
      exact ret_one _ rfl rfl ⟨rfl, hm.forgetAll⟩
    · -- case
      have hql := hQz (.inr ho2)
      refine sw_region ?_
      refine ow_val (val_move rfl) rfl ?_
      refine ow_val ((val_eql_u64 rfl rfl).to (congrArg Value.bool (decide_eq_false ((fun h => ho (by rw [← eo, h]; rfl)))))) rfl ?_
      refine ow_val (val_move rfl) rfl ?_
      refine ow_guard_yes rfl rfl rfl ?_
      refine ow_val (val_move rfl) rfl ?_
      refine ow_guard_yes rfl rfl rfl ?_
      refine ow_val (val_move rfl) rfl ?_
      refine ow_guard_yes rfl rfl rfl ?_
      refine ow_val ((val_eql_u64 rfl rfl).to (congrArg Value.bool (decide_eq_true ((by rw [ho2]))))) rfl ?_
      refine ow_val (val_pick_false rfl rfl) rfl ?_
      refine ow_nil (into ?_)
      refine sw_true rfl rfl ?_
      refine sw_seq ?_
      refine sw_region ?_
      refine ow_val (val_move rfl) rfl ?_
      refine ow_val (val_len rfl Tryd.underlying22) rfl ?_
      refine ow_val ((val_eql_int rfl rfl).to (congrArg Value.bool (decide_eq_true ((by omega))))) rfl ?_
      refine ow_val (val_assign rfl) rfl ?_
      refine ow_nil (into ?_)
      refine sw_ret (fun w hm => ?_)
      try dsimp only [thenP, blockP, Nat.beq, cond]
      exact ret_one _ rfl rfl ⟨rfl, hm.forgetAll⟩
    · -- case
      have qT' := qT ho ho2
      have qC2' := qC2 ho ho2
      refine sw_region ?_
      refine ow_val (val_move rfl) rfl ?_
      refine ow_val ((val_eql_u64 rfl rfl).to (congrArg Value.bool (decide_eq_false ((fun h => ho (by rw [← eo, h]; rfl)))))) rfl ?_
      refine ow_val (val_move rfl) rfl ?_
      refine ow_guard_yes rfl rfl rfl ?_
      refine ow_val (val_move rfl) rfl ?_
      refine ow_guard_yes rfl rfl rfl ?_
      refine ow_val (val_move rfl) rfl ?_
      refine ow_guard_yes rfl rfl rfl ?_
      refine ow_val ((val_eql_u64 rfl rfl).to (congrArg Value.bool (decide_eq_false ((fun h => ho2 (by rw [← eo, h, en])))))) rfl ?_
      refine ow_val (val_pick_false rfl rfl) rfl ?_
      refine ow_nil (into ?_)
      refine sw_false rfl rfl ?_
      refine sw_skip (into ?_)
      refine sw_seq ?_
      refine sw_region ?_
      refine ow_val (val_move rfl) rfl ?_
      refine ow_val (val_move rfl) rfl ?_
      refine ow_val (val_move rfl) rfl ?_
      refine ow_val (val_load_all 1 rfl rfl Tryd.isAgg41 Tryd.sizeOf41 (by show (List.map vU8 (lg k SM)).length = _; rw [List.length_map]; exact (lg_len h2 _ rfl hMd))) rfl ?_
      refine ow_val (val_move rfl) rfl ?_
      refine ow_call_pure (v := .tuple #[.agg ((lg k SM).map vU8).toArray, .agg ((lg k S).map vU8).toArray, vInt ((0 : Nat) : Int)]) (callsTo Tryd.func40 rfl (by kernel_rfl) rfl) rfl (fun w hm => (by have h := mroots_any (k : Int) (lg k SM) (lg_len h2 _ rfl hMd) (UInt64.ofNat om) (UInt64.ofNat nw) w (hK.mem0 hm) a193 Q.length c193 Q rfl hQd (hr193.rdAt hm (i := 0) rfl) hr193.le (by omega) (by omega); rw [qT'] at h; exact h)) ?_
      refine ow_val (val_move rfl) rfl ?_
      refine ow_val (val_extract rfl rfl) rfl ?_
      refine ow_val (val_extract rfl rfl) rfl ?_
      refine ow_val (val_extract rfl rfl) rfl ?_
      refine ow_new (acts_alloc zD) rfl (fun b32 hb32 => ?_)
      refine ow_new (acts_alloc zD) rfl (fun b33 hb33 => ?_)
      refine ow_do_eq (does_store_all 1 rfl rfl rfl (one_u8s _) Tryd.sizeOf41 (by show (List.map vU8 (lg k SM)).length = _; rw [List.length_map]; exact (lg_len h2 _ rfl hMd)) (by show (List.map vU8 zeros32).length = _; rw [List.length_map]; exact zeros32_len)) ?_
      refine ow_do_eq (does_store_all 0 rfl rfl rfl (one_u8s _) Tryd.sizeOf41 (by show (List.map vU8 (lg k S)).length = _; rw [List.length_map]; exact (lg_len h2 _ rfl hSd)) (by show (List.map vU8 zeros32).length = _; rw [List.length_map]; exact zeros32_len)) ?_
      refine ow_val (val_assign rfl) rfl ?_
      refine ow_nil (into ?_)
      refine sw_seq ?_
      refine sw_region ?_
      refine ow_make (acts_buildSlice (cs := [].flatten) Tryd.underlying22 Tryd.sizeOf41 zD rfl rfl (fill_aggs [] (by decide) rfl (fun _ h => by cases h))) rfl (fun b232 hb232 => ?_)
      refine ow_val (val_move rfl) rfl ?_
      refine ow_append' (k := Q.length) (xs := Q.flatMap fun d => d.map vU8) (acts_row (acts_append (size := 32) (bytes := 32) 0 rfl rfl rfl (RowE.full (n := 0) (size := 32) rfl (by decide)) rfl Tryd.underlying22 hDi hDz hDsz hDby rfl (by decide) (fun w hm => (hr193.rdAt hm (i := 3) rfl)) (flatMap_size' rfl hQd) (one_dgs _) (by omega) (by omega)) (Nat.zero_add _) (by simp only [List.flatMap_append, List.flatMap_cons, List.flatMap_nil, List.flatten_cons, List.flatten_nil, List.nil_append, List.append_nil])) rfl (fun a234 c234 e234 hr234' => ?_)
      refine ow_val (val_build' (cs := zeros32.map vU8) rfl (by kernel_rfl)) rfl ?_
      refine ow_make (acts_buildSlice (cs := [zeros32.map vU8].flatten) Tryd.underlying22 Tryd.sizeOf41 zD rfl rfl (fill_aggs [zeros32.map vU8] (by decide) rfl (by simp only [List.forall_mem_cons, List.length_map]; exact ⟨zeros32_len, fun _ h => by cases h⟩))) rfl (fun b236 hb236 => ?_)
      refine ow_append' (k := Q.length + 1) (xs := (Q ++ [zeros32]).flatMap fun d => d.map vU8) (acts_row (acts_append (size := 32) (bytes := 32) 1 rfl rfl rfl hr234' rfl Tryd.underlying22 hDi hDz hDsz hDby rfl (by decide) (fun w hm => (Rd.blk (hm.at (i := 0) rfl))) (by simp only [List.flatten_cons, List.flatten_nil, List.append_nil, List.length_append, List.length_map, zeros32_len]) (fun u hu => by simp only [List.flatten_cons, List.flatten_nil, List.append_nil, List.mem_append] at hu; rcases hu with hu <;> exact one_u8s _ u hu) (by omega) (by omega)) rfl (by simp only [List.flatMap_append, List.flatMap_cons, List.flatMap_nil, List.flatten_cons, List.flatten_nil, List.nil_append, List.append_nil])) rfl (fun a237 c237 e237 hr237' => ?_)
      have hx237 : (Q ++ [zeros32]).length = Q.length + 1 := by rw [List.length_append] <;> rfl
      refine ow_val (val_assign rfl) rfl ?_
      refine ow_nil (into ?_)
      refine sw_seq ?_
      refine sw_region ?_
      refine ow_val (val_move rfl) rfl ?_
      refine ow_val ((val_eql_int rfl rfl).to (v' := .bool true) (congrArg Value.bool (decide_eq_true (by simp)))) rfl ?_
      refine ow_val (val_move rfl) rfl ?_
      refine ow_guard_yes rfl rfl rfl ?_
      refine ow_val (val_load_all 3 rfl rfl Tryd.isAgg41 Tryd.sizeOf41 (by show (List.map vU8 (lg k SM)).length = _; rw [List.length_map]; exact (lg_len h2 _ rfl hMd))) rfl ?_
      refine ow_guard_yes rfl rfl rfl ?_
      refine ow_val (val_load_all 5 rfl rfl Tryd.isAgg41 Tryd.sizeOf41 (by show (List.map vU8 (lg k SM)).length = _; rw [List.length_map]; exact (lg_len h2 _ rfl hMd))) rfl ?_
      refine ow_guard_yes rfl rfl rfl ?_
      refine ow_val ((val_eql_u8s rfl rfl Tryd.eqGuardType41 Tryd.underlying41 Tryd.underlying5 Tryd.sizeOf5 Tryd.isAgg5 (lg_len h2 _ rfl hMd) (lg_len h2 _ rfl hMd)).to (congrArg Value.bool (show _ = true by simp [txt]))) rfl ?_
      refine ow_val (val_pick_true rfl rfl) rfl ?_
      refine ow_val (val_move rfl) rfl ?_
      refine ow_guard_yes rfl rfl rfl ?_
      refine ow_val (val_load_all 2 rfl rfl Tryd.isAgg41 Tryd.sizeOf41 (by show (List.map vU8 (lg k S)).length = _; rw [List.length_map]; exact (lg_len h2 _ rfl hSd))) rfl ?_
      refine ow_guard_yes rfl rfl rfl ?_
      refine ow_val (val_load_all 7 rfl rfl Tryd.isAgg41 Tryd.sizeOf41 (by show (List.map vU8 (lg k S)).length = _; rw [List.length_map]; exact (lg_len h2 _ rfl hSd))) rfl ?_
      refine ow_guard_yes rfl rfl rfl ?_
      refine ow_val ((val_eql_u8s rfl rfl Tryd.eqGuardType41 Tryd.underlying41 Tryd.underlying5 Tryd.sizeOf5 Tryd.isAgg5 (lg_len h2 _ rfl hSd) (lg_len h2 _ rfl hSd)).to (congrArg Value.bool (show _ = true by simp [txt]))) rfl ?_
      refine ow_val (val_pick_true rfl rfl) rfl ?_
      refine ow_val (val_move rfl) rfl ?_
      refine ow_guard_yes rfl rfl rfl ?_
      refine ow_val (val_move rfl) rfl ?_
      refine ow_guard_yes rfl rfl rfl ?_
      refine ow_val (val_move rfl) rfl ?_
      refine ow_guard_yes rfl rfl rfl ?_
      refine ow_val (val_move rfl) rfl ?_
      refine ow_guard_yes rfl rfl rfl ?_
      refine ow_val (val_load_all 5 rfl rfl Tryd.isAgg41 Tryd.sizeOf41 (by show (List.map vU8 (lg k SM)).length = _; rw [List.length_map]; exact (lg_len h2 _ rfl hMd))) rfl ?_
      refine ow_guard_yes rfl rfl rfl ?_
      refine ow_val (val_load_all 7 rfl rfl Tryd.isAgg41 Tryd.sizeOf41 (by show (List.map vU8 (lg k S)).length = _; rw [List.length_map]; exact (lg_len h2 _ rfl hSd))) rfl ?_
      refine ow_guard_yes rfl rfl rfl ?_
      refine ow_val (val_move rfl) rfl ?_
      refine ow_guard_yes rfl rfl rfl ?_
      refine ow_call_pure (v := vInt ((10 : Nat) : Int)) (callsTo Tryd.func33 rfl (by kernel_rfl) rfl) rfl (fun w hm => (by have h := mcons_any (k : Int) (lg k SM) (lg_len h2 _ rfl hMd) (UInt64.ofNat om) (UInt64.ofNat nw) (lg k S) (lg_len h2 _ rfl hSd) w (hK.mem0 hm) a237 (Q.length + 1) c237 (Q ++ [zeros32]) hx237 (both hQd (by simp only [List.forall_mem_cons]; exact ⟨zeros32_len, fun _ h => by cases h⟩)) (hr237'.rdAt hm (i := 1) rfl) hr237'.le (by omega) (by omega); rw [qC2'] at h; exact h)) ?_
      refine ow_guard_yes rfl rfl rfl ?_
      refine ow_val ((val_eql_int rfl rfl).to (v' := .bool true) (congrArg Value.bool (decide_eq_true (by simp)))) rfl ?_
      refine ow_val (val_pick_true rfl rfl) rfl ?_
      refine ow_val (val_assign rfl) rfl ?_
      refine ow_nil (into ?_)
      refine sw_ret (fun w hm => ?_)
      try dsimp only [thenP, blockP, Nat.beq, cond]
      exact ret_one _ rfl rfl ⟨rfl, hm.forgetAll⟩

theorem wholeIncluded_any (w8 : UInt8) (w : World) (hK : KW w) (a : Option Addr) (c : Nat) (q : List (List UInt8)) (hdq : ∀ d ∈ q, d.length = 32) (hr : Rd w a (q.flatMap fun d => d.map vU8)) (hc : q.length ≤ c) (hl : q.length < 9223372036854775808) (a2 a3 a4 : UInt16) : Calls Tryd.prog 13 #[vU8 w8, .slice a q.length c, vU16 a2, vU16 a3, vU16 a4] w fun e w' => ∃ v, e = .returned v ∧ v = .bool true ∧ Mem w [] [] w' :=
  wincl_0 w8 a2 a3 a4 _ (by omega) (by have h9 := Nat.mod_lt w8.toNat (show 0 < 32 by omega); omega) rfl _ _ _ _ _ rfl rfl rfl rfl rfl w hK a c q hdq hr hc hl _ rfl
end Go.Proofs.YtcdponddgnkecaaDoor
