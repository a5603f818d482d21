import Derived.Test.YtcdponddgnkecaaDoorMp5
import Derived.Test.YtcdponddgnkecaaDoorProg
set_option linter.unusedVariables false
set_option linter.unusedSimpArgs false
namespace Go.Proofs.YtcdponddgnkecaaDoor
open Go.Sx Go.Ps
theorem s3N : splitN 3 = 2 := by decide +kernel
theorem s2N : splitN 2 = 1 := by decide +kernel
theorem inc3 (k : Nat) (x y z : List UInt8) : incL k [x, y, z] 2 = [nd k x y] := by
  rw [incL_right (l := [x, y, z]) (by simp) (s := 2) s3N (by omega), show ([x, y, z] : List (List UInt8)).drop 2 = [z] from rfl, show ([x, y, z] : List (List UInt8)).take 2 = [x] ++ [y] from rfl, incL_one (by simp), lg_join (p := 0) k rfl rfl, lg_one, lg_one]; rfl
theorem con3 (k : Nat) (x y z : List UInt8) : conL k [x, y, z] 1 true = [y, z] := by
  rw [conL_left (l := [x, y, z]) (by simp) (by simp) (s := 2) s3N (by omega), show ([x, y, z] : List (List UInt8)).take 2 = [x, y] from rfl, show ([x, y, z] : List (List UInt8)).drop 2 = [z] from rfl, lg_one,
    conL_left (l := [x, y]) (by simp) (by simp) (s := 1) s2N (by omega), show ([x, y] : List (List UInt8)).take 1 = [x] from rfl, show ([x, y] : List (List UInt8)).drop 1 = [y] from rfl, lg_one, conL_end (m := 1) (l := [x]) rfl]; rfl
theorem cnt3 : cntO 2 1 3 = ((1, 2), 0) := by
  have s3 : splitU 3 = 2 := by decide +kernel
  have s2 : splitU 2 = 1 := by decide +kernel
  rw [cntO, if_neg (by decide), splitsL_right (by decide) (by rw [s3]; decide), s3, splitsL_end (by decide), cntZ, if_neg (by decide), cntL_left (by decide) (by decide) (by rw [s3]; decide), s3, cntL_left (by decide) (by decide) (by rw [s2]; decide), s2, cntL_end]; rfl
def mpA : List UInt8 := ([1] : List UInt8) ++ List.replicate 31 0
def mpB : List UInt8 := ([2] : List UInt8) ++ List.replicate 31 0
def mpC : List UInt8 := ([3] : List UInt8) ++ List.replicate 31 0
theorem mpA_len : mpA.length = 32 := rfl
theorem mpB_len : mpB.length = 32 := rfl
theorem mpC_len : mpC.length = 32 := rfl

theorem awake_any (w : World) (hK : KW w) : Calls Tryd.prog 14 #[] w fun e w' => ∃ v, e = .returned v ∧ v = .bool true ∧ Mem w [] [] w' := by
  have h1 : 1 ≤ 4 := by omega
  have h2 : 4 ≤ 32 := by omega
  obtain ⟨x, hx⟩ : ∃ z, cutw 4 mpA = z := ⟨_, rfl⟩
  obtain ⟨y, hy⟩ : ∃ z, cutw 4 mpB = z := ⟨_, rfl⟩
  obtain ⟨z, hz⟩ : ∃ z, cutw 4 mpC = z := ⟨_, rfl⟩
  obtain ⟨LL, hLL⟩ : ∃ L, [x, y, z] = L := ⟨_, rfl⟩
  have hL : cutL 4 [mpA, mpB, mpC] = LL := by rw [← hLL, ← hx, ← hy, ← hz]; rfl
  have hm3 : ∀ d ∈ [mpA, mpB, mpC], d.length = 32 := by decide
  have hLd : ∀ d ∈ LL, d.length = 32 := by rw [← hL]; exact (cutL_ok h1 h2 hm3).1
  have hLf : ∀ d ∈ LL, fm ((4 : Nat) : Int) d = true := by rw [← hL]; exact (cutL_ok h1 h2 hm3).2
  have hLn : LL.length = 3 := by rw [← hLL]; rfl
  obtain ⟨IP, hIP⟩ : ∃ P, [nd 4 x y] = P := ⟨_, rfl⟩
  obtain ⟨JQ, hJQ⟩ : ∃ P, [y, z] = P := ⟨_, rfl⟩
  have hPd : ∀ d ∈ IP, d.length = 32 := fun d hd => by rw [← hIP] at hd; rw [List.mem_singleton.1 hd]; exact nd_len _ _ _ h2
  have hPf : ∀ d ∈ IP, fm ((4 : Nat) : Int) d = true := fun d hd => by rw [← hIP] at hd; rw [List.mem_singleton.1 hd]; exact fm_nd h1 h2 _ _
  have hQd : ∀ d ∈ JQ, d.length = 32 := fun d hd => by rw [← hJQ] at hd; exact hLd d (by rw [← hLL]; exact List.mem_cons_of_mem _ hd)
  have hQf : ∀ d ∈ JQ, fm ((4 : Nat) : Int) d = true := fun d hd => by rw [← hJQ] at hd; exact hLf d (by rw [← hLL]; exact List.mem_cons_of_mem _ hd)
  have hPn : IP.length = 1 := by rw [← hIP]; rfl
  have hQn : JQ.length = 2 := by rw [← hJQ]; rfl
  have hI1 : (2 : UInt64).toNat < (3 : UInt64).toNat ∧ (3 : UInt64).toNat ≤ LL.length := ⟨by decide, by rw [hLn]; decide⟩
  have hJ1 : (1 : UInt64).toNat ≤ (3 : UInt64).toNat ∧ (3 : UInt64).toNat ≤ LL.length := ⟨by decide, by rw [hLn]; decide⟩
  have hs3 : seg [x, y, z] 0 3 = [x, y, z] := rfl
  have hI : incL 4 (seg LL 0 (3 : UInt64).toNat) (2 : UInt64).toNat = IP := by
    rw [← hLL, ← hIP, show (3 : UInt64).toNat = 3 from rfl, show (2 : UInt64).toNat = 2 from rfl, hs3]; exact inc3 4 x y z
  have hJ : conO 4 LL (1 : UInt64).toNat (3 : UInt64).toNat = JQ := by
    rw [← hLL, ← hJQ, show (3 : UInt64).toNat = 3 from rfl, show (1 : UInt64).toNat = 1 from rfl, conO, if_neg (by decide), hs3]; exact con3 4 x y z
  refine calls_of_sw (vs := []) Tryd.func14 rfl Tryd.ntmps14 rfl (SW.begin ?_)
  refine sw_seq ?_
  refine sw_region ?_
  refine ow_val (val_assign rfl) rfl ?_
  refine ow_nil (into ?_)
  refine sw_seq ?_
  refine sw_region ?_
  refine ow_val (val_build' (cs := mpA.map vU8) rfl (by kernel_rfl)) rfl ?_
  refine ow_val (val_build' (cs := mpB.map vU8) rfl (by kernel_rfl)) rfl ?_
  refine ow_val (val_build' (cs := mpC.map vU8) rfl (by kernel_rfl)) rfl ?_
  refine ow_make (acts_buildSlice (cs := [mpA.map vU8, mpB.map vU8, mpC.map vU8].flatten) Tryd.underlying22 Tryd.sizeOf41 zD rfl rfl (fill_aggs [mpA.map vU8, mpB.map vU8, mpC.map vU8] (by decide) rfl (by simp only [List.forall_mem_cons, List.length_map]; exact ⟨mpA_len, mpB_len, mpC_len, fun _ h => by cases h⟩))) rfl (fun b15 hb15 => ?_)
  refine ow_call_tail (σ := Nat × Option Addr × Nat × List Ent) (fun q9 => .tuple #[vPtr q9.1, .slice q9.2.1 LL.length q9.2.2.1, .bool true]) (fun q9 => q9.2.2.2) (fun q9 => TrOn 110 79 4 q9.2.2.2 q9.1 LL ∧ RdOn q9.2.2.2 q9.2.1 (List.flatMap (fun d : List UInt8 => List.map vU8 d) LL) ∧ LL.length ≤ q9.2.2.1 ∧ (0 < LL.length → ∃ b o, q9.2.1 = some ⟨b, o, none⟩)) (callsTo Tryd.func15 rfl (by kernel_rfl) rfl) rfl (fun w hm => tree_is 4 h1 h2 w (hK.mem0 hm) (some ⟨b15, 0, none⟩) 3 3 [mpA, mpB, mpC] rfl (by simp only [List.forall_mem_cons]; exact ⟨mpA_len, mpB_len, mpC_len, fun _ h => by cases h⟩) (Rd.blk (hm.at (i := 0) rfl)) (Nat.le_refl _) (by decide) (by omega) hL) ?_
  rintro ⟨b16, a16, c16, es16⟩ ⟨htr16, hrd16, hle16, hla16⟩
  simp only at htr16 hrd16 hle16 hla16 ⊢
  refine ow_val (val_move rfl) rfl ?_
  refine ow_val (val_extract rfl rfl) rfl ?_
  refine ow_val (val_extract rfl rfl) rfl ?_
  refine ow_val (val_extract rfl rfl) rfl ?_
  refine ow_val (val_assign rfl) rfl ?_
  refine ow_val (val_assign rfl) rfl ?_
  refine ow_val (val_assign rfl) rfl ?_
  refine ow_nil (into ?_)
  refine sw_seq ?_
  refine sw_seq ?_
  refine sw_region ?_
  refine ow_val (val_move rfl) rfl ?_
  refine ow_val (val_eql_nilptr Tryd.underlying25 rfl rfl) rfl ?_
  refine ow_nil (into ?_)
  refine sw_false rfl rfl ?_
  refine sw_skip (into ?_)
  refine sw_seq ?_
  refine sw_region ?_
  refine ow_val (val_move rfl) rfl ?_
  refine ow_call_row2 (E := 41) (size := 32) (k := IP.length) (xs := List.flatMap (fun d : List UInt8 => List.map vU8 d) IP) (x := vInt ((0 : Nat) : Int)) (callsTo Tryd.func16 rfl (by kernel_rfl) rfl) rfl (fun w hm => incl_okU 4 h1 h2 b16 LL (by assumption) (by assumption) (by omega) 2 3 w (hK.mem0 hm) (htr16.is (hm.heldSub (.cons _ (List.Sublist.refl _)))) hI1 _ hI) (fun a24 c24 e24 hr24 => ?_)
  refine ow_val (val_move rfl) rfl ?_
  refine ow_val (val_extract rfl rfl) rfl ?_
  refine ow_val (val_extract rfl rfl) rfl ?_
  refine ow_val (val_assign rfl) rfl ?_
  refine ow_val (val_assign rfl) rfl ?_
  refine ow_nil (into ?_)
  refine sw_seq ?_
  refine sw_region ?_
  refine ow_val (val_move rfl) rfl ?_
  refine ow_call_row2 (E := 41) (size := 32) (k := JQ.length) (xs := List.flatMap (fun d : List UInt8 => List.map vU8 d) JQ) (x := vInt ((0 : Nat) : Int)) (callsTo Tryd.func19 rfl (by kernel_rfl) rfl) rfl (fun w hm => cons_okU 4 h1 h2 b16 LL (by assumption) (by assumption) (by omega) 1 3 w (hK.mem0 hm) (htr16.is (hm.heldSub (.cons _ (.cons _ (List.Sublist.refl _))))) hJ1 _ hJ) (fun a29 c29 e29 hr29 => ?_)
  refine ow_val (val_move rfl) rfl ?_
  refine ow_val (val_extract rfl rfl) rfl ?_
  refine ow_val (val_extract rfl rfl) rfl ?_
  refine ow_val (val_assign rfl) rfl ?_
  refine ow_val (val_assign rfl) rfl ?_
  refine ow_nil (into ?_)
  refine sw_seq ?_
  refine sw_region ?_
  refine ow_call_pure (v := .tuple #[vInt ((1 : Nat) : Int), vInt ((2 : Nat) : Int), vInt ((0 : Nat) : Int)]) (callsTo Tryd.func21 rfl (by kernel_rfl) rfl) rfl (fun w hm => (by have h := counts_any 2 1 3 w; rw [cnt3] at h; exact h)) ?_
  refine ow_val (val_move rfl) rfl ?_
  refine ow_val (val_extract rfl rfl) rfl ?_
  refine ow_val (val_extract rfl rfl) rfl ?_
  refine ow_val (val_extract rfl rfl) rfl ?_
  refine ow_val (val_assign rfl) rfl ?_
  refine ow_val (val_assign rfl) rfl ?_
  refine ow_val (val_assign rfl) rfl ?_
  refine ow_nil (into ?_)
  refine sw_seq ?_
  refine sw_seq ?_
  refine sw_region ?_
  refine ow_val (val_move rfl) rfl ?_
  refine ow_val ((val_neq_int rfl rfl).to (v' := .bool false) (congrArg Value.bool (decide_eq_false (fun h => h (by simp))))) rfl ?_
  refine ow_val (val_move rfl) rfl ?_
  refine ow_guard_yes rfl rfl rfl ?_
  refine ow_val (val_move rfl) rfl ?_
  refine ow_guard_yes rfl rfl rfl ?_
  refine ow_val ((val_neq_int rfl rfl).to (v' := .bool false) (congrArg Value.bool (decide_eq_false (fun h => h (by simp))))) rfl ?_
  refine ow_val (val_pick_false rfl rfl) rfl ?_
  refine ow_val (val_move rfl) rfl ?_
  refine ow_guard_yes rfl rfl rfl ?_
  refine ow_val (val_move rfl) rfl ?_
  refine ow_guard_yes rfl rfl rfl ?_
  refine ow_val ((val_neq_int rfl rfl).to (v' := .bool false) (congrArg Value.bool (decide_eq_false (fun h => h (by simp))))) rfl ?_
  refine ow_val (val_pick_false rfl rfl) rfl ?_
  refine ow_val (val_move rfl) rfl ?_
  refine ow_guard_yes rfl rfl rfl ?_
  refine ow_val (val_move rfl) rfl ?_
  refine ow_guard_yes rfl rfl rfl ?_
  refine ow_val ((val_neq_int rfl rfl).to (v' := .bool false) (congrArg Value.bool (decide_eq_false (fun h => h rfl)))) rfl ?_
  refine ow_val (val_pick_false rfl rfl) rfl ?_
  refine ow_val (val_move rfl) rfl ?_
  refine ow_guard_yes rfl rfl rfl ?_
  refine ow_val (val_move rfl) rfl ?_
  refine ow_guard_yes rfl rfl rfl ?_
  refine ow_val ((val_neq_int rfl rfl).to (v' := .bool false) (congrArg Value.bool (decide_eq_false (fun h => h rfl)))) rfl ?_
  refine ow_val (val_pick_false rfl rfl) rfl ?_
  refine ow_val (val_move rfl) rfl ?_
  refine ow_guard_yes rfl rfl rfl ?_
  refine ow_val (val_move rfl) rfl ?_
  refine ow_guard_yes rfl rfl rfl ?_
  refine ow_val (val_len rfl Tryd.underlying22) rfl ?_
  refine ow_guard_yes rfl rfl rfl ?_
  refine ow_val ((val_neq_int rfl rfl).to (congrArg Value.bool (decide_eq_false ((fun h => h (by rw [hPn]; rfl)))))) rfl ?_
  refine ow_val (val_pick_false rfl rfl) rfl ?_
  refine ow_val (val_move rfl) rfl ?_
  refine ow_guard_yes rfl rfl rfl ?_
  refine ow_val (val_move rfl) rfl ?_
  refine ow_guard_yes rfl rfl rfl ?_
  refine ow_val (val_len rfl Tryd.underlying22) rfl ?_
  refine ow_guard_yes rfl rfl rfl ?_
  refine ow_val ((val_neq_int rfl rfl).to (congrArg Value.bool (decide_eq_false ((fun h => h (by rw [hQn]; rfl)))))) rfl ?_
  refine ow_val (val_pick_false rfl rfl) rfl ?_
  refine ow_nil (into ?_)
  refine sw_false rfl rfl ?_
  refine sw_skip (into ?_)
  refine sw_seq ?_
  refine sw_region_lex _ [] [(0, 0), (1, 0), (3, 0), (4, 0), (6, 0), (7, 0), (2, 1), (5, 1), (8, 1), (9, 2), (10, 0), (11, 0), (12, 0), (13, 0), (15, 0), (16, 0), (14, 1), (17, 1), (18, 0), (19, 0), (20, 0), (21, 0), (22, 0), (24, 0), (25, 0), (23, 1), (26, 1), (27, 0), (28, 0), (29, 0)] (by kernel_rfl) (by kernel_rfl) (fun _ _ _ h => h) (fun _ h => h) (fun _ h => h.drawn _) ?_
  obtain ⟨bP, oP, rfl⟩ := rowAddr32 hr24 (by omega)
  obtain ⟨bL, oL, rfl⟩ := hla16 (by omega)
  obtain ⟨bQ, oQ, rfl⟩ := rowAddr32 hr29 (by omega)
  refine lw_pure rfl (val_move rfl) rfl ?_
  refine lw_pure rfl (val_indexAddr_slice (0) (oP) rfl rfl Tryd.underlying22 Tryd.sizeOf41 (by omega) (by omega) (by omega)) rfl ?_
  refine lw_pure rfl (val_move rfl) rfl ?_
  refine lw_pure rfl (val_indexAddr_slice (0) (oL) rfl rfl Tryd.underlying22 Tryd.sizeOf41 (by omega) (by omega) (by omega)) rfl ?_
  refine lw_pure rfl (val_move rfl) rfl ?_
  refine lw_pure rfl (val_indexAddr_slice (1) (oL + 32) rfl rfl Tryd.underlying22 Tryd.sizeOf41 (by omega) (by omega) (by omega)) rfl ?_
  refine lw_held rfl (val_load_elem (cells := fun d => d.map vU8) (l := IP) (o := oP) (i := 0) rfl Tryd.isAgg41 Tryd.sizeOf41 (fun x hx => by rw [List.length_map]; exact hPd x hx) (by omega) (by omega) (fun w' hm => hr24.rdAt hm (i := 1) rfl)) rfl ?_
  refine lw_held rfl (val_load_elem (cells := fun d => d.map vU8) (l := LL) (o := oL) (i := 0) rfl Tryd.isAgg41 Tryd.sizeOf41 (fun x hx => by rw [List.length_map]; exact hLd x hx) (by omega) (by omega) (fun w' hm => hrd16 _ (hm.heldSub (.cons _ (.cons _ (.cons _ (List.Sublist.refl _))))))) rfl ?_
  refine lw_held rfl (val_load_elem (cells := fun d => d.map vU8) (l := LL) (o := oL) (i := 1) rfl Tryd.isAgg41 Tryd.sizeOf41 (fun x hx => by rw [List.length_map]; exact hLd x hx) (by omega) (by omega) (fun w' hm => hrd16 _ (hm.heldSub (.cons _ (.cons _ (.cons _ (List.Sublist.refl _))))))) rfl ?_
  refine lw_call_pure rfl (callsTo Tryd.func41 rfl (by kernel_rfl) rfl) rfl (fun w hm => rnd_any 4 h1 h2 (LL.getD 0 default) (LL.getD 1 default) (hLd _ (getD_mem (by omega))) (hLd _ (getD_mem (by omega))) w) ?_
  refine lw_pure rfl ((val_eql_u8s rfl rfl Tryd.eqGuardType41 Tryd.underlying41 Tryd.underlying5 Tryd.sizeOf5 Tryd.isAgg5 (hPd _ (getD_mem (by omega))) (nd_len _ _ _ h2)).to (congrArg Value.bool (decide_eq_true ((by rw [← hIP, ← hLL]; rfl))))) rfl ?_
  refine lw_pure rfl (val_move rfl) rfl ?_
  refine lwg_pure rfl (wg rfl rfl) (val_move rfl) rfl ?_
  refine lwg_pure rfl (wg rfl rfl) (val_indexAddr_slice (0) (oQ) rfl rfl Tryd.underlying22 Tryd.sizeOf41 (by omega) (by omega) (by omega)) rfl ?_
  refine lwg_pure rfl (wg rfl rfl) (val_move rfl) rfl ?_
  refine lwg_pure rfl (wg rfl rfl) (val_indexAddr_slice (1) (oL + 32) rfl rfl Tryd.underlying22 Tryd.sizeOf41 (by omega) (by omega) (by omega)) rfl ?_
  refine lwg_held rfl (wg rfl rfl) (val_load_elem (cells := fun d => d.map vU8) (l := JQ) (o := oQ) (i := 0) rfl Tryd.isAgg41 Tryd.sizeOf41 (fun x hx => by rw [List.length_map]; exact hQd x hx) (by omega) (by omega) (fun w' hm => hr29.rdAt hm (i := 0) rfl)) rfl ?_
  refine lwg_held rfl (wg rfl rfl) (val_load_elem (cells := fun d => d.map vU8) (l := LL) (o := oL) (i := 1) rfl Tryd.isAgg41 Tryd.sizeOf41 (fun x hx => by rw [List.length_map]; exact hLd x hx) (by omega) (by omega) (fun w' hm => hrd16 _ (hm.heldSub (.cons _ (.cons _ (.cons _ (List.Sublist.refl _))))))) rfl ?_
  refine lwg_pure rfl (wg rfl rfl) ((val_eql_u8s rfl rfl Tryd.eqGuardType41 Tryd.underlying41 Tryd.underlying5 Tryd.sizeOf5 Tryd.isAgg5 (hQd _ (getD_mem (by omega))) (hLd _ (getD_mem (by omega)))).to (congrArg Value.bool (decide_eq_true ((by rw [← hJQ, ← hLL]; rfl))))) rfl ?_
  refine lw_pure rfl (val_pick_true rfl rfl) rfl ?_
  refine lw_pure rfl (val_move rfl) rfl ?_
  refine lwg_pure rfl (wg rfl rfl) (val_move rfl) rfl ?_
  refine lwg_pure rfl (wg rfl rfl) (val_indexAddr_slice (1) (oQ + 32) rfl rfl Tryd.underlying22 Tryd.sizeOf41 (by omega) (by omega) (by omega)) rfl ?_
  refine lwg_pure rfl (wg rfl rfl) (val_move rfl) rfl ?_
  refine lwg_pure rfl (wg rfl rfl) (val_indexAddr_slice (2) (oL + 64) rfl rfl Tryd.underlying22 Tryd.sizeOf41 (by omega) (by omega) (by omega)) rfl ?_
  refine lwg_held rfl (wg rfl rfl) (val_load_elem (cells := fun d => d.map vU8) (l := JQ) (o := oQ) (i := 1) rfl Tryd.isAgg41 Tryd.sizeOf41 (fun x hx => by rw [List.length_map]; exact hQd x hx) (by omega) (by omega) (fun w' hm => hr29.rdAt hm (i := 0) rfl)) rfl ?_
  refine lwg_held rfl (wg rfl rfl) (val_load_elem (cells := fun d => d.map vU8) (l := LL) (o := oL) (i := 2) rfl Tryd.isAgg41 Tryd.sizeOf41 (fun x hx => by rw [List.length_map]; exact hLd x hx) (by omega) (by omega) (fun w' hm => hrd16 _ (hm.heldSub (.cons _ (.cons _ (.cons _ (List.Sublist.refl _))))))) rfl ?_
  refine lwg_pure rfl (wg rfl rfl) ((val_eql_u8s rfl rfl Tryd.eqGuardType41 Tryd.underlying41 Tryd.underlying5 Tryd.sizeOf5 Tryd.isAgg5 (hQd _ (getD_mem (by omega))) (hLd _ (getD_mem (by omega)))).to (congrArg Value.bool (decide_eq_true ((by rw [← hJQ, ← hLL]; rfl))))) rfl ?_
  refine lw_pure rfl (val_pick_true rfl rfl) rfl ?_
  refine lw_pure rfl (val_assign rfl) rfl ?_
  refine lw_nil (into ?_)
  exact sw_ret (fun w hm => ret_one _ rfl rfl ⟨rfl, hm.forgetAll⟩)

theorem conO_mem {k : Nat} (h1 : 1 ≤ k) (h2 : k ≤ 32) {l : List (List UInt8)} (hl : ∀ d ∈ l, d.length = 32) (hf : ∀ d ∈ l, fm (k : Int) d = true) {i n : Nat} : ∀ d ∈ conO k l i n, d.length = 32 ∧ fm (k : Int) d = true := fun d hd => by
  unfold conO at hd
  split at hd
  · cases hd
  · exact conL_mem h1 h2 _ (Nat.le_refl _) (seg_all hl) (seg_all hf) d hd
theorem conO_len {k : Nat} {l : List (List UInt8)} {i n : Nat} (hn : n ≤ l.length) : (conO k l i n).length ≤ l.length + 1 := by
  unfold conO
  split
  · exact Nat.zero_le _
  · rcases Nat.eq_zero_or_pos n with h0 | h0
    · subst h0
      have hs : seg l 0 0 = [] := by rw [seg, Nat.sub_self, List.take_zero]
      rw [hs, conL]
      split
      · split <;> simp
      · simp
    · have h7 := conL_len (k := k) _ (l := seg l 0 n) (m := i) (known := true) (Nat.le_refl _) (by rw [seg_len hn]; omega)
      rw [seg_len hn] at h7; omega

theorem mi_none (v0 : Int) (hwd : wd v0 = false) (i n : UInt64) (w : World) (hK : KW w) (a : Option Addr) (c : Nat) (l : List (List UInt8)) (hdl : ∀ d ∈ l, d.length = 32) (hr : Rd w a (l.flatMap fun d => d.map vU8)) (hc : l.length ≤ c) (hb : l.length * 32 ≤ 140737488351232) : Calls Tryd.prog 3 #[vInt v0, .slice a l.length c, vU64 i, vU64 n] w fun e w' => ∃ v, e = .returned v ∧ v = .bool true ∧ Mem w [] [] w' := by
  refine calls_of_sw (vs := [vInt v0, .slice a l.length c, vU64 i, vU64 n]) Tryd.func3 rfl Tryd.ntmps3 rfl (SW.begin ?_)
  refine sw_seq ?_
  refine sw_region ?_
  refine ow_val (val_assign rfl) rfl ?_
  refine ow_nil (into ?_)
  refine sw_seq ?_
  refine sw_seq ?_
  refine sw_region ?_
  refine ow_call_pure (v := .bool true) (callsTo Tryd.func14 rfl (by kernel_rfl) rfl) rfl (fun w hm => awake_any w (hK.mem0 hm)) ?_
  refine ow_val (val_not rfl) rfl ?_
  refine ow_nil (into ?_)
  refine sw_false rfl rfl ?_
  refine sw_skip (into ?_)
  refine sw_seq ?_
  refine sw_region ?_
  refine ow_val (val_move rfl) rfl ?_
  refine ow_val (val_move rfl) rfl ?_
  refine ow_call_pure (v := .tuple #[.pointer none, .slice none 0 0, .bool false]) (callsTo Tryd.func15 rfl (by kernel_rfl) rfl) rfl (fun w hm => tree_no v0 hwd w _ _ _) ?_
  refine ow_val (val_move rfl) rfl ?_
  refine ow_val (val_extract rfl rfl) rfl ?_
  refine ow_val (val_extract rfl rfl) rfl ?_
  refine ow_val (val_extract rfl rfl) rfl ?_
  refine ow_val (val_assign rfl) rfl ?_
  refine ow_val (val_assign rfl) rfl ?_
  refine ow_val (val_assign rfl) rfl ?_
  refine ow_nil (into ?_)
  refine sw_seq ?_
  refine sw_seq ?_
  refine sw_region ?_
  refine ow_val (val_move rfl) rfl ?_
  refine ow_val (val_not rfl) rfl ?_
  refine ow_nil (into ?_)
  refine sw_true rfl rfl ?_
  refine sw_seq ?_
  refine sw_region ?_
  refine ow_val (val_assign rfl) rfl ?_
  refine ow_nil (into ?_)
  refine sw_ret (fun w hm => ?_)
  try dsimp only [thenP, blockP, Nat.beq, cond]
  exact ret_one _ rfl rfl ⟨rfl, hm.forgetAll⟩

theorem mi_no (k : Nat) (h1 : 1 ≤ k) (h2 : k ≤ 32) (i n : UInt64) (w : World) (hK : KW w) (a : Option Addr) (c : Nat) (l : List (List UInt8)) (hdl : ∀ d ∈ l, d.length = 32) (hr : Rd w a (l.flatMap fun d => d.map vU8)) (hc : l.length ≤ c) (hb : l.length * 32 ≤ 140737488351232) (L : List (List UInt8)) (hL : cutL k l = L) (hno : ¬ (i.toNat < n.toNat ∧ n.toNat ≤ L.length)) : Calls Tryd.prog 3 #[vInt (k : Int), .slice a l.length c, vU64 i, vU64 n] w fun e w' => ∃ v, e = .returned v ∧ v = .bool true ∧ Mem w [] [] w' := by
  have hcl := cutL_ok h1 h2 hdl
  rw [hL] at hcl
  have hLd := hcl.1
  have hLf := hcl.2
  have hLn : L.length = l.length := by rw [← hL]; exact cutL_len k l
  refine calls_of_sw (vs := [vInt (k : Int), .slice a l.length c, vU64 i, vU64 n]) Tryd.func3 rfl Tryd.ntmps3 rfl (SW.begin ?_)
  refine sw_seq ?_
  refine sw_region ?_
  refine ow_val (val_assign rfl) rfl ?_
  refine ow_nil (into ?_)
  refine sw_seq ?_
  refine sw_seq ?_
  refine sw_region ?_
  refine ow_call_pure (v := .bool true) (callsTo Tryd.func14 rfl (by kernel_rfl) rfl) rfl (fun w hm => awake_any w (hK.mem0 hm)) ?_
  refine ow_val (val_not rfl) rfl ?_
  refine ow_nil (into ?_)
  refine sw_false rfl rfl ?_
  refine sw_skip (into ?_)
  refine sw_seq ?_
  refine sw_region ?_
  refine ow_val (val_move rfl) rfl ?_
  refine ow_val (val_move rfl) rfl ?_
  refine ow_call_tail (σ := Nat × Option Addr × Nat × List Ent) (fun q9 => .tuple #[vPtr q9.1, .slice q9.2.1 L.length q9.2.2.1, .bool true]) (fun q9 => q9.2.2.2) (fun q9 => TrOn 110 79 k q9.2.2.2 q9.1 L ∧ RdOn q9.2.2.2 q9.2.1 (List.flatMap (fun d : List UInt8 => List.map vU8 d) L) ∧ L.length ≤ q9.2.2.1 ∧ (0 < L.length → ∃ b o, q9.2.1 = some ⟨b, o, none⟩)) (callsTo Tryd.func15 rfl (by kernel_rfl) rfl) rfl (fun w hm => tree_is k h1 h2 w (hK.mem0 hm) a l.length c l rfl hdl (hr.mem hm) (by omega) (by omega) (by omega) hL) ?_
  rintro ⟨b21, a21, c21, es21⟩ ⟨htr21, hrd21, hle21, hla21⟩
  simp only at htr21 hrd21 hle21 hla21 ⊢
  refine ow_val (val_move rfl) rfl ?_
  refine ow_val (val_extract rfl rfl) rfl ?_
  refine ow_val (val_extract rfl rfl) rfl ?_
  refine ow_val (val_extract rfl rfl) rfl ?_
  refine ow_val (val_assign rfl) rfl ?_
  refine ow_val (val_assign rfl) rfl ?_
  refine ow_val (val_assign rfl) rfl ?_
  refine ow_nil (into ?_)
  refine sw_seq ?_
  refine sw_seq ?_
  refine sw_region ?_
  refine ow_val (val_move rfl) rfl ?_
  refine ow_val (val_not rfl) rfl ?_
  refine ow_nil (into ?_)
  refine sw_false rfl rfl ?_
  refine sw_skip (into ?_)
  refine sw_seq ?_
  refine sw_region ?_
  refine ow_val (val_move rfl) rfl ?_
  refine ow_val (val_move rfl) rfl ?_
  refine ow_val (val_move rfl) rfl ?_
  refine ow_call_pure (v := .tuple #[.slice none 0 0, vInt ((4 : Nat) : Int)]) (callsTo Tryd.func16 rfl (by kernel_rfl) rfl) rfl (fun w hm => incl_noU k b21 L i n w (htr21.is (hm.heldSub (List.Sublist.refl _))) (by omega) hno) ?_
  refine ow_val (val_move rfl) rfl ?_
  refine ow_val (val_extract rfl rfl) rfl ?_
  refine ow_val (val_extract rfl rfl) rfl ?_
  refine ow_val (val_assign rfl) rfl ?_
  refine ow_val (val_assign rfl) rfl ?_
  refine ow_nil (into ?_)
  refine sw_seq ?_
  refine sw_region ?_
  refine ow_val (val_move rfl) rfl ?_
  refine ow_val (val_move rfl) rfl ?_
  refine ow_val (val_move rfl) rfl ?_
  refine ow_val (val_move rfl) rfl ?_
  refine ow_call_pure (v := .tuple #[.slice none 0 0, vInt ((4 : Nat) : Int)]) (callsTo Tryd.func17 rfl (by kernel_rfl) rfl) rfl (fun w hm => dinc_noU k i n w a21 L.length c21 L rfl hLd hLf (hrd21 _ (hm.heldSub (List.Sublist.refl _))) hle21 (by omega) hno) ?_
  refine ow_val (val_move rfl) rfl ?_
  refine ow_val (val_extract rfl rfl) rfl ?_
  refine ow_val (val_extract rfl rfl) rfl ?_
  refine ow_val (val_assign rfl) rfl ?_
  refine ow_val (val_assign rfl) rfl ?_
  refine ow_nil (into ?_)
  refine sw_seq ?_
  refine sw_region ?_
  refine ow_val (val_move rfl) rfl ?_
  refine ow_val (val_neq_nilptr Tryd.underlying25 rfl rfl) rfl ?_
  refine ow_val (val_move rfl) rfl ?_
  refine ow_guard_yes rfl rfl rfl ?_
  refine ow_val (val_move rfl) rfl ?_
  refine ow_guard_yes rfl rfl rfl ?_
  refine ow_val (val_move rfl) rfl ?_
  refine ow_guard_yes rfl rfl rfl ?_
  refine ow_val ((val_eql_int rfl rfl).to (v' := .bool true) (congrArg Value.bool (decide_eq_true rfl))) rfl ?_
  refine ow_val (val_pick_true rfl rfl) rfl ?_
  refine ow_val (val_move rfl) rfl ?_
  refine ow_guard_yes rfl rfl rfl ?_
  refine ow_val (val_move rfl) rfl ?_
  refine ow_guard_yes rfl rfl rfl ?_
  refine ow_val (val_move rfl) rfl ?_
  refine ow_guard_yes rfl rfl rfl ?_
  refine ow_call_pure (v := .bool true) (callsTo Tryd.func18 rfl (by kernel_rfl) rfl) rfl (fun w hm => same_is w none 0 0 [] rfl (fun _ h => by cases h) (Rd.nil _ _) (Nat.le_refl _) (by decide) none 0 0 [] rfl (fun _ h => by cases h) (Rd.nil _ _) (Nat.le_refl _) (by decide) (decide_eq_true rfl)) ?_
  refine ow_val (val_pick_true rfl rfl) rfl ?_
  refine ow_val (val_assign rfl) rfl ?_
  refine ow_nil (into ?_)
  exact sw_ret (fun w hm => ret_one _ rfl rfl ⟨rfl, hm.forgetAll⟩)

theorem mi_go (k : Nat) (h1 : 1 ≤ k) (h2 : k ≤ 32) (i n : UInt64) (w : World) (hK : KW w) (a : Option Addr) (c : Nat) (l : List (List UInt8)) (hdl : ∀ d ∈ l, d.length = 32) (hr : Rd w a (l.flatMap fun d => d.map vU8)) (hc : l.length ≤ c) (hb : l.length * 32 ≤ 140737488351232) (L : List (List UInt8)) (hL : cutL k l = L) (hok : i.toNat < n.toNat ∧ n.toNat ≤ L.length) (P : List (List UInt8)) (hP : incL k (seg L 0 n.toNat) i.toNat = P) : Calls Tryd.prog 3 #[vInt (k : Int), .slice a l.length c, vU64 i, vU64 n] w fun e w' => ∃ v, e = .returned v ∧ v = .bool true ∧ Mem w [] [] w' := by
  have hcl := cutL_ok h1 h2 hdl
  rw [hL] at hcl
  have hLd := hcl.1
  have hLf := hcl.2
  have hLn : L.length = l.length := by rw [← hL]; exact cutL_len k l
  have hPm := incL_mem h1 h2 _ (Nat.le_refl _) (seg_all hLd) (seg_all hLf) (i := i.toNat) (l := seg L 0 n.toNat)
  rw [hP] at hPm
  have hPd := fun d hd => (hPm d hd).1
  have hPf := fun d hd => (hPm d hd).2
  have hPn : P.length < 4611686018427387904 := by
    rw [← hP]; have h7 := incL_len (k := k) _ (l := seg L 0 n.toNat) (i := i.toNat) (Nat.le_refl _); rw [seg_len hok.2] at h7; omega
  refine calls_of_sw (vs := [vInt (k : Int), .slice a l.length c, vU64 i, vU64 n]) Tryd.func3 rfl Tryd.ntmps3 rfl (SW.begin ?_)
  refine sw_seq ?_
  refine sw_region ?_
  refine ow_val (val_assign rfl) rfl ?_
  refine ow_nil (into ?_)
  refine sw_seq ?_
  refine sw_seq ?_
  refine sw_region ?_
  refine ow_call_pure (v := .bool true) (callsTo Tryd.func14 rfl (by kernel_rfl) rfl) rfl (fun w hm => awake_any w (hK.mem0 hm)) ?_
  refine ow_val (val_not rfl) rfl ?_
  refine ow_nil (into ?_)
  refine sw_false rfl rfl ?_
  refine sw_skip (into ?_)
  refine sw_seq ?_
  refine sw_region ?_
  refine ow_val (val_move rfl) rfl ?_
  refine ow_val (val_move rfl) rfl ?_
  refine ow_call_tail (σ := Nat × Option Addr × Nat × List Ent) (fun q9 => .tuple #[vPtr q9.1, .slice q9.2.1 L.length q9.2.2.1, .bool true]) (fun q9 => q9.2.2.2) (fun q9 => TrOn 110 79 k q9.2.2.2 q9.1 L ∧ RdOn q9.2.2.2 q9.2.1 (List.flatMap (fun d : List UInt8 => List.map vU8 d) L) ∧ L.length ≤ q9.2.2.1 ∧ (0 < L.length → ∃ b o, q9.2.1 = some ⟨b, o, none⟩)) (callsTo Tryd.func15 rfl (by kernel_rfl) rfl) rfl (fun w hm => tree_is k h1 h2 w (hK.mem0 hm) a l.length c l rfl hdl (hr.mem hm) (by omega) (by omega) (by omega) hL) ?_
  rintro ⟨b21, a21, c21, es21⟩ ⟨htr21, hrd21, hle21, hla21⟩
  simp only at htr21 hrd21 hle21 hla21 ⊢
  refine ow_val (val_move rfl) rfl ?_
  refine ow_val (val_extract rfl rfl) rfl ?_
  refine ow_val (val_extract rfl rfl) rfl ?_
  refine ow_val (val_extract rfl rfl) rfl ?_
  refine ow_val (val_assign rfl) rfl ?_
  refine ow_val (val_assign rfl) rfl ?_
  refine ow_val (val_assign rfl) rfl ?_
  refine ow_nil (into ?_)
  refine sw_seq ?_
  refine sw_seq ?_
  refine sw_region ?_
  refine ow_val (val_move rfl) rfl ?_
  refine ow_val (val_not rfl) rfl ?_
  refine ow_nil (into ?_)
  refine sw_false rfl rfl ?_
  refine sw_skip (into ?_)
  refine sw_seq ?_
  refine sw_region ?_
  refine ow_val (val_move rfl) rfl ?_
  refine ow_val (val_move rfl) rfl ?_
  refine ow_val (val_move rfl) rfl ?_
  refine ow_call_row2 (E := 41) (size := 32) (k := P.length) (xs := List.flatMap (fun d : List UInt8 => List.map vU8 d) P) (x := vInt ((0 : Nat) : Int)) (callsTo Tryd.func16 rfl (by kernel_rfl) rfl) rfl (fun w hm => incl_okU k h1 h2 b21 L (by assumption) (by assumption) (by omega) i n w (hK.mem0 hm) (htr21.is (hm.heldSub (List.Sublist.refl _))) hok _ hP) (fun a31 c31 e31 hr31 => ?_)
  refine ow_val (val_move rfl) rfl ?_
  refine ow_val (val_extract rfl rfl) rfl ?_
  refine ow_val (val_extract rfl rfl) rfl ?_
  refine ow_val (val_assign rfl) rfl ?_
  refine ow_val (val_assign rfl) rfl ?_
  refine ow_nil (into ?_)
  refine sw_seq ?_
  refine sw_region ?_
  refine ow_val (val_move rfl) rfl ?_
  refine ow_val (val_move rfl) rfl ?_
  refine ow_val (val_move rfl) rfl ?_
  refine ow_val (val_move rfl) rfl ?_
  refine ow_call_row2 (E := 41) (size := 32) (k := P.length) (xs := List.flatMap (fun d : List UInt8 => List.map vU8 d) P) (x := vInt ((0 : Nat) : Int)) (callsTo Tryd.func17 rfl (by kernel_rfl) rfl) rfl (fun w hm => dinc_okU k h1 h2 i n w a21 L.length c21 L rfl hLd hLf (hrd21 _ (hm.heldSub (.cons _ (List.Sublist.refl _)))) hle21 (by omega) hok _ hP) (fun a39 c39 e39 hr39 => ?_)
  refine ow_val (val_move rfl) rfl ?_
  refine ow_val (val_extract rfl rfl) rfl ?_
  refine ow_val (val_extract rfl rfl) rfl ?_
  refine ow_val (val_assign rfl) rfl ?_
  refine ow_val (val_assign rfl) rfl ?_
  refine ow_nil (into ?_)
  refine sw_seq ?_
  refine sw_region ?_
  refine ow_val (val_move rfl) rfl ?_
  refine ow_val (val_neq_nilptr Tryd.underlying25 rfl rfl) rfl ?_
  refine ow_val (val_move rfl) rfl ?_
  refine ow_guard_yes rfl rfl rfl ?_
  refine ow_val (val_move rfl) rfl ?_
  refine ow_guard_yes rfl rfl rfl ?_
  refine ow_val (val_move rfl) rfl ?_
  refine ow_guard_yes rfl rfl rfl ?_
  refine ow_val ((val_eql_int rfl rfl).to (v' := .bool true) (congrArg Value.bool (decide_eq_true rfl))) rfl ?_
  refine ow_val (val_pick_true rfl rfl) rfl ?_
  refine ow_val (val_move rfl) rfl ?_
  refine ow_guard_yes rfl rfl rfl ?_
  refine ow_val (val_move rfl) rfl ?_
  refine ow_guard_yes rfl rfl rfl ?_
  refine ow_val (val_move rfl) rfl ?_
  refine ow_guard_yes rfl rfl rfl ?_
  refine ow_call_pure (v := .bool true) (callsTo Tryd.func18 rfl (by kernel_rfl) rfl) rfl (fun w hm => same_is w a31 P.length c31 P rfl hPd (hr31.rdAt hm (i := 1) rfl) hr31.le (by omega) a39 P.length c39 P rfl hPd (hr39.rdAt hm (i := 0) rfl) hr39.le (by omega) (decide_eq_true rfl)) ?_
  refine ow_val (val_pick_true rfl rfl) rfl ?_
  refine ow_val (val_assign rfl) rfl ?_
  refine ow_nil (into ?_)
  exact sw_ret (fun w hm => ret_one _ rfl rfl ⟨rfl, hm.forgetAll⟩)

theorem mproofInclusions_any (v0 : Int) (i n : UInt64) (w : World) (hK : KW w) (a : Option Addr) (c : Nat) (l : List (List UInt8)) (hdl : ∀ d ∈ l, d.length = 32) (hr : Rd w a (l.flatMap fun d => d.map vU8)) (hc : l.length ≤ c) (hb : l.length * 32 ≤ 140737488351232) : Calls Tryd.prog 3 #[vInt v0, .slice a l.length c, vU64 i, vU64 n] w fun e w' => ∃ v, e = .returned v ∧ v = .bool true ∧ Mem w [] [] w' := by
  cases hwd : wd v0 with
  | false => exact mi_none v0 hwd i n w hK a c l hdl hr hc hb
  | true =>
    have h9 := wd_iff.1 hwd
    obtain ⟨k, rfl⟩ : ∃ k : Nat, v0 = (k : Int) := ⟨v0.toNat, by omega⟩
    by_cases hok : i.toNat < n.toNat ∧ n.toNat ≤ (cutL k l).length
    · exact mi_go k (by omega) (by omega) i n w hK a c l hdl hr hc hb _ rfl hok _ rfl
    · exact mi_no k (by omega) (by omega) i n w hK a c l hdl hr hc hb _ rfl hok

theorem mc_none (v0 : Int) (hwd : wd v0 = false) (i n : UInt64) (w : World) (hK : KW w) (a : Option Addr) (c : Nat) (l : List (List UInt8)) (hdl : ∀ d ∈ l, d.length = 32) (hr : Rd w a (l.flatMap fun d => d.map vU8)) (hc : l.length ≤ c) (hb : l.length * 32 ≤ 140737488351232) : Calls Tryd.prog 4 #[vInt v0, .slice a l.length c, vU64 i, vU64 n] w fun e w' => ∃ v, e = .returned v ∧ v = .bool true ∧ Mem w [] [] w' := by
  refine calls_of_sw (vs := [vInt v0, .slice a l.length c, vU64 i, vU64 n]) Tryd.func4 rfl Tryd.ntmps4 rfl (SW.begin ?_)
  refine sw_seq ?_
  refine sw_region ?_
  refine ow_val (val_assign rfl) rfl ?_
  refine ow_nil (into ?_)
  refine sw_seq ?_
  refine sw_seq ?_
  refine sw_region ?_
  refine ow_call_pure (v := .bool true) (callsTo Tryd.func14 rfl (by kernel_rfl) rfl) rfl (fun w hm => awake_any w (hK.mem0 hm)) ?_
  refine ow_val (val_not rfl) rfl ?_
  refine ow_nil (into ?_)
  refine sw_false rfl rfl ?_
  refine sw_skip (into ?_)
  refine sw_seq ?_
  refine sw_region ?_
  refine ow_val (val_move rfl) rfl ?_
  refine ow_val (val_move rfl) rfl ?_
  refine ow_call_pure (v := .tuple #[.pointer none, .slice none 0 0, .bool false]) (callsTo Tryd.func15 rfl (by kernel_rfl) rfl) rfl (fun w hm => tree_no v0 hwd w _ _ _) ?_
  refine ow_val (val_move rfl) rfl ?_
  refine ow_val (val_extract rfl rfl) rfl ?_
  refine ow_val (val_extract rfl rfl) rfl ?_
  refine ow_val (val_extract rfl rfl) rfl ?_
  refine ow_val (val_assign rfl) rfl ?_
  refine ow_val (val_assign rfl) rfl ?_
  refine ow_val (val_assign rfl) rfl ?_
  refine ow_nil (into ?_)
  refine sw_seq ?_
  refine sw_seq ?_
  refine sw_region ?_
  refine ow_val (val_move rfl) rfl ?_
  refine ow_val (val_not rfl) rfl ?_
  refine ow_nil (into ?_)
  refine sw_true rfl rfl ?_
  refine sw_seq ?_
  refine sw_region ?_
  refine ow_val (val_assign rfl) rfl ?_
  refine ow_nil (into ?_)
  refine sw_ret (fun w hm => ?_)
  try dsimp only [thenP, blockP, Nat.beq, cond]
  exact ret_one _ rfl rfl ⟨rfl, hm.forgetAll⟩

theorem mc_no (k : Nat) (h1 : 1 ≤ k) (h2 : k ≤ 32) (i n : UInt64) (w : World) (hK : KW w) (a : Option Addr) (c : Nat) (l : List (List UInt8)) (hdl : ∀ d ∈ l, d.length = 32) (hr : Rd w a (l.flatMap fun d => d.map vU8)) (hc : l.length ≤ c) (hb : l.length * 32 ≤ 140737488351232) (L : List (List UInt8)) (hL : cutL k l = L) (hno : ¬ (i.toNat ≤ n.toNat ∧ n.toNat ≤ L.length)) : Calls Tryd.prog 4 #[vInt (k : Int), .slice a l.length c, vU64 i, vU64 n] w fun e w' => ∃ v, e = .returned v ∧ v = .bool true ∧ Mem w [] [] w' := by
  have hcl := cutL_ok h1 h2 hdl
  rw [hL] at hcl
  have hLd := hcl.1
  have hLf := hcl.2
  have hLn : L.length = l.length := by rw [← hL]; exact cutL_len k l
  refine calls_of_sw (vs := [vInt (k : Int), .slice a l.length c, vU64 i, vU64 n]) Tryd.func4 rfl Tryd.ntmps4 rfl (SW.begin ?_)
  refine sw_seq ?_
  refine sw_region ?_
  refine ow_val (val_assign rfl) rfl ?_
  refine ow_nil (into ?_)
  refine sw_seq ?_
  refine sw_seq ?_
  refine sw_region ?_
  refine ow_call_pure (v := .bool true) (callsTo Tryd.func14 rfl (by kernel_rfl) rfl) rfl (fun w hm => awake_any w (hK.mem0 hm)) ?_
  refine ow_val (val_not rfl) rfl ?_
  refine ow_nil (into ?_)
  refine sw_false rfl rfl ?_
  refine sw_skip (into ?_)
  refine sw_seq ?_
  refine sw_region ?_
  refine ow_val (val_move rfl) rfl ?_
  refine ow_val (val_move rfl) rfl ?_
  refine ow_call_tail (σ := Nat × Option Addr × Nat × List Ent) (fun q9 => .tuple #[vPtr q9.1, .slice q9.2.1 L.length q9.2.2.1, .bool true]) (fun q9 => q9.2.2.2) (fun q9 => TrOn 110 79 k q9.2.2.2 q9.1 L ∧ RdOn q9.2.2.2 q9.2.1 (List.flatMap (fun d : List UInt8 => List.map vU8 d) L) ∧ L.length ≤ q9.2.2.1 ∧ (0 < L.length → ∃ b o, q9.2.1 = some ⟨b, o, none⟩)) (callsTo Tryd.func15 rfl (by kernel_rfl) rfl) rfl (fun w hm => tree_is k h1 h2 w (hK.mem0 hm) a l.length c l rfl hdl (hr.mem hm) (by omega) (by omega) (by omega) hL) ?_
  rintro ⟨b21, a21, c21, es21⟩ ⟨htr21, hrd21, hle21, hla21⟩
  simp only at htr21 hrd21 hle21 hla21 ⊢
  refine ow_val (val_move rfl) rfl ?_
  refine ow_val (val_extract rfl rfl) rfl ?_
  refine ow_val (val_extract rfl rfl) rfl ?_
  refine ow_val (val_extract rfl rfl) rfl ?_
  refine ow_val (val_assign rfl) rfl ?_
  refine ow_val (val_assign rfl) rfl ?_
  refine ow_val (val_assign rfl) rfl ?_
  refine ow_nil (into ?_)
  refine sw_seq ?_
  refine sw_seq ?_
  refine sw_region ?_
  refine ow_val (val_move rfl) rfl ?_
  refine ow_val (val_not rfl) rfl ?_
  refine ow_nil (into ?_)
  refine sw_false rfl rfl ?_
  refine sw_skip (into ?_)
  refine sw_seq ?_
  refine sw_region ?_
  refine ow_val (val_move rfl) rfl ?_
  refine ow_val (val_move rfl) rfl ?_
  refine ow_val (val_move rfl) rfl ?_
  refine ow_call_pure (v := .tuple #[.slice none 0 0, vInt ((4 : Nat) : Int)]) (callsTo Tryd.func19 rfl (by kernel_rfl) rfl) rfl (fun w hm => cons_noU k b21 L i n w (htr21.is (hm.heldSub (List.Sublist.refl _))) (by omega) hno) ?_
  refine ow_val (val_move rfl) rfl ?_
  refine ow_val (val_extract rfl rfl) rfl ?_
  refine ow_val (val_extract rfl rfl) rfl ?_
  refine ow_val (val_assign rfl) rfl ?_
  refine ow_val (val_assign rfl) rfl ?_
  refine ow_nil (into ?_)
  refine sw_seq ?_
  refine sw_region ?_
  refine ow_val (val_move rfl) rfl ?_
  refine ow_val (val_move rfl) rfl ?_
  refine ow_val (val_move rfl) rfl ?_
  refine ow_val (val_move rfl) rfl ?_
  refine ow_call_pure (v := .tuple #[.slice none 0 0, vInt ((4 : Nat) : Int)]) (callsTo Tryd.func20 rfl (by kernel_rfl) rfl) rfl (fun w hm => dcon_noU k i n w a21 L.length c21 L rfl hLd hLf (hrd21 _ (hm.heldSub (List.Sublist.refl _))) hle21 (by omega) hno) ?_
  refine ow_val (val_move rfl) rfl ?_
  refine ow_val (val_extract rfl rfl) rfl ?_
  refine ow_val (val_extract rfl rfl) rfl ?_
  refine ow_val (val_assign rfl) rfl ?_
  refine ow_val (val_assign rfl) rfl ?_
  refine ow_nil (into ?_)
  refine sw_seq ?_
  refine sw_region ?_
  refine ow_val (val_move rfl) rfl ?_
  refine ow_val (val_neq_nilptr Tryd.underlying25 rfl rfl) rfl ?_
  refine ow_val (val_move rfl) rfl ?_
  refine ow_guard_yes rfl rfl rfl ?_
  refine ow_val (val_move rfl) rfl ?_
  refine ow_guard_yes rfl rfl rfl ?_
  refine ow_val (val_move rfl) rfl ?_
  refine ow_guard_yes rfl rfl rfl ?_
  refine ow_val ((val_eql_int rfl rfl).to (v' := .bool true) (congrArg Value.bool (decide_eq_true rfl))) rfl ?_
  refine ow_val (val_pick_true rfl rfl) rfl ?_
  refine ow_val (val_move rfl) rfl ?_
  refine ow_guard_yes rfl rfl rfl ?_
  refine ow_val (val_move rfl) rfl ?_
  refine ow_guard_yes rfl rfl rfl ?_
  refine ow_val (val_move rfl) rfl ?_
  refine ow_guard_yes rfl rfl rfl ?_
  refine ow_call_pure (v := .bool true) (callsTo Tryd.func18 rfl (by kernel_rfl) rfl) rfl (fun w hm => same_is w none 0 0 [] rfl (fun _ h => by cases h) (Rd.nil _ _) (Nat.le_refl _) (by decide) none 0 0 [] rfl (fun _ h => by cases h) (Rd.nil _ _) (Nat.le_refl _) (by decide) (decide_eq_true rfl)) ?_
  refine ow_val (val_pick_true rfl rfl) rfl ?_
  refine ow_val (val_assign rfl) rfl ?_
  refine ow_nil (into ?_)
  exact sw_ret (fun w hm => ret_one _ rfl rfl ⟨rfl, hm.forgetAll⟩)

theorem mc_go (k : Nat) (h1 : 1 ≤ k) (h2 : k ≤ 32) (i n : UInt64) (w : World) (hK : KW w) (a : Option Addr) (c : Nat) (l : List (List UInt8)) (hdl : ∀ d ∈ l, d.length = 32) (hr : Rd w a (l.flatMap fun d => d.map vU8)) (hc : l.length ≤ c) (hb : l.length * 32 ≤ 140737488351232) (L : List (List UInt8)) (hL : cutL k l = L) (hok : i.toNat ≤ n.toNat ∧ n.toNat ≤ L.length) (P : List (List UInt8)) (hP : conO k L i.toNat n.toNat = P) : Calls Tryd.prog 4 #[vInt (k : Int), .slice a l.length c, vU64 i, vU64 n] w fun e w' => ∃ v, e = .returned v ∧ v = .bool true ∧ Mem w [] [] w' := by
  have hcl := cutL_ok h1 h2 hdl
  rw [hL] at hcl
  have hLd := hcl.1
  have hLf := hcl.2
  have hLn : L.length = l.length := by rw [← hL]; exact cutL_len k l
  have hPm := conO_mem h1 h2 hLd hLf (i := i.toNat) (n := n.toNat)
  rw [hP] at hPm
  have hPd := fun d hd => (hPm d hd).1
  have hPf := fun d hd => (hPm d hd).2
  have hPn : P.length < 4611686018427387904 := by
    rw [← hP]; have h7 := conO_len (k := k) (l := L) (i := i.toNat) hok.2; omega
  have hP2 : sinL k (seg L 0 n.toNat) i.toNat = P := hP
  refine calls_of_sw (vs := [vInt (k : Int), .slice a l.length c, vU64 i, vU64 n]) Tryd.func4 rfl Tryd.ntmps4 rfl (SW.begin ?_)
  refine sw_seq ?_
  refine sw_region ?_
  refine ow_val (val_assign rfl) rfl ?_
  refine ow_nil (into ?_)
  refine sw_seq ?_
  refine sw_seq ?_
  refine sw_region ?_
  refine ow_call_pure (v := .bool true) (callsTo Tryd.func14 rfl (by kernel_rfl) rfl) rfl (fun w hm => awake_any w (hK.mem0 hm)) ?_
  refine ow_val (val_not rfl) rfl ?_
  refine ow_nil (into ?_)
  refine sw_false rfl rfl ?_
  refine sw_skip (into ?_)
  refine sw_seq ?_
  refine sw_region ?_
  refine ow_val (val_move rfl) rfl ?_
  refine ow_val (val_move rfl) rfl ?_
  refine ow_call_tail (σ := Nat × Option Addr × Nat × List Ent) (fun q9 => .tuple #[vPtr q9.1, .slice q9.2.1 L.length q9.2.2.1, .bool true]) (fun q9 => q9.2.2.2) (fun q9 => TrOn 110 79 k q9.2.2.2 q9.1 L ∧ RdOn q9.2.2.2 q9.2.1 (List.flatMap (fun d : List UInt8 => List.map vU8 d) L) ∧ L.length ≤ q9.2.2.1 ∧ (0 < L.length → ∃ b o, q9.2.1 = some ⟨b, o, none⟩)) (callsTo Tryd.func15 rfl (by kernel_rfl) rfl) rfl (fun w hm => tree_is k h1 h2 w (hK.mem0 hm) a l.length c l rfl hdl (hr.mem hm) (by omega) (by omega) (by omega) hL) ?_
  rintro ⟨b21, a21, c21, es21⟩ ⟨htr21, hrd21, hle21, hla21⟩
  simp only at htr21 hrd21 hle21 hla21 ⊢
  refine ow_val (val_move rfl) rfl ?_
  refine ow_val (val_extract rfl rfl) rfl ?_
  refine ow_val (val_extract rfl rfl) rfl ?_
  refine ow_val (val_extract rfl rfl) rfl ?_
  refine ow_val (val_assign rfl) rfl ?_
  refine ow_val (val_assign rfl) rfl ?_
  refine ow_val (val_assign rfl) rfl ?_
  refine ow_nil (into ?_)
  refine sw_seq ?_
  refine sw_seq ?_
  refine sw_region ?_
  refine ow_val (val_move rfl) rfl ?_
  refine ow_val (val_not rfl) rfl ?_
  refine ow_nil (into ?_)
  refine sw_false rfl rfl ?_
  refine sw_skip (into ?_)
  refine sw_seq ?_
  refine sw_region ?_
  refine ow_val (val_move rfl) rfl ?_
  refine ow_val (val_move rfl) rfl ?_
  refine ow_val (val_move rfl) rfl ?_
  refine ow_call_row2 (E := 41) (size := 32) (k := P.length) (xs := List.flatMap (fun d : List UInt8 => List.map vU8 d) P) (x := vInt ((0 : Nat) : Int)) (callsTo Tryd.func19 rfl (by kernel_rfl) rfl) rfl (fun w hm => cons_okU k h1 h2 b21 L (by assumption) (by assumption) (by omega) i n w (hK.mem0 hm) (htr21.is (hm.heldSub (List.Sublist.refl _))) hok _ hP) (fun a31 c31 e31 hr31 => ?_)
  refine ow_val (val_move rfl) rfl ?_
  refine ow_val (val_extract rfl rfl) rfl ?_
  refine ow_val (val_extract rfl rfl) rfl ?_
  refine ow_val (val_assign rfl) rfl ?_
  refine ow_val (val_assign rfl) rfl ?_
  refine ow_nil (into ?_)
  refine sw_seq ?_
  refine sw_region ?_
  refine ow_val (val_move rfl) rfl ?_
  refine ow_val (val_move rfl) rfl ?_
  refine ow_val (val_move rfl) rfl ?_
  refine ow_val (val_move rfl) rfl ?_
  refine ow_call_row2 (E := 41) (size := 32) (k := P.length) (xs := List.flatMap (fun d : List UInt8 => List.map vU8 d) P) (x := vInt ((0 : Nat) : Int)) (callsTo Tryd.func20 rfl (by kernel_rfl) rfl) rfl (fun w hm => dcon_okU k h1 h2 i n w a21 L.length c21 L rfl hLd hLf (hrd21 _ (hm.heldSub (.cons _ (List.Sublist.refl _)))) hle21 (by omega) hok _ hP2) (fun a39 c39 e39 hr39 => ?_)
  refine ow_val (val_move rfl) rfl ?_
  refine ow_val (val_extract rfl rfl) rfl ?_
  refine ow_val (val_extract rfl rfl) rfl ?_
  refine ow_val (val_assign rfl) rfl ?_
  refine ow_val (val_assign rfl) rfl ?_
  refine ow_nil (into ?_)
  refine sw_seq ?_
  refine sw_region ?_
  refine ow_val (val_move rfl) rfl ?_
  refine ow_val (val_neq_nilptr Tryd.underlying25 rfl rfl) rfl ?_
  refine ow_val (val_move rfl) rfl ?_
  refine ow_guard_yes rfl rfl rfl ?_
  refine ow_val (val_move rfl) rfl ?_
  refine ow_guard_yes rfl rfl rfl ?_
  refine ow_val (val_move rfl) rfl ?_
  refine ow_guard_yes rfl rfl rfl ?_
  refine ow_val ((val_eql_int rfl rfl).to (v' := .bool true) (congrArg Value.bool (decide_eq_true rfl))) rfl ?_
  refine ow_val (val_pick_true rfl rfl) rfl ?_
  refine ow_val (val_move rfl) rfl ?_
  refine ow_guard_yes rfl rfl rfl ?_
  refine ow_val (val_move rfl) rfl ?_
  refine ow_guard_yes rfl rfl rfl ?_
  refine ow_val (val_move rfl) rfl ?_
  refine ow_guard_yes rfl rfl rfl ?_
  refine ow_call_pure (v := .bool true) (callsTo Tryd.func18 rfl (by kernel_rfl) rfl) rfl (fun w hm => same_is w a31 P.length c31 P rfl hPd (hr31.rdAt hm (i := 1) rfl) hr31.le (by omega) a39 P.length c39 P rfl hPd (hr39.rdAt hm (i := 0) rfl) hr39.le (by omega) (decide_eq_true rfl)) ?_
  refine ow_val (val_pick_true rfl rfl) rfl ?_
  refine ow_val (val_assign rfl) rfl ?_
  refine ow_nil (into ?_)
  exact sw_ret (fun w hm => ret_one _ rfl rfl ⟨rfl, hm.forgetAll⟩)

theorem mproofConsistencies_any (v0 : Int) (i n : UInt64) (w : World) (hK : KW w) (a : Option Addr) (c : Nat) (l : List (List UInt8)) (hdl : ∀ d ∈ l, d.length = 32) (hr : Rd w a (l.flatMap fun d => d.map vU8)) (hc : l.length ≤ c) (hb : l.length * 32 ≤ 140737488351232) : Calls Tryd.prog 4 #[vInt v0, .slice a l.length c, vU64 i, vU64 n] w fun e w' => ∃ v, e = .returned v ∧ v = .bool true ∧ Mem w [] [] w' := by
  cases hwd : wd v0 with
  | false => exact mc_none v0 hwd i n w hK a c l hdl hr hc hb
  | true =>
    have h9 := wd_iff.1 hwd
    obtain ⟨k, rfl⟩ : ∃ k : Nat, v0 = (k : Int) := ⟨v0.toNat, by omega⟩
    by_cases hok : i.toNat ≤ n.toNat ∧ n.toNat ≤ (cutL k l).length
    · exact mc_go k (by omega) (by omega) i n w hK a c l hdl hr hc hb _ rfl hok _ rfl
    · exact mc_no k (by omega) (by omega) i n w hK a c l hdl hr hc hb _ rfl hok

theorem cntO_le (i m n : UInt64) : (cntO i m n).1.1 ≤ 64 ∧ (cntO i m n).1.2 ≤ 65 := by
  unfold cntO; split
  · exact ⟨Nat.zero_le _, Nat.zero_le _⟩
  · rename_i h
    refine ⟨splitsL_le64, ?_⟩
    show cntZ m n ≤ 65
    unfold cntZ; split
    · exact Nat.zero_le _
    · rename_i h0
      exact cntL_le 64 m n true h0 (UInt64.le_iff_toNat_le.2 (Nat.le_of_not_lt fun h2 => h (.inr (UInt64.lt_iff_toNat_lt.2 h2)))) (Nat.le_of_lt n.toNat_lt)

theorem mproofCounts_any (i m n : UInt64) (w : World) (hK : KW w) : Calls Tryd.prog 5 #[vU64 i, vU64 m, vU64 n] w fun e w' => ∃ v, e = .returned v ∧ v = .bool true ∧ Mem w [] [] w' := by
  have hle := cntO_le i m n
  refine calls_of_sw (vs := [vU64 i, vU64 m, vU64 n]) Tryd.func5 rfl Tryd.ntmps5 rfl (SW.begin ?_)
  refine sw_seq ?_
  refine sw_region ?_
  refine ow_val (val_assign rfl) rfl ?_
  refine ow_nil (into ?_)
  refine sw_seq ?_
  refine sw_seq ?_
  refine sw_region ?_
  refine ow_call_pure (v := .bool true) (callsTo Tryd.func14 rfl (by kernel_rfl) rfl) rfl (fun w hm => awake_any w (hK.mem0 hm)) ?_
  refine ow_val (val_not rfl) rfl ?_
  refine ow_nil (into ?_)
  refine sw_false rfl rfl ?_
  refine sw_skip (into ?_)
  refine sw_seq ?_
  refine sw_region ?_
  refine ow_val (val_move rfl) rfl ?_
  refine ow_val (val_move rfl) rfl ?_
  refine ow_val (val_move rfl) rfl ?_
  refine ow_call_pure (callsTo Tryd.func21 rfl (by kernel_rfl) rfl) rfl (fun w hm => counts_any i m n w) ?_
  refine ow_val (val_move rfl) rfl ?_
  refine ow_val (val_extract rfl rfl) rfl ?_
  refine ow_val (val_extract rfl rfl) rfl ?_
  refine ow_val (val_extract rfl rfl) rfl ?_
  refine ow_val (val_assign rfl) rfl ?_
  refine ow_val (val_assign rfl) rfl ?_
  refine ow_val (val_assign rfl) rfl ?_
  refine ow_nil (into ?_)
  refine sw_seq ?_
  refine sw_region ?_
  refine ow_val (val_move rfl) rfl ?_
  refine ow_val (val_move rfl) rfl ?_
  refine ow_val (val_move rfl) rfl ?_
  refine ow_call_pure (callsTo Tryd.func22 rfl (by kernel_rfl) rfl) rfl (fun w hm => dcounts_any i m n w) ?_
  refine ow_val (val_move rfl) rfl ?_
  refine ow_val (val_extract rfl rfl) rfl ?_
  refine ow_val (val_extract rfl rfl) rfl ?_
  refine ow_val (val_extract rfl rfl) rfl ?_
  refine ow_val (val_assign rfl) rfl ?_
  refine ow_val (val_assign rfl) rfl ?_
  refine ow_val (val_assign rfl) rfl ?_
  refine ow_nil (into ?_)
  refine sw_seq ?_
  refine sw_region ?_
  refine ow_val (val_move rfl) rfl ?_
  refine ow_val (val_move rfl) rfl ?_
  refine ow_val ((val_eql_int rfl rfl).to (v' := .bool true) (congrArg Value.bool (decide_eq_true rfl))) rfl ?_
  refine ow_val (val_move rfl) rfl ?_
  refine ow_guard_yes rfl rfl rfl ?_
  refine ow_val (val_move rfl) rfl ?_
  refine ow_guard_yes rfl rfl rfl ?_
  refine ow_val (val_move rfl) rfl ?_
  refine ow_guard_yes rfl rfl rfl ?_
  refine ow_val ((val_eql_int rfl rfl).to (v' := .bool true) (congrArg Value.bool (decide_eq_true rfl))) rfl ?_
  refine ow_val (val_pick_true rfl rfl) rfl ?_
  refine ow_val (val_move rfl) rfl ?_
  refine ow_guard_yes rfl rfl rfl ?_
  refine ow_val (val_move rfl) rfl ?_
  refine ow_guard_yes rfl rfl rfl ?_
  refine ow_val (val_move rfl) rfl ?_
  refine ow_guard_yes rfl rfl rfl ?_
  refine ow_val ((val_eql_int rfl rfl).to (v' := .bool true) (congrArg Value.bool (decide_eq_true rfl))) rfl ?_
  refine ow_val (val_pick_true rfl rfl) rfl ?_
  refine ow_val (val_move rfl) rfl ?_
  refine ow_guard_yes rfl rfl rfl ?_
  refine ow_val (val_move rfl) rfl ?_
  refine ow_guard_yes rfl rfl rfl ?_
  refine ow_val ((val_leq_int rfl rfl).to (congrArg Value.bool (decide_eq_true (by omega)))) rfl ?_
  refine ow_val (val_pick_true rfl rfl) rfl ?_
  refine ow_val (val_move rfl) rfl ?_
  refine ow_guard_yes rfl rfl rfl ?_
  refine ow_val (val_move rfl) rfl ?_
  refine ow_guard_yes rfl rfl rfl ?_
  refine ow_val ((val_leq_int rfl rfl).to (congrArg Value.bool (decide_eq_true (by omega)))) rfl ?_
  refine ow_val (val_pick_true rfl rfl) rfl ?_
  refine ow_val (val_assign rfl) rfl ?_
  refine ow_nil (into ?_)
  exact sw_ret (fun w hm => ret_one _ rfl rfl ⟨rfl, hm.forgetAll⟩)
end Go.Proofs.YtcdponddgnkecaaDoor
