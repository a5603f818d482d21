/- A PLAY OF THE BATON: what the row rests on. -/
import Derived.Test.YtjiajflhfnmkmaaPe
set_option linter.unusedVariables false
set_option linter.unusedSimpArgs false
set_option linter.unusedSectionVars false
section
namespace Go.Bt
variable [Gnd]
open Go.Conc Go.ConcN Go.RowKit Go.Conc.Lib Go.ConcR.Gen
open Go.ConcR (wgBlock WgAt mk)
variable {L : WgLink}
set_option maxRecDepth 100000 in
set_option maxHeartbeats 8000000 in
theorem done_walk {P : Program} (H : WgLib P L) (hL : Is80 L) {Wg qt : Nat} {c : Frame} {cs : List Frame} (hcm : c.mode = .returning) (hT : QuitsD P qt 0 (G c cs)) :
    QG P false Wg (DRel P Wg qt) 30 (G ((baseD L.done).at ⟨#[.pointer (some ⟨Wg, 0, none⟩), undef, undef, undef], []⟩ [.code (body_done L)]) (c :: cs)) := by
  intro w hF
  lib_facts
  simp only [body_done, doneFn, Option.getD_some]
  u_reg rg_rely hF
  u_op rg_rely hF
  refine Goes.step rfl (fun _ h₁ => ?_); replace hF := h₁; clear h₁
  refine goes_call rfl rfl (by k_ne) rfl H.f_add (nm_add L) rfl ⟨by u_nil, ?_⟩
  walk_nrmf addFn
  u_c stepG_seq rg_rely hF
  u_cond true rg_rely hF
  u_c stepG_seq rg_rely hF
  u_c stepG_seq rg_rely hF
  u_reg rg_rely hF
  u_op rg_rely hF
  u_op rg_rely hF
  u_c stepG_region_end rg_rely hF
  u_cond true rg_rely hF
  u_reg rg_rely hF
  u_op rg_rely hF
  u_conv H.underlying_tWgP H.room_tWg (Go.ConcN.Gen.WgLive.cell0 hF).choose_spec rg_rely hF
  refine Goes.stop (fun w₁ h₁ => ?_); replace hF := h₁; clear h₁
  refine ⟨rfl, _, fun w => stepG_markAt .releaseMerge (by simp) rfl rfl (by k_ne) rfl H.f_relMerge (x_relMerge_n L) (x_relMerge_b L) (x_relMerge_x L) (x_relMerge_f L) (by simp [Act.eval, stA]), fun w hF => ?_⟩
  walk_nrm
  u_c stepG_region_end rg_rely hF
  u_c stepG_seq rg_rely hF
  u_reg rg_rely hF
  refine Goes.stop (fun w₁ h₁ => ?_); replace hF := h₁; clear h₁
  refine ⟨rfl, _, fun w => stepG_mark0 .disable (by simp) rfl rfl (by k_ne) rfl H.f_disable (x_disable_n L) (x_disable_b L) (x_disable_x L) (x_disable_f L), fun w hF => ?_⟩
  walk_nrm
  u_c stepG_region_end rg_rely hF
  u_reg rg_rely hF
  u_defer rg_rely hF
  u_c stepG_region_end rg_rely hF
  u_c stepG_seq rg_rely hF
  u_reg rg_rely hF
  u_op rg_rely hF
  u_c stepG_region_end rg_rely hF
  u_c stepG_seq rg_rely hF
  u_c stepG_seq rg_rely hF
  u_reg rg_rely hF
  u_bub rg_rely hF
  u_c stepG_region_end rg_rely hF
  u_cond false rg_rely hF
  u_c stepG_skip rg_rely hF
  u_c stepG_seq rg_rely hF
  u_reg rg_rely hF
  u_op rg_rely hF
  u_op rg_rely hF
  u_op rg_rely hF
  u_op rg_rely hF
  u_op rg_rely hF
  u_op rg_rely hF
  u_call H.f_uAdd (nm_uAdd L) uAddFn rg_rely hF
  u_c stepG_seq rg_rely hF
  u_reg rg_rely hF
  u_op rg_rely hF
  u_c stepG_region_end rg_rely hF
  u_c stepG_seq rg_rely hF
  u_reg rg_rely hF
  u_op rg_rely hF
  u_op rg_rely hF
  u_op rg_rely hF
  u_op rg_rely hF
  refine Goes.stop (fun w₁ h₁ => ?_); replace hF := h₁; clear h₁
  refine ⟨rfl, fun w v wt hwt hv hw => ?_⟩
  have e0 : IntKind.u64.wrap (4294967296 + 18446744069414584320) = 0 := by decide
  have e1 : IntKind.u64.wrap (4294967297 + 18446744069414584320) = 1 := by decide
  rcases Nat.eq_zero_or_pos v with rfl | hv0 <;> (obtain rfl | rfl : wt = 0 ∨ wt = 1 := by omega)
  · have hw : WgAt 80 Wg w 4294967296 0 := by simpa [KK] using (show WgAt 80 Wg w _ 0 from hw)
    have z : ((0 : Nat) : Int) * KK + ((0 : Nat) : Int) = 0 := by simp
    rw [z]
    refine ⟨_, (stepG_add_atomic rfl rfl (by k_ne) rfl H.f_addU64 (x_addU64_n L) (x_addU64_b L) (x_addU64_x L) .u64 (x_addU64_f L) rfl rfl hw.cellSt (hw.thaw 0)).trans (by rw [e0]; rfl), fun _ => ?_, fun hl => absurd hl.2 (by decide)⟩
    clear hw
    walk_nrm
    q_vn (Value.int IntKind.u64 0)
    q_c stepG_region_end
    q_c stepG_ret'
    q_leave1 H.f_uAdd
    q_vn (Value.int IntKind.u64 0)
    q_c stepG_region_end
    q_c stepG_seq
    q_c stepG_seq
    q_reg
    q_vn (Value.int IntKind.u64 0)
    q_vn (Value.int IntKind.u64 0)
    q_vn (Value.bool false)
    q_vn (Value.bool false)
    q_skip
    q_skip
    q_vn (Value.bool false)
    q_c stepG_region_end
    q_cond false
    q_c stepG_skip
    q_c stepG_seq
    q_reg
    q_vn (Value.int IntKind.u64 0)
    q_vn (Value.int IntKind.u64 0)
    q_vn (Value.int IntKind.i32 0)
    q_vn (Value.int IntKind.i32 0)
    q_c stepG_region_end
    q_c stepG_seq
    q_reg
    q_vn (Value.int IntKind.u64 0)
    q_vn (Value.int IntKind.u64 0)
    q_vn (Value.int IntKind.u32 0)
    q_vn (Value.int IntKind.u32 0)
    q_c stepG_region_end
    q_c stepG_seq
    q_c stepG_seq
    q_reg
    q_vn (Value.bool true)
    q_vn (Value.int IntKind.i64 (-1))
    q_vn (Value.bool false)
    q_vn (Value.bool false)
    q_vn (Value.bool false)
    q_skip
    q_skip
    q_skip
    q_skip
    q_vn (Value.bool false)
    q_c stepG_region_end
    q_cond false
    q_c stepG_skip
    q_c stepG_seq
    q_c stepG_seq
    q_reg
    q_vn (Value.int IntKind.i32 0)
    q_vn (Value.bool false)
    q_c stepG_region_end
    q_cond false
    q_c stepG_skip
    q_c stepG_seq
    q_c stepG_seq
    q_reg
    q_vn (Value.int IntKind.u32 0)
    q_vn (Value.bool false)
    q_vn (Value.bool false)
    q_skip
    q_skip
    q_vn (Value.bool false)
    q_vn (Value.bool false)
    q_skip
    q_skip
    q_skip
    q_skip
    q_vn (Value.bool false)
    q_c stepG_region_end
    q_cond false
    q_c stepG_skip
    q_c stepG_seq
    q_c stepG_seq
    q_reg
    q_vn (Value.int IntKind.i32 0)
    q_vn (Value.bool false)
    q_vn (Value.bool false)
    q_vn (Value.int IntKind.u32 0)
    q_vn (Value.bool true)
    q_vn (Value.bool true)
    q_c stepG_region_end
    q_cond true
    q_c stepG_ret'
    q_enable
    q_leave0 H.f_add
    q_c stepG_region_end
    q_c stepG_end
    refine QuitsD.leaveD rfl rfl H.f_done rfl hcm ?_
    exact qd_mono hT (by omega)
  · have hw : WgAt 80 Wg w 4294967297 0 := by simpa [KK] using (show WgAt 80 Wg w _ 0 from hw)
    have z : ((0 : Nat) : Int) * KK + ((1 : Nat) : Int) = 1 := by simp
    rw [z]
    refine ⟨_, (stepG_add_atomic rfl rfl (by k_ne) rfl H.f_addU64 (x_addU64_n L) (x_addU64_b L) (x_addU64_x L) .u64 (x_addU64_f L) rfl rfl hw.cellSt (hw.thaw 0)).trans (by rw [e1]; rfl), fun hl => absurd ⟨rfl, rfl⟩ hl, fun _ w hF => ?_⟩
    clear hw
    walk_nrm
    u_op rg_rely hF
    u_c stepG_region_end rg_rely hF
    u_c stepG_ret' rg_rely hF
    u_leave1 H.f_uAdd rg_rely hF
    u_op rg_rely hF
    u_c stepG_region_end rg_rely hF
    u_c stepG_seq rg_rely hF
    u_c stepG_seq rg_rely hF
    u_reg rg_rely hF
    u_op rg_rely hF
    u_op rg_rely hF
    u_op rg_rely hF
    u_op rg_rely hF
    u_skip rg_rely hF
    u_skip rg_rely hF
    u_op rg_rely hF
    u_c stepG_region_end rg_rely hF
    u_cond false rg_rely hF
    u_c stepG_skip rg_rely hF
    u_c stepG_seq rg_rely hF
    u_reg rg_rely hF
    u_op rg_rely hF
    u_op rg_rely hF
    u_op rg_rely hF
    u_op rg_rely hF
    u_c stepG_region_end rg_rely hF
    u_c stepG_seq rg_rely hF
    u_reg rg_rely hF
    u_op rg_rely hF
    u_op rg_rely hF
    u_op rg_rely hF
    u_op rg_rely hF
    u_c stepG_region_end rg_rely hF
    u_c stepG_seq rg_rely hF
    u_c stepG_seq rg_rely hF
    u_reg rg_rely hF
    u_op rg_rely hF
    u_op rg_rely hF
    u_op rg_rely hF
    u_op rg_rely hF
    u_op rg_rely hF
    u_skip rg_rely hF
    u_skip rg_rely hF
    u_skip rg_rely hF
    u_skip rg_rely hF
    u_op rg_rely hF
    u_c stepG_region_end rg_rely hF
    u_cond false rg_rely hF
    u_c stepG_skip rg_rely hF
    u_c stepG_seq rg_rely hF
    u_c stepG_seq rg_rely hF
    u_reg rg_rely hF
    u_op rg_rely hF
    u_op rg_rely hF
    u_c stepG_region_end rg_rely hF
    u_cond false rg_rely hF
    u_c stepG_skip rg_rely hF
    u_c stepG_seq rg_rely hF
    u_c stepG_seq rg_rely hF
    u_reg rg_rely hF
    u_op rg_rely hF
    u_op rg_rely hF
    u_op rg_rely hF
    u_op rg_rely hF
    u_op rg_rely hF
    u_op rg_rely hF
    u_op rg_rely hF
    u_skip rg_rely hF
    u_skip rg_rely hF
    u_skip rg_rely hF
    u_skip rg_rely hF
    u_op rg_rely hF
    u_c stepG_region_end rg_rely hF
    u_cond false rg_rely hF
    u_c stepG_skip rg_rely hF
    u_c stepG_seq rg_rely hF
    u_c stepG_seq rg_rely hF
    u_reg rg_rely hF
    u_op rg_rely hF
    u_op rg_rely hF
    u_op rg_rely hF
    u_op rg_rely hF
    u_op rg_rely hF
    u_op rg_rely hF
    u_c stepG_region_end rg_rely hF
    u_cond false rg_rely hF
    u_c stepG_skip rg_rely hF
    u_c stepG_seq rg_rely hF
    u_c stepG_seq rg_rely hF
    u_reg rg_rely hF
    u_op rg_rely hF
    u_op rg_rely hF
    u_op rg_rely hF
    u_call H.f_uLoad (nm_uLoad L) uLoadFn rg_rely hF
    u_c stepG_seq rg_rely hF
    u_reg rg_rely hF
    u_op rg_rely hF
    u_c stepG_region_end rg_rely hF
    u_c stepG_seq rg_rely hF
    u_reg rg_rely hF
    u_op rg_rely hF
    u_op rg_rely hF
    u_op rg_rely hF
    refine Goes.stop (fun w₁ h₁ => ?_); replace hF := h₁; clear h₁
    refine ⟨rfl, fun w hw => ⟨_, stepG_load_atomic rfl rfl (by k_ne) rfl H.f_loadU64 (x_loadU64_n L) (x_loadU64_b L) (x_loadU64_x L) .u64 (x_loadU64_f L) rfl (show WgAt 80 Wg w 1 0 from hw).cellSt, fun w hF => ?_⟩⟩
    clear hw
    walk_nrm
    u_op rg_rely hF
    u_c stepG_region_end rg_rely hF
    u_c stepG_ret' rg_rely hF
    u_leave1 H.f_uLoad rg_rely hF
    u_op rg_rely hF
    u_op rg_rely hF
    u_c stepG_region_end rg_rely hF
    u_cond false rg_rely hF
    u_c stepG_skip rg_rely hF
    u_c stepG_seq rg_rely hF
    u_reg rg_rely hF
    u_op rg_rely hF
    u_op rg_rely hF
    u_op rg_rely hF
    u_call H.f_uStore (nm_uStore L) uStoreFn rg_rely hF
    u_reg rg_rely hF
    u_op rg_rely hF
    u_op rg_rely hF
    u_op rg_rely hF
    u_op rg_rely hF
    refine Goes.stop (fun w₁ h₁ => ?_); replace hF := h₁; clear h₁
    refine ⟨rfl, fun w hw => ⟨_, stepG_store_atomic rfl rfl (by k_ne) rfl H.f_storeU64 (x_storeU64_n L) (x_storeU64_b L) (x_storeU64_x L) (x_storeU64_f L) rfl rfl (show WgAt 80 Wg w 1 0 from hw).cellSt ((show WgAt 80 Wg w 1 0 from hw).thaw 0), fun w hF => ?_⟩⟩
    clear hw
    walk_nrm
    u_c stepG_region_end rg_rely hF
    u_c stepG_end rg_rely hF
    u_leave0 H.f_uStore rg_rely hF
    u_c stepG_region_end rg_rely hF
    u_c stepG_seq rg_rely hF
    u_c stepG_seq rg_rely hF
    u_reg rg_rely hF
    u_op rg_rely hF
    u_c stepG_region_end rg_rely hF
    u_cond false rg_rely hF
    u_c stepG_skip rg_rely hF
    u_c stepG_block rg_rely hF
    u_c stepG_loop rg_rely hF
    u_c stepG_seq rg_rely hF
    u_c stepG_seq rg_rely hF
    u_reg rg_rely hF
    u_op rg_rely hF
    u_op rg_rely hF
    u_c stepG_region_end rg_rely hF
    u_cond true rg_rely hF
    u_c stepG_skip rg_rely hF
    u_c stepG_seq rg_rely hF
    u_c stepG_block rg_rely hF
    u_reg rg_rely hF
    u_op rg_rely hF
    u_op rg_rely hF
    u_op rg_rely hF
    refine Goes.stop (fun w₁ h₁ => ?_); replace hF := h₁; clear h₁
    refine ⟨rfl, mayWake_entry rfl rfl H.f_semrelease (x_semrelease_b L), fun w hw => ⟨_, (stepG_semrelease rfl rfl (by k_ne) rfl H.f_semrelease (x_semrelease_n L) (x_semrelease_b L) (x_semrelease_x L) (x_semrelease_f L) (by simp [Act.eval, Go.ConcR.smA]) (show WgAt 80 Wg w 0 0 from hw).cellSm ((show WgAt 80 Wg w 0 0 from hw).thaw 1)).trans (by rfl), rfl, ?_⟩⟩
    clear hw
    walk_nrm
    q_c stepG_region_end
    q_c stepG_inBlock
    q_reg
    q_vn (Value.int IntKind.u32 1)
    q_vn (Value.int IntKind.u32 0)
    q_vn (Value.int IntKind.u32 0)
    q_c stepG_region_end
    q_c stepG_inLoop
    q_c stepG_seq
    q_c stepG_seq
    q_reg
    q_vn (Value.int IntKind.u32 0)
    q_vn (Value.bool false)
    q_c stepG_region_end
    q_cond false
    q_exit
    q_c stepG_end
    q_enable
    q_leave0 H.f_add
    q_c stepG_region_end
    q_c stepG_end
    refine QuitsD.leaveD rfl rfl H.f_done rfl hcm ?_
    exact qd_mono hT (by omega)
  · have hw : WgAt 80 Wg w (((v : Int) + 1) * KK + 0) 0 := by rw [show (((v : Int) + 1) * KK + 0) = (((v + 1 : Nat) : Int) * KK + ((0 : Nat) : Int)) by simp]; exact hw
    have eS : IntKind.u64.wrap (((v : Int) + 1) * KK + 0 + 18446744069414584320) = (v : Int) * KK + 0 := by rw [IntKind.wrap_u64]; simp only [KK]; omega
    obtain ⟨S, hS⟩ : ∃ S : Int, S = (v : Int) * KK + 0 := ⟨_, rfl⟩
    have z : ((v : Nat) : Int) * KK + ((0 : Nat) : Int) = S := by rw [hS]; simp
    rw [z]
    rw [← hS] at eS
    have a1 : S / 4294967296 = (v : Int) := by rw [hS]; simp only [KK]; omega
    have a2 : 0 ≤ S ∧ S < 9223372036854775808 := by rw [hS]; simp only [KK]; omega
    have b1 : bits .and .u64 S 2147483648 = 0 := by rw [hS]; have := st_flag v 0 (by omega) (by omega); simpa [Go.ConcR.KK, KK] using this
    have b2 : bits .and .u64 S 2147483647 = 0 := by rw [hS]; have := st_waiters v 0 (by omega) (by omega); simpa [Go.ConcR.KK, KK] using this
    obtain ⟨V, hV⟩ : ∃ V : Int, V = (v : Int) := ⟨_, rfl⟩
    rw [← hV] at a1
    have c1 : IntKind.i32.wrap V = V := by rw [IntKind.wrap_i32]; omega
    have q0 : (V == -1) = false := by simp; omega
    have q1 : decide (V = -1) = false := decide_eq_false (by omega)
    have q3 : decide (V < 0) = false := decide_eq_false (by omega)
    have q4 : decide (0 < V) = true := decide_eq_true (by omega)
    have q5 : (V == 0) = false := by simp; omega
    have q6 : decide (V = 0) = false := decide_eq_false (by omega)
    clear hS hV z
    refine ⟨_, (stepG_add_atomic rfl rfl (by k_ne) rfl H.f_addU64 (x_addU64_n L) (x_addU64_b L) (x_addU64_x L) .u64 (x_addU64_f L) rfl rfl hw.cellSt (hw.thaw 0)).trans (by rw [eS]; rfl), fun _ => ?_, fun hl => absurd hl.1 (by omega)⟩
    clear hw
    walk_nrm
    q_vn (Value.int IntKind.u64 S)
    q_c stepG_region_end
    q_c stepG_ret'
    q_leave1 H.f_uAdd
    q_vn (Value.int IntKind.u64 S)
    q_c stepG_region_end
    q_c stepG_seq
    q_c stepG_seq
    q_reg
    q_vn (Value.int IntKind.u64 S)
    q_vn (Value.int IntKind.u64 0)
    q_vn (Value.bool false)
    q_vn (Value.bool false)
    q_skip
    q_skip
    q_vn (Value.bool false)
    q_c stepG_region_end
    q_cond false
    q_c stepG_skip
    q_c stepG_seq
    q_reg
    q_vn (Value.int IntKind.u64 S)
    q_vn (Value.int IntKind.u64 V)
    q_vn (Value.int IntKind.i32 V)
    q_vn (Value.int IntKind.i32 V)
    q_c stepG_region_end
    q_c stepG_seq
    q_reg
    q_vn (Value.int IntKind.u64 S)
    q_vn (Value.int IntKind.u64 0)
    q_vn (Value.int IntKind.u32 0)
    q_vn (Value.int IntKind.u32 0)
    q_c stepG_region_end
    q_c stepG_seq
    q_c stepG_seq
    q_reg
    q_vn (Value.bool true)
    q_vn (Value.int IntKind.i64 (-1))
    q_vn (Value.bool false)
    q_vn (Value.bool false)
    q_vn (Value.bool false)
    q_skip
    q_skip
    q_skip
    q_skip
    q_vn (Value.bool false)
    q_c stepG_region_end
    q_cond false
    q_c stepG_skip
    q_c stepG_seq
    q_c stepG_seq
    q_reg
    q_vn (Value.int IntKind.i32 V)
    q_vn (Value.bool false)
    q_c stepG_region_end
    q_cond false
    q_c stepG_skip
    q_c stepG_seq
    q_c stepG_seq
    q_reg
    q_vn (Value.int IntKind.u32 0)
    q_vn (Value.bool false)
    q_vn (Value.bool false)
    q_skip
    q_skip
    q_vn (Value.bool false)
    q_vn (Value.bool false)
    q_skip
    q_skip
    q_skip
    q_skip
    q_vn (Value.bool false)
    q_c stepG_region_end
    q_cond false
    q_c stepG_skip
    q_c stepG_seq
    q_c stepG_seq
    q_reg
    q_vn (Value.int IntKind.i32 V)
    q_vn (Value.bool true)
    q_vn (Value.bool true)
    q_skip
    q_skip
    q_vn (Value.bool true)
    q_c stepG_region_end
    q_cond true
    q_c stepG_ret'
    q_enable
    q_leave0 H.f_add
    q_c stepG_region_end
    q_c stepG_end
    refine QuitsD.leaveD rfl rfl H.f_done rfl hcm ?_
    exact qd_mono hT (by omega)
  · have hw : WgAt 80 Wg w (((v : Int) + 1) * KK + 1) 0 := by rw [show (((v : Int) + 1) * KK + 1) = (((v + 1 : Nat) : Int) * KK + ((1 : Nat) : Int)) by simp]; exact hw
    have eS : IntKind.u64.wrap (((v : Int) + 1) * KK + 1 + 18446744069414584320) = (v : Int) * KK + 1 := by rw [IntKind.wrap_u64]; simp only [KK]; omega
    obtain ⟨S, hS⟩ : ∃ S : Int, S = (v : Int) * KK + 1 := ⟨_, rfl⟩
    have z : ((v : Nat) : Int) * KK + ((1 : Nat) : Int) = S := by rw [hS]; simp
    rw [z]
    rw [← hS] at eS
    have a1 : S / 4294967296 = (v : Int) := by rw [hS]; simp only [KK]; omega
    have a2 : 0 ≤ S ∧ S < 9223372036854775808 := by rw [hS]; simp only [KK]; omega
    have b1 : bits .and .u64 S 2147483648 = 0 := by rw [hS]; have := st_flag v 1 (by omega) (by omega); simpa [Go.ConcR.KK, KK] using this
    have b2 : bits .and .u64 S 2147483647 = 1 := by rw [hS]; have := st_waiters v 1 (by omega) (by omega); simpa [Go.ConcR.KK, KK] using this
    obtain ⟨V, hV⟩ : ∃ V : Int, V = (v : Int) := ⟨_, rfl⟩
    rw [← hV] at a1
    have c1 : IntKind.i32.wrap V = V := by rw [IntKind.wrap_i32]; omega
    have q0 : (V == -1) = false := by simp; omega
    have q1 : decide (V = -1) = false := decide_eq_false (by omega)
    have q3 : decide (V < 0) = false := decide_eq_false (by omega)
    have q4 : decide (0 < V) = true := decide_eq_true (by omega)
    have q5 : (V == 0) = false := by simp; omega
    have q6 : decide (V = 0) = false := decide_eq_false (by omega)
    clear hS hV z
    refine ⟨_, (stepG_add_atomic rfl rfl (by k_ne) rfl H.f_addU64 (x_addU64_n L) (x_addU64_b L) (x_addU64_x L) .u64 (x_addU64_f L) rfl rfl hw.cellSt (hw.thaw 0)).trans (by rw [eS]; rfl), fun _ => ?_, fun hl => absurd hl.1 (by omega)⟩
    clear hw
    walk_nrm
    q_vn (Value.int IntKind.u64 S)
    q_c stepG_region_end
    q_c stepG_ret'
    q_leave1 H.f_uAdd
    q_vn (Value.int IntKind.u64 S)
    q_c stepG_region_end
    q_c stepG_seq
    q_c stepG_seq
    q_reg
    q_vn (Value.int IntKind.u64 S)
    q_vn (Value.int IntKind.u64 0)
    q_vn (Value.bool false)
    q_vn (Value.bool false)
    q_skip
    q_skip
    q_vn (Value.bool false)
    q_c stepG_region_end
    q_cond false
    q_c stepG_skip
    q_c stepG_seq
    q_reg
    q_vn (Value.int IntKind.u64 S)
    q_vn (Value.int IntKind.u64 V)
    q_vn (Value.int IntKind.i32 V)
    q_vn (Value.int IntKind.i32 V)
    q_c stepG_region_end
    q_c stepG_seq
    q_reg
    q_vn (Value.int IntKind.u64 S)
    q_vn (Value.int IntKind.u64 1)
    q_vn (Value.int IntKind.u32 1)
    q_vn (Value.int IntKind.u32 1)
    q_c stepG_region_end
    q_c stepG_seq
    q_c stepG_seq
    q_reg
    q_vn (Value.bool true)
    q_vn (Value.int IntKind.i64 (-1))
    q_vn (Value.bool false)
    q_vn (Value.bool false)
    q_vn (Value.bool false)
    q_skip
    q_skip
    q_skip
    q_skip
    q_vn (Value.bool false)
    q_c stepG_region_end
    q_cond false
    q_c stepG_skip
    q_c stepG_seq
    q_c stepG_seq
    q_reg
    q_vn (Value.int IntKind.i32 V)
    q_vn (Value.bool false)
    q_c stepG_region_end
    q_cond false
    q_c stepG_skip
    q_c stepG_seq
    q_c stepG_seq
    q_reg
    q_vn (Value.int IntKind.u32 1)
    q_vn (Value.bool true)
    q_vn (Value.bool true)
    q_vn (Value.int IntKind.i64 (-1))
    q_vn (Value.bool false)
    q_vn (Value.bool false)
    q_vn (Value.bool false)
    q_skip
    q_skip
    q_skip
    q_skip
    q_vn (Value.bool false)
    q_c stepG_region_end
    q_cond false
    q_c stepG_skip
    q_c stepG_seq
    q_c stepG_seq
    q_reg
    q_vn (Value.int IntKind.i32 V)
    q_vn (Value.bool true)
    q_vn (Value.bool true)
    q_skip
    q_skip
    q_vn (Value.bool true)
    q_c stepG_region_end
    q_cond true
    q_c stepG_ret'
    q_enable
    q_leave0 H.f_add
    q_c stepG_region_end
    q_c stepG_end
    refine QuitsD.leaveD rfl rfl H.f_done rfl hcm ?_
    exact qd_mono hT (by omega)
end Go.Bt
end
