/- A PLAY OF THE BATON: what the row rests on. -/
import Derived.Test.YtjiajflhfnmkmaaPd
import Derived.Conc.WgGenWait
import Derived.Conc.WgGenN3
set_option linter.unusedVariables false
set_option linter.unusedSimpArgs false
set_option linter.unusedSectionVars false
section
namespace Go.Bt
variable [Gnd]
open Go.Conc Go.ConcN Go.RowKit Go.Conc.Lib Go.ConcR.Gen
open Go.ConcR (wgBlock WgAt mk)
variable {L : WgLink}
/-- At the head of Wait's loop. -/
def AnchB (L : WgLink) (Wg : Nat) (c : Frame) (cs : List Frame) (g : Goroutine) : Prop :=
  ∃ T : Array Value, g = G ((base L.wait).at ⟨T, []⟩ [.code (L7 L), .inLoop (L7 L), .inBlock 0]) (c :: cs) ∧ T.size = 84 ∧ T[0]? = some (.pointer (some ⟨Wg, 0, none⟩))
section
variable {P : Program} {Wg : Nat} {b₀ : Frame} {a₀ : Act} {ops₀ : Array Oper} {i₀ : Nat} {rest₀ : List Nat} {k₀ : List Item} {cs : List Frame}
theorem AnchB.running {c : Frame} {g : Goroutine} (h : AnchB L Wg c cs g) : g.status = .running := by obtain ⟨_, rfl, _⟩ := h; rfl
set_option maxRecDepth 100000 in
set_option maxHeartbeats 8000000 in
theorem wait_start (H : WgLib P L) (hL : Is80 L) :
    Q0 P Wg (WKd P Wg (AnchB L Wg (b₀.at a₀ (.inRegion ops₀ (i₀ :: rest₀) :: k₀)) cs)) 5
      (G ((base L.wait).at ⟨#[.pointer (some ⟨Wg, 0, none⟩)] ++ Array.replicate 83 undef, []⟩ [.code (body_wait L)]) (b₀.at a₀ (.inRegion ops₀ (i₀ :: rest₀) :: k₀) :: cs)) := by
  intro w hF
  lib_facts
  simp only [body_wait, waitFn, Option.getD_some, Array.replicate, List.replicate, List.append_toArray, List.cons_append, List.nil_append]
  u_c stepG_seq rg_rely hF
  u_cond true rg_rely hF
  u_reg rg_rely hF
  refine Goes.stop (fun w₁ h₁ => ?_); replace hF := h₁; clear h₁
  refine ⟨rfl, _, fun w => stepG_mark0 .disable (by simp) rfl rfl (by k_ne) rfl H.f_disable (x_disable_n L) (x_disable_b L) (x_disable_x L) (x_disable_f L), 5, fun w hF => ?_⟩
  walk_nrm
  u_c stepG_region_end rg_rely hF
  u_c stepG_block rg_rely hF
  u_c stepG_loop rg_rely hF
  exact Goes.stop (fun w₂ h₂ => ⟨_, rfl, by simp, by simp⟩)
set_option maxRecDepth 100000 in
set_option maxHeartbeats 8000000 in
theorem wait_round (H : WgLib P L) (hL : Is80 L) (g : Goroutine) (h : AnchB L Wg (b₀.at a₀ (.inRegion ops₀ (i₀ :: rest₀) :: k₀)) cs g) :
    Q0 P Wg (W1 P Wg (G (b₀.at (a₀.put ((ops₀[i₀]?).bind (·.dst)) (.tuple #[])) (.inRegion ops₀ rest₀ :: k₀)) cs) (AnchB L Wg (b₀.at a₀ (.inRegion ops₀ (i₀ :: rest₀) :: k₀)) cs)) 30 g := by
  intro w hF
  lib_facts
  obtain ⟨T, rfl, hT84, t0⟩ := h
  obtain ⟨v0, v1, v2, v3, v4, v5, v6, v7, v8, v9, v10, v11, v12, v13, v14, v15, v16, v17, v18, v19, v20, v21, v22, v23, v24, v25, v26, v27, v28, v29, v30, v31, v32, v33, v34, v35, v36, v37, v38, v39, v40, v41, v42, v43, v44, v45, v46, v47, v48, v49, v50, v51, v52, v53, v54, v55, v56, v57, v58, v59, v60, v61, v62, v63, v64, v65, v66, v67, v68, v69, v70, v71, v72, v73, v74, v75, v76, v77, v78, v79, v80, v81, v82, v83, rfl⟩ := array84 T hT84
  simp only [List.getElem?_toArray, List.getElem?_cons_zero, Option.some.injEq] at t0
  subst t0
  simp only [L7, body_wait, waitFn, Option.getD_some]
  u_c stepG_block rg_rely hF
  u_c stepG_seq rg_rely hF
  u_reg rg_rely hF
  u_op rg_rely hF
  u_op rg_rely hF
  u_op rg_rely hF
  u_call H.f_uLoad (nm_uLoad L) uLoadFn rg_rely hF
  u_c stepG_seq rg_rely hF
  u_reg rg_rely hF
  u_op rg_rely hF
  u_c stepG_region_end rg_rely hF
  u_c stepG_seq rg_rely hF
  u_reg rg_rely hF
  u_op rg_rely hF
  u_op rg_rely hF
  u_op rg_rely hF
  refine Goes.stop (fun w₁ h₁ => ?_); replace hF := h₁; clear h₁
  refine ⟨rfl, fun w v hv hw => ?_⟩
  have hw : WgAt 80 Wg w ((v : Int) * KK) 0 := hw
  rcases Nat.eq_zero_or_pos v with rfl | hvp
  · have hw : WgAt 80 Wg w 0 0 := by simpa using hw
    refine ⟨_, stepG_load_atomic (v := 0) rfl rfl (by k_ne) rfl H.f_loadU64 (x_loadU64_n L) (x_loadU64_b L) (x_loadU64_x L) .u64 (x_loadU64_f L) rfl hw.cellSt, fun _ => ⟨60, fun w hF => ?_⟩, fun h => absurd rfl h⟩
    clear hw
    walk_nrm
    u_op rg_rely hF
    u_c stepG_region_end rg_rely hF
    u_c stepG_ret' rg_rely hF
    u_leave1 H.f_uLoad rg_rely hF
    u_op rg_rely hF
    u_c stepG_region_end rg_rely hF
    u_c stepG_seq rg_rely hF
    u_reg rg_rely hF
    u_op rg_rely hF
    u_op rg_rely hF
    u_op rg_rely hF
    u_op rg_rely hF
    u_c stepG_region_end rg_rely hF
    u_c stepG_seq rg_rely hF
    u_reg rg_rely hF
    u_op rg_rely hF
    u_op rg_rely hF
    u_op rg_rely hF
    u_op rg_rely hF
    u_c stepG_region_end rg_rely hF
    u_c stepG_seq rg_rely hF
    u_c stepG_seq rg_rely hF
    u_reg rg_rely hF
    u_op rg_rely hF
    u_op rg_rely hF
    u_c stepG_region_end rg_rely hF
    u_cond true rg_rely hF
    u_c stepG_seq rg_rely hF
    u_cond true rg_rely hF
    u_c stepG_seq rg_rely hF
    u_reg rg_rely hF
    refine Goes.stop (fun w₁ h₁ => ?_); replace hF := h₁; clear h₁
    refine ⟨rfl, _, fun w => stepG_mark0 .enable (by simp) rfl rfl (by k_ne) rfl H.f_enable (x_enable_n L) (x_enable_b L) (x_enable_x L) (x_enable_f L), 40, fun w hF => ?_⟩
    walk_nrm
    u_c stepG_region_end rg_rely hF
    u_reg rg_rely hF
    u_op rg_rely hF
    u_conv H.underlying_tWgP H.room_tWg (Go.ConcN.Gen.WgLive.cell0 hF).choose_spec rg_rely hF
    refine Goes.stop (fun w₁ h₁ => ?_); replace hF := h₁; clear h₁
    refine ⟨rfl, _, fun w => stepG_markAt .acquire (by simp) rfl rfl (by k_ne) rfl H.f_acquire (x_acquire_n L) (x_acquire_b L) (x_acquire_x L) (x_acquire_f L) (by simp [Act.eval, stA]), 40, fun w hF => ?_⟩
    walk_nrm
    u_c stepG_region_end rg_rely hF
    u_c stepG_seq rg_rely hF
    u_c stepG_seq rg_rely hF
    u_reg rg_rely hF
    u_op rg_rely hF
    u_op rg_rely hF
    u_op rg_rely hF
    u_op rg_rely hF
    u_op rg_rely hF
    u_op rg_rely hF
    u_op rg_rely hF
    u_op rg_rely hF
    u_skip rg_rely hF
    u_skip rg_rely hF
    u_op rg_rely hF
    u_c stepG_region_end rg_rely hF
    u_cond false rg_rely hF
    u_c stepG_skip rg_rely hF
    u_c stepG_ret' rg_rely hF
    u_leave0 H.f_wait rg_rely hF
    exact Goes.stop (fun _ _ => rfl)
  · obtain ⟨S, hS⟩ : ∃ S : Int, (v : Int) * KK = S := ⟨_, rfl⟩
    have a1 : S / 4294967296 = (v : Int) := by rw [← hS]; simp only [KK]; omega
    have b1 : bits .and .u64 S 2147483648 = 0 := by rw [← hS]; have := st_flag v 0 (by omega) (by omega); simpa [Go.ConcR.KK, KK] using this
    have b2 : bits .and .u64 S 2147483647 = 0 := by rw [← hS]; have := st_waiters v 0 (by omega) (by omega); simpa [Go.ConcR.KK, KK] using this
    have c1 : IntKind.i32.wrap (v : Int) = (v : Int) := by rw [IntKind.wrap_i32]; omega
    have w1 : IntKind.u64.wrap (S + 1) = S + 1 := by rw [IntKind.wrap_u64, ← hS]; simp only [KK]; omega
    have q3 : decide ((v : Int) < 0) = false := decide_eq_false (by omega)
    have q4 : decide (0 < (v : Int)) = true := decide_eq_true (by omega)
    have q5 : ((v : Int) == 0) = false := by simp; omega
    have q6 : decide ((v : Int) = 0) = false := decide_eq_false (by omega)
    rw [hS] at hw
    refine ⟨_, stepG_load_atomic (v := S) rfl rfl (by k_ne) rfl H.f_loadU64 (x_loadU64_n L) (x_loadU64_b L) (x_loadU64_x L) .u64 (x_loadU64_f L) rfl hw.cellSt, fun h0 => absurd h0 (by omega), fun _ => ⟨70, fun w hF => ?_⟩⟩
    clear hw
    walk_nrm
    u_op rg_rely hF
    u_c stepG_region_end rg_rely hF
    u_c stepG_ret' rg_rely hF
    u_leave1 H.f_uLoad rg_rely hF
    u_op rg_rely hF
    u_c stepG_region_end rg_rely hF
    u_c stepG_seq rg_rely hF
    u_reg rg_rely hF
    u_op rg_rely hF
    u_op rg_rely hF
    u_op rg_rely hF
    u_op rg_rely hF
    u_c stepG_region_end rg_rely hF
    u_c stepG_seq rg_rely hF
    u_reg rg_rely hF
    u_op rg_rely hF
    u_op rg_rely hF
    u_op rg_rely hF
    u_op rg_rely hF
    u_c stepG_region_end rg_rely hF
    u_c stepG_seq rg_rely hF
    u_c stepG_seq rg_rely hF
    u_reg rg_rely hF
    u_op rg_rely hF
    u_op rg_rely hF
    u_c stepG_region_end rg_rely hF
    u_cond false rg_rely hF
    u_c stepG_skip rg_rely hF
    u_c stepG_seq rg_rely hF
    u_reg rg_rely hF
    u_op rg_rely hF
    u_op rg_rely hF
    u_op rg_rely hF
    u_op rg_rely hF
    u_op rg_rely hF
    u_op rg_rely hF
    u_call H.f_uCas (nm_uCas L) uCasFn rg_rely hF
    u_c stepG_seq rg_rely hF
    u_reg rg_rely hF
    u_op rg_rely hF
    u_c stepG_region_end rg_rely hF
    u_c stepG_seq rg_rely hF
    u_reg rg_rely hF
    u_op rg_rely hF
    u_op rg_rely hF
    u_op rg_rely hF
    u_op rg_rely hF
    u_op rg_rely hF
    refine Goes.stop (fun w₁ h₁ => ?_); replace hF := h₁; clear h₁
    refine ⟨rfl, fun u v' hv' hu => ⟨fun e => ?_, fun e => ?_⟩⟩
    · subst e
      have hw : WgAt 80 Wg u ((v' : Int) * KK) 0 := hu
      clear hu
      rw [hS] at hw ⊢
      refine ⟨_, (stepG_cas_hit (v := S) (n := S + 1) rfl rfl (by k_ne) rfl H.f_casU64 (x_casU64_n L) (x_casU64_b L) (x_casU64_x L) .u64 (x_casU64_f L) rfl rfl rfl hw.cellSt (hw.thaw 0)).trans (by rfl), 70, fun w hF => ?_⟩
      clear hw
      walk_nrm
      u_op rg_rely hF
      u_c stepG_region_end rg_rely hF
      u_c stepG_ret' rg_rely hF
      u_leave1 H.f_uCas rg_rely hF
      u_c stepG_region_end rg_rely hF
      u_cond true rg_rely hF
      u_c stepG_seq rg_rely hF
      u_c stepG_seq rg_rely hF
      u_reg rg_rely hF
      u_op rg_rely hF
      u_op rg_rely hF
      u_op rg_rely hF
      u_op rg_rely hF
      u_c stepG_region_end rg_rely hF
      u_cond true rg_rely hF
      u_reg rg_rely hF
      u_op rg_rely hF
      u_op rg_rely hF
      u_op rg_rely hF
      u_conv H.underlying_tPU32 H.room_tU32 (Go.ConcN.Gen.WgLive.cell1 hF).choose_spec rg_rely hF
      refine Goes.stop (fun w₁ h₁ => ?_); replace hF := h₁; clear h₁
      refine ⟨rfl, _, fun w => stepG_markAt .write (by simp) rfl rfl (by k_ne) rfl H.f_raceWrite (x_raceWrite_n L) (x_raceWrite_b L) (x_raceWrite_x L) (x_raceWrite_f L) (ad := ⟨_, 1, none⟩) (by simp [Act.eval] <;> rfl), 70, fun w hF => ?_⟩
      walk_nrm
      u_c stepG_region_end rg_rely hF
      u_c stepG_seq rg_rely hF
      u_reg rg_rely hF
      u_op rg_rely hF
      u_c stepG_region_end rg_rely hF
      u_c stepG_seq rg_rely hF
      u_c stepG_seq rg_rely hF
      u_reg rg_rely hF
      u_op rg_rely hF
      u_op rg_rely hF
      u_op rg_rely hF
      u_op rg_rely hF
      u_skip rg_rely hF
      u_op rg_rely hF
      u_c stepG_region_end rg_rely hF
      u_cond false rg_rely hF
      u_c stepG_skip rg_rely hF
      u_c stepG_seq rg_rely hF
      u_reg rg_rely hF
      u_op rg_rely hF
      u_op rg_rely hF
      u_op rg_rely hF
      u_op rg_rely hF
      refine Goes.stop (fun w₁ h₁ => ?_); replace hF := h₁; clear h₁
      refine ⟨rfl, rfl, fun w st hw => ?_, fun w hf => ?_⟩
      · have hw : WgAt 80 Wg w st 0 := hw
        exact stepG_semacquire_wait rfl rfl rfl H.f_semacquire (x_semacquire_n L) (x_semacquire_b L) (x_semacquire_x L) (x_semacquire_f L) (by simp [Act.eval, Go.ConcR.smA]) hw.cellSm
      have hf : WgAt 80 Wg w 0 1 := hf
      refine ⟨_, (stepG_semacquire (n := 1) rfl rfl (by k_ne) rfl H.f_semacquire (x_semacquire_n L) (x_semacquire_b L) (x_semacquire_x L) (x_semacquire_f L) (by simp [Act.eval, Go.ConcR.smA]) hf.cellSm (by k_ne) (hf.thaw 1)).trans (by rfl), 50, fun w hF => ?_⟩
      clear hf
      walk_nrm
      u_c stepG_region_end rg_rely hF
      u_c stepG_seq rg_rely hF
      u_reg rg_rely hF
      u_op rg_rely hF
      u_op rg_rely hF
      u_op rg_rely hF
      u_call H.f_uLoad (nm_uLoad L) uLoadFn rg_rely hF
      u_c stepG_seq rg_rely hF
      u_reg rg_rely hF
      u_op rg_rely hF
      u_c stepG_region_end rg_rely hF
      u_c stepG_seq rg_rely hF
      u_reg rg_rely hF
      u_op rg_rely hF
      u_op rg_rely hF
      u_op rg_rely hF
      refine Goes.stop (fun w₁ h₁ => ?_); replace hF := h₁; clear h₁
      refine ⟨rfl, fun w hw => ⟨_, stepG_load_atomic (v := 0) rfl rfl (by k_ne) rfl H.f_loadU64 (x_loadU64_n L) (x_loadU64_b L) (x_loadU64_x L) .u64 (x_loadU64_f L) rfl (show WgAt 80 Wg w 0 0 from hw).cellSt, 50, fun w hF => ?_⟩⟩
      walk_nrm
      u_op rg_rely hF
      u_c stepG_region_end rg_rely hF
      u_c stepG_ret' rg_rely hF
      u_leave1 H.f_uLoad rg_rely hF
      u_op rg_rely hF
      u_op rg_rely hF
      u_c stepG_region_end rg_rely hF
      u_c stepG_seq rg_rely hF
      u_cond true rg_rely hF
      u_c stepG_seq rg_rely hF
      u_reg rg_rely hF
      refine Goes.stop (fun w₁ h₁ => ?_); replace hF := h₁; clear h₁
      refine ⟨rfl, _, fun w => stepG_mark0 .enable (by simp) rfl rfl (by k_ne) rfl H.f_enable (x_enable_n L) (x_enable_b L) (x_enable_x L) (x_enable_f L), 40, fun w hF => ?_⟩
      walk_nrm
      u_c stepG_region_end rg_rely hF
      u_reg rg_rely hF
      u_op rg_rely hF
      u_conv H.underlying_tWgP H.room_tWg (Go.ConcN.Gen.WgLive.cell0 hF).choose_spec rg_rely hF
      refine Goes.stop (fun w₁ h₁ => ?_); replace hF := h₁; clear h₁
      refine ⟨rfl, _, fun w => stepG_markAt .acquire (by simp) rfl rfl (by k_ne) rfl H.f_acquire (x_acquire_n L) (x_acquire_b L) (x_acquire_x L) (x_acquire_f L) (by simp [Act.eval, stA]), 40, fun w hF => ?_⟩
      walk_nrm
      u_c stepG_region_end rg_rely hF
      u_c stepG_seq rg_rely hF
      u_c stepG_seq rg_rely hF
      u_reg rg_rely hF
      u_op rg_rely hF
      u_c stepG_region_end rg_rely hF
      u_cond false rg_rely hF
      u_c stepG_skip rg_rely hF
      u_c stepG_ret' rg_rely hF
      u_leave0 H.f_wait rg_rely hF
      exact Goes.stop (fun _ _ => rfl)
    · have hw : WgAt 80 Wg u ((v' : Int) * KK) 0 := hu
      clear hu
      refine ⟨_, stepG_cas_miss (v := (v' : Int) * KK) (old := S) (n := S + 1) rfl rfl (by k_ne) rfl H.f_casU64 (x_casU64_n L) (x_casU64_b L) (x_casU64_x L) .u64 (x_casU64_f L) rfl rfl rfl hw.cellSt (hw.thaw 0) (by rw [← hS]; simp only [KK]; omega), 30, fun w hF => ?_⟩
      clear hw
      walk_nrm
      u_op rg_rely hF
      u_c stepG_region_end rg_rely hF
      u_c stepG_ret' rg_rely hF
      u_leave1 H.f_uCas rg_rely hF
      u_c stepG_region_end rg_rely hF
      u_cond false rg_rely hF
      u_c stepG_skip rg_rely hF
      u_c stepG_inBlock rg_rely hF
      u_c stepG_inLoop rg_rely hF
      exact Goes.stop (fun w₃ h₃ => ⟨_, rfl, by simp, by simp⟩)
end
end Go.Bt
end
