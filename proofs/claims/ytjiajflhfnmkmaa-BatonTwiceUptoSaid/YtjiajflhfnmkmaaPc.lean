/- A PLAY OF THE BATON: what the row rests on. -/
import Derived.Test.YtjiajflhfnmkmaaPb
set_option linter.unusedVariables false
set_option linter.unusedSimpArgs false
set_option linter.unusedSectionVars false
section
namespace Go.Bt
variable [Gnd]
open Go.Conc Go.ConcN Go.RowKit Go.Conc.Lib Go.ConcR.Gen
open Go.ConcR (wgBlock WgAt mk)
variable {L : WgLink}
structure Is80 (L : WgLink) : Prop where
  h : L.tWg = 80
set_option maxRecDepth 100000 in
set_option maxHeartbeats 8000000 in
theorem add_walk {P : Program} {main : Bool} (H : WgLib P L) (hL : Is80 L) {Wg : Nat} {b₀ : Frame} {a₀ : Act} {ops₀ : Array Oper} {i₀ : Nat} {rest₀ : List Nat} {k₀ : List Item} {cs : List Frame} :
    QG P main Wg (AtDis P main Wg (G (b₀.at (a₀.put ((ops₀[i₀]?).bind (·.dst)) (.tuple #[])) (.inRegion ops₀ rest₀ :: k₀)) cs)) 12
      (G ((base L.add).at ⟨#[.pointer (some ⟨Wg, 0, none⟩), .int .i64 1] ++ Array.replicate 115 undef, []⟩ [.code (body_add L)]) (b₀.at a₀ (.inRegion ops₀ (i₀ :: rest₀) :: k₀) :: cs)) := by
  intro w hF
  lib_facts
  simp only [body_add, addFn, Option.getD_some, Array.replicate, List.replicate, List.append_toArray, List.cons_append, List.nil_append]
  u_c stepG_seq rg_rely hF
  u_cond true rg_rely hF
  u_c stepG_seq rg_rely hF
  u_c stepG_seq rg_rely hF
  u_reg rg_rely hF
  u_op rg_rely hF
  u_op rg_rely hF
  u_c stepG_region_end rg_rely hF
  u_cond false rg_rely hF
  u_c stepG_skip rg_rely hF
  u_c stepG_seq rg_rely hF
  u_reg rg_rely hF
  refine Goes.stop (fun w₁ h₁ => ?_); replace hF := h₁; clear h₁
  refine ⟨rfl, _, fun w => stepG_mark0 .disable (by simp) rfl rfl (by k_ne) rfl H.f_disable (x_disable_n L) (x_disable_b L) (x_disable_x L) (x_disable_f L), 40, fun w hF => ?_⟩
  walk_nrm
  u_c stepG_region_end rg_rely hF
  u_reg rg_rely hF
  u_defer rg_rely hF
  u_c stepG_region_end rg_rely hF
  u_c stepG_seq rg_rely hF
  u_reg rg_rely hF
  u_op rg_rely hF
  u_c stepG_region_end rg_rely hF
  u_c stepG_seq rg_rely hF
  u_c stepG_seq rg_rely hF
  u_reg rg_rely hF
  u_bub rg_rely hF
  u_c stepG_region_end rg_rely hF
  u_cond false rg_rely hF
  u_c stepG_skip rg_rely hF
  u_c stepG_seq rg_rely hF
  u_reg rg_rely hF
  u_op rg_rely hF
  u_op rg_rely hF
  u_op rg_rely hF
  u_op rg_rely hF
  u_op rg_rely hF
  u_op rg_rely hF
  u_call H.f_uAdd (nm_uAdd L) uAddFn rg_rely hF
  u_c stepG_seq rg_rely hF
  u_reg rg_rely hF
  u_op rg_rely hF
  u_c stepG_region_end rg_rely hF
  u_c stepG_seq rg_rely hF
  u_reg rg_rely hF
  u_op rg_rely hF
  u_op rg_rely hF
  u_op rg_rely hF
  u_op rg_rely hF
  refine Goes.stop (fun w₁ h₁ => ?_); replace hF := h₁; clear h₁
  refine ⟨rfl, fun w v hv hw => ?_⟩
  have hw : WgAt 80 Wg w ((v : Int) * KK) 0 := hw
  rcases Nat.eq_zero_or_pos v with rfl | hvp
  · have hw : WgAt 80 Wg w 0 0 := by simpa using hw
    have z : (((0 : Nat) : Int) + 1) * KK = 4294967296 := by simp [KK]
    rw [z]
    have e0 : IntKind.u64.wrap (0 + 4294967296) = 4294967296 := by decide
    refine ⟨_, (stepG_add_atomic rfl rfl (by k_ne) rfl H.f_addU64 (x_addU64_n L) (x_addU64_b L) (x_addU64_x L) .u64 (x_addU64_f L) rfl rfl hw.cellSt (hw.thaw 0)).trans (by rw [e0]; rfl), 110, fun w hF => ?_⟩
    clear hw
    walk_nrm
    u_op rg_rely hF
    u_c stepG_region_end rg_rely hF
    u_c stepG_ret' rg_rely hF
    u_leave1 H.f_uAdd rg_rely hF
    u_op rg_rely hF
    u_c stepG_region_end rg_rely hF
    u_c stepG_seq rg_rely hF
    u_c stepG_seq rg_rely hF
    u_reg rg_rely hF
    u_op rg_rely hF
    u_op rg_rely hF
    u_op rg_rely hF
    u_op rg_rely hF
    u_skip rg_rely hF
    u_skip rg_rely hF
    u_op rg_rely hF
    u_c stepG_region_end rg_rely hF
    u_cond false rg_rely hF
    u_c stepG_skip rg_rely hF
    u_c stepG_seq rg_rely hF
    u_reg rg_rely hF
    u_op rg_rely hF
    u_op rg_rely hF
    u_op rg_rely hF
    u_op rg_rely hF
    u_c stepG_region_end rg_rely hF
    u_c stepG_seq rg_rely hF
    u_reg rg_rely hF
    u_op rg_rely hF
    u_op rg_rely hF
    u_op rg_rely hF
    u_op rg_rely hF
    u_c stepG_region_end rg_rely hF
    u_c stepG_seq rg_rely hF
    u_c stepG_seq rg_rely hF
    u_reg rg_rely hF
    u_op rg_rely hF
    u_op rg_rely hF
    u_op rg_rely hF
    u_op rg_rely hF
    u_op rg_rely hF
    u_op rg_rely hF
    u_op rg_rely hF
    u_op rg_rely hF
    u_op rg_rely hF
    u_op rg_rely hF
    u_c stepG_region_end rg_rely hF
    u_cond true rg_rely hF
    u_reg rg_rely hF
    u_op rg_rely hF
    u_op rg_rely hF
    u_op rg_rely hF
    u_conv H.underlying_tPU32 H.room_tU32 (Go.ConcN.Gen.WgLive.cell1 hF).choose_spec rg_rely hF
    refine Goes.stop (fun w₁ h₁ => ?_); replace hF := h₁; clear h₁
    refine .inl ⟨rfl, _, fun w => stepG_markAt .read (by simp) rfl rfl (by k_ne) rfl H.f_raceRead (x_raceRead_n L) (x_raceRead_b L) (x_raceRead_x L) (x_raceRead_f L) (ad := ⟨Wg, 1, none⟩) (by simp [Act.eval]), 60, fun w hF => ?_⟩
    walk_nrm
    u_c stepG_region_end rg_rely hF
    u_c stepG_seq rg_rely hF
    u_c stepG_seq rg_rely hF
    u_reg rg_rely hF
    u_op rg_rely hF
    u_op rg_rely hF
    u_c stepG_region_end rg_rely hF
    u_cond false rg_rely hF
    u_c stepG_skip rg_rely hF
    u_c stepG_seq rg_rely hF
    u_c stepG_seq rg_rely hF
    u_reg rg_rely hF
    u_op rg_rely hF
    u_op rg_rely hF
    u_op rg_rely hF
    u_skip rg_rely hF
    u_skip rg_rely hF
    u_op rg_rely hF
    u_op rg_rely hF
    u_skip rg_rely hF
    u_skip rg_rely hF
    u_skip rg_rely hF
    u_skip rg_rely hF
    u_op rg_rely hF
    u_c stepG_region_end rg_rely hF
    u_cond false rg_rely hF
    u_c stepG_skip rg_rely hF
    u_c stepG_seq rg_rely hF
    u_c stepG_seq rg_rely hF
    u_reg rg_rely hF
    u_op rg_rely hF
    u_op rg_rely hF
    u_op rg_rely hF
    u_skip rg_rely hF
    u_skip rg_rely hF
    u_op rg_rely hF
    u_c stepG_region_end rg_rely hF
    u_cond true rg_rely hF
    u_c stepG_ret' rg_rely hF
    refine Goes.stop (fun w₃ h₃ => ?_); replace hF := h₃; clear h₃
    refine ⟨rfl, _, fun w => stepG_unwind_entry (v := .tuple #[]) (evs := #[mk .enable]) rfl H.f_enable (x_enable_n L) (x_enable_b L) (x_enable_x L) (x_enable_f L) (by simp [Extern.Race.none_]) (by simp [mk]) (by simp [mk]), 1, fun w hF => ?_⟩
    u_leave0 H.f_add rg_rely hF
    exact Goes.stop (fun _ _ => rfl)
  · obtain ⟨V, hV⟩ : ∃ V : Int, V = (v : Int) + 1 := ⟨_, rfl⟩
    obtain ⟨S, hS⟩ : ∃ S : Int, S = V * KK := ⟨_, rfl⟩
    have eS : IntKind.u64.wrap ((v : Int) * KK + 4294967296) = S := by rw [IntKind.wrap_u64, hS, hV]; simp only [KK]; omega
    rw [← hV, ← hS]
    have a1 : S / 4294967296 = V := by rw [hS]; simp only [KK]; omega
    have b1 : bits .and .u64 S 2147483648 = 0 := by rw [hS, hV]; have := st_flag (v + 1) 0 (by omega) (by omega); simpa [Go.ConcR.KK, KK] using this
    have b2 : bits .and .u64 S 2147483647 = 0 := by rw [hS, hV]; have := st_waiters (v + 1) 0 (by omega) (by omega); simpa [Go.ConcR.KK, KK] using this
    have c1 : IntKind.i32.wrap V = V := by rw [IntKind.wrap_i32]; omega
    have hV1 : 1 < V := by omega
    have hV2 : V < 2147483648 := by omega
    have q1 : (V == 1) = false := by simp; omega
    have q2 : decide (V = 1) = false := decide_eq_false (by omega)
    have q3 : decide (V < 0) = false := decide_eq_false (by omega)
    have q4 : decide (0 < V) = true := decide_eq_true (by omega)
    have q5 : (V == 0) = false := by simp; omega
    have q6 : decide (V = 0) = false := decide_eq_false (by omega)
    refine ⟨_, (stepG_add_atomic rfl rfl (by k_ne) rfl H.f_addU64 (x_addU64_n L) (x_addU64_b L) (x_addU64_x L) .u64 (x_addU64_f L) rfl rfl hw.cellSt (hw.thaw 0)).trans (by rw [eS]; rfl), 110, fun w hF => ?_⟩
    clear hw hS hV eS
    walk_nrm
    u_op rg_rely hF
    u_c stepG_region_end rg_rely hF
    u_c stepG_ret' rg_rely hF
    u_leave1 H.f_uAdd rg_rely hF
    u_op rg_rely hF
    u_c stepG_region_end rg_rely hF
    u_c stepG_seq rg_rely hF
    u_c stepG_seq rg_rely hF
    u_reg rg_rely hF
    u_op rg_rely hF
    u_op rg_rely hF
    u_op rg_rely hF
    u_op rg_rely hF
    u_skip rg_rely hF
    u_skip rg_rely hF
    u_op rg_rely hF
    u_c stepG_region_end rg_rely hF
    u_cond false rg_rely hF
    u_c stepG_skip rg_rely hF
    u_c stepG_seq rg_rely hF
    u_reg rg_rely hF
    u_op rg_rely hF
    u_op rg_rely hF
    u_op rg_rely hF
    u_op rg_rely hF
    u_c stepG_region_end rg_rely hF
    u_c stepG_seq rg_rely hF
    u_reg rg_rely hF
    u_op rg_rely hF
    u_op rg_rely hF
    u_op rg_rely hF
    u_op rg_rely hF
    u_c stepG_region_end rg_rely hF
    u_c stepG_seq rg_rely hF
    u_c stepG_seq rg_rely hF
    u_reg rg_rely hF
    u_op rg_rely hF
    u_op rg_rely hF
    u_op rg_rely hF
    u_op rg_rely hF
    u_op rg_rely hF
    u_op rg_rely hF
    u_op rg_rely hF
    u_op rg_rely hF
    u_op rg_rely hF
    u_op rg_rely hF
    u_c stepG_region_end rg_rely hF
    u_cond false rg_rely hF
    u_c stepG_skip rg_rely hF
    u_c stepG_seq rg_rely hF
    u_c stepG_seq rg_rely hF
    u_reg rg_rely hF
    u_op rg_rely hF
    u_op rg_rely hF
    u_c stepG_region_end rg_rely hF
    u_cond false rg_rely hF
    u_c stepG_skip rg_rely hF
    u_c stepG_seq rg_rely hF
    u_c stepG_seq rg_rely hF
    u_reg rg_rely hF
    u_op rg_rely hF
    u_op rg_rely hF
    u_op rg_rely hF
    u_skip rg_rely hF
    u_skip rg_rely hF
    u_op rg_rely hF
    u_op rg_rely hF
    u_skip rg_rely hF
    u_skip rg_rely hF
    u_skip rg_rely hF
    u_skip rg_rely hF
    u_op rg_rely hF
    u_c stepG_region_end rg_rely hF
    u_cond false rg_rely hF
    u_c stepG_skip rg_rely hF
    u_c stepG_seq rg_rely hF
    u_c stepG_seq rg_rely hF
    u_reg rg_rely hF
    u_op rg_rely hF
    u_op rg_rely hF
    u_op rg_rely hF
    u_skip rg_rely hF
    u_skip rg_rely hF
    u_op rg_rely hF
    u_c stepG_region_end rg_rely hF
    u_cond true rg_rely hF
    u_c stepG_ret' rg_rely hF
    refine Goes.stop (fun w₃ h₃ => ?_); replace hF := h₃; clear h₃
    refine .inr ⟨rfl, _, fun w => stepG_unwind_entry (v := .tuple #[]) (evs := #[mk .enable]) rfl H.f_enable (x_enable_n L) (x_enable_b L) (x_enable_x L) (x_enable_f L) (by simp [Extern.Race.none_]) (by simp [mk]) (by simp [mk]), 1, fun w hF => ?_⟩
    u_leave0 H.f_add rg_rely hF
    exact Goes.stop (fun _ _ => rfl)
end Go.Bt
end
