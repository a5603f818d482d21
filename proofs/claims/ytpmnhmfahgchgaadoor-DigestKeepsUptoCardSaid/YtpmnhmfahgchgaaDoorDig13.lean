import Derived.Test.YtpmnhmfahgchgaaDoorDig12
import Derived.Test.YtpmnhmfahgchgaaDoorProg
set_option linter.unusedVariables false
set_option linter.unusedSimpArgs false
namespace Go.Proofs.YtpmnhmfahgchgaaDoor
open Go.Sx Go.Ps
theorem kcell {W : World} {o q : Cop} (hq : q.ok W) (hkx : q.kids.xs = o.kids.xs) : q.cells[69]? = some (.slice q.kids.a o.kids.xs.length q.kids.c) := by rw [Cop.c69 hq, Sl.v, hkx]
theorem pcell {W : World} {o q : Cop} (hq : q.ok W) (hpl : q.pairs.xs.length = o.pairs.xs.length) : q.cells[67]? = some (.slice q.pairs.a o.pairs.xs.length q.pairs.c) := by rw [Cop.c67 hq, Sl.v, hpl]

theorem kept_any (w : World) (o q : Cop) (ho : o.ok w) (hq : q.ok w) (hn : o.pairs.xs.length ≤ 1048576) (hty : ∀ s ∈ lsO o, s.xs.length ≤ 1048576) (hkx : q.kids.xs = o.kids.xs) (hpl : q.pairs.xs.length = o.pairs.xs.length) (ar : Option Addr) (cr : Nat) (Fs : List (Sl UInt8)) (hF : Rd w ar (Fs.map Sl.v)) (hFl : Fs.length = (lsO o).length) (hFe : ∀ i < Fs.length, SlOk w (Fs.getD i default) ∧ (Fs.getD i default).xs = ((lsO o).getD i default).xs ++ rm) : Calls Tryd.prog 35 #[.slice ar Fs.length cr, .agg q.cells.toArray, .agg o.cells.toArray] w fun e w' => ∃ v, e = .returned v ∧ v = .bool true ∧ Mem w [] [] w' := by
  have hqk := hq.kr
  rw [hkx] at hqk
  have hkm := ho.km
  refine calls_of_sw (vs := [.slice ar Fs.length cr, .agg q.cells.toArray, .agg o.cells.toArray]) Tryd.func35 rfl Tryd.ntmps35 rfl (SW.begin ?_)
  refine sw_seq ?_
  refine sw_region ?_
  refine ow_new (acts_box rfl) rfl (fun b4 hb4 => ?_)   -- 4
  refine ow_new (acts_box rfl) rfl (fun b5 hb5 => ?_)   -- 5
  refine ow_val (val_assign rfl) rfl ?_   -- 6
  refine ow_nil (into ?_)
  refine sw_seq ?_
  refine sw_seq ?_
  refine sw_region ?_
  refine ow_val (val_load_part 0 rfl rfl Tryd.isAgg50 Tryd.sizeOf50 (Cop.cells_len ho) (show List.take 135 o.cells = o.cells from List.take_of_length_le (Nat.le_of_eq (Cop.cells_len ho)))) rfl ?_   -- 10
  refine ow_call_row (E := 25) (size := 1) (k := (lsO o).length) (xs := (lsO o).map Sl.v) (callsTo Tryd.func36 rfl (by kernel_rfl) rfl) rfl (fun w hm => lists_any w o (ho.mem hm) hn) (fun a11 c11 e11 hr11 => ?_)   -- 11
  refine ow_val (val_len rfl Tryd.underlying32) rfl ?_   -- 12
  refine ow_val (val_move rfl) rfl ?_   -- 13
  refine ow_nil (into ?_)
  refine sw_block ?_
  refine sw_loop (σ := Nat) (fun i => i ≤ (lsO o).length) (fun i => [(13, vInt (i : Int)), (12, vInt ((lsO o).length : Int)), (11, .slice a11 (lsO o).length c11), (0, .slice ar Fs.length cr), (4, .pointer (some ⟨b4, 0, none⟩)), (5, .pointer (some ⟨b5, 0, none⟩))]) (fun _ => Mem w [] [e11, some (b5, blk o.cells 50), some (b4, blk q.cells 50)]) (fun i => (lsO o).length - i) 0 (Nat.zero_le _) ⟨rfl, rfl, rfl, rfl, rfl, rfl, trivial⟩ (fun w hm => hm) ?_
  intro i hi
  refine sw_seq ?_
  refine sw_region ?_
  refine ow_val (val_lss_int rfl rfl) rfl ?_   -- 14
  refine ow_nil (into ?_)
  refine sw_seq ?_
  refine sw_if rfl (fun h0 => ?_) (fun h0 => ?_)
  · -- then
    have hll := lsO_len o
    obtain ⟨bl, rfl⟩ := hr11.addr0 (by omega)
    obtain ⟨bf, of, rfl⟩ := hF.addr (by rw [List.length_map]; omega)
    have hF1 := hFe i (by omega)
    have hl1 := hty _ (getD_mem (l := lsO o) (i := i) (by omega))
    have hs0 := lsO_ok ho _ (getD_mem (l := lsO o) (i := i) (by omega))
    obtain ⟨s1, hs1⟩ : ∃ z, (lsO o).getD i default = z := ⟨_, rfl⟩
    obtain ⟨f1, hf1⟩ : ∃ z, Fs.getD i default = z := ⟨_, rfl⟩
    rw [hs1] at hF1 hl1 hs0
    rw [hf1] at hF1
    obtain ⟨hFo, hFx⟩ := hF1
    have hfl : f1.xs.length = s1.xs.length + 40 := by rw [hFx, List.length_append, rm_len]
    have hfr := hFo.1
    rw [hFx] at hfr
    have hfc := hFo.2.1
    refine sw_skip (into ?_)
    refine sw_seq ?_
    refine sw_block ?_
    refine sw_seq ?_
    refine sw_region ?_
    refine ow_val (val_move rfl) rfl ?_   -- 15
    refine ow_val (val_indexAddr_slice i (i * 1) rfl rfl Tryd.underlying32 Tryd.sizeOf25 (by omega) (by omega) (by omega)) rfl ?_   -- 16
    refine ow_val ((val_load (v := Sl.v ((lsO o).getD i default)) rfl Tryd.isAgg25 (fun w' hm => Rd.get (V := Sl.v) (p := lsO o) (k := i) (hr11.rdAt hm (i := 0) rfl) (by omega) (by omega))).to (v' := .slice s1.a s1.xs.length s1.c) (by rw [hs1]; rfl)) rfl ?_   -- 17
    refine ow_val (val_assign rfl) rfl ?_   -- 7
    refine ow_val (val_assign rfl) rfl ?_   -- 8
    refine ow_nil (into ?_)
    refine sw_seq ?_
    refine sw_region ?_
    refine ow_val (val_move rfl) rfl ?_   -- 18
    refine ow_val (val_move rfl) rfl ?_   -- 19
    refine ow_val (val_indexAddr_slice i (of + i * 1) rfl rfl Tryd.underlying32 Tryd.sizeOf25 (by omega) (by omega) (by omega)) rfl ?_   -- 20
    refine ow_val ((val_load (v := Sl.v (Fs.getD i default)) rfl Tryd.isAgg25 (fun w' hm => Rd.get (V := Sl.v) (p := Fs) (k := i) (hF.mem hm) (by omega) (by omega))).to (v' := .slice f1.a (s1.xs.length + 40) f1.c) (by rw [hf1, ← hfl]; rfl)) rfl ?_   -- 21
    refine ow_val (val_move rfl) rfl ?_   -- 22
    refine ow_call_pure (v := .bool true) (callsTo Tryd.func75 rfl (by kernel_rfl) rfl) rfl (fun w hm => kept1_any w f1.a f1.c s1.a s1.c s1.xs (hfr.mem hm) (hs0.1.mem hm) (by omega) (by omega)) ?_   -- 23
    refine ow_val (val_not rfl) rfl ?_   -- 24
    refine ow_nil (into ?_)
    refine sw_false rfl rfl ?_
    refine sw_skip (into ?_)
    refine sw_region ?_
    refine ow_val (val_add_int ((i + 1 : Nat) : Int) rfl rfl (by omega) (by omega)) rfl ?_   -- 25
    refine ow_val (val_move rfl) rfl ?_   -- 13
    exact ow_nil (fun w hm => ⟨i + 1, by omega, by omega, ⟨rfl, rfl, rfl, rfl, rfl, rfl, trivial⟩, hm⟩)
  · -- else
    refine sw_exit (into ?_)
    refine sw_seq ?_
    refine sw_seq ?_
    refine sw_region ?_
    refine ow_val (val_fieldAddr (m := 0) (e := 69) rfl Tryd.underlying50 rfl rfl Tryd.sizeOf45 rfl) rfl ?_   -- 26
    refine ow_val (val_load_at 1 rfl rfl Tryd.isAgg45 (Cop.c69 ho)) rfl ?_   -- 27
    refine ow_val (val_len rfl Tryd.underlying45) rfl ?_   -- 28
    refine ow_val (val_move rfl) rfl ?_   -- 29
    refine ow_nil (into ?_)
    refine sw_block ?_
    refine sw_loop (σ := Nat) (fun j => j ≤ o.kids.xs.length) (fun j => [(29, vInt (j : Int)), (28, vInt (o.kids.xs.length : Int)), (4, .pointer (some ⟨b4, 0, none⟩)), (5, .pointer (some ⟨b5, 0, none⟩))]) (fun _ => Mem w [] [some (b5, blk o.cells 50), some (b4, blk q.cells 50)]) (fun j => o.kids.xs.length - j) 0 (Nat.zero_le _) ⟨rfl, rfl, rfl, rfl, trivial⟩ (fun w hm => hm.only (.cons _ (List.Sublist.refl _))) ?_
    intro j hj
    refine sw_seq ?_
    refine sw_region ?_
    refine ow_val (val_lss_int rfl rfl) rfl ?_   -- 30
    refine ow_nil (into ?_)
    refine sw_seq ?_
    refine sw_if rfl (fun h8 => ?_) (fun h8 => ?_)
    · -- then
      obtain ⟨ba, oa, hba⟩ := ho.kr.addr (by rw [flatMap_size o.kids.xs (fun x hx => by rw [List.length_map]; exact ho.ke x hx)]; omega)
      obtain ⟨bq, oq, hbq⟩ := hqk.addr (by rw [flatMap_size o.kids.xs (fun x hx => by rw [List.length_map]; exact ho.ke x hx)]; omega)
      have hok2 : Rd w (some ⟨ba, oa, none⟩) (o.kids.xs.flatMap fun d => d.map vU8) := hba ▸ ho.kr
      have hqk2 : Rd w (some ⟨bq, oq, none⟩) (o.kids.xs.flatMap fun d => d.map vU8) := hbq ▸ hqk
      have hd1 := ho.ke _ (getD_mem (l := o.kids.xs) (i := j) (by omega))
      refine sw_skip (into ?_)
      refine sw_seq ?_
      refine sw_block ?_
      refine sw_seq ?_
      refine sw_region ?_
      refine ow_val (val_move rfl) rfl ?_   -- 31
      refine ow_val (val_assign rfl) rfl ?_   -- 9
      refine ow_nil (into ?_)
      refine sw_seq ?_
      refine sw_region_lex _ [] [(0, 0), (2, 0), (5, 0), (7, 0), (1, 1), (3, 0), (4, 1), (6, 1), (8, 0), (9, 1), (10, 0)] (by kernel_rfl) (by kernel_rfl) (fun _ _ _ h => h) (fun _ h => h) (fun _ h => h.drawn _) ?_
      refine lw_pure rfl (val_fieldAddr (m := 0) (e := 69) rfl Tryd.underlying50 rfl rfl Tryd.sizeOf45 rfl) rfl ?_   -- 32
      refine lw_pure rfl (val_move rfl) rfl ?_   -- 34
      refine lw_pure rfl (val_fieldAddr (m := 0) (e := 69) rfl Tryd.underlying50 rfl rfl Tryd.sizeOf45 rfl) rfl ?_   -- 37
      refine lw_pure rfl (val_move rfl) rfl ?_   -- 39
      refine lw_held rfl ((val_load_at 1 rfl rfl Tryd.isAgg45 (kcell hq hkx)).to (v' := .slice (some ⟨bq, oq, none⟩) o.kids.xs.length q.kids.c) (by rw [hbq])) rfl ?_   -- 33
      refine lw_pure rfl (val_indexAddr_slice (j) (oq + j * 32) rfl rfl Tryd.underlying45 Tryd.sizeOf27 (by omega) (by omega) (by omega)) rfl ?_   -- 35
      refine lw_held rfl (val_load_elem (cells := fun d => d.map vU8) (l := o.kids.xs) (o := oq) (i := j) rfl Tryd.isAgg27 Tryd.sizeOf27 (fun x hx => by rw [List.length_map]; exact ho.ke x hx) (by omega) (by omega) (fun w' hm => hqk2.mem hm)) rfl ?_   -- 36
      refine lw_held rfl ((val_load_at 0 rfl rfl Tryd.isAgg45 (Cop.c69 ho)).to (v' := .slice (some ⟨ba, oa, none⟩) o.kids.xs.length o.kids.c) (by rw [Sl.v, hba])) rfl ?_   -- 38
      refine lw_pure rfl (val_indexAddr_slice (j) (oa + j * 32) rfl rfl Tryd.underlying45 Tryd.sizeOf27 (by omega) (by omega) (by omega)) rfl ?_   -- 40
      refine lw_held rfl (val_load_elem (cells := fun d => d.map vU8) (l := o.kids.xs) (o := oa) (i := j) rfl Tryd.isAgg27 Tryd.sizeOf27 (fun x hx => by rw [List.length_map]; exact ho.ke x hx) (by omega) (by omega) (fun w' hm => hok2.mem hm)) rfl ?_   -- 41
      refine lw_pure rfl ((val_neq_u8s rfl rfl Tryd.eqGuardType27 Tryd.underlying27 Tryd.underlying5 Tryd.sizeOf5 Tryd.isAgg5 hd1 hd1).to (congrArg Value.bool (show _ = false by simp [txt]))) rfl ?_   -- 42
      refine lw_nil (into ?_)
      refine sw_false rfl rfl ?_
      refine sw_skip (into ?_)
      refine sw_region ?_
      refine ow_val (val_add_int ((j + 1 : Nat) : Int) rfl rfl (by omega) (by omega)) rfl ?_   -- 43
      refine ow_val (val_move rfl) rfl ?_   -- 29
      exact ow_nil (fun w hm => ⟨j + 1, by omega, by omega, ⟨rfl, rfl, rfl, rfl, trivial⟩, hm⟩)
    · -- else
      refine sw_exit (into ?_)
      refine sw_seq ?_
      refine sw_region ?_
      refine ow_val (val_fieldAddr (m := 0) (e := 69) rfl Tryd.underlying50 rfl rfl Tryd.sizeOf45 rfl) rfl ?_   -- 44
      refine ow_val (val_load_at 1 rfl rfl Tryd.isAgg45 (kcell hq hkx)) rfl ?_   -- 45
      refine ow_val (val_len rfl Tryd.underlying45) rfl ?_   -- 46
      refine ow_val (val_fieldAddr (m := 0) (e := 69) rfl Tryd.underlying50 rfl rfl Tryd.sizeOf45 rfl) rfl ?_   -- 47
      refine ow_val (val_load_at 0 rfl rfl Tryd.isAgg45 (Cop.c69 ho)) rfl ?_   -- 48
      refine ow_val (val_len rfl Tryd.underlying45) rfl ?_   -- 49
      refine ow_val ((val_eql_int rfl rfl).to (v' := .bool true) (congrArg Value.bool (decide_eq_true rfl))) rfl ?_   -- 50
      refine ow_val (val_move rfl) rfl ?_   -- 51
      refine ow_guard_yes rfl rfl rfl ?_
      refine ow_val (val_fieldAddr (m := 0) (e := 67) rfl Tryd.underlying50 rfl rfl Tryd.sizeOf43 rfl) rfl ?_   -- 52
      refine ow_guard_yes rfl rfl rfl ?_
      refine ow_val (val_load_at 1 rfl rfl Tryd.isAgg43 (pcell hq hpl)) rfl ?_   -- 53
      refine ow_guard_yes rfl rfl rfl ?_
      refine ow_val (val_len rfl Tryd.underlying43) rfl ?_   -- 54
      refine ow_guard_yes rfl rfl rfl ?_
      refine ow_val (val_fieldAddr (m := 0) (e := 67) rfl Tryd.underlying50 rfl rfl Tryd.sizeOf43 rfl) rfl ?_   -- 55
      refine ow_guard_yes rfl rfl rfl ?_
      refine ow_val (val_load_at 0 rfl rfl Tryd.isAgg43 (Cop.c67 ho)) rfl ?_   -- 56
      refine ow_guard_yes rfl rfl rfl ?_
      refine ow_val (val_len rfl Tryd.underlying43) rfl ?_   -- 57
      refine ow_guard_yes rfl rfl rfl ?_
      refine ow_val ((val_eql_int rfl rfl).to (v' := .bool true) (congrArg Value.bool (decide_eq_true rfl))) rfl ?_   -- 58
      refine ow_val (val_pick_true rfl rfl) rfl ?_   -- 59
      refine ow_val (val_assign rfl) rfl ?_   -- 6
      refine ow_nil (into ?_)
      exact sw_ret (fun w hm => ret_one _ rfl rfl ⟨rfl, hm.forgetAll⟩)
end Go.Proofs.YtpmnhmfahgchgaaDoor
