import Derived.Test.YtpmnhmfahgchgaaDoorDig13
import Derived.Test.YtpmnhmfahgchgaaDoorDig14
import Derived.Test.YtpmnhmfahgchgaaDoorDig15
import Derived.Test.YtpmnhmfahgchgaaDoorDig16
import Derived.Test.YtpmnhmfahgchgaaDoorRowG
import Derived.Test.YtpmnhmfahgchgaaDoorProg
set_option linter.unusedVariables false
set_option linter.unusedSimpArgs false
namespace Go.Proofs.YtpmnhmfahgchgaaDoor
open Go.Sx Go.Ps
theorem opIn_len3 {o : Cop} (hll : o.L.length = 32) (hrl : o.R.length = 32) (hke : ∀ d ∈ o.kids.xs, d.length = 32) (hgl : o.log.length = 32) (hml : o.map.length = 32) (ht : o.tiny) : (opIn o).1.length ≤ 100000000 := by
  have h1 := ht.small.1
  have h2 := ht.pb
  unfold opIn
  split
  · simp only [leafI, List.length_append, List.length_cons, List.length_nil]; omega
  split
  · have := nodeP_len o.w o.L o.R hll hrl; dsimp only; omega
  split
  · simp only [keyI, List.length_append, List.length_cons, List.length_nil]; omega
  split
  · have hu := uvar_len (UInt64.ofNat (prs o.pairs.xs).length)
    simp only [bucketI, List.length_append, List.length_cons, List.length_nil]; omega
  split
  · have := branchP_len o.w o.bm o.kids.xs hke; dsimp only; omega
  · have := rootP_len o.w o.size o.log o.map hgl hml; dsimp only; omega
theorem opIn_len2 {w : World} {o : Cop} (ho : o.ok w) (ht : o.tiny) : (opIn o).1.length ≤ 100000000 := opIn_len3 ho.ll ho.rl ho.ke ho.gl ho.ml ht

theorem digestKeeps_any (w : World) (hK : KW w) (a : Option Addr) (c : Nat) (ops : List Cop) (hr : Rd w a (ops.flatMap Cop.cells)) (hops : ∀ o ∈ ops, o.ok w) (htin : ∀ o ∈ ops, o.tiny) (hc : ops.length ≤ c) (hl : ops.length < 9223372036854775808) : Calls Tryd.prog 10 #[.slice a ops.length c] w fun e w' => ∃ v, e = .returned v ∧ v = .bool true ∧ Mem w [] [] w' := by
  obtain ⟨tiS, hSi, hSz, hSsz, hSby⟩ := info_parts isl
  refine calls_of_sw (vs := [.slice a ops.length c]) Tryd.func10 rfl Tryd.ntmps10 rfl (SW.begin ?_)
  refine sw_seq ?_
  refine sw_region ?_
  refine ow_val (val_assign rfl) rfl ?_   -- 2
  refine ow_nil (into ?_)
  refine sw_seq ?_
  refine sw_seq ?_
  refine sw_region ?_
  refine ow_call_pure (v := .bool true) (callsTo Tryd.func14 rfl (by kernel_rfl) rfl) rfl (fun w hm => awake_any w (hK.mem0 hm)) ?_   -- 31
  refine ow_val (val_not rfl) rfl ?_   -- 32
  refine ow_nil (into ?_)
  refine sw_false rfl rfl ?_
  refine sw_skip (into ?_)
  refine sw_seq ?_
  refine sw_region ?_
  refine ow_make (acts_buildSlice (cs := ([1, 2] : List UInt8).map vU8) Tryd.underlying25 Tryd.sizeOf5 Tryd.zeroValue5 rfl rfl (by kernel_rfl)) rfl (fun b33 hb33 => ?_)   -- 33
  refine ow_val (val_build' (cs := (lop b33).cells) rfl (by kernel_rfl)) rfl ?_   -- 34
  refine ow_new (acts_alloc zOp) rfl (fun b3 hb3 => ?_)   -- 3
  refine ow_do_eq (does_store_all 0 rfl rfl rfl (Cop.one (o := (lop b33))) Tryd.sizeOf50 rfl rfl) ?_
  refine ow_nil (into ?_)
  refine sw_seq ?_
  refine sw_seq ?_
  refine sw_region ?_
  refine ow_val (val_move rfl) rfl ?_   -- 35
  refine ow_val (val_len rfl Tryd.underlying42) rfl ?_   -- 36
  refine ow_val (val_move rfl) rfl ?_   -- 37
  refine ow_nil (into ?_)
  refine sw_block ?_
  refine sw_loop (σ := Nat × Cop) (fun t => t.1 ≤ ops.length ∧ (∀ W, Mem w [] [some (b33, blk (([1, 2] : List UInt8).map vU8) 5)] W → t.2.ok W) ∧ t.2.tiny ∧ t.2.cells.length = 135 ∧ (opIn t.2).1.length ≤ 100000000) (fun t => [(37, vInt (t.1 : Int)), (36, vInt (ops.length : Int)), (35, .slice a ops.length c), (3, .pointer (some ⟨b3, 0, none⟩))]) (fun t => Mem w [] [some (b3, blk t.2.cells 50), some (b33, blk (([1, 2] : List UInt8).map vU8) 5)]) (fun t => ops.length - t.1) (0, lop b33) ⟨Nat.zero_le _, fun W hM => lop_ok (T := 5) (hM.at (i := 0) rfl), lop_tiny b33, rfl, lop_in b33⟩ ⟨rfl, rfl, rfl, rfl, trivial⟩ (fun w hm => hm) ?_
  rintro ⟨i, l⟩ ⟨hi, hlo, hlt, hll, hli⟩
  simp only at hi hlo hlt hll hli ⊢
  refine sw_seq ?_
  refine sw_region ?_
  refine ow_val (val_lss_int rfl rfl) rfl ?_   -- 38
  refine ow_nil (into ?_)
  refine sw_seq ?_
  refine sw_if rfl (fun h5 => ?_) (fun h5 => ?_)
  · -- then
    obtain ⟨ba, oa, rfl⟩ := hr.addr (by rw [flatMap_size ops (fun x hx => Cop.cells_len (hops x hx))]; omega)
    have ho := hops _ (getD_mem (l := ops) (i := i) (by omega))
    have hty := htin _ (getD_mem (l := ops) (i := i) (by omega))
    obtain ⟨o, hoe⟩ : ∃ o, ops.getD i default = o := ⟨_, rfl⟩
    rw [hoe] at ho hty
    have hsm := hty.small
    have hsm1 := hsm.1
    have hol := opIn_len2 ho hty
    have hn := hty.1
    have hkn := hty.2.1
    have hlss := hty.ls
    have hlso := lsO_len o
    refine sw_skip (into ?_)
    refine sw_seq ?_
    refine sw_block ?_
    refine sw_seq ?_
    refine sw_region ?_
    refine ow_val (val_indexAddr_slice i (oa + i * 135) rfl rfl Tryd.underlying42 Tryd.sizeOf50 (by omega) (by omega) (by omega)) rfl ?_   -- 39
    refine ow_val ((val_load_elem (cells := Cop.cells) (l := ops) (o := oa) (i := i) rfl Tryd.isAgg50 Tryd.sizeOf50 (fun x hx => Cop.cells_len (hops x hx)) (by omega) (by omega) (fun w' hm => hr.mem hm)).to (v' := .agg o.cells.toArray) (by rw [hoe])) rfl ?_   -- 40
    refine ow_new (acts_alloc zOp) rfl (fun b5 hb5 => ?_)   -- 5
    refine ow_do_eq (does_store_all 0 rfl rfl rfl (Cop.one (o := o)) Tryd.sizeOf50 (Cop.cells_len ho) rfl) ?_
    refine ow_nil (into ?_)
    refine sw_seq ?_
    refine sw_seq ?_
    refine sw_region ?_
    refine ow_val (val_load_part 0 rfl rfl Tryd.isAgg50 Tryd.sizeOf50 (Cop.cells_len ho) (show List.take 135 o.cells = o.cells from List.take_of_length_le (Nat.le_of_eq (Cop.cells_len ho)))) rfl ?_   -- 41
    refine ow_call_pure (callsTo Tryd.func25 rfl (by kernel_rfl) rfl) rfl (fun w hm => known_any w o (ho.mem hm) hsm) ?_   -- 42
    refine ow_val (val_not rfl) rfl ?_   -- 43
    refine ow_nil (into ?_)
    refine sw_cond rfl (fun hknw => ?_) (fun hknw => ?_)
    · -- then
      refine sw_exit (into ?_)
      refine sw_region ?_
      refine ow_val (val_add_int ((i + 1 : Nat) : Int) rfl rfl (by omega) (by omega)) rfl ?_   -- 177
      refine ow_val (val_move rfl) rfl ?_   -- 37
      exact ow_nil (fun w hm => ⟨(i + 1, l), ⟨by dsimp only; omega, ⟨hlo, hlt, hll, hli⟩⟩, by dsimp only; omega, ⟨rfl, rfl, rfl, rfl, trivial⟩, hm.only (.cons _ (List.Sublist.refl _))⟩)
    · -- else
      refine sw_skip (into ?_)
      refine sw_seq ?_
      refine sw_region ?_
      refine ow_val (val_load_part 0 rfl rfl Tryd.isAgg50 Tryd.sizeOf50 (Cop.cells_len ho) (show List.take 135 o.cells = o.cells from List.take_of_length_le (Nat.le_of_eq (Cop.cells_len ho)))) rfl ?_   -- 45
      refine ow_call_row2 (E := 5) (size := 1) (k := (opIn o).1.length) (xs := (opIn o).1.map vU8) (x := vInt (((opIn o).2 : Nat) : Int)) (callsTo Tryd.func27 rfl (by kernel_rfl) rfl) rfl (fun w hm => doc_any w o (ho.mem hm) hsm) (fun a46 c46 e46 hr46 => ?_)   -- 46
      refine ow_val (val_move rfl) rfl ?_   -- 44
      refine ow_val (val_extract rfl rfl) rfl ?_   -- 47
      refine ow_val (val_extract rfl rfl) rfl ?_   -- 48
      refine ow_val (val_assign rfl) rfl ?_   -- 6
      refine ow_val (val_assign rfl) rfl ?_   -- 7
      refine ow_nil (into ?_)
      refine sw_seq ?_
      refine sw_region ?_
      refine ow_val (val_load_part 2 rfl rfl Tryd.isAgg50 Tryd.sizeOf50 hll (show List.take 135 l.cells = l.cells from List.take_of_length_le (Nat.le_of_eq hll))) rfl ?_   -- 50
      refine ow_call_row2 (E := 5) (size := 1) (k := (opIn l).1.length) (xs := (opIn l).1.map vU8) (x := vInt (((opIn l).2 : Nat) : Int)) (callsTo Tryd.func27 rfl (by kernel_rfl) rfl) rfl (fun w hm => doc_any w l (hlo _ (hm.only (.cons _ (.cons _ (.cons _ (.cons_cons _ (List.nil_sublist _))))))) hlt.small) (fun a51 c51 e51 hr51 => ?_)   -- 51
      refine ow_val (val_move rfl) rfl ?_   -- 49
      refine ow_val (val_extract rfl rfl) rfl ?_   -- 52
      refine ow_val (val_extract rfl rfl) rfl ?_   -- 53
      refine ow_val (val_assign rfl) rfl ?_   -- 8
      refine ow_val (val_assign rfl) rfl ?_   -- 9
      refine ow_nil (into ?_)
      refine sw_seq ?_
      refine sw_region ?_
      refine ow_val (val_load_part 2 rfl rfl Tryd.isAgg50 Tryd.sizeOf50 (Cop.cells_len ho) (show List.take 135 o.cells = o.cells from List.take_of_length_le (Nat.le_of_eq (Cop.cells_len ho)))) rfl ?_   -- 55
      refine ow_call_tail (σ := Sl UInt8 × Sl (Sl UInt8 × Sl UInt8) × Sl (List UInt8) × (Option Addr × Nat × Ent) × List (Sl UInt8) × Ent × Ent × List Ent) (fun t => .tuple #[.agg (qOf o t.1 t.2.1 t.2.2.1).cells.toArray, .slice t.2.2.2.1.1 t.2.2.2.2.1.length t.2.2.2.1.2.1]) (fun t => t.2.2.2.1.2.2 :: t.2.2.2.2.2.1 :: t.2.2.2.2.2.2.1 :: t.2.2.2.2.2.2.2) (fun t => SpI 5 o o.pairs.xs.length t.2.2.2.2.1 t.2.2.2.2.2.2.2 t.1 t.2.1.xs ∧ t.2.2.1.xs = o.kids.xs ∧ RowE (.slice t.2.2.2.1.1 t.2.2.2.2.1.length t.2.2.2.1.2.1) 25 1 t.2.2.2.2.1.length (t.2.2.2.2.1.map Sl.v) t.2.2.2.1.2.2 ∧ RowE (.slice t.2.1.a t.2.1.xs.length t.2.1.c) 101 2 t.2.1.xs.length (t.2.1.xs.flatMap fun x => [x.1.v, x.2.v]) t.2.2.2.2.2.1 ∧ RowE (.slice t.2.2.1.a t.2.2.1.xs.length t.2.2.1.c) 27 32 t.2.2.1.xs.length (t.2.2.1.xs.flatMap fun d => d.map vU8) t.2.2.2.2.2.2.1) (callsTo Tryd.func33 rfl (by kernel_rfl) rfl) rfl (fun w hm => spares_any w o (ho.mem hm) hty.ls hn hkn) ?_
      rintro ⟨P9, ⟨ap, cp, ps⟩, kd, ⟨af, cf, ef⟩, Fs, ep, ek, es⟩ ⟨hsp0, hkd, hrf, hrp, hrk⟩
      simp only at hsp0 hkd hrf hrp hrk ⊢
      have hsp : Spared 101 27 o ap cp Fs kd ep ek := .of hsp0 hkd hrp hrk
      have hF := hsp0.2.2.2.2.1
      rw [qF_of hsp0 ap cp kd]
      have hfl := hsp.fl
      have hFlen := hsp.len
      have hql : (qF o ap cp Fs kd).cells.length = 135 := by simp [Cop.cells, rootC, qF, qOf, ho.ll, ho.rl, ho.gl, ho.ml]
      have hqt := hsp.tn hty rfl
      refine ow_mem (M' := Mem w [] (e51 :: e46 :: some (b5, blk o.cells 50) :: some (b3, blk l.cells 50) :: some (b33, blk (([1, 2] : List UInt8).map vU8) 5) :: ef :: ep :: ek :: es)) (fun w hm => hm) ?_
      refine ow_val (val_move rfl) rfl ?_   -- 54
      refine ow_val (val_extract rfl rfl) rfl ?_   -- 57
      refine ow_val (val_extract rfl rfl) rfl ?_   -- 58
      refine ow_new (acts_alloc zOp) rfl (fun b10 hb10 => ?_)   -- 10
      refine ow_do_eq (does_store_all 0 rfl rfl rfl (Cop.one (o := (qF o ap cp Fs kd))) Tryd.sizeOf50 hql rfl) ?_
      refine ow_val (val_assign rfl) rfl ?_   -- 11
      refine ow_nil (into ?_)
      refine sw_seq ?_
      refine sw_region ?_
      refine ow_val (val_load_part 0 rfl rfl Tryd.isAgg50 Tryd.sizeOf50 hql (show List.take 135 (qF o ap cp Fs kd).cells = (qF o ap cp Fs kd).cells from List.take_of_length_le (Nat.le_of_eq hql))) rfl ?_   -- 60
      refine ow_call_row2 (E := 5) (size := 1) (k := (opIn o).1.length) (xs := (opIn o).1.map vU8) (x := vInt (((opIn o).2 : Nat) : Int)) (callsTo Tryd.func26 rfl (by kernel_rfl) rfl) rfl (fun w hm => (by have h := input_any w (qF o ap cp Fs kd) (hsp.ok hty (ho.mem hm) rfl hF (hm.heldSub (.cons _ (.cons _ (.cons _ (.cons _ (.cons _ (.cons _ (.cons _ (.cons_cons _ (.cons_cons _ (List.Sublist.refl _)))))))))))) hqt.small; rw [hsp.oi] at h; exact h)) (fun a61 c61 e61 hr61 => ?_)   -- 61
      refine ow_val (val_move rfl) rfl ?_   -- 59
      refine ow_val (val_extract rfl rfl) rfl ?_   -- 62
      refine ow_val (val_extract rfl rfl) rfl ?_   -- 63
      refine ow_val (val_assign rfl) rfl ?_   -- 12
      refine ow_val (val_assign rfl) rfl ?_   -- 13
      refine ow_nil (into ?_)
      refine sw_seq ?_
      refine sw_region ?_
      refine ow_val (val_load_part 1 rfl rfl Tryd.isAgg50 Tryd.sizeOf50 hql (show List.take 135 (qF o ap cp Fs kd).cells = (qF o ap cp Fs kd).cells from List.take_of_length_le (Nat.le_of_eq hql))) rfl ?_   -- 65
      refine ow_call_row2 (E := 5) (size := 1) (k := (opIn o).1.length) (xs := (opIn o).1.map vU8) (x := vInt (((opIn o).2 : Nat) : Int)) (callsTo Tryd.func26 rfl (by kernel_rfl) rfl) rfl (fun w hm => (by have h := input_any w (qF o ap cp Fs kd) (hsp.ok hty (ho.mem hm) rfl hF (hm.heldSub (.cons _ (.cons _ (.cons _ (.cons _ (.cons _ (.cons _ (.cons _ (.cons _ (.cons_cons _ (.cons_cons _ (List.Sublist.refl _))))))))))))) hqt.small; rw [hsp.oi] at h; exact h)) (fun a66 c66 e66 hr66 => ?_)   -- 66
      refine ow_val (val_move rfl) rfl ?_   -- 64
      refine ow_val (val_extract rfl rfl) rfl ?_   -- 67
      refine ow_val (val_extract rfl rfl) rfl ?_   -- 68
      refine ow_val (val_assign rfl) rfl ?_   -- 14
      refine ow_val (val_assign rfl) rfl ?_   -- 15
      refine ow_nil (into ?_)
      refine sw_seq ?_
      refine sw_region ?_
      refine ow_val (val_load_part 6 rfl rfl Tryd.isAgg50 Tryd.sizeOf50 hll (show List.take 135 l.cells = l.cells from List.take_of_length_le (Nat.le_of_eq hll))) rfl ?_   -- 70
      refine ow_call_row2 (E := 5) (size := 1) (k := (opIn l).1.length) (xs := (opIn l).1.map vU8) (x := vInt (((opIn l).2 : Nat) : Int)) (callsTo Tryd.func26 rfl (by kernel_rfl) rfl) rfl (fun w hm => input_any w l (hlo _ (hm.only (.cons _ (.cons _ (.cons _ (.cons _ (.cons _ (.cons _ (.cons _ (.cons_cons _ (List.nil_sublist _))))))))))) hlt.small) (fun a71 c71 e71 hr71 => ?_)   -- 71
      refine ow_val (val_move rfl) rfl ?_   -- 69
      refine ow_val (val_extract rfl rfl) rfl ?_   -- 72
      refine ow_val (val_extract rfl rfl) rfl ?_   -- 73
      refine ow_val (val_assign rfl) rfl ?_   -- 16
      refine ow_val (val_assign rfl) rfl ?_   -- 17
      refine ow_nil (into ?_)
      refine sw_seq ?_
      refine sw_region ?_
      refine ow_val (val_load_part 3 rfl rfl Tryd.isAgg50 Tryd.sizeOf50 hql (show List.take 135 (qF o ap cp Fs kd).cells = (qF o ap cp Fs kd).cells from List.take_of_length_le (Nat.le_of_eq hql))) rfl ?_   -- 75
      refine ow_call_row2 (E := 5) (size := 1) (k := (opIn o).1.length) (xs := (opIn o).1.map vU8) (x := vInt (((opIn o).2 : Nat) : Int)) (callsTo Tryd.func26 rfl (by kernel_rfl) rfl) rfl (fun w hm => (by have h := input_any w (qF o ap cp Fs kd) (hsp.ok hty (ho.mem hm) rfl hF (hm.heldSub (.cons _ (.cons _ (.cons _ (.cons _ (.cons _ (.cons _ (.cons _ (.cons _ (.cons _ (.cons _ (.cons_cons _ (.cons_cons _ (List.Sublist.refl _))))))))))))))) hqt.small; rw [hsp.oi] at h; exact h)) (fun a76 c76 e76 hr76 => ?_)   -- 76
      refine ow_val (val_move rfl) rfl ?_   -- 74
      refine ow_val (val_extract rfl rfl) rfl ?_   -- 77
      refine ow_val (val_extract rfl rfl) rfl ?_   -- 78
      refine ow_val (val_assign rfl) rfl ?_   -- 18
      refine ow_val (val_assign rfl) rfl ?_   -- 19
      refine ow_nil (into ?_)
      refine sw_seq ?_
      refine sw_region ?_
      refine ow_val (val_load_part 4 rfl rfl Tryd.isAgg50 Tryd.sizeOf50 hql (show List.take 135 (qF o ap cp Fs kd).cells = (qF o ap cp Fs kd).cells from List.take_of_length_le (Nat.le_of_eq hql))) rfl ?_   -- 80
      refine ow_call_pure (v := .tuple #[.agg (((digO o.w (opIn o).1 (opIn o).2).1).map vU8).toArray, vInt (((digO o.w (opIn o).1 (opIn o).2).2 : Nat) : Int)]) (callsTo Tryd.func31 rfl (by kernel_rfl) rfl) rfl (fun w hm => (by have h := lsum_any w (hK.mem0 hm) (qF o ap cp Fs kd) (hsp.ok hty (ho.mem hm) rfl hF (hm.heldSub (.cons _ (.cons _ (.cons _ (.cons _ (.cons _ (.cons _ (.cons _ (.cons _ (.cons _ (.cons _ (.cons _ (.cons_cons _ (.cons_cons _ (List.Sublist.refl _)))))))))))))))) hqt.small; rw [hsp.oi] at h; exact h)) ?_   -- 81
      refine ow_val (val_move rfl) rfl ?_   -- 79
      refine ow_val (val_extract rfl rfl) rfl ?_   -- 82
      refine ow_val (val_extract rfl rfl) rfl ?_   -- 83
      refine ow_new (acts_alloc zD) rfl (fun b20 hb20 => ?_)   -- 20
      refine ow_do_eq (does_store_all 0 rfl rfl rfl (one_u8s _) Tryd.sizeOf27 (by show (List.map vU8 ((digO o.w (opIn o).1 (opIn o).2).1)).length = _; rw [List.length_map]; exact (digO_len _ _ _)) (by show (List.map vU8 zeros32).length = _; rw [List.length_map]; exact zeros32_len)) ?_
      refine ow_val (val_assign rfl) rfl ?_   -- 21
      refine ow_nil (into ?_)
      refine sw_seq ?_
      refine sw_region ?_
      refine ow_val (val_load_part 8 rfl rfl Tryd.isAgg50 Tryd.sizeOf50 (Cop.cells_len ho) (show List.take 135 o.cells = o.cells from List.take_of_length_le (Nat.le_of_eq (Cop.cells_len ho)))) rfl ?_   -- 85
      refine ow_call_pure (v := .tuple #[.agg (((digO o.w (opIn o).1 (opIn o).2).1).map vU8).toArray, vInt (((digO o.w (opIn o).1 (opIn o).2).2 : Nat) : Int)]) (callsTo Tryd.func32 rfl (by kernel_rfl) rfl) rfl (fun w hm => docSumL_any w o (ho.mem hm) hsm) ?_   -- 86
      refine ow_val (val_move rfl) rfl ?_   -- 84
      refine ow_val (val_extract rfl rfl) rfl ?_   -- 87
      refine ow_val (val_extract rfl rfl) rfl ?_   -- 88
      refine ow_new (acts_alloc zD) rfl (fun b22 hb22 => ?_)   -- 22
      refine ow_do_eq (does_store_all 0 rfl rfl rfl (one_u8s _) Tryd.sizeOf27 (by show (List.map vU8 ((digO o.w (opIn o).1 (opIn o).2).1)).length = _; rw [List.length_map]; exact (digO_len _ _ _)) (by show (List.map vU8 zeros32).length = _; rw [List.length_map]; exact zeros32_len)) ?_
      refine ow_val (val_assign rfl) rfl ?_   -- 23
      refine ow_nil (into ?_)
      refine sw_seq ?_
      refine sw_seq ?_
      refine sw_region ?_
      refine ow_val (val_load_part 6 rfl rfl Tryd.isAgg50 Tryd.sizeOf50 hql (show List.take 135 (qF o ap cp Fs kd).cells = (qF o ap cp Fs kd).cells from List.take_of_length_le (Nat.le_of_eq hql))) rfl ?_   -- 89
      refine ow_val (val_load_part 9 rfl rfl Tryd.isAgg50 Tryd.sizeOf50 (Cop.cells_len ho) (show List.take 135 o.cells = o.cells from List.take_of_length_le (Nat.le_of_eq (Cop.cells_len ho)))) rfl ?_   -- 90
      refine ow_call_pure (v := .bool true) (callsTo Tryd.func34 rfl (by kernel_rfl) rfl) rfl (fun w hm => sumsO_any w (hK.mem0 hm) (qF o ap cp Fs kd) o (hsp.ok hty (ho.mem hm) rfl hF (hm.heldSub (.cons _ (.cons _ (.cons _ (.cons _ (.cons _ (.cons _ (.cons _ (.cons _ (.cons _ (.cons _ (.cons _ (.cons _ (.cons _ (.cons_cons _ (.cons_cons _ (List.Sublist.refl _)))))))))))))))))) (ho.mem hm) hn hsp.pn hsp.xs hty.fl) ?_   -- 91
      refine ow_val (val_not rfl) rfl ?_   -- 92
      refine ow_nil (into ?_)
      refine sw_false rfl rfl ?_
      refine sw_skip (into ?_)
      refine sw_seq ?_
      refine sw_seq ?_
      refine sw_region ?_
      refine ow_val (val_move rfl) rfl ?_   -- 93
      refine ow_val (val_move rfl) rfl ?_   -- 94
      refine ow_call_pure (v := .bool true) (callsTo Tryd.func28 rfl (by kernel_rfl) rfl) rfl (fun w hm => (rsame_is w a61 ((opIn o).1.length) _ ((opIn o).1) rfl (hr61.rdAt hm (i := 5) rfl) a46 ((opIn o).1.length) _ ((opIn o).1) rfl (hr46.rdAt hm (i := 8) rfl) (by omega) (decide_eq_true rfl))) ?_   -- 95
      refine ow_val (val_not rfl) rfl ?_   -- 96
      refine ow_val (val_move rfl) rfl ?_   -- 97
      refine ow_guard_yes rfl rfl rfl ?_
      refine ow_val (val_move rfl) rfl ?_   -- 98
      refine ow_guard_yes rfl rfl rfl ?_
      refine ow_val (val_move rfl) rfl ?_   -- 99
      refine ow_guard_yes rfl rfl rfl ?_
      refine ow_call_pure (v := .bool true) (callsTo Tryd.func28 rfl (by kernel_rfl) rfl) rfl (fun w hm => (rsame_is w a66 ((opIn o).1.length) _ ((opIn o).1) rfl (hr66.rdAt hm (i := 4) rfl) a46 ((opIn o).1.length) _ ((opIn o).1) rfl (hr46.rdAt hm (i := 8) rfl) (by omega) (decide_eq_true rfl))) ?_   -- 100
      refine ow_guard_yes rfl rfl rfl ?_
      refine ow_val (val_not rfl) rfl ?_   -- 101
      refine ow_val (val_pick_false rfl rfl) rfl ?_   -- 102
      refine ow_val (val_move rfl) rfl ?_   -- 103
      refine ow_guard_yes rfl rfl rfl ?_
      refine ow_val (val_move rfl) rfl ?_   -- 104
      refine ow_guard_yes rfl rfl rfl ?_
      refine ow_val (val_move rfl) rfl ?_   -- 105
      refine ow_guard_yes rfl rfl rfl ?_
      refine ow_call_pure (v := .bool true) (callsTo Tryd.func28 rfl (by kernel_rfl) rfl) rfl (fun w hm => (rsame_is w a71 ((opIn l).1.length) _ ((opIn l).1) rfl (hr71.rdAt hm (i := 3) rfl) a51 ((opIn l).1.length) _ ((opIn l).1) rfl (hr51.rdAt hm (i := 7) rfl) (by omega) (decide_eq_true rfl))) ?_   -- 106
      refine ow_guard_yes rfl rfl rfl ?_
      refine ow_val (val_not rfl) rfl ?_   -- 107
      refine ow_val (val_pick_false rfl rfl) rfl ?_   -- 108
      refine ow_val (val_move rfl) rfl ?_   -- 109
      refine ow_guard_yes rfl rfl rfl ?_
      refine ow_val (val_move rfl) rfl ?_   -- 110
      refine ow_guard_yes rfl rfl rfl ?_
      refine ow_val (val_move rfl) rfl ?_   -- 111
      refine ow_guard_yes rfl rfl rfl ?_
      refine ow_call_pure (v := .bool true) (callsTo Tryd.func28 rfl (by kernel_rfl) rfl) rfl (fun w hm => (rsame_is w a76 ((opIn o).1.length) _ ((opIn o).1) rfl (hr76.rdAt hm (i := 2) rfl) a46 ((opIn o).1.length) _ ((opIn o).1) rfl (hr46.rdAt hm (i := 8) rfl) (by omega) (decide_eq_true rfl))) ?_   -- 112
      refine ow_guard_yes rfl rfl rfl ?_
      refine ow_val (val_not rfl) rfl ?_   -- 113
      refine ow_val (val_pick_false rfl rfl) rfl ?_   -- 114
      refine ow_val (val_move rfl) rfl ?_   -- 115
      refine ow_guard_yes rfl rfl rfl ?_
      refine ow_val (val_load_all 1 rfl rfl Tryd.isAgg27 Tryd.sizeOf27 (by show (List.map vU8 ((digO o.w (opIn o).1 (opIn o).2).1)).length = _; rw [List.length_map]; exact (digO_len _ _ _))) rfl ?_   -- 116
      refine ow_guard_yes rfl rfl rfl ?_
      refine ow_val (val_load_all 0 rfl rfl Tryd.isAgg27 Tryd.sizeOf27 (by show (List.map vU8 ((digO o.w (opIn o).1 (opIn o).2).1)).length = _; rw [List.length_map]; exact (digO_len _ _ _))) rfl ?_   -- 117
      refine ow_guard_yes rfl rfl rfl ?_
      refine ow_val ((val_neq_u8s rfl rfl Tryd.eqGuardType27 Tryd.underlying27 Tryd.underlying5 Tryd.sizeOf5 Tryd.isAgg5 (digO_len _ _ _) (digO_len _ _ _)).to (congrArg Value.bool (show _ = false by simp [txt]))) rfl ?_   -- 118
      refine ow_val (val_pick_false rfl rfl) rfl ?_   -- 119
      refine ow_val (val_move rfl) rfl ?_   -- 120
      refine ow_guard_yes rfl rfl rfl ?_
      refine ow_val (val_move rfl) rfl ?_   -- 121
      refine ow_guard_yes rfl rfl rfl ?_
      refine ow_val (val_load_part 6 rfl rfl Tryd.isAgg50 Tryd.sizeOf50 hql (show List.take 135 (qF o ap cp Fs kd).cells = (qF o ap cp Fs kd).cells from List.take_of_length_le (Nat.le_of_eq hql))) rfl ?_   -- 122
      refine ow_guard_yes rfl rfl rfl ?_
      refine ow_val (val_load_part 9 rfl rfl Tryd.isAgg50 Tryd.sizeOf50 (Cop.cells_len ho) (show List.take 135 o.cells = o.cells from List.take_of_length_le (Nat.le_of_eq (Cop.cells_len ho)))) rfl ?_   -- 123
      refine ow_guard_yes rfl rfl rfl ?_
      refine ow_call_pure (v := .bool true) (callsTo Tryd.func35 rfl (by kernel_rfl) rfl) rfl (fun w hm => kept_any w o (qF o ap cp Fs kd) (ho.mem hm) (hsp.ok hty (ho.mem hm) rfl hF (hm.heldSub (.cons _ (.cons _ (.cons _ (.cons _ (.cons _ (.cons _ (.cons _ (.cons _ (.cons _ (.cons _ (.cons _ (.cons _ (.cons _ (.cons_cons _ (.cons_cons _ (List.Sublist.refl _)))))))))))))))))) hn hty.ls hsp.hk hsp.pn af cf Fs (hrf.rdAt hm (i := 12) rfl) hFlen (fun i hi => ⟨slok hF (hm.heldSub (.cons _ (.cons _ (.cons _ (.cons _ (.cons _ (.cons _ (.cons _ (.cons _ (.cons _ (.cons _ (.cons _ (.cons _ (.cons _ (.cons _ (.cons _ (List.Sublist.refl _))))))))))))))))) (fs_b hsp.fx rfl hty) hi, fs_get hsp.fx hi⟩)) ?_   -- 124
      refine ow_guard_yes rfl rfl rfl ?_
      refine ow_val (val_not rfl) rfl ?_   -- 125
      refine ow_val (val_pick_false rfl rfl) rfl ?_   -- 126
      refine ow_nil (into ?_)
      refine sw_false rfl rfl ?_
      refine sw_skip (into ?_)
      refine sw_seq ?_
      refine sw_region ?_
      refine ow_val (val_move rfl) rfl ?_   -- 127
      refine ow_val (val_move rfl) rfl ?_   -- 128
      refine ow_val (val_move rfl) rfl ?_   -- 129
      refine ow_val (val_move rfl) rfl ?_   -- 130
      refine ow_make (acts_buildSlice (cs := [.slice a61 ((opIn o).1.length) c61, .slice a66 ((opIn o).1.length) c66, .slice a71 ((opIn l).1.length) c71, .slice a76 ((opIn o).1.length) c76]) Tryd.underlying32 Tryd.sizeOf25 Tryd.zeroValue25 rfl rfl (by kernel_rfl)) rfl (fun b131 hb131 => ?_)   -- 131
      refine ow_val (val_assign rfl) rfl ?_   -- 24
      refine ow_nil (into ?_)
      refine sw_seq ?_
      refine sw_seq ?_
      refine sw_region ?_
      refine ow_val (val_load_part 7 rfl rfl Tryd.isAgg50 Tryd.sizeOf50 hql (show List.take 135 (qF o ap cp Fs kd).cells = (qF o ap cp Fs kd).cells from List.take_of_length_le (Nat.le_of_eq hql))) rfl ?_   -- 132
      refine ow_call_row (E := 25) (size := 1) (k := (lsO (qF o ap cp Fs kd)).length) (xs := (lsO (qF o ap cp Fs kd)).map Sl.v) (callsTo Tryd.func36 rfl (by kernel_rfl) rfl) rfl (fun w hm => lists_any w (qF o ap cp Fs kd) (hsp.ok hty (ho.mem hm) rfl hF (hm.heldSub (.cons _ (.cons _ (.cons _ (.cons _ (.cons _ (.cons _ (.cons _ (.cons _ (.cons _ (.cons _ (.cons _ (.cons _ (.cons _ (.cons _ (.cons_cons _ (.cons_cons _ (List.Sublist.refl _))))))))))))))))))) (by rw [hsp.pn]; exact hn)) (fun a133 c133 e133 hr133 => ?_)   -- 133
      refine ow_val (val_len rfl Tryd.underlying32) rfl ?_   -- 134
      refine ow_val (val_move rfl) rfl ?_   -- 135
      refine ow_nil (into ?_)
      refine sw_block ?_
      refine sw_loop (σ := Nat × List (Sl UInt8) × List Ent) (fun t => t.1 ≤ (lsO (qF o ap cp Fs kd)).length ∧ t.2.1.map Sl.v = Fs.map Sl.v ∧ EAll (FRow 5 t.2.1) Fs.length t.2.2) (fun t => [(135, vInt (t.1 : Int)), (134, vInt ((lsO (qF o ap cp Fs kd)).length : Int)), (133, .slice a133 (lsO (qF o ap cp Fs kd)).length c133), (37, vInt (i : Int)), (36, vInt (ops.length : Int)), (35, .slice (some ⟨ba, oa, none⟩) ops.length c), (3, .pointer (some ⟨b3, 0, none⟩)), (5, .pointer (some ⟨b5, 0, none⟩)), (10, .pointer (some ⟨b10, 0, none⟩)), (24, .slice (some ⟨b131, 0, none⟩) 4 4), (12, .slice a61 (opIn o).1.length c61), (18, .slice a76 (opIn o).1.length c76), (6, .slice a46 (opIn o).1.length c46), (11, .slice af Fs.length cf)]) (fun t => Mem w [] (e133 :: some (b131, blk [.slice a61 (opIn o).1.length c61, .slice a66 (opIn o).1.length c66, .slice a71 (opIn l).1.length c71, .slice a76 (opIn o).1.length c76] 25) :: e76 :: e71 :: e66 :: e61 :: some (b10, blk (qF o ap cp Fs kd).cells 50) :: e46 :: some (b5, blk o.cells 50) :: some (b3, blk l.cells 50) :: some (b33, blk (([1, 2] : List UInt8).map vU8) 5) :: ef :: ep :: ek :: t.2.2)) (fun t => (lsO (qF o ap cp Fs kd)).length - t.1) (0, Fs, es) ⟨Nat.zero_le _, rfl, hF⟩ ⟨rfl, rfl, rfl, rfl, rfl, rfl, rfl, rfl, rfl, rfl, rfl, rfl, rfl, rfl, trivial⟩ (fun w hm => hm.only (.cons_cons _ (.cons_cons _ (.cons _ (.cons _ (.cons_cons _ (.cons_cons _ (.cons_cons _ (.cons_cons _ (.cons_cons _ (.cons _ (.cons_cons _ (.cons_cons _ (.cons_cons _ (.cons_cons _ (.cons_cons _ (.cons_cons _ (.cons_cons _ (List.Sublist.refl _))))))))))))))))))) ?_
      rintro ⟨t, Gs, es2⟩ ⟨ht, hv, hGF⟩
      simp only at ht hv hGF ⊢
      refine sw_seq ?_
      refine sw_region ?_
      refine ow_val (val_lss_int rfl rfl) rfl ?_   -- 136
      refine ow_nil (into ?_)
      refine sw_seq ?_
      refine sw_if rfl (fun h23 => ?_) (fun h23 => ?_)
      · -- then
        have hNl : (lsO (qF o ap cp Fs kd)).length = Fs.length := by rw [hsp.ls, List.length_map]
        have hgl := vs_len hv
        obtain ⟨bl, rfl⟩ := hr133.addr0 (by omega)
        obtain ⟨G, hG⟩ : ∃ z, Gs.getD t default = z := ⟨_, rfl⟩
        obtain ⟨m, hm1, hm40, hGv⟩ := hsp.m40 hty hv (t := t) (by omega) hG
        obtain ⟨L1, e, L2, rfl, hge, hput⟩ := hGF.split (i := t) (by omega)
        have hge2 : RowE (.slice G.a (m + 40) G.c) 5 1 (m + 40) (G.xs.map vU8) e := by rw [FRow, KRow, nK, hG, hm40] at hge; exact hge
        refine sw_skip (into ?_)
        refine sw_seq ?_
        refine sw_block ?_
        refine sw_seq ?_
        refine sw_region ?_
        refine ow_val (val_indexAddr_slice t (t * 1) rfl rfl Tryd.underlying32 Tryd.sizeOf25 (by omega) (by omega) (by omega)) rfl ?_   -- 137
        refine ow_val ((val_load (v := Sl.v ((lsO (qF o ap cp Fs kd)).getD t default)) rfl Tryd.isAgg25 (fun w' hm => Rd.get (V := Sl.v) (p := lsO (qF o ap cp Fs kd)) (k := t) (hr133.rdAt hm (i := 0) rfl) (by omega) (by omega))).to (v' := .slice G.a m G.c) hGv) rfl ?_   -- 138
        refine ow_val (val_assign rfl) rfl ?_   -- 26
        refine ow_nil (into ?_)
        refine sw_region ?_
        refine ow_val (val_move rfl) rfl ?_   -- 139
        refine ow_mem (M' := Mem w [] ([e] ++ (e133 :: some (b131, blk [.slice a61 (opIn o).1.length c61, .slice a66 (opIn o).1.length c66, .slice a71 (opIn l).1.length c71, .slice a76 (opIn o).1.length c76] 25) :: e76 :: e71 :: e66 :: e61 :: some (b10, blk (qF o ap cp Fs kd).cells 50) :: e46 :: some (b5, blk o.cells 50) :: some (b3, blk l.cells 50) :: some (b33, blk (([1, 2] : List UInt8).map vU8) 5) :: ef :: ep :: ek :: (L1 ++ L2)))) (fun w hm => Mem.pull1 (H := [e133, some (b131, blk [.slice a61 (opIn o).1.length c61, .slice a66 (opIn o).1.length c66, .slice a71 (opIn l).1.length c71, .slice a76 (opIn o).1.length c76] 25), e76, e71, e66, e61, some (b10, blk (qF o ap cp Fs kd).cells 50), e46, some (b5, blk o.cells 50), some (b3, blk l.cells 50), some (b33, blk (([1, 2] : List UInt8).map vU8) 5), ef, ep, ek]) hm) ?_
        refine ow_call_frame (σ := List UInt8 × Ent) (fun _ => .tuple #[]) (fun t => [t.2]) (fun t => t.1.length = m + 40 ∧ t.1.drop m = G.xs.drop m ∧ RowE (.slice G.a (m + 40) G.c) 5 1 (m + 40) (t.1.map vU8) t.2) [e] (e133 :: some (b131, blk [.slice a61 (opIn o).1.length c61, .slice a66 (opIn o).1.length c66, .slice a71 (opIn l).1.length c71, .slice a76 (opIn o).1.length c76] 25) :: e76 :: e71 :: e66 :: e61 :: some (b10, blk (qF o ap cp Fs kd).cells 50) :: e46 :: some (b5, blk o.cells 50) :: some (b3, blk l.cells 50) :: some (b33, blk (([1, 2] : List UInt8).map vU8) 5) :: ef :: ep :: ek :: (L1 ++ L2)) (callsTo Tryd.func37 rfl (by kernel_rfl) rfl) rfl (fun w hm hm1 => over_any G.a G.c m 40 G.xs e hge2 hm40 (by omega) w hm1) ?_
        rintro ⟨X9, e9⟩ ⟨hX9, _, hr9⟩
        simp only at hX9 hr9 ⊢
        refine ow_mem (M' := Mem w [] (e133 :: some (b131, blk [.slice a61 (opIn o).1.length c61, .slice a66 (opIn o).1.length c66, .slice a71 (opIn l).1.length c71, .slice a76 (opIn o).1.length c76] 25) :: e76 :: e71 :: e66 :: e61 :: some (b10, blk (qF o ap cp Fs kd).cells 50) :: e46 :: some (b5, blk o.cells 50) :: some (b3, blk l.cells 50) :: some (b33, blk (([1, 2] : List UInt8).map vU8) 5) :: ef :: ep :: ek :: (L1 ++ e9 :: L2))) (fun w hm => Mem.back1 (H := [e133, some (b131, blk [.slice a61 (opIn o).1.length c61, .slice a66 (opIn o).1.length c66, .slice a71 (opIn l).1.length c71, .slice a76 (opIn o).1.length c76] 25), e76, e71, e66, e61, some (b10, blk (qF o ap cp Fs kd).cells 50), e46, some (b5, blk o.cells 50), some (b3, blk l.cells 50), some (b33, blk (([1, 2] : List UInt8).map vU8) 5), ef, ep, ek]) hm) ?_
        refine ow_nil (into ?_)
        refine sw_region ?_
        refine ow_val (val_add_int ((t + 1 : Nat) : Int) rfl rfl (by omega) (by omega)) rfl ?_   -- 141
        refine ow_val (val_move rfl) rfl ?_   -- 135
        exact ow_nil (fun w hm => ⟨(t + 1, Gs.set t (⟨G.a, G.c, X9⟩ : Sl UInt8), L1 ++ e9 :: L2), ⟨by dsimp only; omega, FRow.set (T := 5) (by omega) hG hv (by rw [hX9, hm40]), hput (FRow 5 (Gs.set t (⟨G.a, G.c, X9⟩ : Sl UInt8))) e9 (.here (by omega) (by dsimp only; rw [hX9]; exact hr9)) (fun j x hj _ h => h.put hj)⟩, by dsimp only; omega, ⟨rfl, rfl, rfl, rfl, rfl, rfl, rfl, rfl, rfl, rfl, rfl, rfl, rfl, rfl, trivial⟩, hm⟩)
      · -- else
        have hGl2 := hsp.tn hty hv
        have hq2l : (opIn (qF o ap cp Gs kd)).1.length ≤ 100000000 := opIn_len3 ho.ll ho.rl (by show ∀ d ∈ kd.xs, _; rw [hsp.hk]; exact ho.ke) ho.gl ho.ml hGl2
        refine sw_exit (into ?_)
        refine sw_seq ?_
        refine sw_region ?_
        refine ow_val (val_load_part 6 rfl rfl Tryd.isAgg50 Tryd.sizeOf50 hql (show List.take 135 (qF o ap cp Fs kd).cells = (qF o ap cp Fs kd).cells from List.take_of_length_le (Nat.le_of_eq hql))) rfl ?_   -- 143
        refine ow_call_row2 (E := 5) (size := 1) (k := (opIn (qF o ap cp Gs kd)).1.length) (xs := (opIn (qF o ap cp Gs kd)).1.map vU8) (x := vInt (((opIn (qF o ap cp Gs kd)).2 : Nat) : Int)) (callsTo Tryd.func26 rfl (by kernel_rfl) rfl) rfl (fun w hm => (by have h := input_any w (qF o ap cp Gs kd) (hsp.ok hty (ho.mem hm) hv hGF (hm.heldSub (.cons _ (.cons _ (.cons _ (.cons _ (.cons _ (.cons _ (.cons _ (.cons _ (.cons _ (.cons _ (.cons _ (.cons _ (.cons_cons _ (.cons_cons _ (List.Sublist.refl _))))))))))))))))) (hsp.tn hty hv).small; rw [hsp.ce hv] at h; exact h)) (fun a144 c144 e144 hr144 => ?_)   -- 144
        refine ow_val (val_move rfl) rfl ?_   -- 142
        refine ow_val (val_extract rfl rfl) rfl ?_   -- 145
        refine ow_val (val_extract rfl rfl) rfl ?_   -- 146
        refine ow_val (val_assign rfl) rfl ?_   -- 27
        refine ow_val (val_assign rfl) rfl ?_   -- 28
        refine ow_nil (into ?_)
        refine sw_seq ?_
        refine sw_region ?_
        refine ow_val (val_load_part 7 rfl rfl Tryd.isAgg50 Tryd.sizeOf50 hql (show List.take 135 (qF o ap cp Fs kd).cells = (qF o ap cp Fs kd).cells from List.take_of_length_le (Nat.le_of_eq hql))) rfl ?_   -- 148
        refine ow_call_row2 (E := 5) (size := 1) (k := (opIn (qF o ap cp Gs kd)).1.length) (xs := (opIn (qF o ap cp Gs kd)).1.map vU8) (x := vInt (((opIn (qF o ap cp Gs kd)).2 : Nat) : Int)) (callsTo Tryd.func27 rfl (by kernel_rfl) rfl) rfl (fun w hm => (by have h := doc_any w (qF o ap cp Gs kd) (hsp.ok hty (ho.mem hm) hv hGF (hm.heldSub (.cons _ (.cons _ (.cons _ (.cons _ (.cons _ (.cons _ (.cons _ (.cons _ (.cons _ (.cons _ (.cons _ (.cons _ (.cons _ (.cons_cons _ (.cons_cons _ (List.Sublist.refl _)))))))))))))))))) (hsp.tn hty hv).small; rw [hsp.ce hv] at h; exact h)) (fun a149 c149 e149 hr149 => ?_)   -- 149
        refine ow_val (val_move rfl) rfl ?_   -- 147
        refine ow_val (val_extract rfl rfl) rfl ?_   -- 150
        refine ow_val (val_extract rfl rfl) rfl ?_   -- 151
        refine ow_val (val_assign rfl) rfl ?_   -- 29
        refine ow_val (val_assign rfl) rfl ?_   -- 30
        refine ow_nil (into ?_)
        refine sw_seq ?_
        refine sw_seq ?_
        refine sw_region ?_
        refine ow_val (val_move rfl) rfl ?_   -- 152
        refine ow_val (val_move rfl) rfl ?_   -- 153
        refine ow_call_pure (v := .bool true) (callsTo Tryd.func28 rfl (by kernel_rfl) rfl) rfl (fun w hm => (rsame_is w a144 ((opIn (qF o ap cp Gs kd)).1.length) _ ((opIn (qF o ap cp Gs kd)).1) rfl (hr144.rdAt hm (i := 1) rfl) a149 ((opIn (qF o ap cp Gs kd)).1.length) _ ((opIn (qF o ap cp Gs kd)).1) rfl (hr149.rdAt hm (i := 0) rfl) (by omega) (decide_eq_true rfl))) ?_   -- 154
        refine ow_val (val_not rfl) rfl ?_   -- 155
        refine ow_val (val_move rfl) rfl ?_   -- 156
        refine ow_guard_yes rfl rfl rfl ?_
        refine ow_val (val_move rfl) rfl ?_   -- 157
        refine ow_guard_yes rfl rfl rfl ?_
        refine ow_val (val_move rfl) rfl ?_   -- 158
        refine ow_guard_yes rfl rfl rfl ?_
        refine ow_call_pure (v := .bool true) (callsTo Tryd.func28 rfl (by kernel_rfl) rfl) rfl (fun w hm => (rsame_is w a61 ((opIn o).1.length) _ ((opIn o).1) rfl (hr61.rdAt hm (i := 7) rfl) a46 ((opIn o).1.length) _ ((opIn o).1) rfl (hr46.rdAt hm (i := 9) rfl) (by omega) (decide_eq_true rfl))) ?_   -- 159
        refine ow_guard_yes rfl rfl rfl ?_
        refine ow_val (val_not rfl) rfl ?_   -- 160
        refine ow_val (val_pick_false rfl rfl) rfl ?_   -- 161
        refine ow_val (val_move rfl) rfl ?_   -- 162
        refine ow_guard_yes rfl rfl rfl ?_
        refine ow_val (val_move rfl) rfl ?_   -- 163
        refine ow_guard_yes rfl rfl rfl ?_
        refine ow_val (val_move rfl) rfl ?_   -- 164
        refine ow_guard_yes rfl rfl rfl ?_
        refine ow_call_pure (v := .bool true) (callsTo Tryd.func28 rfl (by kernel_rfl) rfl) rfl (fun w hm => (rsame_is w a76 ((opIn o).1.length) _ ((opIn o).1) rfl (hr76.rdAt hm (i := 4) rfl) a46 ((opIn o).1.length) _ ((opIn o).1) rfl (hr46.rdAt hm (i := 9) rfl) (by omega) (decide_eq_true rfl))) ?_   -- 165
        refine ow_guard_yes rfl rfl rfl ?_
        refine ow_val (val_not rfl) rfl ?_   -- 166
        refine ow_val (val_pick_false rfl rfl) rfl ?_   -- 167
        refine ow_nil (into ?_)
        refine sw_false rfl rfl ?_
        refine sw_skip (into ?_)
        refine sw_seq ?_
        refine sw_seq ?_
        refine sw_region ?_
        refine ow_val (val_move rfl) rfl ?_   -- 168
        refine ow_val (val_move rfl) rfl ?_   -- 169
        refine ow_make (acts_buildSlice (cs := [.slice a144 ((opIn (qF o ap cp Gs kd)).1.length) c144]) Tryd.underlying32 Tryd.sizeOf25 Tryd.zeroValue25 rfl rfl (by kernel_rfl)) rfl (fun b170 hb170 => ?_)   -- 170
        refine ow_append' (k := 4 + 1) (acts_append (size := 1) (bytes := 24) 4 rfl rfl rfl (RowE.full (n := 4) (size := 1) rfl (by decide)) rfl Tryd.underlying32 hSi hSz hSsz hSby rfl (by decide) (fun w hm => Rd.blk (hm.at (i := 0) rfl)) rfl (fun u hu => by rw [List.mem_singleton.1 hu]; rfl) (by omega) (by omega)) rfl (fun a171 c171 e171 hr171 => ?_)   -- 171
        refine ow_val (val_move rfl) rfl ?_   -- 172
        refine ow_append' (k := 4 + 1 + Fs.length) (acts_append (size := 1) (bytes := 24) 4 rfl rfl rfl hr171 rfl Tryd.underlying32 hSi hSz hSsz hSby rfl (by decide) (fun w hm => hrf.rdAt hm (i := 14) rfl) (by rw [List.length_map, Nat.mul_one]) (fun u hu => by obtain ⟨z, _, rfl⟩ := List.mem_map.1 hu; rfl) (by omega) (by omega)) rfl (fun a173 c173 e173 hr173 => ?_)   -- 173
        have hgl := vs_len hv
        have hGF2 : EAll (FRow 5 Gs) Gs.length es2 := by rw [hgl]; exact hGF
        obtain ⟨KS, hKS⟩ : ∃ z, ((⟨a61, c61, (opIn o).1⟩ : Sl UInt8) :: ⟨a66, c66, (opIn o).1⟩ :: ⟨a71, c71, (opIn l).1⟩ :: ⟨a76, c76, (opIn o).1⟩ :: ⟨a144, c144, (opIn (qF o ap cp Gs kd)).1⟩ :: Gs) = z := ⟨_, rfl⟩
        have hkl : KS.length = 4 + 1 + Fs.length := by rw [← hKS, ← hgl]; simp only [List.length_cons]; omega
        have hrA : RowE (.slice a173 KS.length c173) 25 1 KS.length (KS.map Sl.v) e173 := hr173.cong (by rw [hkl]) (by rw [hkl]) (by rw [← hKS]; simp only [List.map_cons, hv]; rfl)
        have hrE : EAll (ARow 5 KS 0 0) KS.length (e61 :: e66 :: e71 :: e76 :: e144 :: es2) := by rw [← hKS]; exact LRow.all (LRow.cons hr61 (LRow.cons hr66 (LRow.cons hr71 (LRow.cons hr76 (LRow.cons hr144 (FRow.some hGF2))))))
        have hgb := fs_b hsp.fx hv hty
        have hkb : ∀ s ∈ KS, s.xs.length ≤ 536870912 := by
          rw [← hKS]; intro s hs
          simp only [List.mem_cons] at hs
          rcases hs with rfl | rfl | rfl | rfl | rfl | hs
          · dsimp only; omega
          · dsimp only; omega
          · dsimp only; omega
          · dsimp only; omega
          · dsimp only; omega
          · have := hgb s hs; omega
        rw [← hkl]
        refine ow_mem (M' := Mem w [] ((e173 :: e61 :: e66 :: e71 :: e76 :: e144 :: es2) ++ [some (b5, blk o.cells 50), some (b3, blk l.cells 50), some (b33, blk (([1, 2] : List UInt8).map vU8) 5)])) (fun w hm => Mem.toApart (hm.only (.cons _ (.cons _ (.cons_cons _ (.cons _ (.cons_cons _ (.cons_cons _ (.cons_cons _ (.cons_cons _ (.cons_cons _ (.cons _ (.cons _ (.cons_cons _ (.cons_cons _ (.cons_cons _ (.cons _ (.cons _ (.cons _ (List.Sublist.refl _)))))))))))))))))))) ?_
        refine ow_call_frame (σ := Unit) (fun _ => .bool true) (fun _ => []) (fun _ => True) (e173 :: e61 :: e66 :: e71 :: e76 :: e144 :: es2) [some (b5, blk o.cells 50), some (b3, blk l.cells 50), some (b33, blk (([1, 2] : List UInt8).map vU8) 5)] (callsTo Tryd.func38 rfl (by kernel_rfl) rfl) rfl (fun w hm hm1 => (apart_any w a173 c173 KS e173 _ hrA hrE (by omega) hkb hm1).mono fun _ _ ⟨u, he, hu, hmm⟩ => ⟨u, he, (), hu, trivial, hmm⟩) ?_
        rintro ⟨⟩ _
        refine ow_mem (M' := Mem w [] [some (b5, blk o.cells 50), some (b3, blk l.cells 50), some (b33, blk (([1, 2] : List UInt8).map vU8) 5)]) (fun w hm => hm) ?_
        refine ow_val (val_not rfl) rfl ?_   -- 175
        refine ow_nil (into ?_)
        refine sw_false rfl rfl ?_
        refine sw_skip (into ?_)
        refine sw_region ?_
        refine ow_val (val_load_part 0 rfl rfl Tryd.isAgg50 Tryd.sizeOf50 (Cop.cells_len ho) (show List.take 135 o.cells = o.cells from List.take_of_length_le (Nat.le_of_eq (Cop.cells_len ho)))) rfl ?_   -- 176
        refine ow_do_eq (does_store_all 1 rfl rfl rfl (Cop.one (o := o)) Tryd.sizeOf50 (Cop.cells_len ho) hll) ?_
        refine ow_nil (into ?_)
        refine sw_region ?_
        refine ow_val (val_add_int ((i + 1 : Nat) : Int) rfl rfl (by omega) (by omega)) rfl ?_   -- 177
        refine ow_val (val_move rfl) rfl ?_   -- 37
        exact ow_nil (fun w hm => ⟨(i + 1, o), ⟨by dsimp only; omega, ⟨fun W hM => ho.mem hM, hty, Cop.cells_len ho, hol⟩⟩, by dsimp only; omega, ⟨rfl, rfl, rfl, rfl, trivial⟩, hm.only (.cons _ (List.Sublist.refl _))⟩)
  · -- else
    refine sw_exit (into ?_)
    refine sw_seq ?_
    refine sw_region ?_
    refine ow_val (val_assign rfl) rfl ?_   -- 2
    refine ow_nil (into ?_)
    exact sw_ret (fun w hm => ret_one _ rfl rfl ⟨rfl, hm.forgetAll⟩)
end Go.Proofs.YtpmnhmfahgchgaaDoor
