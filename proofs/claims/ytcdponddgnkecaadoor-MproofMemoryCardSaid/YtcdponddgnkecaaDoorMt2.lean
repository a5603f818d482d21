import Derived.Test.YtcdponddgnkecaaDoorMt1
import Derived.Test.YtcdponddgnkecaaDoorProg
set_option linter.unusedVariables false
set_option linter.unusedSimpArgs false
namespace Go.Proofs.YtcdponddgnkecaaDoor
open Go.Sx Go.Ps
theorem child_l (w : World) (bn ba : Nat) (hne : bn ≠ ba) (d : List UInt8) (hdl : d.length = 32) (l r : Value) (N H x : UInt64) (hNH : N / UInt64.ofNat (Int.toNat 2) = H) (hn : w.heap[bn]? = some (blk (nodeC d l r N) 110)) (ha : w.heap[ba]? = some (blk [vU64 x] 23)) (hlt : x < H) : Calls Tryd.prog 79 #[vPtr bn, vPtr ba] w fun en w' => ∃ v, en = .returned v ∧ v = l ∧ Mem w [ba] [some (ba, blk [vU64 x] 23)] w' := by
  refine calls_of_sw (vs := [vPtr bn, vPtr ba]) Tryd.func79 rfl Tryd.ntmps79 rfl (SW.beginRecv ha ?_)
  refine sw_seq ?_
  refine sw_region ?_
  refine ow_val (val_assign rfl) rfl ?_
  refine ow_nil (into ?_)
  refine sw_seq ?_
  refine sw_seq ?_
  refine sw_region_lex _ [] [(0, 0), (1, 0), (3, 0), (4, 0), (5, 0), (2, 1), (6, 1), (7, 0), (8, 0)] (by kernel_rfl) (by kernel_rfl) (fun _ _ _ h => h) (fun _ h => h) (fun _ h => h.drawn _) ?_
  refine lw_pure rfl (val_move rfl) rfl ?_
  refine lw_pure rfl (val_nilCheck rfl) rfl ?_
  refine lw_pure rfl (val_move rfl) rfl ?_
  refine lw_pure rfl (val_nilCheck rfl) rfl ?_
  refine lw_pure rfl (val_fieldAddr (m := 0) (e := 34) rfl Tryd.underlying110 rfl rfl Tryd.sizeOf23 rfl) rfl ?_
  refine lw_held rfl (val_load_at 0 rfl rfl Tryd.isAgg23 rfl) rfl ?_
  refine lw_held rfl (val_load_old hn (by simpa using hne) rfl Tryd.isAgg23 (node_34 hdl)) rfl ?_
  refine lw_pure rfl ((val_quo_u64 rfl rfl (by decide)).to (congrArg vU64 hNH)) rfl ?_
  refine lw_pure rfl ((val_lss_u64 rfl rfl).to (congrArg Value.bool (decide_eq_true (hlt)))) rfl ?_
  refine lw_nil (into ?_)
  refine sw_true rfl rfl ?_
  refine sw_seq ?_
  refine sw_region ?_
  refine ow_val (val_move rfl) rfl ?_
  refine ow_val (val_nilCheck rfl) rfl ?_
  refine ow_val (val_fieldAddr (m := 0) (e := 32) rfl Tryd.underlying110 rfl rfl Tryd.sizeOf93 rfl) rfl ?_
  refine ow_val (val_load_old hn (by simpa using hne) rfl Tryd.isAgg93 (node_32 hdl)) rfl ?_
  refine ow_val (val_assign rfl) rfl ?_
  refine ow_nil (into ?_)
  refine sw_ret (fun w hm => ?_)
  try dsimp only [thenP, blockP, Nat.beq, cond]
  exact ret_one _ rfl rfl ⟨rfl, hm⟩

theorem child_r (w : World) (bn ba : Nat) (hne : bn ≠ ba) (d : List UInt8) (hdl : d.length = 32) (l r : Value) (N H x : UInt64) (hNH : N / UInt64.ofNat (Int.toNat 2) = H) (hn : w.heap[bn]? = some (blk (nodeC d l r N) 110)) (ha : w.heap[ba]? = some (blk [vU64 x] 23)) (hlt : ¬ x < H) : Calls Tryd.prog 79 #[vPtr bn, vPtr ba] w fun en w' => ∃ v, en = .returned v ∧ v = r ∧ Mem w [ba] [some (ba, blk [vU64 (x - H)] 23)] w' := by
  refine calls_of_sw (vs := [vPtr bn, vPtr ba]) Tryd.func79 rfl Tryd.ntmps79 rfl (SW.beginRecv ha ?_)
  refine sw_seq ?_
  refine sw_region ?_
  refine ow_val (val_assign rfl) rfl ?_
  refine ow_nil (into ?_)
  refine sw_seq ?_
  refine sw_seq ?_
  refine sw_region_lex _ [] [(0, 0), (1, 0), (3, 0), (4, 0), (5, 0), (2, 1), (6, 1), (7, 0), (8, 0)] (by kernel_rfl) (by kernel_rfl) (fun _ _ _ h => h) (fun _ h => h) (fun _ h => h.drawn _) ?_
  refine lw_pure rfl (val_move rfl) rfl ?_
  refine lw_pure rfl (val_nilCheck rfl) rfl ?_
  refine lw_pure rfl (val_move rfl) rfl ?_
  refine lw_pure rfl (val_nilCheck rfl) rfl ?_
  refine lw_pure rfl (val_fieldAddr (m := 0) (e := 34) rfl Tryd.underlying110 rfl rfl Tryd.sizeOf23 rfl) rfl ?_
  refine lw_held rfl (val_load_at 0 rfl rfl Tryd.isAgg23 rfl) rfl ?_
  refine lw_held rfl (val_load_old hn (by simpa using hne) rfl Tryd.isAgg23 (node_34 hdl)) rfl ?_
  refine lw_pure rfl ((val_quo_u64 rfl rfl (by decide)).to (congrArg vU64 hNH)) rfl ?_
  refine lw_pure rfl ((val_lss_u64 rfl rfl).to (congrArg Value.bool (decide_eq_false (hlt)))) rfl ?_
  refine lw_nil (into ?_)
  refine sw_false rfl rfl ?_
  refine sw_skip (into ?_)
  refine sw_seq ?_
  refine sw_region_lex _ [10] [(0, 0), (1, 0), (3, 0), (4, 0), (5, 0), (2, 1), (6, 1), (7, 0), (8, 0), (9, 0), (10, 2)] (by kernel_rfl) (by kernel_rfl) (fun _ _ _ h => h) (fun _ h => h) (fun _ h => h.drawn _) ?_
  refine lw_pure rfl (val_move rfl) rfl ?_
  refine lw_pure rfl (val_nilCheck rfl) rfl ?_
  refine lw_pure rfl (val_move rfl) rfl ?_
  refine lw_pure rfl (val_nilCheck rfl) rfl ?_
  refine lw_pure rfl (val_fieldAddr (m := 0) (e := 34) rfl Tryd.underlying110 rfl rfl Tryd.sizeOf23 rfl) rfl ?_
  refine lw_held rfl (val_load_at 0 rfl rfl Tryd.isAgg23 rfl) rfl ?_
  refine lw_held rfl (val_load_old hn (by simpa using hne) rfl Tryd.isAgg23 (node_34 hdl)) rfl ?_
  refine lw_pure rfl ((val_quo_u64 rfl rfl (by decide)).to (congrArg vU64 hNH)) rfl ?_
  refine lw_pure rfl (val_sub_u64 rfl rfl) rfl ?_
  refine lw_pure rfl (val_nilCheck rfl) rfl ?_
  refine lw_do rfl (does_store 0 rfl rfl rfl rfl Tryd.sizeOf23 (by simp)) (fun h => nomatch h) (fun _ _ => ?_)
  refine lw_nil (into ?_)
  refine sw_seq ?_
  refine sw_region ?_
  refine ow_val (val_move rfl) rfl ?_
  refine ow_val (val_nilCheck rfl) rfl ?_
  refine ow_val (val_fieldAddr (m := 0) (e := 33) rfl Tryd.underlying110 rfl rfl Tryd.sizeOf93 rfl) rfl ?_
  refine ow_val (val_load_old hn (by simpa using hne) rfl Tryd.isAgg93 (node_33 hdl)) rfl ?_
  refine ow_val (val_assign rfl) rfl ?_
  refine ow_nil (into ?_)
  exact sw_ret (fun w hm => ret_one _ rfl rfl ⟨rfl, hm⟩)

theorem take_cons_drop {ps : List Pk} {j : Nat} (h : j < ps.length) : ps.take j ++ ps.getD j default :: ps.drop (j + 1) = ps := by
  rw [List.getD_eq_getElem?_getD, List.getElem?_eq_getElem h, Option.getD_some, List.getElem_cons_drop, List.take_append_drop]
theorem len_pre : ∀ ps : List Pk, ps.length ≤ pre ps
  | [] => Nat.zero_le _
  | x :: r => by have := len_pre r; have := Nat.one_le_two_pow (n := x.p); rw [pre_cons, List.length_cons]; omega
theorem seg_mem {ps : List Pk} {l : List (List UInt8)} (h : Peaks ps l) {x : Pk} (hx : x ∈ ps) {d : List UInt8} (hd : d ∈ x.seg) : d ∈ l := by
  rw [← h.cat]; exact List.mem_flatMap.2 ⟨x, hx, hd⟩
theorem pre_take {ps : List Pk} {j : Nat} {X : Pk} (hX : ps.getD j default = X) (h : j < ps.length) : pre (ps.take (j + 1)) = pre (ps.take j) + 2 ^ X.p := by
  rw [List.take_succ_eq_append_getElem h, pre_app]
  have : ps[j] = X := by rw [← hX, List.getD_eq_getElem?_getD, List.getElem?_eq_getElem h, Option.getD_some]
  rw [this]; simp [pre]
theorem of_nat {a : Nat} (h : a < 18446744073709551616) : (UInt64.ofNat a).toNat = a := by rw [UInt64.toNat_ofNat', Nat.mod_eq_of_lt (by omega)]
theorem at_sub0 {a b : Nat} (h1 : b ≤ a) (h : a < 18446744073709551616) : UInt64.ofNat a - UInt64.ofNat b = UInt64.ofNat (a - b) := by
  apply UInt64.toNat.inj
  rw [UInt64.toNat_sub_of_le _ _ (UInt64.le_iff_toNat_le.2 (by rw [of_nat (by omega), of_nat h]; exact h1)), of_nat h, of_nat (by omega), of_nat (by omega)]
theorem at_sub {i a b : Nat} (h1 : a + b ≤ i) (h : i < 18446744073709551616) : UInt64.ofNat (i - a) - UInt64.ofNat b = UInt64.ofNat (i - (a + b)) := by
  rw [at_sub0 (by omega) (by omega)]; congr 1; omega
theorem at_lt {a b : Nat} (h1 : a < 18446744073709551616) (h2 : b < 18446744073709551616) : UInt64.ofNat a < UInt64.ofNat b ↔ a < b := by
  rw [UInt64.lt_iff_toNat_lt, of_nat h1, of_nat h2]
theorem lt_63 {p : Nat} (h : 2 ^ p < 9223372036854775808) : p < 63 := (Nat.pow_lt_pow_iff_right (show 1 < 2 by omega)).1 (show 2 ^ p < 2 ^ 63 from h)
theorem pow_nat {p : Nat} (h : p < 63) : (UInt64.ofNat (2 ^ p)).toNat = 2 ^ p := of_nat (Nat.lt_of_lt_of_le (Nat.pow_lt_pow_right (by omega) h) (by decide))
theorem pow_half {p : Nat} (h : p + 1 < 63) : UInt64.ofNat (2 ^ (p + 1)) / UInt64.ofNat (Int.toNat 2) = UInt64.ofNat (2 ^ p) := by
  apply UInt64.toNat.inj
  rw [UInt64.toNat_div, pow_nat h, pow_nat (by omega)]
  show 2 ^ (p + 1) / 2 = _
  rw [Nat.pow_succ]; omega

theorem whole_any (k : Nat) (h1 : 1 ≤ k) (h2 : k ≤ 32) (w : World) (b : Nat) (l : List (List UInt8)) (hdl : ∀ d ∈ l, d.length = 32) (ps : List Pk) (a : Option Addr) (c : Nat) (ht : TreeAt 110 79 k w b l ps a c) (hl63 : l.length < 9223372036854775808) (i s : UInt64) (r : Nat) (hs : s.toNat = 2 ^ r) (hd : 2 ^ r ∣ i.toNat) (hr : i.toNat + 2 ^ r ≤ l.length) : Calls Tryd.prog 57 #[vPtr b, vU64 i, vU64 s] w fun e w' => ∃ v, e = .returned v ∧ v = .agg ((lg k ((l.drop i.toNat).take (2 ^ r))).map vU8).toArray ∧ Mem w [] [] w' := by
  have hil := i.toNat_lt
  have hps : ps.length ≤ l.length := by rw [← ht.pk.cat, pre_len ht.pk.len]; exact len_pre ps
  refine calls_of_sw (vs := [vPtr b, vU64 i, vU64 s]) Tryd.func57 rfl Tryd.ntmps57 rfl (SW.begin ?_)
  refine sw_seq ?_
  refine sw_region ?_
  refine ow_new (acts_box rfl) rfl (fun b4 hb4 => ?_)
  refine ow_new (acts_alloc zD) rfl (fun b6 hb6 => ?_)
  refine ow_nil (into ?_)
  refine sw_seq ?_
  refine sw_region ?_
  refine ow_val (val_assign rfl) rfl ?_
  refine ow_nil (into ?_)
  refine sw_seq ?_
  refine sw_seq ?_
  refine sw_region ?_
  refine ow_val (val_move rfl) rfl ?_
  refine ow_val (val_nilCheck rfl) rfl ?_
  refine ow_val (val_fieldAddr (m := 0) (e := 2) rfl Tryd.underlying79 rfl rfl Tryd.sizeOf77 rfl) rfl ?_
  refine ow_val (val_load_old ht.blk (List.not_mem_nil) rfl Tryd.isAgg77 rfl) rfl ?_
  refine ow_val (val_len rfl Tryd.underlying77) rfl ?_
  refine ow_val (val_move rfl) rfl ?_
  refine ow_nil (into ?_)
  refine sw_block ?_
  refine sw_loop (σ := Nat) (fun j => j ≤ ps.length ∧ pre (ps.take j) ≤ i.toNat) (fun j => [(15, vInt (j : Int)), (14, vInt (ps.length : Int)), (13, .slice a ps.length c), (6, .pointer (some ⟨b6, 0, none⟩)), (4, .pointer (some ⟨b4, 0, none⟩)), (2, vU64 s)]) (fun j => Mem w [] [some (b6, blk (zeros32.map vU8) 41), some (b4, blk [vU64 (UInt64.ofNat (i.toNat - pre (ps.take j)))] 23)]) (fun j => ps.length - j) 0 ⟨Nat.zero_le _, Nat.zero_le _⟩ ⟨rfl, rfl, rfl, rfl, rfl, rfl, trivial⟩ (fun w hm => by rw [show UInt64.ofNat (i.toNat - pre (ps.take 0)) = i from by simp [pre]]; exact hm) ?_
  rintro j ⟨hj, hpi⟩
  refine sw_seq ?_
  refine sw_region ?_
  refine ow_val (val_lss_int rfl rfl) rfl ?_
  refine ow_nil (into ?_)
  refine sw_seq ?_
  refine sw_if rfl (fun h0 => ?_) (fun h0 => ?_)
  · -- then
    obtain ⟨ba, oa, rfl⟩ := ht.rd.addr (by rw [List.length_map]; omega)
    have hjl : j < ps.length := by omega
    obtain ⟨X, hX⟩ : ∃ z, ps.getD j default = z := ⟨_, rfl⟩
    have hXm : X ∈ ps := by rw [← hX]; exact getD_mem hjl
    have hsp : ps.take j ++ X :: ps.drop (j + 1) = ps := by rw [← hX]; exact take_cons_drop hjl
    have hNX := ht.nodes X hXm
    obtain ⟨nl, nr, hnb⟩ := hNX.head
    have hXl := lg_len h2 _ rfl (fun d hd => hdl d (seg_mem ht.pk hXm hd))
    have hpk := hsp ▸ ht.pk
    have hlen : l.length = pre (ps.take j) + (2 ^ X.p + pre (ps.drop (j + 1))) := by rw [← hpk.cat, pre_len hpk.len, pre_app, pre_cons]
    refine sw_skip (into ?_)
    refine sw_seq ?_
    refine sw_block ?_
    refine sw_seq ?_
    refine sw_region ?_
    refine ow_val (val_indexAddr_slice (j) (oa + j) rfl rfl Tryd.underlying77 Tryd.sizeOf93 (by omega) (by omega) (by omega)) rfl ?_
    refine ow_val ((val_load (v := vPtr (ps.getD j default).b) rfl Tryd.isAgg93 (fun w' hm => Rd.get (V := fun x : Pk => vPtr x.b) (p := ps) (k := j) (ht.rd.mem hm) (by omega) (by omega))).to (v' := vPtr X.b) (by rw [hX])) rfl ?_
    refine ow_val (val_assign rfl) rfl ?_
    refine ow_nil (into ?_)
    refine sw_seq ?_
    refine sw_region ?_
    refine ow_val (val_move rfl) rfl ?_
    refine ow_val (val_assign rfl) rfl ?_
    refine ow_nil (into ?_)
    refine sw_seq ?_
    refine sw_seq ?_
    by_cases hb : UInt64.ofNat (i.toNat - pre (ps.take j)) < UInt64.ofNat (2 ^ X.p)
    · -- yes
      have hb' := (at_lt (by omega) (by omega)).1 hb
      have hpf := peak_find hpk hpi (by omega) hd hr
      refine sw_region_lex _ [] [(1, 0), (2, 0), (3, 0), (0, 1), (4, 1), (5, 0)] (by kernel_rfl) (by kernel_rfl) (fun _ _ _ h => h) (fun _ h => h) (fun _ h => h.drawn _) ?_
      refine lw_pure rfl (val_move rfl) rfl ?_
      refine lw_pure rfl (val_nilCheck rfl) rfl ?_
      refine lw_pure rfl (val_fieldAddr (m := 0) (e := 34) rfl Tryd.underlying110 rfl rfl Tryd.sizeOf23 rfl) rfl ?_
      refine lw_held rfl (val_load_at 1 rfl rfl Tryd.isAgg23 rfl) rfl ?_
      refine lw_held rfl (val_load_old hnb (List.not_mem_nil) rfl Tryd.isAgg23 (node_34 hXl)) rfl ?_
      refine lw_pure rfl ((val_lss_u64 rfl rfl).to (congrArg Value.bool (decide_eq_true (hb)))) rfl ?_
      refine lw_nil (into ?_)
      refine sw_true rfl rfl ?_
      refine sw_exit (into ?_)
      refine sw_seq ?_
      refine sw_block ?_
      refine sw_loop (σ := Nat × Nat × List (List UInt8) × Nat) (fun t => NodeIs 110 k w t.1 t.2.1 t.2.2.1 ∧ r ≤ t.1 ∧ t.1 < 63 ∧ 2 ^ r ∣ t.2.2.2 ∧ t.2.2.2 < 2 ^ t.1 ∧ (l.drop i.toNat).take (2 ^ r) = (t.2.2.1.drop t.2.2.2).take (2 ^ r) ∧ ∀ d ∈ t.2.2.1, d.length = 32) (fun t => [(7, vPtr t.2.1), (6, .pointer (some ⟨b6, 0, none⟩)), (4, .pointer (some ⟨b4, 0, none⟩)), (2, vU64 s)]) (fun t => Mem w [] [some (b6, blk (zeros32.map vU8) 41), some (b4, blk [vU64 (UInt64.ofNat t.2.2.2)] 23)]) (fun t => t.1) (X.p, X.b, X.seg, i.toNat - pre (ps.take j)) ⟨hNX, hpf.1, lt_63 (show 2 ^ X.p < 9223372036854775808 by omega), hpf.2.1, by omega, hpf.2.2.2, fun d hd => hdl d (seg_mem ht.pk hXm hd)⟩ ⟨rfl, rfl, rfl, rfl, trivial⟩ (fun w hm => hm) ?_
      rintro ⟨q, bn, sg, y⟩ ⟨hN, hrq, hq63, hdy, hyq, htg, hsl⟩
      simp only at hN hrq hq63 hdy hyq htg hsl ⊢
      obtain ⟨ol, or, hob⟩ := hN.head
      have hgl := lg_len h2 _ rfl hsl
      have hbn : bn ≠ b4 := fun h => by have h9 := (Array.getElem?_eq_some_iff.1 hob).1; omega
      refine sw_seq ?_
      refine sw_seq ?_
      refine sw_region ?_
      refine ow_val (val_move rfl) rfl ?_
      refine ow_val (val_nilCheck rfl) rfl ?_
      refine ow_val (val_fieldAddr (m := 0) (e := 34) rfl Tryd.underlying110 rfl rfl Tryd.sizeOf23 rfl) rfl ?_
      refine ow_val (val_load_old hob (List.not_mem_nil) rfl Tryd.isAgg23 (node_34 hgl)) rfl ?_
      refine ow_val (val_move rfl) rfl ?_
      refine ow_val (val_gtr_u64 rfl rfl) rfl ?_
      refine ow_nil (into ?_)
      refine sw_if rfl (fun h1q => ?_) (fun h1q => ?_)
      · -- then
        have hgt : 2 ^ r < 2 ^ q := by have h9 := UInt64.lt_iff_toNat_lt.1 h1q; rw [hs, pow_nat hq63] at h9; exact h9
        have hrq2 := (Nat.pow_lt_pow_iff_right (show 1 < 2 by omega)).1 hgt
        obtain ⟨q, rfl⟩ : ∃ z, q = z + 1 := ⟨q - 1, by omega⟩
        obtain ⟨bl, br, s1, s2, hsg, hn1, hn2, hnb2⟩ := hN
        have hqp2 : 2 ^ q < 9223372036854775808 := Nat.pow_lt_pow_right (show 1 < 2 by omega) (show q < 63 by omega)
        have hyb : y < 9223372036854775808 := Nat.lt_trans hyq (Nat.pow_lt_pow_right (show 1 < 2 by omega) hq63)
        have hpp : 2 ^ (q + 1) = 2 ^ q + 2 ^ q := by rw [Nat.pow_succ]; omega
        refine sw_skip (into ?_)
        refine sw_block ?_
        by_cases hab : y < 2 ^ q
        · -- case
          refine sw_region ?_
          refine ow_val (val_move rfl) rfl ?_
          refine ow_call_turn (o' := blk [vU64 (UInt64.ofNat y)] 23) (v := (vPtr bl)) 1 rfl (callsTo Tryd.func79 rfl (by kernel_rfl) rfl) rfl (fun w hm => child_l w bn b4 hbn _ hgl (vPtr bl) (vPtr br) (UInt64.ofNat (2 ^ (q + 1))) (UInt64.ofNat (2 ^ q)) (UInt64.ofNat y) (pow_half (by omega)) (hm.oldBlk hnb2) (hm.at (i := 1) rfl) ((at_lt (by omega) (by omega)).2 hab)) ?_
          refine ow_val (val_assign rfl) rfl ?_
          exact ow_nil (fun w hm => ⟨(q, bl, s1, y), ⟨hn1, by omega, by omega, hdy, hab, by rw [htg, hsg, half_left hn1.len (by omega) hdy hab], fun d hd => hsl d (by rw [hsg]; simp [hd])⟩, by dsimp only; omega, ⟨rfl, rfl, rfl, rfl, trivial⟩, hm⟩)
        · -- case
          have hhr := half_right (s2 := s2) hn1.len (by omega) hdy (Nat.le_of_not_lt hab)
          refine sw_region ?_
          refine ow_val (val_move rfl) rfl ?_
          refine ow_call_turn (o' := blk [vU64 (UInt64.ofNat y - UInt64.ofNat (2 ^ q))] 23) (v := (vPtr br)) 1 rfl (callsTo Tryd.func79 rfl (by kernel_rfl) rfl) rfl (fun w hm => child_r w bn b4 hbn _ hgl (vPtr bl) (vPtr br) (UInt64.ofNat (2 ^ (q + 1))) (UInt64.ofNat (2 ^ q)) (UInt64.ofNat y) (pow_half (by omega)) (hm.oldBlk hnb2) (hm.at (i := 1) rfl) (mt (at_lt (by omega) (by omega)).1 hab)) ?_
          refine ow_val (val_assign rfl) rfl ?_
          exact ow_nil (fun w hm => ⟨(q, br, s2, y - 2 ^ q), ⟨hn2, by omega, by omega, hhr.1, by dsimp only; omega, by rw [htg, hsg, hhr.2], fun d hd => hsl d (by rw [hsg]; simp [hd])⟩, by dsimp only; omega, ⟨rfl, rfl, rfl, rfl, trivial⟩, by rw [← at_sub0 (a := y) (b := 2 ^ q) (by omega) (by omega)]; exact hm⟩)
      · -- else
        have hqr : q = r := by have h9 := mt UInt64.lt_iff_toNat_lt.2 h1q; rw [hs, pow_nat hq63] at h9; have h8 := (Nat.pow_le_pow_iff_right (show 1 < 2 by omega)).1 (Nat.le_of_not_lt h9); omega
        subst hqr
        obtain rfl : y = 0 := Nat.eq_zero_of_dvd_of_lt hdy hyq
        have hsgl := hN.len
        rw [List.drop_zero, show sg.take (2 ^ q) = sg from List.take_of_length_le (by omega)] at htg
        refine sw_exit (into ?_)
        refine sw_seq ?_
        refine sw_region ?_
        refine ow_val (val_move rfl) rfl ?_
        refine ow_val (val_nilCheck rfl) rfl ?_
        refine ow_val (val_fieldAddr (m := 31) (e := 0) rfl Tryd.underlying110 rfl rfl Tryd.sizeOf41 rfl) rfl ?_
        refine ow_val (val_load_old_part hob (List.not_mem_nil) rfl Tryd.isAgg41 Tryd.sizeOf41 (by rw [List.length_map]; exact hgl) (node_d hgl)) rfl ?_
        refine ow_do_eq (does_store_all 0 rfl rfl rfl (one_u8s _) Tryd.sizeOf41 (by show (List.map vU8 (lg k sg)).length = _; rw [List.length_map]; exact hgl) (by show (List.map vU8 zeros32).length = _; rw [List.length_map]; exact zeros32_len)) ?_
        refine ow_nil (into ?_)
        refine sw_ret (fun w hm => ?_)
        try dsimp only [thenP, blockP, Nat.beq, cond]
        exact ret_cell 0 rfl rfl hm rfl Tryd.isAgg41 Tryd.sizeOf41 (by rw [List.length_map]; exact hgl) ⟨by rw [htg], hm.forgetAll⟩
    · -- no
      have hb' := mt (at_lt (by omega) (by omega)).2 hb
      refine sw_region_lex _ [] [(1, 0), (2, 0), (3, 0), (0, 1), (4, 1), (5, 0)] (by kernel_rfl) (by kernel_rfl) (fun _ _ _ h => h) (fun _ h => h) (fun _ h => h.drawn _) ?_
      refine lw_pure rfl (val_move rfl) rfl ?_
      refine lw_pure rfl (val_nilCheck rfl) rfl ?_
      refine lw_pure rfl (val_fieldAddr (m := 0) (e := 34) rfl Tryd.underlying110 rfl rfl Tryd.sizeOf23 rfl) rfl ?_
      refine lw_held rfl (val_load_at 1 rfl rfl Tryd.isAgg23 rfl) rfl ?_
      refine lw_held rfl (val_load_old hnb (List.not_mem_nil) rfl Tryd.isAgg23 (node_34 hXl)) rfl ?_
      refine lw_pure rfl ((val_lss_u64 rfl rfl).to (congrArg Value.bool (decide_eq_false (hb)))) rfl ?_
      refine lw_nil (into ?_)
      refine sw_false rfl rfl ?_
      refine sw_skip (into ?_)
      refine sw_region_lex _ [6] [(1, 0), (2, 0), (3, 0), (0, 1), (4, 1), (5, 0), (6, 2)] (by kernel_rfl) (by kernel_rfl) (fun _ _ _ h => h) (fun _ h => h) (fun _ h => h.drawn _) ?_
      refine lw_pure rfl (val_move rfl) rfl ?_
      refine lw_pure rfl (val_nilCheck rfl) rfl ?_
      refine lw_pure rfl (val_fieldAddr (m := 0) (e := 34) rfl Tryd.underlying110 rfl rfl Tryd.sizeOf23 rfl) rfl ?_
      refine lw_held rfl (val_load_at 1 rfl rfl Tryd.isAgg23 rfl) rfl ?_
      refine lw_held rfl (val_load_old hnb (List.not_mem_nil) rfl Tryd.isAgg23 (node_34 hXl)) rfl ?_
      refine lw_pure rfl (val_sub_u64 rfl rfl) rfl ?_
      refine lw_do rfl (does_store 1 rfl rfl rfl rfl Tryd.sizeOf23 (by simp)) (fun h => nomatch h) (fun _ _ => ?_)
      refine lw_nil (into ?_)
      refine sw_region ?_
      refine ow_val (val_add_int ((j + 1 : Nat) : Int) rfl rfl (by omega) (by omega)) rfl ?_
      refine ow_val (val_move rfl) rfl ?_
      exact ow_nil (fun w hm => ⟨j + 1, ⟨by omega, by rw [pre_take hX hjl]; omega⟩, by omega, ⟨rfl, rfl, rfl, rfl, rfl, rfl, trivial⟩, by rw [pre_take hX hjl, ← at_sub (i := i.toNat) (a := pre (ps.take j)) (b := 2 ^ X.p) (by omega) (by omega)]; exact hm⟩)
  · -- else
    obtain rfl : j = ps.length := by omega
    exfalso
    rw [List.take_length] at hpi
    have h9 := pre_len ht.pk.len
    rw [ht.pk.cat] at h9
    have hp := Nat.one_le_two_pow (n := r)
    omega
end Go.Proofs.YtcdponddgnkecaaDoor
