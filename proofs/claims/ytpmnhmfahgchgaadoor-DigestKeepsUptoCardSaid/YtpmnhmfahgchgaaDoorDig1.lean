import Derived.Test.YtpmnhmfahgchgaaDoorSha5
import Derived.Test.YtpmnhmfahgchgaaDoorDigV
import Derived.Test.YtpmnhmfahgchgaaDoorProg
set_option linter.unusedVariables false
set_option linter.unusedSimpArgs false
namespace Go.Proofs.YtpmnhmfahgchgaaDoor
open Go.Sx Go.Ps
theorem iu8' : (Tryd.prog.info? 5).map (fun i => (i.zero, i.size, i.bytes)) = some (some (.int .u8 0), 1, 1) := by kernel_rfl

theorem wadd_any (b : Nat) (a : Option Addr) (k c : Nat) (xs : List UInt8) (e : Ent) (w : World) (hm0 : Mem w (b :: keys [e]) [some (b, blk [.slice a k c] 109), e] w) (hrow : RowE (.slice a k c) 5 1 k (xs.map vU8) e) (ap : Option Addr) (m cp : Nat) (p : List UInt8) (hpm : p.length = m) (hr : Rd w ap (p.map vU8)) (hne : 0 < (p.map vU8).length → ∀ b' o', ap = some ⟨b', o', none⟩ → b' ∉ b :: keys [e]) (hcp : m ≤ cp) (hb : k + m ≤ 140737488355328) : Calls Tryd.prog 103 #[.pointer (some ⟨b, 0, none⟩), .slice ap m cp] w fun en w' => ∃ v, en = .returned v ∧ v = .tuple #[] ∧ ∃ a' c' e', RowE (.slice a' (k + m) c') 5 1 (k + m) ((xs ++ p).map vU8) e' ∧ Mem w (b :: keys [e]) [some (b, blk [.slice a' (k + m) c'] 109), e'] w' := by
  obtain ⟨ti, hi, hz, hsz, hby⟩ := info_parts iu8'
  refine calls_of_sw (vs := [.pointer (some ⟨b, 0, none⟩), .slice ap m cp]) Tryd.func103 rfl Tryd.ntmps103 rfl (SW.beginM hm0 ?_)
  refine sw_seq ?_
  refine sw_region ?_
  refine ow_val (val_move rfl) rfl ?_   -- 4
  refine ow_val (val_neq_nilptr Tryd.underlying127 rfl rfl) rfl ?_   -- 5
  refine ow_nil (into ?_)
  refine sw_true rfl rfl ?_
  refine sw_region ?_
  refine ow_val (val_move rfl) rfl ?_   -- 6
  refine ow_val (val_move rfl) rfl ?_   -- 7
  refine ow_val (val_nilCheck rfl) rfl ?_   -- 8
  refine ow_val (val_fieldAddr (m := 0) (e := 0) rfl Tryd.underlying109 rfl rfl Tryd.sizeOf25 rfl) rfl ?_   -- 9
  refine ow_val (val_load_at 0 rfl rfl Tryd.isAgg25 rfl) rfl ?_   -- 10
  refine ow_val (val_move rfl) rfl ?_   -- 11
  refine ow_append' (k := k + m) (acts_append (size := 1) (bytes := 1) 1 rfl rfl rfl hrow rfl Tryd.underlying25 hi hz hsz hby rfl (by decide) (fun w hm => hr.memO hm hne) (by rw [List.length_map, Nat.mul_one]; exact hpm) (one_u8s _) (by omega) (by omega)) rfl (fun a1 c1 e1 hr1 => ?_)
  refine ow_val (val_nilCheck rfl) rfl ?_   -- 13
  refine ow_val (val_fieldAddr (m := 0) (e := 0) rfl Tryd.underlying109 rfl rfl Tryd.sizeOf25 rfl) rfl ?_   -- 14
  refine ow_do (does_store 0 rfl rfl rfl rfl Tryd.sizeOf25 (by simp)) (fun _ _ => ?_)
  refine ow_nil (fun w hm => ?_)
  try dsimp only [thenP, blockP, Nat.beq, cond]
  exact ret_end rfl ⟨rfl, _, _, _, hr1.cong rfl rfl (by rw [List.map_append]), hm⟩

theorem wu8_any (b : Nat) (a : Option Addr) (k c : Nat) (xs : List UInt8) (e : Ent) (w : World) (hm0 : Mem w (b :: keys [e]) [some (b, blk [.slice a k c] 109), e] w) (hrow : RowE (.slice a k c) 5 1 k (xs.map vU8) e) (x : UInt8) (hb : k + 1 ≤ 140737488355328) : Calls Tryd.prog 83 #[.pointer (some ⟨b, 0, none⟩), vU8 x] w fun en w' => ∃ v, en = .returned v ∧ v = .tuple #[] ∧ ∃ a' c' e', RowE (.slice a' (k + 1) c') 5 1 (k + 1) ((xs ++ [x]).map vU8) e' ∧ Mem w (b :: keys [e]) [some (b, blk [.slice a' (k + 1) c'] 109), e'] w' := by
  refine calls_of_sw (vs := [.pointer (some ⟨b, 0, none⟩), vU8 x]) Tryd.func83 rfl Tryd.ntmps83 rfl (SW.beginM hm0 ?_)
  refine sw_region ?_
  refine ow_val (val_move rfl) rfl ?_   -- 4
  refine ow_val (val_move rfl) rfl ?_   -- 5
  refine ow_make (acts_buildSlice (cs := ([x] : List UInt8).map vU8) Tryd.underlying25 Tryd.sizeOf5 Tryd.zeroValue5 rfl rfl (by kernel_rfl)) rfl (fun b6 hb6 => ?_)   -- 6
  refine ow_call_wr (k := k + 1) (E := 5) (T := 109) (xs := (xs ++ ([x] : List UInt8)).map vU8) 1 2 rfl rfl (by decide) (callsTo Tryd.func103 rfl (by kernel_rfl) rfl) rfl (fun w hm hs => wadd_any b a k c xs e w hs hrow (some ⟨b6, 0, none⟩) 1 _ ([x] : List UInt8) rfl (Rd.blk (hm.at (i := 0) rfl)) (fun _ => hm.ownNe (k := 0) (i := 1) (j := 2) rfl rfl rfl (by decide) (by decide)) (by omega) (by omega)) (fun a7 c7 e7 hr7 => ?_)   -- 7
  refine ow_nil (fun w hm => ?_)
  try dsimp only [thenP, blockP, Nat.beq, cond]
  exact ret_end rfl ⟨rfl, _, _, _, hr7, hm.only (.cons _ (.cons_cons _ (.cons_cons _ (List.nil_sublist _))))⟩

theorem wwide_any (b : Nat) (a : Option Addr) (k c : Nat) (xs : List UInt8) (e : Ent) (w : World) (hm0 : Mem w (b :: keys [e]) [some (b, blk [.slice a k c] 109), e] w) (hrow : RowE (.slice a k c) 5 1 k (xs.map vU8) e) (x : UInt64) (n : Nat) (hn : n ≤ 8) (hb : k + n ≤ 140737488355328) : Calls Tryd.prog 104 #[.pointer (some ⟨b, 0, none⟩), vU64 x, vInt (n : Int)] w fun en w' => ∃ v, en = .returned v ∧ v = .tuple #[] ∧ ∃ a' c' e', RowE (.slice a' (k + n) c') 5 1 (k + n) ((xs ++ be x n).map vU8) e' ∧ Mem w (b :: keys [e]) [some (b, blk [.slice a' (k + n) c'] 109), e'] w' := by
  refine calls_of_sw (vs := [.pointer (some ⟨b, 0, none⟩), vU64 x, vInt (n : Int)]) Tryd.func104 rfl Tryd.ntmps104 rfl (SW.beginM hm0 ?_)
  refine sw_seq ?_
  refine sw_region ?_
  refine ow_val (val_move rfl) rfl ?_   -- 7
  refine ow_val (val_sub_int ((n : Int) - 1) rfl rfl rfl (by omega)) rfl ?_   -- 8
  refine ow_val (val_assign rfl) rfl ?_   -- 6
  refine ow_nil (into ?_)
  refine sw_block ?_
  refine sw_loop (σ := Option Addr × Nat × Ent × Nat) (fun t => t.2.2.2 ≤ n ∧ RowE (.slice t.1 (k + t.2.2.2) t.2.1) 5 1 (k + t.2.2.2) ((xs ++ (be x n).take t.2.2.2).map vU8) t.2.2.1) (fun t => [(6, vInt ((n : Int) - 1 - (t.2.2.2 : Int))), (1, vU64 x), (0, .pointer (some ⟨b, 0, none⟩))]) (fun t => Mem w (b :: keys [e]) [some (b, blk [.slice t.1 (k + t.2.2.2) t.2.1] 109), t.2.2.1]) (fun t => n - t.2.2.2) (a, c, e, 0) ⟨Nat.zero_le _, hrow.cong rfl rfl (by simp)⟩ ⟨(by show some _ = some _; simp), rfl, rfl, trivial⟩ (fun w hm => hm) ?_
  rintro ⟨a1, c1, e1, j⟩ ⟨hj, hrow1⟩
  simp only at hj hrow1 ⊢
  refine sw_seq ?_
  refine sw_seq ?_
  refine sw_region ?_
  refine ow_val (val_move rfl) rfl ?_   -- 9
  refine ow_val ((val_geq_int rfl rfl)) rfl ?_   -- 10
  refine ow_nil (into ?_)
  refine sw_if rfl (fun h0 => ?_) (fun h0 => ?_)
  · -- then
    have hjn : j < n := by omega
    have h15 : (n : Int) - 1 - (j : Int) = ((n - 1 - j : Nat) : Int) := by omega
    rw [h15]
    refine sw_skip (into ?_)
    refine sw_seq ?_
    refine sw_block ?_
    refine sw_region ?_
    refine ow_val (val_move rfl) rfl ?_   -- 13
    refine ow_val (val_move rfl) rfl ?_   -- 14
    refine ow_val (val_move rfl) rfl ?_   -- 15
    refine ow_val (val_mul_int (((8 * (n - 1 - j) : Nat) : Int)) rfl rfl (by omega) (by omega)) rfl ?_   -- 16
    refine ow_val (val_shr_u64 (8 * (n - 1 - j)) rfl rfl rfl (by omega)) rfl ?_   -- 17
    refine ow_val (val_conv_u64_u8 Tryd.underlying46 Tryd.underlying5 rfl) rfl ?_   -- 18
    refine ow_make (acts_buildSlice (cs := ([(x >>> UInt64.ofNat (8 * (n - 1 - j))).toUInt8] : List UInt8).map vU8) Tryd.underlying25 Tryd.sizeOf5 Tryd.zeroValue5 rfl rfl (by kernel_rfl)) rfl (fun b19 hb19 => ?_)   -- 19
    refine ow_call_wr (k := k + j + 1) (E := 5) (T := 109) (xs := ((xs ++ (be x n).take j) ++ ([(x >>> UInt64.ofNat (8 * (n - 1 - j))).toUInt8] : List UInt8)).map vU8) 1 2 rfl rfl (by decide) (callsTo Tryd.func103 rfl (by kernel_rfl) rfl) rfl (fun w hm hs => wadd_any b a1 (k + j) c1 (xs ++ (be x n).take j) e1 w hs hrow1 (some ⟨b19, 0, none⟩) 1 _ (([(x >>> UInt64.ofNat (8 * (n - 1 - j))).toUInt8] : List UInt8)) rfl (Rd.blk (hm.at (i := 0) rfl)) (fun _ => hm.ownNe (k := 0) (i := 1) (j := 2) rfl rfl rfl (by decide) (by decide)) (by omega) (by omega)) (fun a20 c20 e20 hr20 => ?_)   -- 20
    refine ow_nil (into ?_)
    refine sw_region ?_
    refine ow_val (val_move rfl) rfl ?_   -- 11
    refine ow_val (val_sub_int ((n : Int) - 1 - ((j + 1 : Nat) : Int)) rfl rfl (by omega) (by omega)) rfl ?_   -- 12
    refine ow_val (val_assign rfl) rfl ?_   -- 6
    exact ow_nil (fun w hm => ⟨(a20, c20, e20, j + 1), ⟨by dsimp only; omega, hr20.cong rfl rfl (by dsimp only; rw [be_take_succ x n j (by omega), List.append_assoc])⟩, (by dsimp only; omega), ⟨rfl, rfl, rfl, trivial⟩, hm.only (.cons _ (.cons_cons _ (.cons_cons _ (List.nil_sublist _))))⟩)
  · -- else
    obtain rfl : j = n := by omega
    rw [List.take_of_length_le (by rw [be_len]; exact Nat.le_refl _)] at hrow1
    refine sw_exit (fun w hm => ?_)
    try dsimp only [thenP, blockP, Nat.beq, cond]
    exact ret_end rfl ⟨rfl, _, _, _, hrow1, hm⟩

theorem wu16_any (b : Nat) (a : Option Addr) (k c : Nat) (xs : List UInt8) (e : Ent) (w : World) (hm0 : Mem w (b :: keys [e]) [some (b, blk [.slice a k c] 109), e] w) (hrow : RowE (.slice a k c) 5 1 k (xs.map vU8) e) (x : UInt16) (hb : k + 2 ≤ 140737488355328) : Calls Tryd.prog 95 #[.pointer (some ⟨b, 0, none⟩), vU16 x] w fun en w' => ∃ v, en = .returned v ∧ v = .tuple #[] ∧ ∃ a' c' e', RowE (.slice a' (k + 2) c') 5 1 (k + 2) ((xs ++ be x.toUInt64 2).map vU8) e' ∧ Mem w (b :: keys [e]) [some (b, blk [.slice a' (k + 2) c'] 109), e'] w' := by
  refine calls_of_sw (vs := [.pointer (some ⟨b, 0, none⟩), vU16 x]) Tryd.func95 rfl Tryd.ntmps95 rfl (SW.beginM hm0 ?_)
  refine sw_region ?_
  refine ow_val (val_move rfl) rfl ?_   -- 4
  refine ow_val (val_move rfl) rfl ?_   -- 5
  refine ow_val (val_conv_u16_u64 Tryd.underlying44 Tryd.underlying46 rfl) rfl ?_   -- 6
  refine ow_call_wr (k := k + 2) (E := 5) (T := 109) (xs := (xs ++ (be (x.toUInt64) 2)).map vU8) 0 1 rfl rfl (by decide) (callsTo Tryd.func104 rfl (by kernel_rfl) rfl) rfl (fun w hm hs => wwide_any b a k c xs e w hs hrow (x.toUInt64) 2 (by decide) (by omega)) (fun a7 c7 e7 hr7 => ?_)   -- 7
  refine ow_nil (fun w hm => ?_)
  try dsimp only [thenP, blockP, Nat.beq, cond]
  exact ret_end rfl ⟨rfl, _, _, _, hr7, hm.only (.cons_cons _ (.cons_cons _ (List.nil_sublist _)))⟩

theorem wu64_any (b : Nat) (a : Option Addr) (k c : Nat) (xs : List UInt8) (e : Ent) (w : World) (hm0 : Mem w (b :: keys [e]) [some (b, blk [.slice a k c] 109), e] w) (hrow : RowE (.slice a k c) 5 1 k (xs.map vU8) e) (x : UInt64) (hb : k + 8 ≤ 140737488355328) : Calls Tryd.prog 84 #[.pointer (some ⟨b, 0, none⟩), vU64 x] w fun en w' => ∃ v, en = .returned v ∧ v = .tuple #[] ∧ ∃ a' c' e', RowE (.slice a' (k + 8) c') 5 1 (k + 8) ((xs ++ be x 8).map vU8) e' ∧ Mem w (b :: keys [e]) [some (b, blk [.slice a' (k + 8) c'] 109), e'] w' := by
  refine calls_of_sw (vs := [.pointer (some ⟨b, 0, none⟩), vU64 x]) Tryd.func84 rfl Tryd.ntmps84 rfl (SW.beginM hm0 ?_)
  refine sw_region ?_
  refine ow_val (val_move rfl) rfl ?_   -- 4
  refine ow_val (val_move rfl) rfl ?_   -- 5
  refine ow_call_wr (k := k + 8) (E := 5) (T := 109) (xs := (xs ++ (be x 8)).map vU8) 0 1 rfl rfl (by decide) (callsTo Tryd.func104 rfl (by kernel_rfl) rfl) rfl (fun w hm hs => wwide_any b a k c xs e w hs hrow x 8 (by decide) (by omega)) (fun a6 c6 e6 hr6 => ?_)   -- 6
  refine ow_nil (fun w hm => ?_)
  try dsimp only [thenP, blockP, Nat.beq, cond]
  exact ret_end rfl ⟨rfl, _, _, _, hr6, hm.only (.cons_cons _ (.cons_cons _ (List.nil_sublist _)))⟩

theorem wraw_any (b : Nat) (a : Option Addr) (k c : Nat) (xs : List UInt8) (e : Ent) (w : World) (hm0 : Mem w (b :: keys [e]) [some (b, blk [.slice a k c] 109), e] w) (hrow : RowE (.slice a k c) 5 1 k (xs.map vU8) e) (ap : Option Addr) (m cp : Nat) (p : List UInt8) (hpm : p.length = m) (hr : Rd w ap (p.map vU8)) (hne : 0 < (p.map vU8).length → ∀ b' o', ap = some ⟨b', o', none⟩ → b' ∉ b :: keys [e]) (hcp : m ≤ cp) (hb : k + m ≤ 140737488355328) : Calls Tryd.prog 85 #[.pointer (some ⟨b, 0, none⟩), .slice ap m cp] w fun en w' => ∃ v, en = .returned v ∧ v = .tuple #[] ∧ ∃ a' c' e', RowE (.slice a' (k + m) c') 5 1 (k + m) ((xs ++ p).map vU8) e' ∧ Mem w (b :: keys [e]) [some (b, blk [.slice a' (k + m) c'] 109), e'] w' := by
  refine calls_of_sw (vs := [.pointer (some ⟨b, 0, none⟩), .slice ap m cp]) Tryd.func85 rfl Tryd.ntmps85 rfl (SW.beginM hm0 ?_)
  refine sw_region ?_
  refine ow_val (val_move rfl) rfl ?_   -- 4
  refine ow_val (val_move rfl) rfl ?_   -- 5
  refine ow_call_wr (k := k + m) (E := 5) (T := 109) (xs := (xs ++ p).map vU8) 0 1 rfl rfl (by decide) (callsTo Tryd.func103 rfl (by kernel_rfl) rfl) rfl (fun w hm hs => wadd_any b a k c xs e w hs hrow ap m _ p hpm (hr.memO hm hne) (hm.argNe hr hne (i := 0) (j := 1) rfl rfl) (by omega) (by omega)) (fun a6 c6 e6 hr6 => ?_)   -- 6
  refine ow_nil (fun w hm => ?_)
  try dsimp only [thenP, blockP, Nat.beq, cond]
  exact ret_end rfl ⟨rfl, _, _, _, hr6, hm.only (.cons_cons _ (.cons_cons _ (List.nil_sublist _)))⟩

theorem wuvar_any (b : Nat) (a : Option Addr) (k c : Nat) (xs : List UInt8) (e : Ent) (w : World) (hm0 : Mem w (b :: keys [e]) [some (b, blk [.slice a k c] 109), e] w) (hrow : RowE (.slice a k c) 5 1 k (xs.map vU8) e) (x : UInt64) (hb : k + (uvar x).length ≤ 140737488355328) : Calls Tryd.prog 92 #[.pointer (some ⟨b, 0, none⟩), vU64 x] w fun en w' => ∃ v, en = .returned v ∧ v = .tuple #[] ∧ ∃ a' c' e', RowE (.slice a' (k + (uvar x).length) c') 5 1 (k + (uvar x).length) ((xs ++ uvar x).map vU8) e' ∧ Mem w (b :: keys [e]) [some (b, blk [.slice a' (k + (uvar x).length) c'] 109), e'] w' := by
  refine calls_of_sw (vs := [.pointer (some ⟨b, 0, none⟩), vU64 x]) Tryd.func92 rfl Tryd.ntmps92 rfl (SW.beginM hm0 ?_)
  refine sw_seq ?_
  refine sw_block ?_
  refine sw_loop (σ := Option Addr × Nat × Nat × Ent × List UInt8 × UInt64) (fun t => RowE (.slice t.1 t.2.1 t.2.2.1) 5 1 t.2.1 (t.2.2.2.2.1.map vU8) t.2.2.2.1 ∧ t.2.2.2.2.1 ++ uvar t.2.2.2.2.2 = xs ++ uvar x ∧ t.2.2.2.2.1.length = t.2.1) (fun t => [(1, vU64 t.2.2.2.2.2), (0, .pointer (some ⟨b, 0, none⟩))]) (fun t => Mem w (b :: keys [e]) [some (b, blk [.slice t.1 t.2.1 t.2.2.1] 109), t.2.2.2.1]) (fun t => t.2.2.2.2.2.toNat) (a, k, c, e, xs, x) ⟨hrow, rfl, by have := hrow.len; simpa using this⟩ ⟨rfl, rfl, trivial⟩ (fun w hm => hm) ?_
  rintro ⟨a1, k1, c1, e1, ys, v⟩ ⟨hrow1, hys, hyl⟩
  simp only at hrow1 hys hyl ⊢
  have hlen := congrArg List.length hys
  simp only [List.length_append] at hlen
  have hxl : xs.length = k := by have := hrow.len; simpa using this
  have hul : 0 < (uvar v).length := by by_cases h : v < 128 <;> first | (rw [uvar_lt h]; simp) | (rw [uvar_ge h]; simp)
  refine sw_seq ?_
  refine sw_seq ?_
  refine sw_region ?_
  refine ow_val (val_move rfl) rfl ?_   -- 4
  refine ow_val (val_geq_u64 rfl rfl) rfl ?_   -- 5
  refine ow_nil (into ?_)
  refine sw_if rfl (fun h0 => ?_) (fun h0 => ?_)
  · -- then
    have hge : ¬ v < 128 := fun h => by have h1 := UInt64.lt_iff_toNat_lt.1 h; have h2 := UInt64.le_iff_toNat_le.1 h0; have h3 : (UInt64.ofNat (Int.toNat 128)).toNat = 128 := rfl; have h4 : (128 : UInt64).toNat = 128 := rfl; omega
    refine sw_skip (into ?_)
    refine sw_seq ?_
    refine sw_block ?_
    refine sw_region ?_
    refine ow_val (val_move rfl) rfl ?_   -- 8
    refine ow_val (val_move rfl) rfl ?_   -- 9
    refine ow_val (val_conv_u64_u8 Tryd.underlying46 Tryd.underlying5 rfl) rfl ?_   -- 10
    refine ow_val (val_or_u8 rfl rfl) rfl ?_   -- 11
    refine ow_make (acts_buildSlice (cs := ([v.toUInt8 ||| 128] : List UInt8).map vU8) Tryd.underlying25 Tryd.sizeOf5 Tryd.zeroValue5 rfl rfl (by kernel_rfl)) rfl (fun b12 hb12 => ?_)   -- 12
    refine ow_call_wr (k := k1 + 1) (E := 5) (T := 109) (xs := (ys ++ ([v.toUInt8 ||| 128] : List UInt8)).map vU8) 1 2 rfl rfl (by decide) (callsTo Tryd.func103 rfl (by kernel_rfl) rfl) rfl (fun w hm hs => wadd_any b a1 k1 c1 ys e1 w hs hrow1 (some ⟨b12, 0, none⟩) 1 _ ([v.toUInt8 ||| 128] : List UInt8) rfl (Rd.blk (hm.at (i := 0) rfl)) (fun _ => hm.ownNe (k := 0) (i := 1) (j := 2) rfl rfl rfl (by decide) (by decide)) (by omega) (by omega)) (fun a13 c13 e13 hr13 => ?_)   -- 13
    refine ow_nil (into ?_)
    refine sw_region ?_
    refine ow_val (val_move rfl) rfl ?_   -- 6
    refine ow_val (val_shr_u64 (7) rfl rfl (by first | rfl | omega) (by omega)) rfl ?_   -- 7
    refine ow_val (val_assign rfl) rfl ?_   -- 1
    exact ow_nil (fun w hm => ⟨(a13, k1 + 1, c13, e13, ys ++ [v.toUInt8 ||| 128], v >>> 7), ⟨hr13, by rw [← hys, uvar_ge hge, List.append_assoc]; rfl, by simp [hyl]⟩, shr7_lt v hge, ⟨rfl, rfl, trivial⟩, hm.only (.cons _ (.cons_cons _ (.cons_cons _ (List.nil_sublist _))))⟩)
  · -- else
    have hlt : v < 128 := by have h3 : (UInt64.ofNat (Int.toNat 128)) = 128 := rfl; rw [h3] at h0; rw [UInt64.lt_iff_toNat_lt]; rw [UInt64.le_iff_toNat_le] at h0; omega
    rw [uvar_lt hlt] at hys hlen hul
    refine sw_exit (into ?_)
    refine sw_region ?_
    refine ow_val (val_move rfl) rfl ?_   -- 14
    refine ow_val (val_move rfl) rfl ?_   -- 15
    refine ow_val (val_conv_u64_u8 Tryd.underlying46 Tryd.underlying5 rfl) rfl ?_   -- 16
    refine ow_make (acts_buildSlice (cs := ([v.toUInt8] : List UInt8).map vU8) Tryd.underlying25 Tryd.sizeOf5 Tryd.zeroValue5 rfl rfl (by kernel_rfl)) rfl (fun b17 hb17 => ?_)   -- 17
    refine ow_call_wr (k := k1 + 1) (E := 5) (T := 109) (xs := (ys ++ ([v.toUInt8] : List UInt8)).map vU8) 1 2 rfl rfl (by decide) (callsTo Tryd.func103 rfl (by kernel_rfl) rfl) rfl (fun w hm hs => wadd_any b a1 k1 c1 ys e1 w hs hrow1 (some ⟨b17, 0, none⟩) 1 _ ([v.toUInt8] : List UInt8) rfl (Rd.blk (hm.at (i := 0) rfl)) (fun _ => hm.ownNe (k := 0) (i := 1) (j := 2) rfl rfl rfl (by decide) (by decide)) (by omega) (by omega)) (fun a18 c18 e18 hr18 => ?_)   -- 18
    refine ow_nil (fun w hm => ?_)
    try dsimp only [thenP, blockP, Nat.beq, cond]
    exact ret_end rfl ⟨rfl, a18, c18, e18, hr18.cong (by rw [show k1 + 1 = k + (uvar x).length by simp at hlen; omega]) (by simp at hlen; omega) (by rw [hys]), (hm.only (.cons _ (.cons_cons _ (.cons_cons _ (List.nil_sublist _))))).cast (by rw [show k1 + 1 = k + (uvar x).length by simp at hlen; omega])⟩

theorem wblob_any (b : Nat) (a : Option Addr) (k c : Nat) (xs : List UInt8) (e : Ent) (w : World) (hm0 : Mem w (b :: keys [e]) [some (b, blk [.slice a k c] 109), e] w) (hrow : RowE (.slice a k c) 5 1 k (xs.map vU8) e) (ap : Option Addr) (m cp : Nat) (p : List UInt8) (hpm : p.length = m) (hr : Rd w ap (p.map vU8)) (hne : 0 < (p.map vU8).length → ∀ b' o', ap = some ⟨b', o', none⟩ → b' ∉ b :: keys [e]) (hcp : m ≤ cp) (hb : k + (blob p).length ≤ 140737488355328) : Calls Tryd.prog 93 #[.pointer (some ⟨b, 0, none⟩), .slice ap m cp] w fun en w' => ∃ v, en = .returned v ∧ v = .tuple #[] ∧ ∃ a' c' e', RowE (.slice a' (k + (blob p).length) c') 5 1 (k + (blob p).length) ((xs ++ blob p).map vU8) e' ∧ Mem w (b :: keys [e]) [some (b, blk [.slice a' (k + (blob p).length) c'] 109), e'] w' := by
  have hbl : (blob p).length = (uvar (UInt64.ofNat m)).length + m := by rw [blob, List.length_append, hpm]
  refine calls_of_sw (vs := [.pointer (some ⟨b, 0, none⟩), .slice ap m cp]) Tryd.func93 rfl Tryd.ntmps93 rfl (SW.beginM hm0 ?_)
  refine sw_seq ?_
  refine sw_region ?_
  refine ow_val (val_move rfl) rfl ?_   -- 4
  refine ow_val (val_move rfl) rfl ?_   -- 5
  refine ow_val (val_len rfl Tryd.underlying25) rfl ?_   -- 6
  refine ow_val (val_conv_n_u64 m Tryd.underlying3 Tryd.underlying46 rfl rfl) rfl ?_   -- 7
  refine ow_call_wr (k := k + ((uvar (UInt64.ofNat m)).length)) (E := 5) (T := 109) (xs := (xs ++ (uvar (UInt64.ofNat m))).map vU8) 0 1 rfl rfl (by decide) (callsTo Tryd.func92 rfl (by kernel_rfl) rfl) rfl (fun w hm hs => wuvar_any b a k c xs e w hs hrow (UInt64.ofNat m) (by have := uvar_len (UInt64.ofNat m); omega)) (fun a8 c8 e8 hr8 => ?_)   -- 8
  refine ow_nil (into ?_)
  refine sw_region ?_
  refine ow_val (val_move rfl) rfl ?_   -- 9
  refine ow_val (val_move rfl) rfl ?_   -- 10
  refine ow_call_wr (k := k + ((uvar (UInt64.ofNat m)).length) + m) (E := 5) (T := 109) (xs := ((xs ++ (uvar (UInt64.ofNat m))) ++ p).map vU8) 0 1 rfl rfl (by decide) (callsTo Tryd.func85 rfl (by kernel_rfl) rfl) rfl (fun w hm hs => wraw_any b a8 (k + ((uvar (UInt64.ofNat m)).length)) c8 (xs ++ (uvar (UInt64.ofNat m))) e8 w hs hr8 ap m _ p hpm (hr.memO hm hne) (hm.argNe hr hne (i := 0) (j := 1) rfl rfl) (by omega) (by omega)) (fun a11 c11 e11 hr11 => ?_)   -- 11
  refine ow_nil (fun w hm => ?_)
  try dsimp only [thenP, blockP, Nat.beq, cond]
  exact ret_end rfl ⟨rfl, _, _, _, hr11.cong (by rw [hbl, Nat.add_assoc]) (by rw [hbl, Nat.add_assoc]) (by rw [List.append_assoc, blob, hpm]), (hm.only (.cons_cons _ (.cons_cons _ (List.nil_sublist _)))).cast (by rw [hbl, Nat.add_assoc])⟩

theorem z8 (w : World) : (zeroValue 5).run Tryd.prog w = .ok (vU8 0) w := by kernel_rfl
theorem cloneNil {a : Option Addr} {w : World} {p : List UInt8} (h : Option.isNone a = true) (hr : Rd w a (p.map vU8)) : p = [] := by
  cases p with
  | nil => rfl
  | cons x r => obtain ⟨b, o, rfl⟩ := hr.addr (by simp); cases h

theorem clone_any (a : Option Addr) (m c : Nat) (p : List UInt8) (hpm : p.length = m) (hb : m ≤ 140737488355328) (w : World) (hr : Rd w a (p.map vU8)) : Calls Tryd.prog 105 #[.slice a m c] w fun e w' => ∃ v, e = .returned v ∧ ∃ e', RowE v 5 1 m (p.map vU8) e' ∧ Mem w [] [e'] w' := by
  obtain ⟨ti, hi, hz, hsz, hby⟩ := info_parts iu8'
  refine calls_of_sw (vs := [.slice a m c]) Tryd.func105 rfl Tryd.ntmps105 rfl (SW.begin ?_)
  refine sw_seq ?_
  refine sw_region ?_
  refine ow_val (val_assign rfl) rfl ?_   -- 2
  refine ow_nil (into ?_)
  refine sw_seq ?_
  refine sw_seq ?_
  refine sw_region ?_
  refine ow_val (val_move rfl) rfl ?_   -- 3
  refine ow_val (val_eql_nilslice Tryd.underlying25 rfl rfl) rfl ?_   -- 4
  refine ow_nil (into ?_)
  refine sw_cond rfl (fun h0 => ?_) (fun h0 => ?_)
  · -- then
    refine sw_seq ?_
    refine sw_region ?_
    refine ow_val (val_assign rfl) rfl ?_   -- 2
    refine ow_nil (into ?_)
    refine sw_ret (fun w hm => ?_)
    try dsimp only [thenP, blockP, Nat.beq, cond]
    exact ret_one _ rfl rfl ⟨none, by have hp0 := cloneNil h0 hr; subst hp0; simp at hpm; subst hpm; exact RowE.nil _ _, hm.place⟩
  · -- else
    refine sw_skip (into ?_)
    refine sw_seq ?_
    refine sw_region ?_
    refine ow_make (acts_buildSlice (cs := ([] : List UInt8).map vU8) Tryd.underlying25 Tryd.sizeOf5 z8 rfl rfl (by kernel_rfl)) rfl (fun b5 hb5 => ?_)   -- 5
    refine ow_val (val_move rfl) rfl ?_   -- 6
    refine ow_append' (k := 0 + m) (acts_append (size := 1) (bytes := 1) 0 rfl rfl rfl (RowE.full (xs := []) rfl (by decide)) rfl Tryd.underlying25 hi hz hsz hby rfl (by decide) (fun w hm => hr.mem hm) (by rw [List.length_map, Nat.mul_one]; exact hpm) (one_u8s _) (by omega) (by omega)) rfl (fun a7 c7 e7 hr7 => ?_)
    refine ow_val (val_assign rfl) rfl ?_   -- 2
    refine ow_nil (into ?_)
    exact sw_ret (fun w hm => ret_one _ rfl rfl ⟨e7, hr7.cong (by rw [Nat.zero_add]) (by omega) (by simp), hm⟩)

theorem wbytes_any (b : Nat) (a : Option Addr) (k c : Nat) (xs : List UInt8) (e : Ent) (w : World) (hm0 : Mem w (b :: keys [e]) [some (b, blk [.slice a k c] 109), e] w) (hrow : RowE (.slice a k c) 5 1 k (xs.map vU8) e) (hb : k ≤ 140737488355328) : Calls Tryd.prog 86 #[.pointer (some ⟨b, 0, none⟩)] w fun en w' => ∃ v, en = .returned v ∧ ∃ e', RowE v 5 1 k (xs.map vU8) e' ∧ Mem w [] [e'] w' := by
  have hxl : xs.length = k := by have := hrow.len; simpa using this
  refine calls_of_sw (vs := [.pointer (some ⟨b, 0, none⟩)]) Tryd.func86 rfl Tryd.ntmps86 rfl (SW.beginM hm0 ?_)
  refine sw_seq ?_
  refine sw_region ?_
  refine ow_val (val_assign rfl) rfl ?_   -- 2
  refine ow_nil (into ?_)
  refine sw_seq ?_
  refine sw_seq ?_
  refine sw_region ?_
  refine ow_val (val_move rfl) rfl ?_   -- 3
  refine ow_val (val_eql_nilptr Tryd.underlying127 rfl rfl) rfl ?_   -- 4
  refine ow_nil (into ?_)
  refine sw_false rfl rfl ?_
  refine sw_skip (into ?_)
  refine sw_seq ?_
  refine sw_region ?_
  refine ow_val (val_move rfl) rfl ?_   -- 5
  refine ow_val (val_nilCheck rfl) rfl ?_   -- 6
  refine ow_val (val_fieldAddr (m := 0) (e := 0) rfl Tryd.underlying109 rfl rfl Tryd.sizeOf25 rfl) rfl ?_   -- 7
  refine ow_val (val_load_at 0 rfl rfl Tryd.isAgg25 rfl) rfl ?_   -- 8
  refine ow_call_row (E := 5) (size := 1) (k := k) (xs := xs.map vU8) (callsTo Tryd.func105 rfl (by kernel_rfl) rfl) rfl (fun w hm => clone_any a k c xs hxl (by omega) w (hrow.rdAt hm (i := 1) rfl)) (fun a9 c9 e9 hr9 => ?_)   -- 9
  refine ow_val (val_assign rfl) rfl ?_   -- 2
  refine ow_nil (into ?_)
  exact sw_ret (fun w hm => ret_one _ rfl rfl ⟨e9, hr9, hm.backKeys (l' := [some (b, blk [.slice a k c] 109), e]) hm0⟩)
end Go.Proofs.YtpmnhmfahgchgaaDoor
