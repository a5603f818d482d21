import Derived.Test.YtigogbodobifdaaQ5
import Derived.Test.YtigogbodobifdaaProg
set_option linter.unusedVariables false
set_option linter.unusedSimpArgs false
namespace Go.Proofs.Ytigogbodobifdaa
open Go.Sx
theorem mem0 {w0 w : World} (h : Mem w0 [] [] w) : Mem w0 [] (([] : List Ent) ++ []) w := h
theorem mem2 {w0 w : World} {x y : Ent} (h : Mem w0 [] [x, y] w) : Mem w0 [] ([y, none, x, none] ++ []) w := (h.perm (List.Perm.swap _ _ _)).place2
theorem mem2b {w0 w : World} {x y : Ent} (h : Mem w0 [] [x, y] w) : Mem w0 [] ([] ++ [y, none, x, none]) w := (h.perm (List.Perm.swap _ _ _)).place2
theorem Mem.ins {w0 w : World} {olds : List Nat} (l1 l2 : List Ent) (h : Mem w0 olds (l1 ++ l2) w) : Mem w0 olds (l1 ++ none :: l2) w := h.place.perm List.perm_middle
theorem mem4 {w0 w : World} {t p s q : Ent} (h : Mem w0 [] [t, p, s, q] w) : Mem w0 [] ([q, none, p, none] ++ [s, none, t, none]) w := by
  have h1 : Mem w0 [] [q, s, p, t] w := h.perm (List.reverse_perm [t, p, s, q])
  have h2 : Mem w0 [] [q, p, s, t] w := h1.perm (.cons _ (.swap _ _ _))
  exact Mem.ins [q, none, p, none, s, none, t] [] (Mem.ins [q, none, p, none, s] [t] (Mem.ins [q, none, p] [s, t] (Mem.ins [q] [p, s, t] h2)))
/-- A queue and the document's: none, or both alike. -/
def Pr (vq vp : Value) (n : Nat) (L : List Ent) : Prop := (vq = .pointer none ∧ vp = .pointer none ∧ L = []) ∨
  ∃ q p pl cl xs r1 r2, vq = .pointer (some ⟨q, 0, none⟩) ∧ vp = .pointer (some ⟨p, 0, none⟩) ∧ (1 ≤ pl ∧ pl ≤ 64) ∧ qInv xs r1 r2 ∧ xs.length ≤ n ∧ L = qMem q p pl cl xs r1 r2
theorem Pr.mono {vq vp : Value} {n m : Nat} {L : List Ent} (h : Pr vq vp n L) (hn : n ≤ m) : Pr vq vp m L := by
  rcases h with h | ⟨q, p, pl, cl, xs, r1, r2, h1, h2, h3, h4, h5, h6⟩
  · exact .inl h
  · exact .inr ⟨q, p, pl, cl, xs, r1, r2, h1, h2, h3, h4, Nat.le_trans h5 hn, h6⟩
theorem Pr.start (q p : Nat) (pl : Int) (h : 1 ≤ pl ∧ pl ≤ 64) : Pr (.pointer (some ⟨q, 0, none⟩)) (.pointer (some ⟨p, 0, none⟩)) 0 (qMem q p pl false [] (none, 0, none) (none, 0, none)) := .inr ⟨q, p, pl, false, [], _, _, rfl, rfl, h, ⟨RowO.nil _, RowO.nil _, fun v h => by cases h⟩, Nat.le_refl _, rfl⟩
theorem one_pr (w : World) {vq vp : Value} {n : Nat} {L : List Ent} (h : Pr vq vp n L) (hn : (n + 1) * 8 ≤ 140737488355328) (hm0 : Mem w (keys L) L w) (K z : Int) :
    Calls Try.prog 11 #[vq, vp, .agg #[vInt K, vInt z]] w fun en w' => ∃ u, en = .returned u ∧ ∃ L', u = .bool true ∧ Pr vq vp (n + 1) L' ∧ Mem w (keys L) L' w' := by
  rcases h with ⟨rfl, rfl, rfl⟩ | ⟨q, p, pl, cl, xs, r1, r2, rfl, rfl, h3, h4, h5, rfl⟩
  · exact (one_nil w K z).mono fun _ _ ⟨u, he, hu, hm⟩ => ⟨u, he, [], hu, .inl ⟨rfl, rfl, rfl⟩, hm⟩
  · exact (one_any w cl xs q p pl h3 r1 r2 h4 (by omega) hm0 K z).mono fun _ _ ⟨u, he, s, hu, hi, hm⟩ => ⟨u, he, _, hu, .inr ⟨q, p, pl, s.1, s.2.1, s.2.2.1, s.2.2.2, rfl, rfl, h3, hi.1, by have := hi.2; omega, rfl⟩, hm⟩

theorem two_yy (pa pb : Int) (w : World) (a : Option Addr) (c : Nat) (l : List (Int × Int)) (hr : Rd w a (l.flatMap (fun o : Int × Int => [vInt o.1, vInt o.2]))) (hc : l.length ≤ c) (hb : l.length * 16 ≤ 140737488351232) (a2 : Option Addr) (c2 : Nat) (m : List (Int × Int)) (hr2 : Rd w a2 (m.flatMap (fun o : Int × Int => [vInt o.1, vInt o.2]))) (hc2 : m.length ≤ c2) (hb2 : m.length * 16 ≤ 140737488351232) (hwa : 1 ≤ pa ∧ pa ≤ 64) (hwb : 1 ≤ pb ∧ pb ≤ 64) : Calls Try.prog 4 #[vInt pa, vInt pb, .slice a l.length c, .slice a2 m.length c2] w fun e w' => ∃ v, e = .returned v ∧ v = .bool true ∧ Mem w [] [] w' := by
  refine calls_of_sw (vs := [vInt pa, vInt pb, .slice a l.length c, .slice a2 m.length c2]) Try.func4 rfl Try.ntmps4 rfl (SW.begin ?_)
  refine sw_seq ?_
  refine sw_region ?_
  refine ow_val (val_assign rfl) rfl ?_   -- 8
  refine ow_nil (into ?_)
  refine sw_seq ?_
  refine sw_seq ?_
  refine sw_region ?_
  refine ow_call_pure (v := .bool true) (callsTo Try.func8 rfl (by kernel_rfl) rfl) rfl (fun w hm => awake_any w) ?_   -- 18
  refine ow_val (val_not rfl) rfl ?_   -- 19
  refine ow_nil (into ?_)
  refine sw_false rfl rfl ?_
  refine sw_skip (into ?_)
  refine sw_seq ?_
  refine sw_region ?_
  refine ow_val (val_move rfl) rfl ?_   -- 21
  refine ow_call_blk (fun b => .tuple #[.pointer (some ⟨b, 0, none⟩), vInt 0]) (callsTo Try.func9 rfl (by kernel_rfl) rfl) rfl (fun w hm => iNew_yes w pa hwa) (fun q hq => ?_)
  refine ow_val (val_move rfl) rfl ?_   -- 20
  refine ow_val (val_extract rfl rfl) rfl ?_   -- 23
  refine ow_val (val_extract rfl rfl) rfl ?_   -- 24
  refine ow_val (val_assign rfl) rfl ?_   -- 9
  refine ow_val (val_assign rfl) rfl ?_   -- 10
  refine ow_nil (into ?_)
  refine sw_seq ?_
  refine sw_region ?_
  refine ow_val (val_move rfl) rfl ?_   -- 26
  refine ow_call_blk (fun b => .tuple #[.pointer (some ⟨b, 0, none⟩), vInt 0]) (callsTo Try.func9 rfl (by kernel_rfl) rfl) rfl (fun w hm => iNew_yes w pb hwb) (fun q2 hq2 => ?_)
  refine ow_val (val_move rfl) rfl ?_   -- 25
  refine ow_val (val_extract rfl rfl) rfl ?_   -- 28
  refine ow_val (val_extract rfl rfl) rfl ?_   -- 29
  refine ow_val (val_assign rfl) rfl ?_   -- 11
  refine ow_val (val_assign rfl) rfl ?_   -- 12
  refine ow_nil (into ?_)
  refine sw_seq ?_
  refine sw_region ?_
  refine ow_val (val_move rfl) rfl ?_   -- 31
  refine ow_call_blk (fun b => .tuple #[.pointer (some ⟨b, 0, none⟩), vInt 0]) (callsTo Try.func10 rfl (by kernel_rfl) rfl) rfl (fun w hm => rNew_yes w pa hwa) (fun p hp => ?_)
  refine ow_val (val_move rfl) rfl ?_   -- 30
  refine ow_val (val_extract rfl rfl) rfl ?_   -- 33
  refine ow_val (val_extract rfl rfl) rfl ?_   -- 34
  refine ow_val (val_assign rfl) rfl ?_   -- 13
  refine ow_val (val_assign rfl) rfl ?_   -- 14
  refine ow_nil (into ?_)
  refine sw_seq ?_
  refine sw_region ?_
  refine ow_val (val_move rfl) rfl ?_   -- 36
  refine ow_call_blk (fun b => .tuple #[.pointer (some ⟨b, 0, none⟩), vInt 0]) (callsTo Try.func10 rfl (by kernel_rfl) rfl) rfl (fun w hm => rNew_yes w pb hwb) (fun p2 hp2 => ?_)
  refine ow_val (val_move rfl) rfl ?_   -- 35
  refine ow_val (val_extract rfl rfl) rfl ?_   -- 38
  refine ow_val (val_extract rfl rfl) rfl ?_   -- 39
  refine ow_val (val_assign rfl) rfl ?_   -- 15
  refine ow_val (val_assign rfl) rfl ?_   -- 16
  refine ow_nil (into ?_)
  refine sw_seq ?_
  refine sw_seq ?_
  refine sw_region ?_
  refine ow_val (val_move rfl) rfl ?_   -- 40
  refine ow_val (val_move rfl) rfl ?_   -- 41
  refine ow_val ((val_neq_int rfl rfl).to (v' := .bool false) (congrArg Value.bool (decide_eq_false (fun h => h rfl)))) rfl ?_   -- 42
  refine ow_val (val_move rfl) rfl ?_   -- 43
  refine ow_guard_yes rfl rfl rfl ?_
  refine ow_val (val_move rfl) rfl ?_   -- 44
  refine ow_guard_yes rfl rfl rfl ?_
  refine ow_val (val_move rfl) rfl ?_   -- 45
  refine ow_guard_yes rfl rfl rfl ?_
  refine ow_val ((val_neq_int rfl rfl).to (v' := .bool false) (congrArg Value.bool (decide_eq_false (fun h => h rfl)))) rfl ?_   -- 46
  refine ow_val (val_pick_false rfl rfl) rfl ?_   -- 47
  refine ow_nil (into ?_)
  refine sw_false rfl rfl ?_
  refine sw_skip (into ?_)
  refine sw_seq ?_
  refine sw_seq ?_
  refine sw_region ?_
  refine ow_val (val_assign rfl) rfl ?_   -- 17
  refine ow_nil (into ?_)
  refine sw_block ?_
  refine sw_loop (σ := Nat × List Ent × List Ent) (fun t => t.1 ≤ l.length + m.length ∧ Pr (.pointer (some ⟨q, 0, none⟩)) (.pointer (some ⟨p, 0, none⟩)) t.1 t.2.1 ∧ Pr (.pointer (some ⟨q2, 0, none⟩)) (.pointer (some ⟨p2, 0, none⟩)) t.1 t.2.2) (fun t => [(17, vInt (t.1 : Int)), (2, .slice a l.length c), (3, .slice a2 m.length c2), (9, .pointer (some ⟨q, 0, none⟩)), (13, .pointer (some ⟨p, 0, none⟩)), (11, .pointer (some ⟨q2, 0, none⟩)), (15, .pointer (some ⟨p2, 0, none⟩))]) (fun t => Mem w [] (t.2.1 ++ t.2.2)) (fun t => l.length + m.length - t.1) (0, (qMem q p pa false [] (none, 0, none) (none, 0, none)), (qMem q2 p2 pb false [] (none, 0, none) (none, 0, none))) ⟨Nat.zero_le _, Pr.start q p pa hwa, Pr.start q2 p2 pb hwb⟩ ⟨rfl, rfl, rfl, rfl, rfl, rfl, rfl, rfl⟩ (fun w hm => mem4 hm) ?_
  rintro ⟨j, L1, L2⟩ ⟨hj, hP1, hP2⟩
  simp only at hj hP1 hP2 ⊢
  refine sw_seq ?_
  refine sw_seq ?_
  refine sw_region ?_
  refine ow_val (val_move rfl) rfl ?_   -- 48
  refine ow_val (val_move rfl) rfl ?_   -- 49
  refine ow_val (val_len rfl Try.underlying22) rfl ?_   -- 50
  by_cases g1 : j < l.length
  · -- yes
    refine ow_val ((val_lss_int rfl rfl).to (congrArg Value.bool (decide_eq_true (by omega)))) rfl ?_   -- 51
    refine ow_val (val_move rfl) rfl ?_   -- 52
    first | refine ow_guard_no rfl rfl rfl rfl rfl ?_ | refine ow_guard_none rfl rfl rfl rfl rfl ?_
    first | refine ow_guard_no rfl rfl rfl rfl rfl ?_ | refine ow_guard_none rfl rfl rfl rfl rfl ?_
    first | refine ow_guard_no rfl rfl rfl rfl rfl ?_ | refine ow_guard_none rfl rfl rfl rfl rfl ?_
    first | refine ow_guard_no rfl rfl rfl rfl rfl ?_ | refine ow_guard_none rfl rfl rfl rfl rfl ?_
    refine ow_val (val_pick_true rfl rfl) rfl ?_   -- 57
    refine ow_nil (into ?_)
    refine sw_true rfl rfl ?_
    refine sw_skip (into ?_)
    refine sw_seq ?_
    refine sw_block ?_
    refine sw_seq ?_
    refine sw_region ?_
    refine ow_val (val_move rfl) rfl ?_   -- 60
    refine ow_val (val_move rfl) rfl ?_   -- 61
    refine ow_val (val_len rfl Try.underlying22) rfl ?_   -- 62
    by_cases g3 : j < l.length
    · -- yes
      refine ow_val ((val_lss_int rfl rfl).to (congrArg Value.bool (decide_eq_true (by omega)))) rfl ?_   -- 63
      refine ow_val (val_move rfl) rfl ?_   -- 64
      refine ow_guard_yes rfl rfl rfl ?_
      refine ow_val (val_move rfl) rfl ?_   -- 65
      refine ow_guard_yes rfl rfl rfl ?_
      refine ow_val (val_move rfl) rfl ?_   -- 66
      refine ow_guard_yes rfl rfl rfl ?_
      refine ow_val (val_move rfl) rfl ?_   -- 67
      refine ow_guard_yes rfl rfl rfl ?_
      refine ow_val (val_move rfl) rfl ?_   -- 68
      refine ow_guard_yes rfl rfl rfl ?_
      obtain ⟨ba, oa, rfl⟩ := hr.addr (by rw [flatMap_size l (n := 2) (fun _ _ => rfl)]; omega)
      obtain ⟨⟨K1, z1⟩, hd1⟩ : ∃ o, l.getD j default = o := ⟨_, rfl⟩
      refine ow_val (val_indexAddr_slice j (oa + j * 2) rfl rfl Try.underlying22 Try.sizeOf32 (by omega) (by omega) (by omega)) rfl ?_
      refine ow_guard_yes rfl rfl rfl ?_
      refine ow_val ((val_load_elem (cells := (fun o : Int × Int => [vInt o.1, vInt o.2])) (l := l) (o := oa) (i := j) rfl Try.isAgg32 Try.sizeOf32 (fun _ _ => rfl) (by omega) (by omega) (fun w' hm => hr.mem hm)).to (v' := .agg #[vInt K1, vInt z1]) (by rw [hd1])) rfl ?_   -- 70
      refine ow_guard_yes rfl rfl rfl ?_
      refine ow_call_frame (fun _ => .bool true) (fun L => L) (fun L => Pr (.pointer (some ⟨q, 0, none⟩)) (.pointer (some ⟨p, 0, none⟩)) (j + 1) L) L1 L2 (callsTo Try.func11 rfl (by kernel_rfl) rfl) rfl (fun w hm hm2 => one_pr w hP1 (by omega) hm2 K1 z1) ?_
      rintro L1' hP1'
      refine ow_guard_yes rfl rfl rfl ?_
      refine ow_val (val_not rfl) rfl ?_   -- 72
      refine ow_val (val_pick_true rfl rfl) rfl ?_   -- 73
      refine ow_val (val_move rfl) rfl ?_   -- 74
      refine ow_guard_yes rfl rfl rfl ?_
      refine ow_val (val_move rfl) rfl ?_   -- 75
      refine ow_guard_yes rfl rfl rfl ?_
      refine ow_val (val_move rfl) rfl ?_   -- 76
      refine ow_guard_yes rfl rfl rfl ?_
      refine ow_val (val_len rfl Try.underlying22) rfl ?_   -- 77
      by_cases g4 : j < m.length
      · -- yes
        refine ow_guard_yes rfl rfl rfl ?_
        refine ow_val ((val_lss_int rfl rfl).to (congrArg Value.bool (decide_eq_true (by omega)))) rfl ?_   -- 78
        refine ow_guard_yes rfl rfl rfl ?_
        refine ow_val (val_move rfl) rfl ?_   -- 79
        refine ow_guard_yes rfl rfl rfl ?_
        refine ow_val (val_move rfl) rfl ?_   -- 80
        refine ow_guard_yes rfl rfl rfl ?_
        refine ow_val (val_move rfl) rfl ?_   -- 81
        refine ow_guard_yes rfl rfl rfl ?_
        refine ow_val (val_move rfl) rfl ?_   -- 82
        refine ow_guard_yes rfl rfl rfl ?_
        refine ow_val (val_move rfl) rfl ?_   -- 83
        refine ow_guard_yes rfl rfl rfl ?_
        obtain ⟨bb, ob, rfl⟩ := hr2.addr (by rw [flatMap_size m (n := 2) (fun _ _ => rfl)]; omega)
        obtain ⟨⟨K2, z2⟩, hd2⟩ : ∃ o, m.getD j default = o := ⟨_, rfl⟩
        refine ow_val (val_indexAddr_slice j (ob + j * 2) rfl rfl Try.underlying22 Try.sizeOf32 (by omega) (by omega) (by omega)) rfl ?_
        refine ow_guard_yes rfl rfl rfl ?_
        refine ow_val ((val_load_elem (cells := (fun o : Int × Int => [vInt o.1, vInt o.2])) (l := m) (o := ob) (i := j) rfl Try.isAgg32 Try.sizeOf32 (fun _ _ => rfl) (by omega) (by omega) (fun w' hm => hr2.mem hm)).to (v' := .agg #[vInt K2, vInt z2]) (by rw [hd2])) rfl ?_   -- 85
        refine ow_guard_yes rfl rfl rfl ?_
        refine ow_sub (M' := Mem w [] (L2 ++ L1')) (fun w hm => hm.perm List.perm_append_comm) ?_
        refine ow_call_frame (fun _ => .bool true) (fun L => L) (fun L => Pr (.pointer (some ⟨q2, 0, none⟩)) (.pointer (some ⟨p2, 0, none⟩)) (j + 1) L) L2 L1' (callsTo Try.func11 rfl (by kernel_rfl) rfl) rfl (fun w hm hm2 => one_pr w hP2 (by omega) hm2 K2 z2) ?_
        rintro L2' hP2'
        refine ow_sub (M' := Mem w [] (L1' ++ L2')) (fun w hm => hm.perm List.perm_append_comm) ?_
        refine ow_guard_yes rfl rfl rfl ?_
        refine ow_val (val_not rfl) rfl ?_   -- 87
        refine ow_guard_yes rfl rfl rfl ?_
        refine ow_val (val_pick_true rfl rfl) rfl ?_   -- 88
        refine ow_val (val_pick_false rfl rfl) rfl ?_   -- 89
        refine ow_nil (into ?_)
        refine sw_false rfl rfl ?_
        refine sw_skip (into ?_)
        refine sw_region ?_
        refine ow_val (val_move rfl) rfl ?_   -- 58
        refine ow_val (val_add_int ((j + 1 : Nat) : Int) rfl rfl (by omega) (by omega)) rfl ?_   -- 59
        refine ow_val (val_assign rfl) rfl ?_   -- 17
        exact ow_nil (fun w hm => ⟨(j + 1, L1', L2'), ⟨by dsimp only; omega, hP1', hP2'⟩, by dsimp only; omega, ⟨rfl, rfl, rfl, rfl, rfl, rfl, rfl, rfl⟩, hm⟩)
      · -- no
        refine ow_guard_yes rfl rfl rfl ?_
        refine ow_val ((val_lss_int rfl rfl).to (congrArg Value.bool (decide_eq_false (by omega)))) rfl ?_   -- 78
        refine ow_guard_yes rfl rfl rfl ?_
        refine ow_val (val_move rfl) rfl ?_   -- 79
        first | refine ow_guard_no rfl rfl rfl rfl rfl ?_ | refine ow_guard_none rfl rfl rfl rfl rfl ?_
        first | refine ow_guard_no rfl rfl rfl rfl rfl ?_ | refine ow_guard_none rfl rfl rfl rfl rfl ?_
        first | refine ow_guard_no rfl rfl rfl rfl rfl ?_ | refine ow_guard_none rfl rfl rfl rfl rfl ?_
        first | refine ow_guard_no rfl rfl rfl rfl rfl ?_ | refine ow_guard_none rfl rfl rfl rfl rfl ?_
        first | refine ow_guard_no rfl rfl rfl rfl rfl ?_ | refine ow_guard_none rfl rfl rfl rfl rfl ?_
        first | refine ow_guard_no rfl rfl rfl rfl rfl ?_ | refine ow_guard_none rfl rfl rfl rfl rfl ?_
        first | refine ow_guard_no rfl rfl rfl rfl rfl ?_ | refine ow_guard_none rfl rfl rfl rfl rfl ?_
        first | refine ow_guard_no rfl rfl rfl rfl rfl ?_ | refine ow_guard_none rfl rfl rfl rfl rfl ?_
        refine ow_guard_yes rfl rfl rfl ?_
        refine ow_val (val_pick_false rfl rfl) rfl ?_   -- 88
        refine ow_val (val_pick_false rfl rfl) rfl ?_   -- 89
        refine ow_nil (into ?_)
        refine sw_false rfl rfl ?_
        refine sw_skip (into ?_)
        refine sw_region ?_
        refine ow_val (val_move rfl) rfl ?_   -- 58
        refine ow_val (val_add_int ((j + 1 : Nat) : Int) rfl rfl (by omega) (by omega)) rfl ?_   -- 59
        refine ow_val (val_assign rfl) rfl ?_   -- 17
        exact ow_nil (fun w hm => ⟨(j + 1, L1', L2), ⟨by dsimp only; omega, hP1', hP2.mono (Nat.le_succ _)⟩, by dsimp only; omega, ⟨rfl, rfl, rfl, rfl, rfl, rfl, rfl, rfl⟩, hm⟩)
    · -- no
      refine ow_val ((val_lss_int rfl rfl).to (congrArg Value.bool (decide_eq_false (by omega)))) rfl ?_   -- 63
      refine ow_val (val_move rfl) rfl ?_   -- 64
      first | refine ow_guard_no rfl rfl rfl rfl rfl ?_ | refine ow_guard_none rfl rfl rfl rfl rfl ?_
      first | refine ow_guard_no rfl rfl rfl rfl rfl ?_ | refine ow_guard_none rfl rfl rfl rfl rfl ?_
      first | refine ow_guard_no rfl rfl rfl rfl rfl ?_ | refine ow_guard_none rfl rfl rfl rfl rfl ?_
      first | refine ow_guard_no rfl rfl rfl rfl rfl ?_ | refine ow_guard_none rfl rfl rfl rfl rfl ?_
      first | refine ow_guard_no rfl rfl rfl rfl rfl ?_ | refine ow_guard_none rfl rfl rfl rfl rfl ?_
      first | refine ow_guard_no rfl rfl rfl rfl rfl ?_ | refine ow_guard_none rfl rfl rfl rfl rfl ?_
      first | refine ow_guard_no rfl rfl rfl rfl rfl ?_ | refine ow_guard_none rfl rfl rfl rfl rfl ?_
      first | refine ow_guard_no rfl rfl rfl rfl rfl ?_ | refine ow_guard_none rfl rfl rfl rfl rfl ?_
      refine ow_val (val_pick_false rfl rfl) rfl ?_   -- 73
      refine ow_val (val_move rfl) rfl ?_   -- 74
      refine ow_guard_yes rfl rfl rfl ?_
      refine ow_val (val_move rfl) rfl ?_   -- 75
      refine ow_guard_yes rfl rfl rfl ?_
      refine ow_val (val_move rfl) rfl ?_   -- 76
      refine ow_guard_yes rfl rfl rfl ?_
      refine ow_val (val_len rfl Try.underlying22) rfl ?_   -- 77
      by_cases g4 : j < m.length
      · -- yes
        refine ow_guard_yes rfl rfl rfl ?_
        refine ow_val ((val_lss_int rfl rfl).to (congrArg Value.bool (decide_eq_true (by omega)))) rfl ?_   -- 78
        refine ow_guard_yes rfl rfl rfl ?_
        refine ow_val (val_move rfl) rfl ?_   -- 79
        refine ow_guard_yes rfl rfl rfl ?_
        refine ow_val (val_move rfl) rfl ?_   -- 80
        refine ow_guard_yes rfl rfl rfl ?_
        refine ow_val (val_move rfl) rfl ?_   -- 81
        refine ow_guard_yes rfl rfl rfl ?_
        refine ow_val (val_move rfl) rfl ?_   -- 82
        refine ow_guard_yes rfl rfl rfl ?_
        refine ow_val (val_move rfl) rfl ?_   -- 83
        refine ow_guard_yes rfl rfl rfl ?_
        obtain ⟨bb, ob, rfl⟩ := hr2.addr (by rw [flatMap_size m (n := 2) (fun _ _ => rfl)]; omega)
        obtain ⟨⟨K2, z2⟩, hd2⟩ : ∃ o, m.getD j default = o := ⟨_, rfl⟩
        refine ow_val (val_indexAddr_slice j (ob + j * 2) rfl rfl Try.underlying22 Try.sizeOf32 (by omega) (by omega) (by omega)) rfl ?_
        refine ow_guard_yes rfl rfl rfl ?_
        refine ow_val ((val_load_elem (cells := (fun o : Int × Int => [vInt o.1, vInt o.2])) (l := m) (o := ob) (i := j) rfl Try.isAgg32 Try.sizeOf32 (fun _ _ => rfl) (by omega) (by omega) (fun w' hm => hr2.mem hm)).to (v' := .agg #[vInt K2, vInt z2]) (by rw [hd2])) rfl ?_   -- 85
        refine ow_guard_yes rfl rfl rfl ?_
        refine ow_sub (M' := Mem w [] (L2 ++ L1)) (fun w hm => hm.perm List.perm_append_comm) ?_
        refine ow_call_frame (fun _ => .bool true) (fun L => L) (fun L => Pr (.pointer (some ⟨q2, 0, none⟩)) (.pointer (some ⟨p2, 0, none⟩)) (j + 1) L) L2 L1 (callsTo Try.func11 rfl (by kernel_rfl) rfl) rfl (fun w hm hm2 => one_pr w hP2 (by omega) hm2 K2 z2) ?_
        rintro L2' hP2'
        refine ow_sub (M' := Mem w [] (L1 ++ L2')) (fun w hm => hm.perm List.perm_append_comm) ?_
        refine ow_guard_yes rfl rfl rfl ?_
        refine ow_val (val_not rfl) rfl ?_   -- 87
        refine ow_guard_yes rfl rfl rfl ?_
        refine ow_val (val_pick_true rfl rfl) rfl ?_   -- 88
        refine ow_val (val_pick_false rfl rfl) rfl ?_   -- 89
        refine ow_nil (into ?_)
        refine sw_false rfl rfl ?_
        refine sw_skip (into ?_)
        refine sw_region ?_
        refine ow_val (val_move rfl) rfl ?_   -- 58
        refine ow_val (val_add_int ((j + 1 : Nat) : Int) rfl rfl (by omega) (by omega)) rfl ?_   -- 59
        refine ow_val (val_assign rfl) rfl ?_   -- 17
        exact ow_nil (fun w hm => ⟨(j + 1, L1, L2'), ⟨by dsimp only; omega, hP1.mono (Nat.le_succ _), hP2'⟩, by dsimp only; omega, ⟨rfl, rfl, rfl, rfl, rfl, rfl, rfl, rfl⟩, hm⟩)
      · -- no
        refine ow_guard_yes rfl rfl rfl ?_
        refine ow_val ((val_lss_int rfl rfl).to (congrArg Value.bool (decide_eq_false (by omega)))) rfl ?_   -- 78
        refine ow_guard_yes rfl rfl rfl ?_
        refine ow_val (val_move rfl) rfl ?_   -- 79
        first | refine ow_guard_no rfl rfl rfl rfl rfl ?_ | refine ow_guard_none rfl rfl rfl rfl rfl ?_
        first | refine ow_guard_no rfl rfl rfl rfl rfl ?_ | refine ow_guard_none rfl rfl rfl rfl rfl ?_
        first | refine ow_guard_no rfl rfl rfl rfl rfl ?_ | refine ow_guard_none rfl rfl rfl rfl rfl ?_
        first | refine ow_guard_no rfl rfl rfl rfl rfl ?_ | refine ow_guard_none rfl rfl rfl rfl rfl ?_
        first | refine ow_guard_no rfl rfl rfl rfl rfl ?_ | refine ow_guard_none rfl rfl rfl rfl rfl ?_
        first | refine ow_guard_no rfl rfl rfl rfl rfl ?_ | refine ow_guard_none rfl rfl rfl rfl rfl ?_
        first | refine ow_guard_no rfl rfl rfl rfl rfl ?_ | refine ow_guard_none rfl rfl rfl rfl rfl ?_
        first | refine ow_guard_no rfl rfl rfl rfl rfl ?_ | refine ow_guard_none rfl rfl rfl rfl rfl ?_
        refine ow_guard_yes rfl rfl rfl ?_
        refine ow_val (val_pick_false rfl rfl) rfl ?_   -- 88
        refine ow_val (val_pick_false rfl rfl) rfl ?_   -- 89
        refine ow_nil (into ?_)
        refine sw_false rfl rfl ?_
        refine sw_skip (into ?_)
        refine sw_region ?_
        refine ow_val (val_move rfl) rfl ?_   -- 58
        refine ow_val (val_add_int ((j + 1 : Nat) : Int) rfl rfl (by omega) (by omega)) rfl ?_   -- 59
        refine ow_val (val_assign rfl) rfl ?_   -- 17
        exact ow_nil (fun w hm => ⟨(j + 1, L1, L2), ⟨by dsimp only; omega, hP1.mono (Nat.le_succ _), hP2.mono (Nat.le_succ _)⟩, by dsimp only; omega, ⟨rfl, rfl, rfl, rfl, rfl, rfl, rfl, rfl⟩, hm⟩)
  · -- no
    refine ow_val ((val_lss_int rfl rfl).to (congrArg Value.bool (decide_eq_false (by omega)))) rfl ?_   -- 51
    refine ow_val (val_move rfl) rfl ?_   -- 52
    refine ow_guard_yes rfl rfl rfl ?_
    refine ow_val (val_move rfl) rfl ?_   -- 53
    refine ow_guard_yes rfl rfl rfl ?_
    refine ow_val (val_move rfl) rfl ?_   -- 54
    refine ow_guard_yes rfl rfl rfl ?_
    refine ow_val (val_len rfl Try.underlying22) rfl ?_   -- 55
    by_cases g2 : j < m.length
    · -- yes
      refine ow_guard_yes rfl rfl rfl ?_
      refine ow_val ((val_lss_int rfl rfl).to (congrArg Value.bool (decide_eq_true (by omega)))) rfl ?_   -- 56
      refine ow_val (val_pick_false rfl rfl) rfl ?_   -- 57
      refine ow_nil (into ?_)
      refine sw_true rfl rfl ?_
      refine sw_skip (into ?_)
      refine sw_seq ?_
      refine sw_block ?_
      refine sw_seq ?_
      refine sw_region ?_
      refine ow_val (val_move rfl) rfl ?_   -- 60
      refine ow_val (val_move rfl) rfl ?_   -- 61
      refine ow_val (val_len rfl Try.underlying22) rfl ?_   -- 62
      by_cases g3 : j < l.length
      · -- yes
        refine ow_val ((val_lss_int rfl rfl).to (congrArg Value.bool (decide_eq_true (by omega)))) rfl ?_   -- 63
        refine ow_val (val_move rfl) rfl ?_   -- 64
        refine ow_guard_yes rfl rfl rfl ?_
        refine ow_val (val_move rfl) rfl ?_   -- 65
        refine ow_guard_yes rfl rfl rfl ?_
        refine ow_val (val_move rfl) rfl ?_   -- 66
        refine ow_guard_yes rfl rfl rfl ?_
        refine ow_val (val_move rfl) rfl ?_   -- 67
        refine ow_guard_yes rfl rfl rfl ?_
        refine ow_val (val_move rfl) rfl ?_   -- 68
        refine ow_guard_yes rfl rfl rfl ?_
        obtain ⟨ba, oa, rfl⟩ := hr.addr (by rw [flatMap_size l (n := 2) (fun _ _ => rfl)]; omega)
        obtain ⟨⟨K1, z1⟩, hd1⟩ : ∃ o, l.getD j default = o := ⟨_, rfl⟩
        refine ow_val (val_indexAddr_slice j (oa + j * 2) rfl rfl Try.underlying22 Try.sizeOf32 (by omega) (by omega) (by omega)) rfl ?_
        refine ow_guard_yes rfl rfl rfl ?_
        refine ow_val ((val_load_elem (cells := (fun o : Int × Int => [vInt o.1, vInt o.2])) (l := l) (o := oa) (i := j) rfl Try.isAgg32 Try.sizeOf32 (fun _ _ => rfl) (by omega) (by omega) (fun w' hm => hr.mem hm)).to (v' := .agg #[vInt K1, vInt z1]) (by rw [hd1])) rfl ?_   -- 70
        refine ow_guard_yes rfl rfl rfl ?_
        refine ow_call_frame (fun _ => .bool true) (fun L => L) (fun L => Pr (.pointer (some ⟨q, 0, none⟩)) (.pointer (some ⟨p, 0, none⟩)) (j + 1) L) L1 L2 (callsTo Try.func11 rfl (by kernel_rfl) rfl) rfl (fun w hm hm2 => one_pr w hP1 (by omega) hm2 K1 z1) ?_
        rintro L1' hP1'
        refine ow_guard_yes rfl rfl rfl ?_
        refine ow_val (val_not rfl) rfl ?_   -- 72
        refine ow_val (val_pick_true rfl rfl) rfl ?_   -- 73
        refine ow_val (val_move rfl) rfl ?_   -- 74
        refine ow_guard_yes rfl rfl rfl ?_
        refine ow_val (val_move rfl) rfl ?_   -- 75
        refine ow_guard_yes rfl rfl rfl ?_
        refine ow_val (val_move rfl) rfl ?_   -- 76
        refine ow_guard_yes rfl rfl rfl ?_
        refine ow_val (val_len rfl Try.underlying22) rfl ?_   -- 77
        by_cases g4 : j < m.length
        · -- yes
          refine ow_guard_yes rfl rfl rfl ?_
          refine ow_val ((val_lss_int rfl rfl).to (congrArg Value.bool (decide_eq_true (by omega)))) rfl ?_   -- 78
          refine ow_guard_yes rfl rfl rfl ?_
          refine ow_val (val_move rfl) rfl ?_   -- 79
          refine ow_guard_yes rfl rfl rfl ?_
          refine ow_val (val_move rfl) rfl ?_   -- 80
          refine ow_guard_yes rfl rfl rfl ?_
          refine ow_val (val_move rfl) rfl ?_   -- 81
          refine ow_guard_yes rfl rfl rfl ?_
          refine ow_val (val_move rfl) rfl ?_   -- 82
          refine ow_guard_yes rfl rfl rfl ?_
          refine ow_val (val_move rfl) rfl ?_   -- 83
          refine ow_guard_yes rfl rfl rfl ?_
          obtain ⟨bb, ob, rfl⟩ := hr2.addr (by rw [flatMap_size m (n := 2) (fun _ _ => rfl)]; omega)
          obtain ⟨⟨K2, z2⟩, hd2⟩ : ∃ o, m.getD j default = o := ⟨_, rfl⟩
          refine ow_val (val_indexAddr_slice j (ob + j * 2) rfl rfl Try.underlying22 Try.sizeOf32 (by omega) (by omega) (by omega)) rfl ?_
          refine ow_guard_yes rfl rfl rfl ?_
          refine ow_val ((val_load_elem (cells := (fun o : Int × Int => [vInt o.1, vInt o.2])) (l := m) (o := ob) (i := j) rfl Try.isAgg32 Try.sizeOf32 (fun _ _ => rfl) (by omega) (by omega) (fun w' hm => hr2.mem hm)).to (v' := .agg #[vInt K2, vInt z2]) (by rw [hd2])) rfl ?_   -- 85
          refine ow_guard_yes rfl rfl rfl ?_
          refine ow_sub (M' := Mem w [] (L2 ++ L1')) (fun w hm => hm.perm List.perm_append_comm) ?_
          refine ow_call_frame (fun _ => .bool true) (fun L => L) (fun L => Pr (.pointer (some ⟨q2, 0, none⟩)) (.pointer (some ⟨p2, 0, none⟩)) (j + 1) L) L2 L1' (callsTo Try.func11 rfl (by kernel_rfl) rfl) rfl (fun w hm hm2 => one_pr w hP2 (by omega) hm2 K2 z2) ?_
          rintro L2' hP2'
          refine ow_sub (M' := Mem w [] (L1' ++ L2')) (fun w hm => hm.perm List.perm_append_comm) ?_
          refine ow_guard_yes rfl rfl rfl ?_
          refine ow_val (val_not rfl) rfl ?_   -- 87
          refine ow_guard_yes rfl rfl rfl ?_
          refine ow_val (val_pick_true rfl rfl) rfl ?_   -- 88
          refine ow_val (val_pick_false rfl rfl) rfl ?_   -- 89
          refine ow_nil (into ?_)
          refine sw_false rfl rfl ?_
          refine sw_skip (into ?_)
          refine sw_region ?_
          refine ow_val (val_move rfl) rfl ?_   -- 58
          refine ow_val (val_add_int ((j + 1 : Nat) : Int) rfl rfl (by omega) (by omega)) rfl ?_   -- 59
          refine ow_val (val_assign rfl) rfl ?_   -- 17
          exact ow_nil (fun w hm => ⟨(j + 1, L1', L2'), ⟨by dsimp only; omega, hP1', hP2'⟩, by dsimp only; omega, ⟨rfl, rfl, rfl, rfl, rfl, rfl, rfl, rfl⟩, hm⟩)
        · -- no
          refine ow_guard_yes rfl rfl rfl ?_
          refine ow_val ((val_lss_int rfl rfl).to (congrArg Value.bool (decide_eq_false (by omega)))) rfl ?_   -- 78
          refine ow_guard_yes rfl rfl rfl ?_
          refine ow_val (val_move rfl) rfl ?_   -- 79
          first | refine ow_guard_no rfl rfl rfl rfl rfl ?_ | refine ow_guard_none rfl rfl rfl rfl rfl ?_
          first | refine ow_guard_no rfl rfl rfl rfl rfl ?_ | refine ow_guard_none rfl rfl rfl rfl rfl ?_
          first | refine ow_guard_no rfl rfl rfl rfl rfl ?_ | refine ow_guard_none rfl rfl rfl rfl rfl ?_
          first | refine ow_guard_no rfl rfl rfl rfl rfl ?_ | refine ow_guard_none rfl rfl rfl rfl rfl ?_
          first | refine ow_guard_no rfl rfl rfl rfl rfl ?_ | refine ow_guard_none rfl rfl rfl rfl rfl ?_
          first | refine ow_guard_no rfl rfl rfl rfl rfl ?_ | refine ow_guard_none rfl rfl rfl rfl rfl ?_
          first | refine ow_guard_no rfl rfl rfl rfl rfl ?_ | refine ow_guard_none rfl rfl rfl rfl rfl ?_
          first | refine ow_guard_no rfl rfl rfl rfl rfl ?_ | refine ow_guard_none rfl rfl rfl rfl rfl ?_
          refine ow_guard_yes rfl rfl rfl ?_
          refine ow_val (val_pick_false rfl rfl) rfl ?_   -- 88
          refine ow_val (val_pick_false rfl rfl) rfl ?_   -- 89
          refine ow_nil (into ?_)
          refine sw_false rfl rfl ?_
          refine sw_skip (into ?_)
          refine sw_region ?_
          refine ow_val (val_move rfl) rfl ?_   -- 58
          refine ow_val (val_add_int ((j + 1 : Nat) : Int) rfl rfl (by omega) (by omega)) rfl ?_   -- 59
          refine ow_val (val_assign rfl) rfl ?_   -- 17
          exact ow_nil (fun w hm => ⟨(j + 1, L1', L2), ⟨by dsimp only; omega, hP1', hP2.mono (Nat.le_succ _)⟩, by dsimp only; omega, ⟨rfl, rfl, rfl, rfl, rfl, rfl, rfl, rfl⟩, hm⟩)
      · -- no
        refine ow_val ((val_lss_int rfl rfl).to (congrArg Value.bool (decide_eq_false (by omega)))) rfl ?_   -- 63
        refine ow_val (val_move rfl) rfl ?_   -- 64
        first | refine ow_guard_no rfl rfl rfl rfl rfl ?_ | refine ow_guard_none rfl rfl rfl rfl rfl ?_
        first | refine ow_guard_no rfl rfl rfl rfl rfl ?_ | refine ow_guard_none rfl rfl rfl rfl rfl ?_
        first | refine ow_guard_no rfl rfl rfl rfl rfl ?_ | refine ow_guard_none rfl rfl rfl rfl rfl ?_
        first | refine ow_guard_no rfl rfl rfl rfl rfl ?_ | refine ow_guard_none rfl rfl rfl rfl rfl ?_
        first | refine ow_guard_no rfl rfl rfl rfl rfl ?_ | refine ow_guard_none rfl rfl rfl rfl rfl ?_
        first | refine ow_guard_no rfl rfl rfl rfl rfl ?_ | refine ow_guard_none rfl rfl rfl rfl rfl ?_
        first | refine ow_guard_no rfl rfl rfl rfl rfl ?_ | refine ow_guard_none rfl rfl rfl rfl rfl ?_
        first | refine ow_guard_no rfl rfl rfl rfl rfl ?_ | refine ow_guard_none rfl rfl rfl rfl rfl ?_
        refine ow_val (val_pick_false rfl rfl) rfl ?_   -- 73
        refine ow_val (val_move rfl) rfl ?_   -- 74
        refine ow_guard_yes rfl rfl rfl ?_
        refine ow_val (val_move rfl) rfl ?_   -- 75
        refine ow_guard_yes rfl rfl rfl ?_
        refine ow_val (val_move rfl) rfl ?_   -- 76
        refine ow_guard_yes rfl rfl rfl ?_
        refine ow_val (val_len rfl Try.underlying22) rfl ?_   -- 77
        by_cases g4 : j < m.length
        · -- yes
          refine ow_guard_yes rfl rfl rfl ?_
          refine ow_val ((val_lss_int rfl rfl).to (congrArg Value.bool (decide_eq_true (by omega)))) rfl ?_   -- 78
          refine ow_guard_yes rfl rfl rfl ?_
          refine ow_val (val_move rfl) rfl ?_   -- 79
          refine ow_guard_yes rfl rfl rfl ?_
          refine ow_val (val_move rfl) rfl ?_   -- 80
          refine ow_guard_yes rfl rfl rfl ?_
          refine ow_val (val_move rfl) rfl ?_   -- 81
          refine ow_guard_yes rfl rfl rfl ?_
          refine ow_val (val_move rfl) rfl ?_   -- 82
          refine ow_guard_yes rfl rfl rfl ?_
          refine ow_val (val_move rfl) rfl ?_   -- 83
          refine ow_guard_yes rfl rfl rfl ?_
          obtain ⟨bb, ob, rfl⟩ := hr2.addr (by rw [flatMap_size m (n := 2) (fun _ _ => rfl)]; omega)
          obtain ⟨⟨K2, z2⟩, hd2⟩ : ∃ o, m.getD j default = o := ⟨_, rfl⟩
          refine ow_val (val_indexAddr_slice j (ob + j * 2) rfl rfl Try.underlying22 Try.sizeOf32 (by omega) (by omega) (by omega)) rfl ?_
          refine ow_guard_yes rfl rfl rfl ?_
          refine ow_val ((val_load_elem (cells := (fun o : Int × Int => [vInt o.1, vInt o.2])) (l := m) (o := ob) (i := j) rfl Try.isAgg32 Try.sizeOf32 (fun _ _ => rfl) (by omega) (by omega) (fun w' hm => hr2.mem hm)).to (v' := .agg #[vInt K2, vInt z2]) (by rw [hd2])) rfl ?_   -- 85
          refine ow_guard_yes rfl rfl rfl ?_
          refine ow_sub (M' := Mem w [] (L2 ++ L1)) (fun w hm => hm.perm List.perm_append_comm) ?_
          refine ow_call_frame (fun _ => .bool true) (fun L => L) (fun L => Pr (.pointer (some ⟨q2, 0, none⟩)) (.pointer (some ⟨p2, 0, none⟩)) (j + 1) L) L2 L1 (callsTo Try.func11 rfl (by kernel_rfl) rfl) rfl (fun w hm hm2 => one_pr w hP2 (by omega) hm2 K2 z2) ?_
          rintro L2' hP2'
          refine ow_sub (M' := Mem w [] (L1 ++ L2')) (fun w hm => hm.perm List.perm_append_comm) ?_
          refine ow_guard_yes rfl rfl rfl ?_
          refine ow_val (val_not rfl) rfl ?_   -- 87
          refine ow_guard_yes rfl rfl rfl ?_
          refine ow_val (val_pick_true rfl rfl) rfl ?_   -- 88
          refine ow_val (val_pick_false rfl rfl) rfl ?_   -- 89
          refine ow_nil (into ?_)
          refine sw_false rfl rfl ?_
          refine sw_skip (into ?_)
          refine sw_region ?_
          refine ow_val (val_move rfl) rfl ?_   -- 58
          refine ow_val (val_add_int ((j + 1 : Nat) : Int) rfl rfl (by omega) (by omega)) rfl ?_   -- 59
          refine ow_val (val_assign rfl) rfl ?_   -- 17
          exact ow_nil (fun w hm => ⟨(j + 1, L1, L2'), ⟨by dsimp only; omega, hP1.mono (Nat.le_succ _), hP2'⟩, by dsimp only; omega, ⟨rfl, rfl, rfl, rfl, rfl, rfl, rfl, rfl⟩, hm⟩)
        · -- no
          refine ow_guard_yes rfl rfl rfl ?_
          refine ow_val ((val_lss_int rfl rfl).to (congrArg Value.bool (decide_eq_false (by omega)))) rfl ?_   -- 78
          refine ow_guard_yes rfl rfl rfl ?_
          refine ow_val (val_move rfl) rfl ?_   -- 79
          first | refine ow_guard_no rfl rfl rfl rfl rfl ?_ | refine ow_guard_none rfl rfl rfl rfl rfl ?_
          first | refine ow_guard_no rfl rfl rfl rfl rfl ?_ | refine ow_guard_none rfl rfl rfl rfl rfl ?_
          first | refine ow_guard_no rfl rfl rfl rfl rfl ?_ | refine ow_guard_none rfl rfl rfl rfl rfl ?_
          first | refine ow_guard_no rfl rfl rfl rfl rfl ?_ | refine ow_guard_none rfl rfl rfl rfl rfl ?_
          first | refine ow_guard_no rfl rfl rfl rfl rfl ?_ | refine ow_guard_none rfl rfl rfl rfl rfl ?_
          first | refine ow_guard_no rfl rfl rfl rfl rfl ?_ | refine ow_guard_none rfl rfl rfl rfl rfl ?_
          first | refine ow_guard_no rfl rfl rfl rfl rfl ?_ | refine ow_guard_none rfl rfl rfl rfl rfl ?_
          first | refine ow_guard_no rfl rfl rfl rfl rfl ?_ | refine ow_guard_none rfl rfl rfl rfl rfl ?_
          refine ow_guard_yes rfl rfl rfl ?_
          refine ow_val (val_pick_false rfl rfl) rfl ?_   -- 88
          refine ow_val (val_pick_false rfl rfl) rfl ?_   -- 89
          refine ow_nil (into ?_)
          refine sw_false rfl rfl ?_
          refine sw_skip (into ?_)
          refine sw_region ?_
          refine ow_val (val_move rfl) rfl ?_   -- 58
          refine ow_val (val_add_int ((j + 1 : Nat) : Int) rfl rfl (by omega) (by omega)) rfl ?_   -- 59
          refine ow_val (val_assign rfl) rfl ?_   -- 17
          exact ow_nil (fun w hm => ⟨(j + 1, L1, L2), ⟨by dsimp only; omega, hP1.mono (Nat.le_succ _), hP2.mono (Nat.le_succ _)⟩, by dsimp only; omega, ⟨rfl, rfl, rfl, rfl, rfl, rfl, rfl, rfl⟩, hm⟩)
    · -- no
      refine ow_guard_yes rfl rfl rfl ?_
      refine ow_val ((val_lss_int rfl rfl).to (congrArg Value.bool (decide_eq_false (by omega)))) rfl ?_   -- 56
      refine ow_val (val_pick_false rfl rfl) rfl ?_   -- 57
      refine ow_nil (into ?_)
      refine sw_false rfl rfl ?_
      refine sw_exit (into ?_)
      refine sw_seq ?_
      refine sw_region ?_
      refine ow_val (val_assign rfl) rfl ?_   -- 8
      refine ow_nil (into ?_)
      refine sw_ret (fun w hm => ?_)
      try dsimp only [thenP, blockP, Nat.beq, cond]
      exact ret_one _ rfl rfl ⟨rfl, hm.forgetAll⟩

theorem two_yn (pa pb : Int) (w : World) (a : Option Addr) (c : Nat) (l : List (Int × Int)) (hr : Rd w a (l.flatMap (fun o : Int × Int => [vInt o.1, vInt o.2]))) (hc : l.length ≤ c) (hb : l.length * 16 ≤ 140737488351232) (a2 : Option Addr) (c2 : Nat) (m : List (Int × Int)) (hr2 : Rd w a2 (m.flatMap (fun o : Int × Int => [vInt o.1, vInt o.2]))) (hc2 : m.length ≤ c2) (hb2 : m.length * 16 ≤ 140737488351232) (hwa : 1 ≤ pa ∧ pa ≤ 64) (hwb : ¬ (1 ≤ pb ∧ pb ≤ 64)) : Calls Try.prog 4 #[vInt pa, vInt pb, .slice a l.length c, .slice a2 m.length c2] w fun e w' => ∃ v, e = .returned v ∧ v = .bool true ∧ Mem w [] [] w' := by
  refine calls_of_sw (vs := [vInt pa, vInt pb, .slice a l.length c, .slice a2 m.length c2]) Try.func4 rfl Try.ntmps4 rfl (SW.begin ?_)
  refine sw_seq ?_
  refine sw_region ?_
  refine ow_val (val_assign rfl) rfl ?_   -- 8
  refine ow_nil (into ?_)
  refine sw_seq ?_
  refine sw_seq ?_
  refine sw_region ?_
  refine ow_call_pure (v := .bool true) (callsTo Try.func8 rfl (by kernel_rfl) rfl) rfl (fun w hm => awake_any w) ?_   -- 18
  refine ow_val (val_not rfl) rfl ?_   -- 19
  refine ow_nil (into ?_)
  refine sw_false rfl rfl ?_
  refine sw_skip (into ?_)
  refine sw_seq ?_
  refine sw_region ?_
  refine ow_val (val_move rfl) rfl ?_   -- 21
  refine ow_call_blk (fun b => .tuple #[.pointer (some ⟨b, 0, none⟩), vInt 0]) (callsTo Try.func9 rfl (by kernel_rfl) rfl) rfl (fun w hm => iNew_yes w pa hwa) (fun q hq => ?_)
  refine ow_val (val_move rfl) rfl ?_   -- 20
  refine ow_val (val_extract rfl rfl) rfl ?_   -- 23
  refine ow_val (val_extract rfl rfl) rfl ?_   -- 24
  refine ow_val (val_assign rfl) rfl ?_   -- 9
  refine ow_val (val_assign rfl) rfl ?_   -- 10
  refine ow_nil (into ?_)
  refine sw_seq ?_
  refine sw_region ?_
  refine ow_val (val_move rfl) rfl ?_   -- 26
  refine ow_call_pure (v := .tuple #[.pointer none, vInt 1]) (callsTo Try.func9 rfl (by kernel_rfl) rfl) rfl (fun w hm => iNew_no w pb hwb) ?_
  refine ow_val (val_move rfl) rfl ?_   -- 25
  refine ow_val (val_extract rfl rfl) rfl ?_   -- 28
  refine ow_val (val_extract rfl rfl) rfl ?_   -- 29
  refine ow_val (val_assign rfl) rfl ?_   -- 11
  refine ow_val (val_assign rfl) rfl ?_   -- 12
  refine ow_nil (into ?_)
  refine sw_seq ?_
  refine sw_region ?_
  refine ow_val (val_move rfl) rfl ?_   -- 31
  refine ow_call_blk (fun b => .tuple #[.pointer (some ⟨b, 0, none⟩), vInt 0]) (callsTo Try.func10 rfl (by kernel_rfl) rfl) rfl (fun w hm => rNew_yes w pa hwa) (fun p hp => ?_)
  refine ow_val (val_move rfl) rfl ?_   -- 30
  refine ow_val (val_extract rfl rfl) rfl ?_   -- 33
  refine ow_val (val_extract rfl rfl) rfl ?_   -- 34
  refine ow_val (val_assign rfl) rfl ?_   -- 13
  refine ow_val (val_assign rfl) rfl ?_   -- 14
  refine ow_nil (into ?_)
  refine sw_seq ?_
  refine sw_region ?_
  refine ow_val (val_move rfl) rfl ?_   -- 36
  refine ow_call_pure (v := .tuple #[.pointer none, vInt 1]) (callsTo Try.func10 rfl (by kernel_rfl) rfl) rfl (fun w hm => rNew_no w pb hwb) ?_
  refine ow_val (val_move rfl) rfl ?_   -- 35
  refine ow_val (val_extract rfl rfl) rfl ?_   -- 38
  refine ow_val (val_extract rfl rfl) rfl ?_   -- 39
  refine ow_val (val_assign rfl) rfl ?_   -- 15
  refine ow_val (val_assign rfl) rfl ?_   -- 16
  refine ow_nil (into ?_)
  refine sw_seq ?_
  refine sw_seq ?_
  refine sw_region ?_
  refine ow_val (val_move rfl) rfl ?_   -- 40
  refine ow_val (val_move rfl) rfl ?_   -- 41
  refine ow_val ((val_neq_int rfl rfl).to (v' := .bool false) (congrArg Value.bool (decide_eq_false (fun h => h rfl)))) rfl ?_   -- 42
  refine ow_val (val_move rfl) rfl ?_   -- 43
  refine ow_guard_yes rfl rfl rfl ?_
  refine ow_val (val_move rfl) rfl ?_   -- 44
  refine ow_guard_yes rfl rfl rfl ?_
  refine ow_val (val_move rfl) rfl ?_   -- 45
  refine ow_guard_yes rfl rfl rfl ?_
  refine ow_val ((val_neq_int rfl rfl).to (v' := .bool false) (congrArg Value.bool (decide_eq_false (fun h => h rfl)))) rfl ?_   -- 46
  refine ow_val (val_pick_false rfl rfl) rfl ?_   -- 47
  refine ow_nil (into ?_)
  refine sw_false rfl rfl ?_
  refine sw_skip (into ?_)
  refine sw_seq ?_
  refine sw_seq ?_
  refine sw_region ?_
  refine ow_val (val_assign rfl) rfl ?_   -- 17
  refine ow_nil (into ?_)
  refine sw_block ?_
  refine sw_loop (σ := Nat × List Ent × List Ent) (fun t => t.1 ≤ l.length + m.length ∧ Pr (.pointer (some ⟨q, 0, none⟩)) (.pointer (some ⟨p, 0, none⟩)) t.1 t.2.1 ∧ Pr (.pointer none) (.pointer none) t.1 t.2.2) (fun t => [(17, vInt (t.1 : Int)), (2, .slice a l.length c), (3, .slice a2 m.length c2), (9, .pointer (some ⟨q, 0, none⟩)), (13, .pointer (some ⟨p, 0, none⟩)), (11, .pointer none), (15, .pointer none)]) (fun t => Mem w [] (t.2.1 ++ t.2.2)) (fun t => l.length + m.length - t.1) (0, (qMem q p pa false [] (none, 0, none) (none, 0, none)), ([] : List Ent)) ⟨Nat.zero_le _, Pr.start q p pa hwa, .inl ⟨rfl, rfl, rfl⟩⟩ ⟨rfl, rfl, rfl, rfl, rfl, rfl, rfl, rfl⟩ (fun w hm => mem2 hm) ?_
  rintro ⟨j, L1, L2⟩ ⟨hj, hP1, hP2⟩
  simp only at hj hP1 hP2 ⊢
  refine sw_seq ?_
  refine sw_seq ?_
  refine sw_region ?_
  refine ow_val (val_move rfl) rfl ?_   -- 48
  refine ow_val (val_move rfl) rfl ?_   -- 49
  refine ow_val (val_len rfl Try.underlying22) rfl ?_   -- 50
  by_cases g1 : j < l.length
  · -- yes
    refine ow_val ((val_lss_int rfl rfl).to (congrArg Value.bool (decide_eq_true (by omega)))) rfl ?_   -- 51
    refine ow_val (val_move rfl) rfl ?_   -- 52
    first | refine ow_guard_no rfl rfl rfl rfl rfl ?_ | refine ow_guard_none rfl rfl rfl rfl rfl ?_
    first | refine ow_guard_no rfl rfl rfl rfl rfl ?_ | refine ow_guard_none rfl rfl rfl rfl rfl ?_
    first | refine ow_guard_no rfl rfl rfl rfl rfl ?_ | refine ow_guard_none rfl rfl rfl rfl rfl ?_
    first | refine ow_guard_no rfl rfl rfl rfl rfl ?_ | refine ow_guard_none rfl rfl rfl rfl rfl ?_
    refine ow_val (val_pick_true rfl rfl) rfl ?_   -- 57
    refine ow_nil (into ?_)
    refine sw_true rfl rfl ?_
    refine sw_skip (into ?_)
    refine sw_seq ?_
    refine sw_block ?_
    refine sw_seq ?_
    refine sw_region ?_
    refine ow_val (val_move rfl) rfl ?_   -- 60
    refine ow_val (val_move rfl) rfl ?_   -- 61
    refine ow_val (val_len rfl Try.underlying22) rfl ?_   -- 62
    by_cases g3 : j < l.length
    · -- yes
      refine ow_val ((val_lss_int rfl rfl).to (congrArg Value.bool (decide_eq_true (by omega)))) rfl ?_   -- 63
      refine ow_val (val_move rfl) rfl ?_   -- 64
      refine ow_guard_yes rfl rfl rfl ?_
      refine ow_val (val_move rfl) rfl ?_   -- 65
      refine ow_guard_yes rfl rfl rfl ?_
      refine ow_val (val_move rfl) rfl ?_   -- 66
      refine ow_guard_yes rfl rfl rfl ?_
      refine ow_val (val_move rfl) rfl ?_   -- 67
      refine ow_guard_yes rfl rfl rfl ?_
      refine ow_val (val_move rfl) rfl ?_   -- 68
      refine ow_guard_yes rfl rfl rfl ?_
      obtain ⟨ba, oa, rfl⟩ := hr.addr (by rw [flatMap_size l (n := 2) (fun _ _ => rfl)]; omega)
      obtain ⟨⟨K1, z1⟩, hd1⟩ : ∃ o, l.getD j default = o := ⟨_, rfl⟩
      refine ow_val (val_indexAddr_slice j (oa + j * 2) rfl rfl Try.underlying22 Try.sizeOf32 (by omega) (by omega) (by omega)) rfl ?_
      refine ow_guard_yes rfl rfl rfl ?_
      refine ow_val ((val_load_elem (cells := (fun o : Int × Int => [vInt o.1, vInt o.2])) (l := l) (o := oa) (i := j) rfl Try.isAgg32 Try.sizeOf32 (fun _ _ => rfl) (by omega) (by omega) (fun w' hm => hr.mem hm)).to (v' := .agg #[vInt K1, vInt z1]) (by rw [hd1])) rfl ?_   -- 70
      refine ow_guard_yes rfl rfl rfl ?_
      refine ow_call_frame (fun _ => .bool true) (fun L => L) (fun L => Pr (.pointer (some ⟨q, 0, none⟩)) (.pointer (some ⟨p, 0, none⟩)) (j + 1) L) L1 L2 (callsTo Try.func11 rfl (by kernel_rfl) rfl) rfl (fun w hm hm2 => one_pr w hP1 (by omega) hm2 K1 z1) ?_
      rintro L1' hP1'
      refine ow_guard_yes rfl rfl rfl ?_
      refine ow_val (val_not rfl) rfl ?_   -- 72
      refine ow_val (val_pick_true rfl rfl) rfl ?_   -- 73
      refine ow_val (val_move rfl) rfl ?_   -- 74
      refine ow_guard_yes rfl rfl rfl ?_
      refine ow_val (val_move rfl) rfl ?_   -- 75
      refine ow_guard_yes rfl rfl rfl ?_
      refine ow_val (val_move rfl) rfl ?_   -- 76
      refine ow_guard_yes rfl rfl rfl ?_
      refine ow_val (val_len rfl Try.underlying22) rfl ?_   -- 77
      by_cases g4 : j < m.length
      · -- yes
        refine ow_guard_yes rfl rfl rfl ?_
        refine ow_val ((val_lss_int rfl rfl).to (congrArg Value.bool (decide_eq_true (by omega)))) rfl ?_   -- 78
        refine ow_guard_yes rfl rfl rfl ?_
        refine ow_val (val_move rfl) rfl ?_   -- 79
        refine ow_guard_yes rfl rfl rfl ?_
        refine ow_val (val_move rfl) rfl ?_   -- 80
        refine ow_guard_yes rfl rfl rfl ?_
        refine ow_val (val_move rfl) rfl ?_   -- 81
        refine ow_guard_yes rfl rfl rfl ?_
        refine ow_val (val_move rfl) rfl ?_   -- 82
        refine ow_guard_yes rfl rfl rfl ?_
        refine ow_val (val_move rfl) rfl ?_   -- 83
        refine ow_guard_yes rfl rfl rfl ?_
        obtain ⟨bb, ob, rfl⟩ := hr2.addr (by rw [flatMap_size m (n := 2) (fun _ _ => rfl)]; omega)
        obtain ⟨⟨K2, z2⟩, hd2⟩ : ∃ o, m.getD j default = o := ⟨_, rfl⟩
        refine ow_val (val_indexAddr_slice j (ob + j * 2) rfl rfl Try.underlying22 Try.sizeOf32 (by omega) (by omega) (by omega)) rfl ?_
        refine ow_guard_yes rfl rfl rfl ?_
        refine ow_val ((val_load_elem (cells := (fun o : Int × Int => [vInt o.1, vInt o.2])) (l := m) (o := ob) (i := j) rfl Try.isAgg32 Try.sizeOf32 (fun _ _ => rfl) (by omega) (by omega) (fun w' hm => hr2.mem hm)).to (v' := .agg #[vInt K2, vInt z2]) (by rw [hd2])) rfl ?_   -- 85
        refine ow_guard_yes rfl rfl rfl ?_
        refine ow_sub (M' := Mem w [] (L2 ++ L1')) (fun w hm => hm.perm List.perm_append_comm) ?_
        refine ow_call_frame (fun _ => .bool true) (fun L => L) (fun L => Pr (.pointer none) (.pointer none) (j + 1) L) L2 L1' (callsTo Try.func11 rfl (by kernel_rfl) rfl) rfl (fun w hm hm2 => one_pr w hP2 (by omega) hm2 K2 z2) ?_
        rintro L2' hP2'
        refine ow_sub (M' := Mem w [] (L1' ++ L2')) (fun w hm => hm.perm List.perm_append_comm) ?_
        refine ow_guard_yes rfl rfl rfl ?_
        refine ow_val (val_not rfl) rfl ?_   -- 87
        refine ow_guard_yes rfl rfl rfl ?_
        refine ow_val (val_pick_true rfl rfl) rfl ?_   -- 88
        refine ow_val (val_pick_false rfl rfl) rfl ?_   -- 89
        refine ow_nil (into ?_)
        refine sw_false rfl rfl ?_
        refine sw_skip (into ?_)
        refine sw_region ?_
        refine ow_val (val_move rfl) rfl ?_   -- 58
        refine ow_val (val_add_int ((j + 1 : Nat) : Int) rfl rfl (by omega) (by omega)) rfl ?_   -- 59
        refine ow_val (val_assign rfl) rfl ?_   -- 17
        exact ow_nil (fun w hm => ⟨(j + 1, L1', L2'), ⟨by dsimp only; omega, hP1', hP2'⟩, by dsimp only; omega, ⟨rfl, rfl, rfl, rfl, rfl, rfl, rfl, rfl⟩, hm⟩)
      · -- no
        refine ow_guard_yes rfl rfl rfl ?_
        refine ow_val ((val_lss_int rfl rfl).to (congrArg Value.bool (decide_eq_false (by omega)))) rfl ?_   -- 78
        refine ow_guard_yes rfl rfl rfl ?_
        refine ow_val (val_move rfl) rfl ?_   -- 79
        first | refine ow_guard_no rfl rfl rfl rfl rfl ?_ | refine ow_guard_none rfl rfl rfl rfl rfl ?_
        first | refine ow_guard_no rfl rfl rfl rfl rfl ?_ | refine ow_guard_none rfl rfl rfl rfl rfl ?_
        first | refine ow_guard_no rfl rfl rfl rfl rfl ?_ | refine ow_guard_none rfl rfl rfl rfl rfl ?_
        first | refine ow_guard_no rfl rfl rfl rfl rfl ?_ | refine ow_guard_none rfl rfl rfl rfl rfl ?_
        first | refine ow_guard_no rfl rfl rfl rfl rfl ?_ | refine ow_guard_none rfl rfl rfl rfl rfl ?_
        first | refine ow_guard_no rfl rfl rfl rfl rfl ?_ | refine ow_guard_none rfl rfl rfl rfl rfl ?_
        first | refine ow_guard_no rfl rfl rfl rfl rfl ?_ | refine ow_guard_none rfl rfl rfl rfl rfl ?_
        first | refine ow_guard_no rfl rfl rfl rfl rfl ?_ | refine ow_guard_none rfl rfl rfl rfl rfl ?_
        refine ow_guard_yes rfl rfl rfl ?_
        refine ow_val (val_pick_false rfl rfl) rfl ?_   -- 88
        refine ow_val (val_pick_false rfl rfl) rfl ?_   -- 89
        refine ow_nil (into ?_)
        refine sw_false rfl rfl ?_
        refine sw_skip (into ?_)
        refine sw_region ?_
        refine ow_val (val_move rfl) rfl ?_   -- 58
        refine ow_val (val_add_int ((j + 1 : Nat) : Int) rfl rfl (by omega) (by omega)) rfl ?_   -- 59
        refine ow_val (val_assign rfl) rfl ?_   -- 17
        exact ow_nil (fun w hm => ⟨(j + 1, L1', L2), ⟨by dsimp only; omega, hP1', hP2.mono (Nat.le_succ _)⟩, by dsimp only; omega, ⟨rfl, rfl, rfl, rfl, rfl, rfl, rfl, rfl⟩, hm⟩)
    · -- no
      refine ow_val ((val_lss_int rfl rfl).to (congrArg Value.bool (decide_eq_false (by omega)))) rfl ?_   -- 63
      refine ow_val (val_move rfl) rfl ?_   -- 64
      first | refine ow_guard_no rfl rfl rfl rfl rfl ?_ | refine ow_guard_none rfl rfl rfl rfl rfl ?_
      first | refine ow_guard_no rfl rfl rfl rfl rfl ?_ | refine ow_guard_none rfl rfl rfl rfl rfl ?_
      first | refine ow_guard_no rfl rfl rfl rfl rfl ?_ | refine ow_guard_none rfl rfl rfl rfl rfl ?_
      first | refine ow_guard_no rfl rfl rfl rfl rfl ?_ | refine ow_guard_none rfl rfl rfl rfl rfl ?_
      first | refine ow_guard_no rfl rfl rfl rfl rfl ?_ | refine ow_guard_none rfl rfl rfl rfl rfl ?_
      first | refine ow_guard_no rfl rfl rfl rfl rfl ?_ | refine ow_guard_none rfl rfl rfl rfl rfl ?_
      first | refine ow_guard_no rfl rfl rfl rfl rfl ?_ | refine ow_guard_none rfl rfl rfl rfl rfl ?_
      first | refine ow_guard_no rfl rfl rfl rfl rfl ?_ | refine ow_guard_none rfl rfl rfl rfl rfl ?_
      refine ow_val (val_pick_false rfl rfl) rfl ?_   -- 73
      refine ow_val (val_move rfl) rfl ?_   -- 74
      refine ow_guard_yes rfl rfl rfl ?_
      refine ow_val (val_move rfl) rfl ?_   -- 75
      refine ow_guard_yes rfl rfl rfl ?_
      refine ow_val (val_move rfl) rfl ?_   -- 76
      refine ow_guard_yes rfl rfl rfl ?_
      refine ow_val (val_len rfl Try.underlying22) rfl ?_   -- 77
      by_cases g4 : j < m.length
      · -- yes
        refine ow_guard_yes rfl rfl rfl ?_
        refine ow_val ((val_lss_int rfl rfl).to (congrArg Value.bool (decide_eq_true (by omega)))) rfl ?_   -- 78
        refine ow_guard_yes rfl rfl rfl ?_
        refine ow_val (val_move rfl) rfl ?_   -- 79
        refine ow_guard_yes rfl rfl rfl ?_
        refine ow_val (val_move rfl) rfl ?_   -- 80
        refine ow_guard_yes rfl rfl rfl ?_
        refine ow_val (val_move rfl) rfl ?_   -- 81
        refine ow_guard_yes rfl rfl rfl ?_
        refine ow_val (val_move rfl) rfl ?_   -- 82
        refine ow_guard_yes rfl rfl rfl ?_
        refine ow_val (val_move rfl) rfl ?_   -- 83
        refine ow_guard_yes rfl rfl rfl ?_
        obtain ⟨bb, ob, rfl⟩ := hr2.addr (by rw [flatMap_size m (n := 2) (fun _ _ => rfl)]; omega)
        obtain ⟨⟨K2, z2⟩, hd2⟩ : ∃ o, m.getD j default = o := ⟨_, rfl⟩
        refine ow_val (val_indexAddr_slice j (ob + j * 2) rfl rfl Try.underlying22 Try.sizeOf32 (by omega) (by omega) (by omega)) rfl ?_
        refine ow_guard_yes rfl rfl rfl ?_
        refine ow_val ((val_load_elem (cells := (fun o : Int × Int => [vInt o.1, vInt o.2])) (l := m) (o := ob) (i := j) rfl Try.isAgg32 Try.sizeOf32 (fun _ _ => rfl) (by omega) (by omega) (fun w' hm => hr2.mem hm)).to (v' := .agg #[vInt K2, vInt z2]) (by rw [hd2])) rfl ?_   -- 85
        refine ow_guard_yes rfl rfl rfl ?_
        refine ow_sub (M' := Mem w [] (L2 ++ L1)) (fun w hm => hm.perm List.perm_append_comm) ?_
        refine ow_call_frame (fun _ => .bool true) (fun L => L) (fun L => Pr (.pointer none) (.pointer none) (j + 1) L) L2 L1 (callsTo Try.func11 rfl (by kernel_rfl) rfl) rfl (fun w hm hm2 => one_pr w hP2 (by omega) hm2 K2 z2) ?_
        rintro L2' hP2'
        refine ow_sub (M' := Mem w [] (L1 ++ L2')) (fun w hm => hm.perm List.perm_append_comm) ?_
        refine ow_guard_yes rfl rfl rfl ?_
        refine ow_val (val_not rfl) rfl ?_   -- 87
        refine ow_guard_yes rfl rfl rfl ?_
        refine ow_val (val_pick_true rfl rfl) rfl ?_   -- 88
        refine ow_val (val_pick_false rfl rfl) rfl ?_   -- 89
        refine ow_nil (into ?_)
        refine sw_false rfl rfl ?_
        refine sw_skip (into ?_)
        refine sw_region ?_
        refine ow_val (val_move rfl) rfl ?_   -- 58
        refine ow_val (val_add_int ((j + 1 : Nat) : Int) rfl rfl (by omega) (by omega)) rfl ?_   -- 59
        refine ow_val (val_assign rfl) rfl ?_   -- 17
        exact ow_nil (fun w hm => ⟨(j + 1, L1, L2'), ⟨by dsimp only; omega, hP1.mono (Nat.le_succ _), hP2'⟩, by dsimp only; omega, ⟨rfl, rfl, rfl, rfl, rfl, rfl, rfl, rfl⟩, hm⟩)
      · -- no
        refine ow_guard_yes rfl rfl rfl ?_
        refine ow_val ((val_lss_int rfl rfl).to (congrArg Value.bool (decide_eq_false (by omega)))) rfl ?_   -- 78
        refine ow_guard_yes rfl rfl rfl ?_
        refine ow_val (val_move rfl) rfl ?_   -- 79
        first | refine ow_guard_no rfl rfl rfl rfl rfl ?_ | refine ow_guard_none rfl rfl rfl rfl rfl ?_
        first | refine ow_guard_no rfl rfl rfl rfl rfl ?_ | refine ow_guard_none rfl rfl rfl rfl rfl ?_
        first | refine ow_guard_no rfl rfl rfl rfl rfl ?_ | refine ow_guard_none rfl rfl rfl rfl rfl ?_
        first | refine ow_guard_no rfl rfl rfl rfl rfl ?_ | refine ow_guard_none rfl rfl rfl rfl rfl ?_
        first | refine ow_guard_no rfl rfl rfl rfl rfl ?_ | refine ow_guard_none rfl rfl rfl rfl rfl ?_
        first | refine ow_guard_no rfl rfl rfl rfl rfl ?_ | refine ow_guard_none rfl rfl rfl rfl rfl ?_
        first | refine ow_guard_no rfl rfl rfl rfl rfl ?_ | refine ow_guard_none rfl rfl rfl rfl rfl ?_
        first | refine ow_guard_no rfl rfl rfl rfl rfl ?_ | refine ow_guard_none rfl rfl rfl rfl rfl ?_
        refine ow_guard_yes rfl rfl rfl ?_
        refine ow_val (val_pick_false rfl rfl) rfl ?_   -- 88
        refine ow_val (val_pick_false rfl rfl) rfl ?_   -- 89
        refine ow_nil (into ?_)
        refine sw_false rfl rfl ?_
        refine sw_skip (into ?_)
        refine sw_region ?_
        refine ow_val (val_move rfl) rfl ?_   -- 58
        refine ow_val (val_add_int ((j + 1 : Nat) : Int) rfl rfl (by omega) (by omega)) rfl ?_   -- 59
        refine ow_val (val_assign rfl) rfl ?_   -- 17
        exact ow_nil (fun w hm => ⟨(j + 1, L1, L2), ⟨by dsimp only; omega, hP1.mono (Nat.le_succ _), hP2.mono (Nat.le_succ _)⟩, by dsimp only; omega, ⟨rfl, rfl, rfl, rfl, rfl, rfl, rfl, rfl⟩, hm⟩)
  · -- no
    refine ow_val ((val_lss_int rfl rfl).to (congrArg Value.bool (decide_eq_false (by omega)))) rfl ?_   -- 51
    refine ow_val (val_move rfl) rfl ?_   -- 52
    refine ow_guard_yes rfl rfl rfl ?_
    refine ow_val (val_move rfl) rfl ?_   -- 53
    refine ow_guard_yes rfl rfl rfl ?_
    refine ow_val (val_move rfl) rfl ?_   -- 54
    refine ow_guard_yes rfl rfl rfl ?_
    refine ow_val (val_len rfl Try.underlying22) rfl ?_   -- 55
    by_cases g2 : j < m.length
    · -- yes
      refine ow_guard_yes rfl rfl rfl ?_
      refine ow_val ((val_lss_int rfl rfl).to (congrArg Value.bool (decide_eq_true (by omega)))) rfl ?_   -- 56
      refine ow_val (val_pick_false rfl rfl) rfl ?_   -- 57
      refine ow_nil (into ?_)
      refine sw_true rfl rfl ?_
      refine sw_skip (into ?_)
      refine sw_seq ?_
      refine sw_block ?_
      refine sw_seq ?_
      refine sw_region ?_
      refine ow_val (val_move rfl) rfl ?_   -- 60
      refine ow_val (val_move rfl) rfl ?_   -- 61
      refine ow_val (val_len rfl Try.underlying22) rfl ?_   -- 62
      by_cases g3 : j < l.length
      · -- yes
        refine ow_val ((val_lss_int rfl rfl).to (congrArg Value.bool (decide_eq_true (by omega)))) rfl ?_   -- 63
        refine ow_val (val_move rfl) rfl ?_   -- 64
        refine ow_guard_yes rfl rfl rfl ?_
        refine ow_val (val_move rfl) rfl ?_   -- 65
        refine ow_guard_yes rfl rfl rfl ?_
        refine ow_val (val_move rfl) rfl ?_   -- 66
        refine ow_guard_yes rfl rfl rfl ?_
        refine ow_val (val_move rfl) rfl ?_   -- 67
        refine ow_guard_yes rfl rfl rfl ?_
        refine ow_val (val_move rfl) rfl ?_   -- 68
        refine ow_guard_yes rfl rfl rfl ?_
        obtain ⟨ba, oa, rfl⟩ := hr.addr (by rw [flatMap_size l (n := 2) (fun _ _ => rfl)]; omega)
        obtain ⟨⟨K1, z1⟩, hd1⟩ : ∃ o, l.getD j default = o := ⟨_, rfl⟩
        refine ow_val (val_indexAddr_slice j (oa + j * 2) rfl rfl Try.underlying22 Try.sizeOf32 (by omega) (by omega) (by omega)) rfl ?_
        refine ow_guard_yes rfl rfl rfl ?_
        refine ow_val ((val_load_elem (cells := (fun o : Int × Int => [vInt o.1, vInt o.2])) (l := l) (o := oa) (i := j) rfl Try.isAgg32 Try.sizeOf32 (fun _ _ => rfl) (by omega) (by omega) (fun w' hm => hr.mem hm)).to (v' := .agg #[vInt K1, vInt z1]) (by rw [hd1])) rfl ?_   -- 70
        refine ow_guard_yes rfl rfl rfl ?_
        refine ow_call_frame (fun _ => .bool true) (fun L => L) (fun L => Pr (.pointer (some ⟨q, 0, none⟩)) (.pointer (some ⟨p, 0, none⟩)) (j + 1) L) L1 L2 (callsTo Try.func11 rfl (by kernel_rfl) rfl) rfl (fun w hm hm2 => one_pr w hP1 (by omega) hm2 K1 z1) ?_
        rintro L1' hP1'
        refine ow_guard_yes rfl rfl rfl ?_
        refine ow_val (val_not rfl) rfl ?_   -- 72
        refine ow_val (val_pick_true rfl rfl) rfl ?_   -- 73
        refine ow_val (val_move rfl) rfl ?_   -- 74
        refine ow_guard_yes rfl rfl rfl ?_
        refine ow_val (val_move rfl) rfl ?_   -- 75
        refine ow_guard_yes rfl rfl rfl ?_
        refine ow_val (val_move rfl) rfl ?_   -- 76
        refine ow_guard_yes rfl rfl rfl ?_
        refine ow_val (val_len rfl Try.underlying22) rfl ?_   -- 77
        by_cases g4 : j < m.length
        · -- yes
          refine ow_guard_yes rfl rfl rfl ?_
          refine ow_val ((val_lss_int rfl rfl).to (congrArg Value.bool (decide_eq_true (by omega)))) rfl ?_   -- 78
          refine ow_guard_yes rfl rfl rfl ?_
          refine ow_val (val_move rfl) rfl ?_   -- 79
          refine ow_guard_yes rfl rfl rfl ?_
          refine ow_val (val_move rfl) rfl ?_   -- 80
          refine ow_guard_yes rfl rfl rfl ?_
          refine ow_val (val_move rfl) rfl ?_   -- 81
          refine ow_guard_yes rfl rfl rfl ?_
          refine ow_val (val_move rfl) rfl ?_   -- 82
          refine ow_guard_yes rfl rfl rfl ?_
          refine ow_val (val_move rfl) rfl ?_   -- 83
          refine ow_guard_yes rfl rfl rfl ?_
          obtain ⟨bb, ob, rfl⟩ := hr2.addr (by rw [flatMap_size m (n := 2) (fun _ _ => rfl)]; omega)
          obtain ⟨⟨K2, z2⟩, hd2⟩ : ∃ o, m.getD j default = o := ⟨_, rfl⟩
          refine ow_val (val_indexAddr_slice j (ob + j * 2) rfl rfl Try.underlying22 Try.sizeOf32 (by omega) (by omega) (by omega)) rfl ?_
          refine ow_guard_yes rfl rfl rfl ?_
          refine ow_val ((val_load_elem (cells := (fun o : Int × Int => [vInt o.1, vInt o.2])) (l := m) (o := ob) (i := j) rfl Try.isAgg32 Try.sizeOf32 (fun _ _ => rfl) (by omega) (by omega) (fun w' hm => hr2.mem hm)).to (v' := .agg #[vInt K2, vInt z2]) (by rw [hd2])) rfl ?_   -- 85
          refine ow_guard_yes rfl rfl rfl ?_
          refine ow_sub (M' := Mem w [] (L2 ++ L1')) (fun w hm => hm.perm List.perm_append_comm) ?_
          refine ow_call_frame (fun _ => .bool true) (fun L => L) (fun L => Pr (.pointer none) (.pointer none) (j + 1) L) L2 L1' (callsTo Try.func11 rfl (by kernel_rfl) rfl) rfl (fun w hm hm2 => one_pr w hP2 (by omega) hm2 K2 z2) ?_
          rintro L2' hP2'
          refine ow_sub (M' := Mem w [] (L1' ++ L2')) (fun w hm => hm.perm List.perm_append_comm) ?_
          refine ow_guard_yes rfl rfl rfl ?_
          refine ow_val (val_not rfl) rfl ?_   -- 87
          refine ow_guard_yes rfl rfl rfl ?_
          refine ow_val (val_pick_true rfl rfl) rfl ?_   -- 88
          refine ow_val (val_pick_false rfl rfl) rfl ?_   -- 89
          refine ow_nil (into ?_)
          refine sw_false rfl rfl ?_
          refine sw_skip (into ?_)
          refine sw_region ?_
          refine ow_val (val_move rfl) rfl ?_   -- 58
          refine ow_val (val_add_int ((j + 1 : Nat) : Int) rfl rfl (by omega) (by omega)) rfl ?_   -- 59
          refine ow_val (val_assign rfl) rfl ?_   -- 17
          exact ow_nil (fun w hm => ⟨(j + 1, L1', L2'), ⟨by dsimp only; omega, hP1', hP2'⟩, by dsimp only; omega, ⟨rfl, rfl, rfl, rfl, rfl, rfl, rfl, rfl⟩, hm⟩)
        · -- no
          refine ow_guard_yes rfl rfl rfl ?_
          refine ow_val ((val_lss_int rfl rfl).to (congrArg Value.bool (decide_eq_false (by omega)))) rfl ?_   -- 78
          refine ow_guard_yes rfl rfl rfl ?_
          refine ow_val (val_move rfl) rfl ?_   -- 79
          first | refine ow_guard_no rfl rfl rfl rfl rfl ?_ | refine ow_guard_none rfl rfl rfl rfl rfl ?_
          first | refine ow_guard_no rfl rfl rfl rfl rfl ?_ | refine ow_guard_none rfl rfl rfl rfl rfl ?_
          first | refine ow_guard_no rfl rfl rfl rfl rfl ?_ | refine ow_guard_none rfl rfl rfl rfl rfl ?_
          first | refine ow_guard_no rfl rfl rfl rfl rfl ?_ | refine ow_guard_none rfl rfl rfl rfl rfl ?_
          first | refine ow_guard_no rfl rfl rfl rfl rfl ?_ | refine ow_guard_none rfl rfl rfl rfl rfl ?_
          first | refine ow_guard_no rfl rfl rfl rfl rfl ?_ | refine ow_guard_none rfl rfl rfl rfl rfl ?_
          first | refine ow_guard_no rfl rfl rfl rfl rfl ?_ | refine ow_guard_none rfl rfl rfl rfl rfl ?_
          first | refine ow_guard_no rfl rfl rfl rfl rfl ?_ | refine ow_guard_none rfl rfl rfl rfl rfl ?_
          refine ow_guard_yes rfl rfl rfl ?_
          refine ow_val (val_pick_false rfl rfl) rfl ?_   -- 88
          refine ow_val (val_pick_false rfl rfl) rfl ?_   -- 89
          refine ow_nil (into ?_)
          refine sw_false rfl rfl ?_
          refine sw_skip (into ?_)
          refine sw_region ?_
          refine ow_val (val_move rfl) rfl ?_   -- 58
          refine ow_val (val_add_int ((j + 1 : Nat) : Int) rfl rfl (by omega) (by omega)) rfl ?_   -- 59
          refine ow_val (val_assign rfl) rfl ?_   -- 17
          exact ow_nil (fun w hm => ⟨(j + 1, L1', L2), ⟨by dsimp only; omega, hP1', hP2.mono (Nat.le_succ _)⟩, by dsimp only; omega, ⟨rfl, rfl, rfl, rfl, rfl, rfl, rfl, rfl⟩, hm⟩)
      · -- no
        refine ow_val ((val_lss_int rfl rfl).to (congrArg Value.bool (decide_eq_false (by omega)))) rfl ?_   -- 63
        refine ow_val (val_move rfl) rfl ?_   -- 64
        first | refine ow_guard_no rfl rfl rfl rfl rfl ?_ | refine ow_guard_none rfl rfl rfl rfl rfl ?_
        first | refine ow_guard_no rfl rfl rfl rfl rfl ?_ | refine ow_guard_none rfl rfl rfl rfl rfl ?_
        first | refine ow_guard_no rfl rfl rfl rfl rfl ?_ | refine ow_guard_none rfl rfl rfl rfl rfl ?_
        first | refine ow_guard_no rfl rfl rfl rfl rfl ?_ | refine ow_guard_none rfl rfl rfl rfl rfl ?_
        first | refine ow_guard_no rfl rfl rfl rfl rfl ?_ | refine ow_guard_none rfl rfl rfl rfl rfl ?_
        first | refine ow_guard_no rfl rfl rfl rfl rfl ?_ | refine ow_guard_none rfl rfl rfl rfl rfl ?_
        first | refine ow_guard_no rfl rfl rfl rfl rfl ?_ | refine ow_guard_none rfl rfl rfl rfl rfl ?_
        first | refine ow_guard_no rfl rfl rfl rfl rfl ?_ | refine ow_guard_none rfl rfl rfl rfl rfl ?_
        refine ow_val (val_pick_false rfl rfl) rfl ?_   -- 73
        refine ow_val (val_move rfl) rfl ?_   -- 74
        refine ow_guard_yes rfl rfl rfl ?_
        refine ow_val (val_move rfl) rfl ?_   -- 75
        refine ow_guard_yes rfl rfl rfl ?_
        refine ow_val (val_move rfl) rfl ?_   -- 76
        refine ow_guard_yes rfl rfl rfl ?_
        refine ow_val (val_len rfl Try.underlying22) rfl ?_   -- 77
        by_cases g4 : j < m.length
        · -- yes
          refine ow_guard_yes rfl rfl rfl ?_
          refine ow_val ((val_lss_int rfl rfl).to (congrArg Value.bool (decide_eq_true (by omega)))) rfl ?_   -- 78
          refine ow_guard_yes rfl rfl rfl ?_
          refine ow_val (val_move rfl) rfl ?_   -- 79
          refine ow_guard_yes rfl rfl rfl ?_
          refine ow_val (val_move rfl) rfl ?_   -- 80
          refine ow_guard_yes rfl rfl rfl ?_
          refine ow_val (val_move rfl) rfl ?_   -- 81
          refine ow_guard_yes rfl rfl rfl ?_
          refine ow_val (val_move rfl) rfl ?_   -- 82
          refine ow_guard_yes rfl rfl rfl ?_
          refine ow_val (val_move rfl) rfl ?_   -- 83
          refine ow_guard_yes rfl rfl rfl ?_
          obtain ⟨bb, ob, rfl⟩ := hr2.addr (by rw [flatMap_size m (n := 2) (fun _ _ => rfl)]; omega)
          obtain ⟨⟨K2, z2⟩, hd2⟩ : ∃ o, m.getD j default = o := ⟨_, rfl⟩
          refine ow_val (val_indexAddr_slice j (ob + j * 2) rfl rfl Try.underlying22 Try.sizeOf32 (by omega) (by omega) (by omega)) rfl ?_
          refine ow_guard_yes rfl rfl rfl ?_
          refine ow_val ((val_load_elem (cells := (fun o : Int × Int => [vInt o.1, vInt o.2])) (l := m) (o := ob) (i := j) rfl Try.isAgg32 Try.sizeOf32 (fun _ _ => rfl) (by omega) (by omega) (fun w' hm => hr2.mem hm)).to (v' := .agg #[vInt K2, vInt z2]) (by rw [hd2])) rfl ?_   -- 85
          refine ow_guard_yes rfl rfl rfl ?_
          refine ow_sub (M' := Mem w [] (L2 ++ L1)) (fun w hm => hm.perm List.perm_append_comm) ?_
          refine ow_call_frame (fun _ => .bool true) (fun L => L) (fun L => Pr (.pointer none) (.pointer none) (j + 1) L) L2 L1 (callsTo Try.func11 rfl (by kernel_rfl) rfl) rfl (fun w hm hm2 => one_pr w hP2 (by omega) hm2 K2 z2) ?_
          rintro L2' hP2'
          refine ow_sub (M' := Mem w [] (L1 ++ L2')) (fun w hm => hm.perm List.perm_append_comm) ?_
          refine ow_guard_yes rfl rfl rfl ?_
          refine ow_val (val_not rfl) rfl ?_   -- 87
          refine ow_guard_yes rfl rfl rfl ?_
          refine ow_val (val_pick_true rfl rfl) rfl ?_   -- 88
          refine ow_val (val_pick_false rfl rfl) rfl ?_   -- 89
          refine ow_nil (into ?_)
          refine sw_false rfl rfl ?_
          refine sw_skip (into ?_)
          refine sw_region ?_
          refine ow_val (val_move rfl) rfl ?_   -- 58
          refine ow_val (val_add_int ((j + 1 : Nat) : Int) rfl rfl (by omega) (by omega)) rfl ?_   -- 59
          refine ow_val (val_assign rfl) rfl ?_   -- 17
          exact ow_nil (fun w hm => ⟨(j + 1, L1, L2'), ⟨by dsimp only; omega, hP1.mono (Nat.le_succ _), hP2'⟩, by dsimp only; omega, ⟨rfl, rfl, rfl, rfl, rfl, rfl, rfl, rfl⟩, hm⟩)
        · -- no
          refine ow_guard_yes rfl rfl rfl ?_
          refine ow_val ((val_lss_int rfl rfl).to (congrArg Value.bool (decide_eq_false (by omega)))) rfl ?_   -- 78
          refine ow_guard_yes rfl rfl rfl ?_
          refine ow_val (val_move rfl) rfl ?_   -- 79
          first | refine ow_guard_no rfl rfl rfl rfl rfl ?_ | refine ow_guard_none rfl rfl rfl rfl rfl ?_
          first | refine ow_guard_no rfl rfl rfl rfl rfl ?_ | refine ow_guard_none rfl rfl rfl rfl rfl ?_
          first | refine ow_guard_no rfl rfl rfl rfl rfl ?_ | refine ow_guard_none rfl rfl rfl rfl rfl ?_
          first | refine ow_guard_no rfl rfl rfl rfl rfl ?_ | refine ow_guard_none rfl rfl rfl rfl rfl ?_
          first | refine ow_guard_no rfl rfl rfl rfl rfl ?_ | refine ow_guard_none rfl rfl rfl rfl rfl ?_
          first | refine ow_guard_no rfl rfl rfl rfl rfl ?_ | refine ow_guard_none rfl rfl rfl rfl rfl ?_
          first | refine ow_guard_no rfl rfl rfl rfl rfl ?_ | refine ow_guard_none rfl rfl rfl rfl rfl ?_
          first | refine ow_guard_no rfl rfl rfl rfl rfl ?_ | refine ow_guard_none rfl rfl rfl rfl rfl ?_
          refine ow_guard_yes rfl rfl rfl ?_
          refine ow_val (val_pick_false rfl rfl) rfl ?_   -- 88
          refine ow_val (val_pick_false rfl rfl) rfl ?_   -- 89
          refine ow_nil (into ?_)
          refine sw_false rfl rfl ?_
          refine sw_skip (into ?_)
          refine sw_region ?_
          refine ow_val (val_move rfl) rfl ?_   -- 58
          refine ow_val (val_add_int ((j + 1 : Nat) : Int) rfl rfl (by omega) (by omega)) rfl ?_   -- 59
          refine ow_val (val_assign rfl) rfl ?_   -- 17
          exact ow_nil (fun w hm => ⟨(j + 1, L1, L2), ⟨by dsimp only; omega, hP1.mono (Nat.le_succ _), hP2.mono (Nat.le_succ _)⟩, by dsimp only; omega, ⟨rfl, rfl, rfl, rfl, rfl, rfl, rfl, rfl⟩, hm⟩)
    · -- no
      refine ow_guard_yes rfl rfl rfl ?_
      refine ow_val ((val_lss_int rfl rfl).to (congrArg Value.bool (decide_eq_false (by omega)))) rfl ?_   -- 56
      refine ow_val (val_pick_false rfl rfl) rfl ?_   -- 57
      refine ow_nil (into ?_)
      refine sw_false rfl rfl ?_
      refine sw_exit (into ?_)
      refine sw_seq ?_
      refine sw_region ?_
      refine ow_val (val_assign rfl) rfl ?_   -- 8
      refine ow_nil (into ?_)
      refine sw_ret (fun w hm => ?_)
      try dsimp only [thenP, blockP, Nat.beq, cond]
      exact ret_one _ rfl rfl ⟨rfl, hm.forgetAll⟩

theorem two_ny (pa pb : Int) (w : World) (a : Option Addr) (c : Nat) (l : List (Int × Int)) (hr : Rd w a (l.flatMap (fun o : Int × Int => [vInt o.1, vInt o.2]))) (hc : l.length ≤ c) (hb : l.length * 16 ≤ 140737488351232) (a2 : Option Addr) (c2 : Nat) (m : List (Int × Int)) (hr2 : Rd w a2 (m.flatMap (fun o : Int × Int => [vInt o.1, vInt o.2]))) (hc2 : m.length ≤ c2) (hb2 : m.length * 16 ≤ 140737488351232) (hwa : ¬ (1 ≤ pa ∧ pa ≤ 64)) (hwb : 1 ≤ pb ∧ pb ≤ 64) : Calls Try.prog 4 #[vInt pa, vInt pb, .slice a l.length c, .slice a2 m.length c2] w fun e w' => ∃ v, e = .returned v ∧ v = .bool true ∧ Mem w [] [] w' := by
  refine calls_of_sw (vs := [vInt pa, vInt pb, .slice a l.length c, .slice a2 m.length c2]) Try.func4 rfl Try.ntmps4 rfl (SW.begin ?_)
  refine sw_seq ?_
  refine sw_region ?_
  refine ow_val (val_assign rfl) rfl ?_   -- 8
  refine ow_nil (into ?_)
  refine sw_seq ?_
  refine sw_seq ?_
  refine sw_region ?_
  refine ow_call_pure (v := .bool true) (callsTo Try.func8 rfl (by kernel_rfl) rfl) rfl (fun w hm => awake_any w) ?_   -- 18
  refine ow_val (val_not rfl) rfl ?_   -- 19
  refine ow_nil (into ?_)
  refine sw_false rfl rfl ?_
  refine sw_skip (into ?_)
  refine sw_seq ?_
  refine sw_region ?_
  refine ow_val (val_move rfl) rfl ?_   -- 21
  refine ow_call_pure (v := .tuple #[.pointer none, vInt 1]) (callsTo Try.func9 rfl (by kernel_rfl) rfl) rfl (fun w hm => iNew_no w pa hwa) ?_
  refine ow_val (val_move rfl) rfl ?_   -- 20
  refine ow_val (val_extract rfl rfl) rfl ?_   -- 23
  refine ow_val (val_extract rfl rfl) rfl ?_   -- 24
  refine ow_val (val_assign rfl) rfl ?_   -- 9
  refine ow_val (val_assign rfl) rfl ?_   -- 10
  refine ow_nil (into ?_)
  refine sw_seq ?_
  refine sw_region ?_
  refine ow_val (val_move rfl) rfl ?_   -- 26
  refine ow_call_blk (fun b => .tuple #[.pointer (some ⟨b, 0, none⟩), vInt 0]) (callsTo Try.func9 rfl (by kernel_rfl) rfl) rfl (fun w hm => iNew_yes w pb hwb) (fun q2 hq2 => ?_)
  refine ow_val (val_move rfl) rfl ?_   -- 25
  refine ow_val (val_extract rfl rfl) rfl ?_   -- 28
  refine ow_val (val_extract rfl rfl) rfl ?_   -- 29
  refine ow_val (val_assign rfl) rfl ?_   -- 11
  refine ow_val (val_assign rfl) rfl ?_   -- 12
  refine ow_nil (into ?_)
  refine sw_seq ?_
  refine sw_region ?_
  refine ow_val (val_move rfl) rfl ?_   -- 31
  refine ow_call_pure (v := .tuple #[.pointer none, vInt 1]) (callsTo Try.func10 rfl (by kernel_rfl) rfl) rfl (fun w hm => rNew_no w pa hwa) ?_
  refine ow_val (val_move rfl) rfl ?_   -- 30
  refine ow_val (val_extract rfl rfl) rfl ?_   -- 33
  refine ow_val (val_extract rfl rfl) rfl ?_   -- 34
  refine ow_val (val_assign rfl) rfl ?_   -- 13
  refine ow_val (val_assign rfl) rfl ?_   -- 14
  refine ow_nil (into ?_)
  refine sw_seq ?_
  refine sw_region ?_
  refine ow_val (val_move rfl) rfl ?_   -- 36
  refine ow_call_blk (fun b => .tuple #[.pointer (some ⟨b, 0, none⟩), vInt 0]) (callsTo Try.func10 rfl (by kernel_rfl) rfl) rfl (fun w hm => rNew_yes w pb hwb) (fun p2 hp2 => ?_)
  refine ow_val (val_move rfl) rfl ?_   -- 35
  refine ow_val (val_extract rfl rfl) rfl ?_   -- 38
  refine ow_val (val_extract rfl rfl) rfl ?_   -- 39
  refine ow_val (val_assign rfl) rfl ?_   -- 15
  refine ow_val (val_assign rfl) rfl ?_   -- 16
  refine ow_nil (into ?_)
  refine sw_seq ?_
  refine sw_seq ?_
  refine sw_region ?_
  refine ow_val (val_move rfl) rfl ?_   -- 40
  refine ow_val (val_move rfl) rfl ?_   -- 41
  refine ow_val ((val_neq_int rfl rfl).to (v' := .bool false) (congrArg Value.bool (decide_eq_false (fun h => h rfl)))) rfl ?_   -- 42
  refine ow_val (val_move rfl) rfl ?_   -- 43
  refine ow_guard_yes rfl rfl rfl ?_
  refine ow_val (val_move rfl) rfl ?_   -- 44
  refine ow_guard_yes rfl rfl rfl ?_
  refine ow_val (val_move rfl) rfl ?_   -- 45
  refine ow_guard_yes rfl rfl rfl ?_
  refine ow_val ((val_neq_int rfl rfl).to (v' := .bool false) (congrArg Value.bool (decide_eq_false (fun h => h rfl)))) rfl ?_   -- 46
  refine ow_val (val_pick_false rfl rfl) rfl ?_   -- 47
  refine ow_nil (into ?_)
  refine sw_false rfl rfl ?_
  refine sw_skip (into ?_)
  refine sw_seq ?_
  refine sw_seq ?_
  refine sw_region ?_
  refine ow_val (val_assign rfl) rfl ?_   -- 17
  refine ow_nil (into ?_)
  refine sw_block ?_
  refine sw_loop (σ := Nat × List Ent × List Ent) (fun t => t.1 ≤ l.length + m.length ∧ Pr (.pointer none) (.pointer none) t.1 t.2.1 ∧ Pr (.pointer (some ⟨q2, 0, none⟩)) (.pointer (some ⟨p2, 0, none⟩)) t.1 t.2.2) (fun t => [(17, vInt (t.1 : Int)), (2, .slice a l.length c), (3, .slice a2 m.length c2), (9, .pointer none), (13, .pointer none), (11, .pointer (some ⟨q2, 0, none⟩)), (15, .pointer (some ⟨p2, 0, none⟩))]) (fun t => Mem w [] (t.2.1 ++ t.2.2)) (fun t => l.length + m.length - t.1) (0, ([] : List Ent), (qMem q2 p2 pb false [] (none, 0, none) (none, 0, none))) ⟨Nat.zero_le _, .inl ⟨rfl, rfl, rfl⟩, Pr.start q2 p2 pb hwb⟩ ⟨rfl, rfl, rfl, rfl, rfl, rfl, rfl, rfl⟩ (fun w hm => mem2b hm) ?_
  rintro ⟨j, L1, L2⟩ ⟨hj, hP1, hP2⟩
  simp only at hj hP1 hP2 ⊢
  refine sw_seq ?_
  refine sw_seq ?_
  refine sw_region ?_
  refine ow_val (val_move rfl) rfl ?_   -- 48
  refine ow_val (val_move rfl) rfl ?_   -- 49
  refine ow_val (val_len rfl Try.underlying22) rfl ?_   -- 50
  by_cases g1 : j < l.length
  · -- yes
    refine ow_val ((val_lss_int rfl rfl).to (congrArg Value.bool (decide_eq_true (by omega)))) rfl ?_   -- 51
    refine ow_val (val_move rfl) rfl ?_   -- 52
    first | refine ow_guard_no rfl rfl rfl rfl rfl ?_ | refine ow_guard_none rfl rfl rfl rfl rfl ?_
    first | refine ow_guard_no rfl rfl rfl rfl rfl ?_ | refine ow_guard_none rfl rfl rfl rfl rfl ?_
    first | refine ow_guard_no rfl rfl rfl rfl rfl ?_ | refine ow_guard_none rfl rfl rfl rfl rfl ?_
    first | refine ow_guard_no rfl rfl rfl rfl rfl ?_ | refine ow_guard_none rfl rfl rfl rfl rfl ?_
    refine ow_val (val_pick_true rfl rfl) rfl ?_   -- 57
    refine ow_nil (into ?_)
    refine sw_true rfl rfl ?_
    refine sw_skip (into ?_)
    refine sw_seq ?_
    refine sw_block ?_
    refine sw_seq ?_
    refine sw_region ?_
    refine ow_val (val_move rfl) rfl ?_   -- 60
    refine ow_val (val_move rfl) rfl ?_   -- 61
    refine ow_val (val_len rfl Try.underlying22) rfl ?_   -- 62
    by_cases g3 : j < l.length
    · -- yes
      refine ow_val ((val_lss_int rfl rfl).to (congrArg Value.bool (decide_eq_true (by omega)))) rfl ?_   -- 63
      refine ow_val (val_move rfl) rfl ?_   -- 64
      refine ow_guard_yes rfl rfl rfl ?_
      refine ow_val (val_move rfl) rfl ?_   -- 65
      refine ow_guard_yes rfl rfl rfl ?_
      refine ow_val (val_move rfl) rfl ?_   -- 66
      refine ow_guard_yes rfl rfl rfl ?_
      refine ow_val (val_move rfl) rfl ?_   -- 67
      refine ow_guard_yes rfl rfl rfl ?_
      refine ow_val (val_move rfl) rfl ?_   -- 68
      refine ow_guard_yes rfl rfl rfl ?_
      obtain ⟨ba, oa, rfl⟩ := hr.addr (by rw [flatMap_size l (n := 2) (fun _ _ => rfl)]; omega)
      obtain ⟨⟨K1, z1⟩, hd1⟩ : ∃ o, l.getD j default = o := ⟨_, rfl⟩
      refine ow_val (val_indexAddr_slice j (oa + j * 2) rfl rfl Try.underlying22 Try.sizeOf32 (by omega) (by omega) (by omega)) rfl ?_
      refine ow_guard_yes rfl rfl rfl ?_
      refine ow_val ((val_load_elem (cells := (fun o : Int × Int => [vInt o.1, vInt o.2])) (l := l) (o := oa) (i := j) rfl Try.isAgg32 Try.sizeOf32 (fun _ _ => rfl) (by omega) (by omega) (fun w' hm => hr.mem hm)).to (v' := .agg #[vInt K1, vInt z1]) (by rw [hd1])) rfl ?_   -- 70
      refine ow_guard_yes rfl rfl rfl ?_
      refine ow_call_frame (fun _ => .bool true) (fun L => L) (fun L => Pr (.pointer none) (.pointer none) (j + 1) L) L1 L2 (callsTo Try.func11 rfl (by kernel_rfl) rfl) rfl (fun w hm hm2 => one_pr w hP1 (by omega) hm2 K1 z1) ?_
      rintro L1' hP1'
      refine ow_guard_yes rfl rfl rfl ?_
      refine ow_val (val_not rfl) rfl ?_   -- 72
      refine ow_val (val_pick_true rfl rfl) rfl ?_   -- 73
      refine ow_val (val_move rfl) rfl ?_   -- 74
      refine ow_guard_yes rfl rfl rfl ?_
      refine ow_val (val_move rfl) rfl ?_   -- 75
      refine ow_guard_yes rfl rfl rfl ?_
      refine ow_val (val_move rfl) rfl ?_   -- 76
      refine ow_guard_yes rfl rfl rfl ?_
      refine ow_val (val_len rfl Try.underlying22) rfl ?_   -- 77
      by_cases g4 : j < m.length
      · -- yes
        refine ow_guard_yes rfl rfl rfl ?_
        refine ow_val ((val_lss_int rfl rfl).to (congrArg Value.bool (decide_eq_true (by omega)))) rfl ?_   -- 78
        refine ow_guard_yes rfl rfl rfl ?_
        refine ow_val (val_move rfl) rfl ?_   -- 79
        refine ow_guard_yes rfl rfl rfl ?_
        refine ow_val (val_move rfl) rfl ?_   -- 80
        refine ow_guard_yes rfl rfl rfl ?_
        refine ow_val (val_move rfl) rfl ?_   -- 81
        refine ow_guard_yes rfl rfl rfl ?_
        refine ow_val (val_move rfl) rfl ?_   -- 82
        refine ow_guard_yes rfl rfl rfl ?_
        refine ow_val (val_move rfl) rfl ?_   -- 83
        refine ow_guard_yes rfl rfl rfl ?_
        obtain ⟨bb, ob, rfl⟩ := hr2.addr (by rw [flatMap_size m (n := 2) (fun _ _ => rfl)]; omega)
        obtain ⟨⟨K2, z2⟩, hd2⟩ : ∃ o, m.getD j default = o := ⟨_, rfl⟩
        refine ow_val (val_indexAddr_slice j (ob + j * 2) rfl rfl Try.underlying22 Try.sizeOf32 (by omega) (by omega) (by omega)) rfl ?_
        refine ow_guard_yes rfl rfl rfl ?_
        refine ow_val ((val_load_elem (cells := (fun o : Int × Int => [vInt o.1, vInt o.2])) (l := m) (o := ob) (i := j) rfl Try.isAgg32 Try.sizeOf32 (fun _ _ => rfl) (by omega) (by omega) (fun w' hm => hr2.mem hm)).to (v' := .agg #[vInt K2, vInt z2]) (by rw [hd2])) rfl ?_   -- 85
        refine ow_guard_yes rfl rfl rfl ?_
        refine ow_sub (M' := Mem w [] (L2 ++ L1')) (fun w hm => hm.perm List.perm_append_comm) ?_
        refine ow_call_frame (fun _ => .bool true) (fun L => L) (fun L => Pr (.pointer (some ⟨q2, 0, none⟩)) (.pointer (some ⟨p2, 0, none⟩)) (j + 1) L) L2 L1' (callsTo Try.func11 rfl (by kernel_rfl) rfl) rfl (fun w hm hm2 => one_pr w hP2 (by omega) hm2 K2 z2) ?_
        rintro L2' hP2'
        refine ow_sub (M' := Mem w [] (L1' ++ L2')) (fun w hm => hm.perm List.perm_append_comm) ?_
        refine ow_guard_yes rfl rfl rfl ?_
        refine ow_val (val_not rfl) rfl ?_   -- 87
        refine ow_guard_yes rfl rfl rfl ?_
        refine ow_val (val_pick_true rfl rfl) rfl ?_   -- 88
        refine ow_val (val_pick_false rfl rfl) rfl ?_   -- 89
        refine ow_nil (into ?_)
        refine sw_false rfl rfl ?_
        refine sw_skip (into ?_)
        refine sw_region ?_
        refine ow_val (val_move rfl) rfl ?_   -- 58
        refine ow_val (val_add_int ((j + 1 : Nat) : Int) rfl rfl (by omega) (by omega)) rfl ?_   -- 59
        refine ow_val (val_assign rfl) rfl ?_   -- 17
        exact ow_nil (fun w hm => ⟨(j + 1, L1', L2'), ⟨by dsimp only; omega, hP1', hP2'⟩, by dsimp only; omega, ⟨rfl, rfl, rfl, rfl, rfl, rfl, rfl, rfl⟩, hm⟩)
      · -- no
        refine ow_guard_yes rfl rfl rfl ?_
        refine ow_val ((val_lss_int rfl rfl).to (congrArg Value.bool (decide_eq_false (by omega)))) rfl ?_   -- 78
        refine ow_guard_yes rfl rfl rfl ?_
        refine ow_val (val_move rfl) rfl ?_   -- 79
        first | refine ow_guard_no rfl rfl rfl rfl rfl ?_ | refine ow_guard_none rfl rfl rfl rfl rfl ?_
        first | refine ow_guard_no rfl rfl rfl rfl rfl ?_ | refine ow_guard_none rfl rfl rfl rfl rfl ?_
        first | refine ow_guard_no rfl rfl rfl rfl rfl ?_ | refine ow_guard_none rfl rfl rfl rfl rfl ?_
        first | refine ow_guard_no rfl rfl rfl rfl rfl ?_ | refine ow_guard_none rfl rfl rfl rfl rfl ?_
        first | refine ow_guard_no rfl rfl rfl rfl rfl ?_ | refine ow_guard_none rfl rfl rfl rfl rfl ?_
        first | refine ow_guard_no rfl rfl rfl rfl rfl ?_ | refine ow_guard_none rfl rfl rfl rfl rfl ?_
        first | refine ow_guard_no rfl rfl rfl rfl rfl ?_ | refine ow_guard_none rfl rfl rfl rfl rfl ?_
        first | refine ow_guard_no rfl rfl rfl rfl rfl ?_ | refine ow_guard_none rfl rfl rfl rfl rfl ?_
        refine ow_guard_yes rfl rfl rfl ?_
        refine ow_val (val_pick_false rfl rfl) rfl ?_   -- 88
        refine ow_val (val_pick_false rfl rfl) rfl ?_   -- 89
        refine ow_nil (into ?_)
        refine sw_false rfl rfl ?_
        refine sw_skip (into ?_)
        refine sw_region ?_
        refine ow_val (val_move rfl) rfl ?_   -- 58
        refine ow_val (val_add_int ((j + 1 : Nat) : Int) rfl rfl (by omega) (by omega)) rfl ?_   -- 59
        refine ow_val (val_assign rfl) rfl ?_   -- 17
        exact ow_nil (fun w hm => ⟨(j + 1, L1', L2), ⟨by dsimp only; omega, hP1', hP2.mono (Nat.le_succ _)⟩, by dsimp only; omega, ⟨rfl, rfl, rfl, rfl, rfl, rfl, rfl, rfl⟩, hm⟩)
    · -- no
      refine ow_val ((val_lss_int rfl rfl).to (congrArg Value.bool (decide_eq_false (by omega)))) rfl ?_   -- 63
      refine ow_val (val_move rfl) rfl ?_   -- 64
      first | refine ow_guard_no rfl rfl rfl rfl rfl ?_ | refine ow_guard_none rfl rfl rfl rfl rfl ?_
      first | refine ow_guard_no rfl rfl rfl rfl rfl ?_ | refine ow_guard_none rfl rfl rfl rfl rfl ?_
      first | refine ow_guard_no rfl rfl rfl rfl rfl ?_ | refine ow_guard_none rfl rfl rfl rfl rfl ?_
      first | refine ow_guard_no rfl rfl rfl rfl rfl ?_ | refine ow_guard_none rfl rfl rfl rfl rfl ?_
      first | refine ow_guard_no rfl rfl rfl rfl rfl ?_ | refine ow_guard_none rfl rfl rfl rfl rfl ?_
      first | refine ow_guard_no rfl rfl rfl rfl rfl ?_ | refine ow_guard_none rfl rfl rfl rfl rfl ?_
      first | refine ow_guard_no rfl rfl rfl rfl rfl ?_ | refine ow_guard_none rfl rfl rfl rfl rfl ?_
      first | refine ow_guard_no rfl rfl rfl rfl rfl ?_ | refine ow_guard_none rfl rfl rfl rfl rfl ?_
      refine ow_val (val_pick_false rfl rfl) rfl ?_   -- 73
      refine ow_val (val_move rfl) rfl ?_   -- 74
      refine ow_guard_yes rfl rfl rfl ?_
      refine ow_val (val_move rfl) rfl ?_   -- 75
      refine ow_guard_yes rfl rfl rfl ?_
      refine ow_val (val_move rfl) rfl ?_   -- 76
      refine ow_guard_yes rfl rfl rfl ?_
      refine ow_val (val_len rfl Try.underlying22) rfl ?_   -- 77
      by_cases g4 : j < m.length
      · -- yes
        refine ow_guard_yes rfl rfl rfl ?_
        refine ow_val ((val_lss_int rfl rfl).to (congrArg Value.bool (decide_eq_true (by omega)))) rfl ?_   -- 78
        refine ow_guard_yes rfl rfl rfl ?_
        refine ow_val (val_move rfl) rfl ?_   -- 79
        refine ow_guard_yes rfl rfl rfl ?_
        refine ow_val (val_move rfl) rfl ?_   -- 80
        refine ow_guard_yes rfl rfl rfl ?_
        refine ow_val (val_move rfl) rfl ?_   -- 81
        refine ow_guard_yes rfl rfl rfl ?_
        refine ow_val (val_move rfl) rfl ?_   -- 82
        refine ow_guard_yes rfl rfl rfl ?_
        refine ow_val (val_move rfl) rfl ?_   -- 83
        refine ow_guard_yes rfl rfl rfl ?_
        obtain ⟨bb, ob, rfl⟩ := hr2.addr (by rw [flatMap_size m (n := 2) (fun _ _ => rfl)]; omega)
        obtain ⟨⟨K2, z2⟩, hd2⟩ : ∃ o, m.getD j default = o := ⟨_, rfl⟩
        refine ow_val (val_indexAddr_slice j (ob + j * 2) rfl rfl Try.underlying22 Try.sizeOf32 (by omega) (by omega) (by omega)) rfl ?_
        refine ow_guard_yes rfl rfl rfl ?_
        refine ow_val ((val_load_elem (cells := (fun o : Int × Int => [vInt o.1, vInt o.2])) (l := m) (o := ob) (i := j) rfl Try.isAgg32 Try.sizeOf32 (fun _ _ => rfl) (by omega) (by omega) (fun w' hm => hr2.mem hm)).to (v' := .agg #[vInt K2, vInt z2]) (by rw [hd2])) rfl ?_   -- 85
        refine ow_guard_yes rfl rfl rfl ?_
        refine ow_sub (M' := Mem w [] (L2 ++ L1)) (fun w hm => hm.perm List.perm_append_comm) ?_
        refine ow_call_frame (fun _ => .bool true) (fun L => L) (fun L => Pr (.pointer (some ⟨q2, 0, none⟩)) (.pointer (some ⟨p2, 0, none⟩)) (j + 1) L) L2 L1 (callsTo Try.func11 rfl (by kernel_rfl) rfl) rfl (fun w hm hm2 => one_pr w hP2 (by omega) hm2 K2 z2) ?_
        rintro L2' hP2'
        refine ow_sub (M' := Mem w [] (L1 ++ L2')) (fun w hm => hm.perm List.perm_append_comm) ?_
        refine ow_guard_yes rfl rfl rfl ?_
        refine ow_val (val_not rfl) rfl ?_   -- 87
        refine ow_guard_yes rfl rfl rfl ?_
        refine ow_val (val_pick_true rfl rfl) rfl ?_   -- 88
        refine ow_val (val_pick_false rfl rfl) rfl ?_   -- 89
        refine ow_nil (into ?_)
        refine sw_false rfl rfl ?_
        refine sw_skip (into ?_)
        refine sw_region ?_
        refine ow_val (val_move rfl) rfl ?_   -- 58
        refine ow_val (val_add_int ((j + 1 : Nat) : Int) rfl rfl (by omega) (by omega)) rfl ?_   -- 59
        refine ow_val (val_assign rfl) rfl ?_   -- 17
        exact ow_nil (fun w hm => ⟨(j + 1, L1, L2'), ⟨by dsimp only; omega, hP1.mono (Nat.le_succ _), hP2'⟩, by dsimp only; omega, ⟨rfl, rfl, rfl, rfl, rfl, rfl, rfl, rfl⟩, hm⟩)
      · -- no
        refine ow_guard_yes rfl rfl rfl ?_
        refine ow_val ((val_lss_int rfl rfl).to (congrArg Value.bool (decide_eq_false (by omega)))) rfl ?_   -- 78
        refine ow_guard_yes rfl rfl rfl ?_
        refine ow_val (val_move rfl) rfl ?_   -- 79
        first | refine ow_guard_no rfl rfl rfl rfl rfl ?_ | refine ow_guard_none rfl rfl rfl rfl rfl ?_
        first | refine ow_guard_no rfl rfl rfl rfl rfl ?_ | refine ow_guard_none rfl rfl rfl rfl rfl ?_
        first | refine ow_guard_no rfl rfl rfl rfl rfl ?_ | refine ow_guard_none rfl rfl rfl rfl rfl ?_
        first | refine ow_guard_no rfl rfl rfl rfl rfl ?_ | refine ow_guard_none rfl rfl rfl rfl rfl ?_
        first | refine ow_guard_no rfl rfl rfl rfl rfl ?_ | refine ow_guard_none rfl rfl rfl rfl rfl ?_
        first | refine ow_guard_no rfl rfl rfl rfl rfl ?_ | refine ow_guard_none rfl rfl rfl rfl rfl ?_
        first | refine ow_guard_no rfl rfl rfl rfl rfl ?_ | refine ow_guard_none rfl rfl rfl rfl rfl ?_
        first | refine ow_guard_no rfl rfl rfl rfl rfl ?_ | refine ow_guard_none rfl rfl rfl rfl rfl ?_
        refine ow_guard_yes rfl rfl rfl ?_
        refine ow_val (val_pick_false rfl rfl) rfl ?_   -- 88
        refine ow_val (val_pick_false rfl rfl) rfl ?_   -- 89
        refine ow_nil (into ?_)
        refine sw_false rfl rfl ?_
        refine sw_skip (into ?_)
        refine sw_region ?_
        refine ow_val (val_move rfl) rfl ?_   -- 58
        refine ow_val (val_add_int ((j + 1 : Nat) : Int) rfl rfl (by omega) (by omega)) rfl ?_   -- 59
        refine ow_val (val_assign rfl) rfl ?_   -- 17
        exact ow_nil (fun w hm => ⟨(j + 1, L1, L2), ⟨by dsimp only; omega, hP1.mono (Nat.le_succ _), hP2.mono (Nat.le_succ _)⟩, by dsimp only; omega, ⟨rfl, rfl, rfl, rfl, rfl, rfl, rfl, rfl⟩, hm⟩)
  · -- no
    refine ow_val ((val_lss_int rfl rfl).to (congrArg Value.bool (decide_eq_false (by omega)))) rfl ?_   -- 51
    refine ow_val (val_move rfl) rfl ?_   -- 52
    refine ow_guard_yes rfl rfl rfl ?_
    refine ow_val (val_move rfl) rfl ?_   -- 53
    refine ow_guard_yes rfl rfl rfl ?_
    refine ow_val (val_move rfl) rfl ?_   -- 54
    refine ow_guard_yes rfl rfl rfl ?_
    refine ow_val (val_len rfl Try.underlying22) rfl ?_   -- 55
    by_cases g2 : j < m.length
    · -- yes
      refine ow_guard_yes rfl rfl rfl ?_
      refine ow_val ((val_lss_int rfl rfl).to (congrArg Value.bool (decide_eq_true (by omega)))) rfl ?_   -- 56
      refine ow_val (val_pick_false rfl rfl) rfl ?_   -- 57
      refine ow_nil (into ?_)
      refine sw_true rfl rfl ?_
      refine sw_skip (into ?_)
      refine sw_seq ?_
      refine sw_block ?_
      refine sw_seq ?_
      refine sw_region ?_
      refine ow_val (val_move rfl) rfl ?_   -- 60
      refine ow_val (val_move rfl) rfl ?_   -- 61
      refine ow_val (val_len rfl Try.underlying22) rfl ?_   -- 62
      by_cases g3 : j < l.length
      · -- yes
        refine ow_val ((val_lss_int rfl rfl).to (congrArg Value.bool (decide_eq_true (by omega)))) rfl ?_   -- 63
        refine ow_val (val_move rfl) rfl ?_   -- 64
        refine ow_guard_yes rfl rfl rfl ?_
        refine ow_val (val_move rfl) rfl ?_   -- 65
        refine ow_guard_yes rfl rfl rfl ?_
        refine ow_val (val_move rfl) rfl ?_   -- 66
        refine ow_guard_yes rfl rfl rfl ?_
        refine ow_val (val_move rfl) rfl ?_   -- 67
        refine ow_guard_yes rfl rfl rfl ?_
        refine ow_val (val_move rfl) rfl ?_   -- 68
        refine ow_guard_yes rfl rfl rfl ?_
        obtain ⟨ba, oa, rfl⟩ := hr.addr (by rw [flatMap_size l (n := 2) (fun _ _ => rfl)]; omega)
        obtain ⟨⟨K1, z1⟩, hd1⟩ : ∃ o, l.getD j default = o := ⟨_, rfl⟩
        refine ow_val (val_indexAddr_slice j (oa + j * 2) rfl rfl Try.underlying22 Try.sizeOf32 (by omega) (by omega) (by omega)) rfl ?_
        refine ow_guard_yes rfl rfl rfl ?_
        refine ow_val ((val_load_elem (cells := (fun o : Int × Int => [vInt o.1, vInt o.2])) (l := l) (o := oa) (i := j) rfl Try.isAgg32 Try.sizeOf32 (fun _ _ => rfl) (by omega) (by omega) (fun w' hm => hr.mem hm)).to (v' := .agg #[vInt K1, vInt z1]) (by rw [hd1])) rfl ?_   -- 70
        refine ow_guard_yes rfl rfl rfl ?_
        refine ow_call_frame (fun _ => .bool true) (fun L => L) (fun L => Pr (.pointer none) (.pointer none) (j + 1) L) L1 L2 (callsTo Try.func11 rfl (by kernel_rfl) rfl) rfl (fun w hm hm2 => one_pr w hP1 (by omega) hm2 K1 z1) ?_
        rintro L1' hP1'
        refine ow_guard_yes rfl rfl rfl ?_
        refine ow_val (val_not rfl) rfl ?_   -- 72
        refine ow_val (val_pick_true rfl rfl) rfl ?_   -- 73
        refine ow_val (val_move rfl) rfl ?_   -- 74
        refine ow_guard_yes rfl rfl rfl ?_
        refine ow_val (val_move rfl) rfl ?_   -- 75
        refine ow_guard_yes rfl rfl rfl ?_
        refine ow_val (val_move rfl) rfl ?_   -- 76
        refine ow_guard_yes rfl rfl rfl ?_
        refine ow_val (val_len rfl Try.underlying22) rfl ?_   -- 77
        by_cases g4 : j < m.length
        · -- yes
          refine ow_guard_yes rfl rfl rfl ?_
          refine ow_val ((val_lss_int rfl rfl).to (congrArg Value.bool (decide_eq_true (by omega)))) rfl ?_   -- 78
          refine ow_guard_yes rfl rfl rfl ?_
          refine ow_val (val_move rfl) rfl ?_   -- 79
          refine ow_guard_yes rfl rfl rfl ?_
          refine ow_val (val_move rfl) rfl ?_   -- 80
          refine ow_guard_yes rfl rfl rfl ?_
          refine ow_val (val_move rfl) rfl ?_   -- 81
          refine ow_guard_yes rfl rfl rfl ?_
          refine ow_val (val_move rfl) rfl ?_   -- 82
          refine ow_guard_yes rfl rfl rfl ?_
          refine ow_val (val_move rfl) rfl ?_   -- 83
          refine ow_guard_yes rfl rfl rfl ?_
          obtain ⟨bb, ob, rfl⟩ := hr2.addr (by rw [flatMap_size m (n := 2) (fun _ _ => rfl)]; omega)
          obtain ⟨⟨K2, z2⟩, hd2⟩ : ∃ o, m.getD j default = o := ⟨_, rfl⟩
          refine ow_val (val_indexAddr_slice j (ob + j * 2) rfl rfl Try.underlying22 Try.sizeOf32 (by omega) (by omega) (by omega)) rfl ?_
          refine ow_guard_yes rfl rfl rfl ?_
          refine ow_val ((val_load_elem (cells := (fun o : Int × Int => [vInt o.1, vInt o.2])) (l := m) (o := ob) (i := j) rfl Try.isAgg32 Try.sizeOf32 (fun _ _ => rfl) (by omega) (by omega) (fun w' hm => hr2.mem hm)).to (v' := .agg #[vInt K2, vInt z2]) (by rw [hd2])) rfl ?_   -- 85
          refine ow_guard_yes rfl rfl rfl ?_
          refine ow_sub (M' := Mem w [] (L2 ++ L1')) (fun w hm => hm.perm List.perm_append_comm) ?_
          refine ow_call_frame (fun _ => .bool true) (fun L => L) (fun L => Pr (.pointer (some ⟨q2, 0, none⟩)) (.pointer (some ⟨p2, 0, none⟩)) (j + 1) L) L2 L1' (callsTo Try.func11 rfl (by kernel_rfl) rfl) rfl (fun w hm hm2 => one_pr w hP2 (by omega) hm2 K2 z2) ?_
          rintro L2' hP2'
          refine ow_sub (M' := Mem w [] (L1' ++ L2')) (fun w hm => hm.perm List.perm_append_comm) ?_
          refine ow_guard_yes rfl rfl rfl ?_
          refine ow_val (val_not rfl) rfl ?_   -- 87
          refine ow_guard_yes rfl rfl rfl ?_
          refine ow_val (val_pick_true rfl rfl) rfl ?_   -- 88
          refine ow_val (val_pick_false rfl rfl) rfl ?_   -- 89
          refine ow_nil (into ?_)
          refine sw_false rfl rfl ?_
          refine sw_skip (into ?_)
          refine sw_region ?_
          refine ow_val (val_move rfl) rfl ?_   -- 58
          refine ow_val (val_add_int ((j + 1 : Nat) : Int) rfl rfl (by omega) (by omega)) rfl ?_   -- 59
          refine ow_val (val_assign rfl) rfl ?_   -- 17
          exact ow_nil (fun w hm => ⟨(j + 1, L1', L2'), ⟨by dsimp only; omega, hP1', hP2'⟩, by dsimp only; omega, ⟨rfl, rfl, rfl, rfl, rfl, rfl, rfl, rfl⟩, hm⟩)
        · -- no
          refine ow_guard_yes rfl rfl rfl ?_
          refine ow_val ((val_lss_int rfl rfl).to (congrArg Value.bool (decide_eq_false (by omega)))) rfl ?_   -- 78
          refine ow_guard_yes rfl rfl rfl ?_
          refine ow_val (val_move rfl) rfl ?_   -- 79
          first | refine ow_guard_no rfl rfl rfl rfl rfl ?_ | refine ow_guard_none rfl rfl rfl rfl rfl ?_
          first | refine ow_guard_no rfl rfl rfl rfl rfl ?_ | refine ow_guard_none rfl rfl rfl rfl rfl ?_
          first | refine ow_guard_no rfl rfl rfl rfl rfl ?_ | refine ow_guard_none rfl rfl rfl rfl rfl ?_
          first | refine ow_guard_no rfl rfl rfl rfl rfl ?_ | refine ow_guard_none rfl rfl rfl rfl rfl ?_
          first | refine ow_guard_no rfl rfl rfl rfl rfl ?_ | refine ow_guard_none rfl rfl rfl rfl rfl ?_
          first | refine ow_guard_no rfl rfl rfl rfl rfl ?_ | refine ow_guard_none rfl rfl rfl rfl rfl ?_
          first | refine ow_guard_no rfl rfl rfl rfl rfl ?_ | refine ow_guard_none rfl rfl rfl rfl rfl ?_
          first | refine ow_guard_no rfl rfl rfl rfl rfl ?_ | refine ow_guard_none rfl rfl rfl rfl rfl ?_
          refine ow_guard_yes rfl rfl rfl ?_
          refine ow_val (val_pick_false rfl rfl) rfl ?_   -- 88
          refine ow_val (val_pick_false rfl rfl) rfl ?_   -- 89
          refine ow_nil (into ?_)
          refine sw_false rfl rfl ?_
          refine sw_skip (into ?_)
          refine sw_region ?_
          refine ow_val (val_move rfl) rfl ?_   -- 58
          refine ow_val (val_add_int ((j + 1 : Nat) : Int) rfl rfl (by omega) (by omega)) rfl ?_   -- 59
          refine ow_val (val_assign rfl) rfl ?_   -- 17
          exact ow_nil (fun w hm => ⟨(j + 1, L1', L2), ⟨by dsimp only; omega, hP1', hP2.mono (Nat.le_succ _)⟩, by dsimp only; omega, ⟨rfl, rfl, rfl, rfl, rfl, rfl, rfl, rfl⟩, hm⟩)
      · -- no
        refine ow_val ((val_lss_int rfl rfl).to (congrArg Value.bool (decide_eq_false (by omega)))) rfl ?_   -- 63
        refine ow_val (val_move rfl) rfl ?_   -- 64
        first | refine ow_guard_no rfl rfl rfl rfl rfl ?_ | refine ow_guard_none rfl rfl rfl rfl rfl ?_
        first | refine ow_guard_no rfl rfl rfl rfl rfl ?_ | refine ow_guard_none rfl rfl rfl rfl rfl ?_
        first | refine ow_guard_no rfl rfl rfl rfl rfl ?_ | refine ow_guard_none rfl rfl rfl rfl rfl ?_
        first | refine ow_guard_no rfl rfl rfl rfl rfl ?_ | refine ow_guard_none rfl rfl rfl rfl rfl ?_
        first | refine ow_guard_no rfl rfl rfl rfl rfl ?_ | refine ow_guard_none rfl rfl rfl rfl rfl ?_
        first | refine ow_guard_no rfl rfl rfl rfl rfl ?_ | refine ow_guard_none rfl rfl rfl rfl rfl ?_
        first | refine ow_guard_no rfl rfl rfl rfl rfl ?_ | refine ow_guard_none rfl rfl rfl rfl rfl ?_
        first | refine ow_guard_no rfl rfl rfl rfl rfl ?_ | refine ow_guard_none rfl rfl rfl rfl rfl ?_
        refine ow_val (val_pick_false rfl rfl) rfl ?_   -- 73
        refine ow_val (val_move rfl) rfl ?_   -- 74
        refine ow_guard_yes rfl rfl rfl ?_
        refine ow_val (val_move rfl) rfl ?_   -- 75
        refine ow_guard_yes rfl rfl rfl ?_
        refine ow_val (val_move rfl) rfl ?_   -- 76
        refine ow_guard_yes rfl rfl rfl ?_
        refine ow_val (val_len rfl Try.underlying22) rfl ?_   -- 77
        by_cases g4 : j < m.length
        · -- yes
          refine ow_guard_yes rfl rfl rfl ?_
          refine ow_val ((val_lss_int rfl rfl).to (congrArg Value.bool (decide_eq_true (by omega)))) rfl ?_   -- 78
          refine ow_guard_yes rfl rfl rfl ?_
          refine ow_val (val_move rfl) rfl ?_   -- 79
          refine ow_guard_yes rfl rfl rfl ?_
          refine ow_val (val_move rfl) rfl ?_   -- 80
          refine ow_guard_yes rfl rfl rfl ?_
          refine ow_val (val_move rfl) rfl ?_   -- 81
          refine ow_guard_yes rfl rfl rfl ?_
          refine ow_val (val_move rfl) rfl ?_   -- 82
          refine ow_guard_yes rfl rfl rfl ?_
          refine ow_val (val_move rfl) rfl ?_   -- 83
          refine ow_guard_yes rfl rfl rfl ?_
          obtain ⟨bb, ob, rfl⟩ := hr2.addr (by rw [flatMap_size m (n := 2) (fun _ _ => rfl)]; omega)
          obtain ⟨⟨K2, z2⟩, hd2⟩ : ∃ o, m.getD j default = o := ⟨_, rfl⟩
          refine ow_val (val_indexAddr_slice j (ob + j * 2) rfl rfl Try.underlying22 Try.sizeOf32 (by omega) (by omega) (by omega)) rfl ?_
          refine ow_guard_yes rfl rfl rfl ?_
          refine ow_val ((val_load_elem (cells := (fun o : Int × Int => [vInt o.1, vInt o.2])) (l := m) (o := ob) (i := j) rfl Try.isAgg32 Try.sizeOf32 (fun _ _ => rfl) (by omega) (by omega) (fun w' hm => hr2.mem hm)).to (v' := .agg #[vInt K2, vInt z2]) (by rw [hd2])) rfl ?_   -- 85
          refine ow_guard_yes rfl rfl rfl ?_
          refine ow_sub (M' := Mem w [] (L2 ++ L1)) (fun w hm => hm.perm List.perm_append_comm) ?_
          refine ow_call_frame (fun _ => .bool true) (fun L => L) (fun L => Pr (.pointer (some ⟨q2, 0, none⟩)) (.pointer (some ⟨p2, 0, none⟩)) (j + 1) L) L2 L1 (callsTo Try.func11 rfl (by kernel_rfl) rfl) rfl (fun w hm hm2 => one_pr w hP2 (by omega) hm2 K2 z2) ?_
          rintro L2' hP2'
          refine ow_sub (M' := Mem w [] (L1 ++ L2')) (fun w hm => hm.perm List.perm_append_comm) ?_
          refine ow_guard_yes rfl rfl rfl ?_
          refine ow_val (val_not rfl) rfl ?_   -- 87
          refine ow_guard_yes rfl rfl rfl ?_
          refine ow_val (val_pick_true rfl rfl) rfl ?_   -- 88
          refine ow_val (val_pick_false rfl rfl) rfl ?_   -- 89
          refine ow_nil (into ?_)
          refine sw_false rfl rfl ?_
          refine sw_skip (into ?_)
          refine sw_region ?_
          refine ow_val (val_move rfl) rfl ?_   -- 58
          refine ow_val (val_add_int ((j + 1 : Nat) : Int) rfl rfl (by omega) (by omega)) rfl ?_   -- 59
          refine ow_val (val_assign rfl) rfl ?_   -- 17
          exact ow_nil (fun w hm => ⟨(j + 1, L1, L2'), ⟨by dsimp only; omega, hP1.mono (Nat.le_succ _), hP2'⟩, by dsimp only; omega, ⟨rfl, rfl, rfl, rfl, rfl, rfl, rfl, rfl⟩, hm⟩)
        · -- no
          refine ow_guard_yes rfl rfl rfl ?_
          refine ow_val ((val_lss_int rfl rfl).to (congrArg Value.bool (decide_eq_false (by omega)))) rfl ?_   -- 78
          refine ow_guard_yes rfl rfl rfl ?_
          refine ow_val (val_move rfl) rfl ?_   -- 79
          first | refine ow_guard_no rfl rfl rfl rfl rfl ?_ | refine ow_guard_none rfl rfl rfl rfl rfl ?_
          first | refine ow_guard_no rfl rfl rfl rfl rfl ?_ | refine ow_guard_none rfl rfl rfl rfl rfl ?_
          first | refine ow_guard_no rfl rfl rfl rfl rfl ?_ | refine ow_guard_none rfl rfl rfl rfl rfl ?_
          first | refine ow_guard_no rfl rfl rfl rfl rfl ?_ | refine ow_guard_none rfl rfl rfl rfl rfl ?_
          first | refine ow_guard_no rfl rfl rfl rfl rfl ?_ | refine ow_guard_none rfl rfl rfl rfl rfl ?_
          first | refine ow_guard_no rfl rfl rfl rfl rfl ?_ | refine ow_guard_none rfl rfl rfl rfl rfl ?_
          first | refine ow_guard_no rfl rfl rfl rfl rfl ?_ | refine ow_guard_none rfl rfl rfl rfl rfl ?_
          first | refine ow_guard_no rfl rfl rfl rfl rfl ?_ | refine ow_guard_none rfl rfl rfl rfl rfl ?_
          refine ow_guard_yes rfl rfl rfl ?_
          refine ow_val (val_pick_false rfl rfl) rfl ?_   -- 88
          refine ow_val (val_pick_false rfl rfl) rfl ?_   -- 89
          refine ow_nil (into ?_)
          refine sw_false rfl rfl ?_
          refine sw_skip (into ?_)
          refine sw_region ?_
          refine ow_val (val_move rfl) rfl ?_   -- 58
          refine ow_val (val_add_int ((j + 1 : Nat) : Int) rfl rfl (by omega) (by omega)) rfl ?_   -- 59
          refine ow_val (val_assign rfl) rfl ?_   -- 17
          exact ow_nil (fun w hm => ⟨(j + 1, L1, L2), ⟨by dsimp only; omega, hP1.mono (Nat.le_succ _), hP2.mono (Nat.le_succ _)⟩, by dsimp only; omega, ⟨rfl, rfl, rfl, rfl, rfl, rfl, rfl, rfl⟩, hm⟩)
    · -- no
      refine ow_guard_yes rfl rfl rfl ?_
      refine ow_val ((val_lss_int rfl rfl).to (congrArg Value.bool (decide_eq_false (by omega)))) rfl ?_   -- 56
      refine ow_val (val_pick_false rfl rfl) rfl ?_   -- 57
      refine ow_nil (into ?_)
      refine sw_false rfl rfl ?_
      refine sw_exit (into ?_)
      refine sw_seq ?_
      refine sw_region ?_
      refine ow_val (val_assign rfl) rfl ?_   -- 8
      refine ow_nil (into ?_)
      refine sw_ret (fun w hm => ?_)
      try dsimp only [thenP, blockP, Nat.beq, cond]
      exact ret_one _ rfl rfl ⟨rfl, hm.forgetAll⟩

theorem two_nn (pa pb : Int) (w : World) (a : Option Addr) (c : Nat) (l : List (Int × Int)) (hr : Rd w a (l.flatMap (fun o : Int × Int => [vInt o.1, vInt o.2]))) (hc : l.length ≤ c) (hb : l.length * 16 ≤ 140737488351232) (a2 : Option Addr) (c2 : Nat) (m : List (Int × Int)) (hr2 : Rd w a2 (m.flatMap (fun o : Int × Int => [vInt o.1, vInt o.2]))) (hc2 : m.length ≤ c2) (hb2 : m.length * 16 ≤ 140737488351232) (hwa : ¬ (1 ≤ pa ∧ pa ≤ 64)) (hwb : ¬ (1 ≤ pb ∧ pb ≤ 64)) : Calls Try.prog 4 #[vInt pa, vInt pb, .slice a l.length c, .slice a2 m.length c2] w fun e w' => ∃ v, e = .returned v ∧ v = .bool true ∧ Mem w [] [] w' := by
  refine calls_of_sw (vs := [vInt pa, vInt pb, .slice a l.length c, .slice a2 m.length c2]) Try.func4 rfl Try.ntmps4 rfl (SW.begin ?_)
  refine sw_seq ?_
  refine sw_region ?_
  refine ow_val (val_assign rfl) rfl ?_   -- 8
  refine ow_nil (into ?_)
  refine sw_seq ?_
  refine sw_seq ?_
  refine sw_region ?_
  refine ow_call_pure (v := .bool true) (callsTo Try.func8 rfl (by kernel_rfl) rfl) rfl (fun w hm => awake_any w) ?_   -- 18
  refine ow_val (val_not rfl) rfl ?_   -- 19
  refine ow_nil (into ?_)
  refine sw_false rfl rfl ?_
  refine sw_skip (into ?_)
  refine sw_seq ?_
  refine sw_region ?_
  refine ow_val (val_move rfl) rfl ?_   -- 21
  refine ow_call_pure (v := .tuple #[.pointer none, vInt 1]) (callsTo Try.func9 rfl (by kernel_rfl) rfl) rfl (fun w hm => iNew_no w pa hwa) ?_
  refine ow_val (val_move rfl) rfl ?_   -- 20
  refine ow_val (val_extract rfl rfl) rfl ?_   -- 23
  refine ow_val (val_extract rfl rfl) rfl ?_   -- 24
  refine ow_val (val_assign rfl) rfl ?_   -- 9
  refine ow_val (val_assign rfl) rfl ?_   -- 10
  refine ow_nil (into ?_)
  refine sw_seq ?_
  refine sw_region ?_
  refine ow_val (val_move rfl) rfl ?_   -- 26
  refine ow_call_pure (v := .tuple #[.pointer none, vInt 1]) (callsTo Try.func9 rfl (by kernel_rfl) rfl) rfl (fun w hm => iNew_no w pb hwb) ?_
  refine ow_val (val_move rfl) rfl ?_   -- 25
  refine ow_val (val_extract rfl rfl) rfl ?_   -- 28
  refine ow_val (val_extract rfl rfl) rfl ?_   -- 29
  refine ow_val (val_assign rfl) rfl ?_   -- 11
  refine ow_val (val_assign rfl) rfl ?_   -- 12
  refine ow_nil (into ?_)
  refine sw_seq ?_
  refine sw_region ?_
  refine ow_val (val_move rfl) rfl ?_   -- 31
  refine ow_call_pure (v := .tuple #[.pointer none, vInt 1]) (callsTo Try.func10 rfl (by kernel_rfl) rfl) rfl (fun w hm => rNew_no w pa hwa) ?_
  refine ow_val (val_move rfl) rfl ?_   -- 30
  refine ow_val (val_extract rfl rfl) rfl ?_   -- 33
  refine ow_val (val_extract rfl rfl) rfl ?_   -- 34
  refine ow_val (val_assign rfl) rfl ?_   -- 13
  refine ow_val (val_assign rfl) rfl ?_   -- 14
  refine ow_nil (into ?_)
  refine sw_seq ?_
  refine sw_region ?_
  refine ow_val (val_move rfl) rfl ?_   -- 36
  refine ow_call_pure (v := .tuple #[.pointer none, vInt 1]) (callsTo Try.func10 rfl (by kernel_rfl) rfl) rfl (fun w hm => rNew_no w pb hwb) ?_
  refine ow_val (val_move rfl) rfl ?_   -- 35
  refine ow_val (val_extract rfl rfl) rfl ?_   -- 38
  refine ow_val (val_extract rfl rfl) rfl ?_   -- 39
  refine ow_val (val_assign rfl) rfl ?_   -- 15
  refine ow_val (val_assign rfl) rfl ?_   -- 16
  refine ow_nil (into ?_)
  refine sw_seq ?_
  refine sw_seq ?_
  refine sw_region ?_
  refine ow_val (val_move rfl) rfl ?_   -- 40
  refine ow_val (val_move rfl) rfl ?_   -- 41
  refine ow_val ((val_neq_int rfl rfl).to (v' := .bool false) (congrArg Value.bool (decide_eq_false (fun h => h rfl)))) rfl ?_   -- 42
  refine ow_val (val_move rfl) rfl ?_   -- 43
  refine ow_guard_yes rfl rfl rfl ?_
  refine ow_val (val_move rfl) rfl ?_   -- 44
  refine ow_guard_yes rfl rfl rfl ?_
  refine ow_val (val_move rfl) rfl ?_   -- 45
  refine ow_guard_yes rfl rfl rfl ?_
  refine ow_val ((val_neq_int rfl rfl).to (v' := .bool false) (congrArg Value.bool (decide_eq_false (fun h => h rfl)))) rfl ?_   -- 46
  refine ow_val (val_pick_false rfl rfl) rfl ?_   -- 47
  refine ow_nil (into ?_)
  refine sw_false rfl rfl ?_
  refine sw_skip (into ?_)
  refine sw_seq ?_
  refine sw_seq ?_
  refine sw_region ?_
  refine ow_val (val_assign rfl) rfl ?_   -- 17
  refine ow_nil (into ?_)
  refine sw_block ?_
  refine sw_loop (σ := Nat × List Ent × List Ent) (fun t => t.1 ≤ l.length + m.length ∧ Pr (.pointer none) (.pointer none) t.1 t.2.1 ∧ Pr (.pointer none) (.pointer none) t.1 t.2.2) (fun t => [(17, vInt (t.1 : Int)), (2, .slice a l.length c), (3, .slice a2 m.length c2), (9, .pointer none), (13, .pointer none), (11, .pointer none), (15, .pointer none)]) (fun t => Mem w [] (t.2.1 ++ t.2.2)) (fun t => l.length + m.length - t.1) (0, ([] : List Ent), ([] : List Ent)) ⟨Nat.zero_le _, .inl ⟨rfl, rfl, rfl⟩, .inl ⟨rfl, rfl, rfl⟩⟩ ⟨rfl, rfl, rfl, rfl, rfl, rfl, rfl, rfl⟩ (fun w hm => mem0 hm) ?_
  rintro ⟨j, L1, L2⟩ ⟨hj, hP1, hP2⟩
  simp only at hj hP1 hP2 ⊢
  refine sw_seq ?_
  refine sw_seq ?_
  refine sw_region ?_
  refine ow_val (val_move rfl) rfl ?_   -- 48
  refine ow_val (val_move rfl) rfl ?_   -- 49
  refine ow_val (val_len rfl Try.underlying22) rfl ?_   -- 50
  by_cases g1 : j < l.length
  · -- yes
    refine ow_val ((val_lss_int rfl rfl).to (congrArg Value.bool (decide_eq_true (by omega)))) rfl ?_   -- 51
    refine ow_val (val_move rfl) rfl ?_   -- 52
    first | refine ow_guard_no rfl rfl rfl rfl rfl ?_ | refine ow_guard_none rfl rfl rfl rfl rfl ?_
    first | refine ow_guard_no rfl rfl rfl rfl rfl ?_ | refine ow_guard_none rfl rfl rfl rfl rfl ?_
    first | refine ow_guard_no rfl rfl rfl rfl rfl ?_ | refine ow_guard_none rfl rfl rfl rfl rfl ?_
    first | refine ow_guard_no rfl rfl rfl rfl rfl ?_ | refine ow_guard_none rfl rfl rfl rfl rfl ?_
    refine ow_val (val_pick_true rfl rfl) rfl ?_   -- 57
    refine ow_nil (into ?_)
    refine sw_true rfl rfl ?_
    refine sw_skip (into ?_)
    refine sw_seq ?_
    refine sw_block ?_
    refine sw_seq ?_
    refine sw_region ?_
    refine ow_val (val_move rfl) rfl ?_   -- 60
    refine ow_val (val_move rfl) rfl ?_   -- 61
    refine ow_val (val_len rfl Try.underlying22) rfl ?_   -- 62
    by_cases g3 : j < l.length
    · -- yes
      refine ow_val ((val_lss_int rfl rfl).to (congrArg Value.bool (decide_eq_true (by omega)))) rfl ?_   -- 63
      refine ow_val (val_move rfl) rfl ?_   -- 64
      refine ow_guard_yes rfl rfl rfl ?_
      refine ow_val (val_move rfl) rfl ?_   -- 65
      refine ow_guard_yes rfl rfl rfl ?_
      refine ow_val (val_move rfl) rfl ?_   -- 66
      refine ow_guard_yes rfl rfl rfl ?_
      refine ow_val (val_move rfl) rfl ?_   -- 67
      refine ow_guard_yes rfl rfl rfl ?_
      refine ow_val (val_move rfl) rfl ?_   -- 68
      refine ow_guard_yes rfl rfl rfl ?_
      obtain ⟨ba, oa, rfl⟩ := hr.addr (by rw [flatMap_size l (n := 2) (fun _ _ => rfl)]; omega)
      obtain ⟨⟨K1, z1⟩, hd1⟩ : ∃ o, l.getD j default = o := ⟨_, rfl⟩
      refine ow_val (val_indexAddr_slice j (oa + j * 2) rfl rfl Try.underlying22 Try.sizeOf32 (by omega) (by omega) (by omega)) rfl ?_
      refine ow_guard_yes rfl rfl rfl ?_
      refine ow_val ((val_load_elem (cells := (fun o : Int × Int => [vInt o.1, vInt o.2])) (l := l) (o := oa) (i := j) rfl Try.isAgg32 Try.sizeOf32 (fun _ _ => rfl) (by omega) (by omega) (fun w' hm => hr.mem hm)).to (v' := .agg #[vInt K1, vInt z1]) (by rw [hd1])) rfl ?_   -- 70
      refine ow_guard_yes rfl rfl rfl ?_
      refine ow_call_frame (fun _ => .bool true) (fun L => L) (fun L => Pr (.pointer none) (.pointer none) (j + 1) L) L1 L2 (callsTo Try.func11 rfl (by kernel_rfl) rfl) rfl (fun w hm hm2 => one_pr w hP1 (by omega) hm2 K1 z1) ?_
      rintro L1' hP1'
      refine ow_guard_yes rfl rfl rfl ?_
      refine ow_val (val_not rfl) rfl ?_   -- 72
      refine ow_val (val_pick_true rfl rfl) rfl ?_   -- 73
      refine ow_val (val_move rfl) rfl ?_   -- 74
      refine ow_guard_yes rfl rfl rfl ?_
      refine ow_val (val_move rfl) rfl ?_   -- 75
      refine ow_guard_yes rfl rfl rfl ?_
      refine ow_val (val_move rfl) rfl ?_   -- 76
      refine ow_guard_yes rfl rfl rfl ?_
      refine ow_val (val_len rfl Try.underlying22) rfl ?_   -- 77
      by_cases g4 : j < m.length
      · -- yes
        refine ow_guard_yes rfl rfl rfl ?_
        refine ow_val ((val_lss_int rfl rfl).to (congrArg Value.bool (decide_eq_true (by omega)))) rfl ?_   -- 78
        refine ow_guard_yes rfl rfl rfl ?_
        refine ow_val (val_move rfl) rfl ?_   -- 79
        refine ow_guard_yes rfl rfl rfl ?_
        refine ow_val (val_move rfl) rfl ?_   -- 80
        refine ow_guard_yes rfl rfl rfl ?_
        refine ow_val (val_move rfl) rfl ?_   -- 81
        refine ow_guard_yes rfl rfl rfl ?_
        refine ow_val (val_move rfl) rfl ?_   -- 82
        refine ow_guard_yes rfl rfl rfl ?_
        refine ow_val (val_move rfl) rfl ?_   -- 83
        refine ow_guard_yes rfl rfl rfl ?_
        obtain ⟨bb, ob, rfl⟩ := hr2.addr (by rw [flatMap_size m (n := 2) (fun _ _ => rfl)]; omega)
        obtain ⟨⟨K2, z2⟩, hd2⟩ : ∃ o, m.getD j default = o := ⟨_, rfl⟩
        refine ow_val (val_indexAddr_slice j (ob + j * 2) rfl rfl Try.underlying22 Try.sizeOf32 (by omega) (by omega) (by omega)) rfl ?_
        refine ow_guard_yes rfl rfl rfl ?_
        refine ow_val ((val_load_elem (cells := (fun o : Int × Int => [vInt o.1, vInt o.2])) (l := m) (o := ob) (i := j) rfl Try.isAgg32 Try.sizeOf32 (fun _ _ => rfl) (by omega) (by omega) (fun w' hm => hr2.mem hm)).to (v' := .agg #[vInt K2, vInt z2]) (by rw [hd2])) rfl ?_   -- 85
        refine ow_guard_yes rfl rfl rfl ?_
        refine ow_sub (M' := Mem w [] (L2 ++ L1')) (fun w hm => hm.perm List.perm_append_comm) ?_
        refine ow_call_frame (fun _ => .bool true) (fun L => L) (fun L => Pr (.pointer none) (.pointer none) (j + 1) L) L2 L1' (callsTo Try.func11 rfl (by kernel_rfl) rfl) rfl (fun w hm hm2 => one_pr w hP2 (by omega) hm2 K2 z2) ?_
        rintro L2' hP2'
        refine ow_sub (M' := Mem w [] (L1' ++ L2')) (fun w hm => hm.perm List.perm_append_comm) ?_
        refine ow_guard_yes rfl rfl rfl ?_
        refine ow_val (val_not rfl) rfl ?_   -- 87
        refine ow_guard_yes rfl rfl rfl ?_
        refine ow_val (val_pick_true rfl rfl) rfl ?_   -- 88
        refine ow_val (val_pick_false rfl rfl) rfl ?_   -- 89
        refine ow_nil (into ?_)
        refine sw_false rfl rfl ?_
        refine sw_skip (into ?_)
        refine sw_region ?_
        refine ow_val (val_move rfl) rfl ?_   -- 58
        refine ow_val (val_add_int ((j + 1 : Nat) : Int) rfl rfl (by omega) (by omega)) rfl ?_   -- 59
        refine ow_val (val_assign rfl) rfl ?_   -- 17
        exact ow_nil (fun w hm => ⟨(j + 1, L1', L2'), ⟨by dsimp only; omega, hP1', hP2'⟩, by dsimp only; omega, ⟨rfl, rfl, rfl, rfl, rfl, rfl, rfl, rfl⟩, hm⟩)
      · -- no
        refine ow_guard_yes rfl rfl rfl ?_
        refine ow_val ((val_lss_int rfl rfl).to (congrArg Value.bool (decide_eq_false (by omega)))) rfl ?_   -- 78
        refine ow_guard_yes rfl rfl rfl ?_
        refine ow_val (val_move rfl) rfl ?_   -- 79
        first | refine ow_guard_no rfl rfl rfl rfl rfl ?_ | refine ow_guard_none rfl rfl rfl rfl rfl ?_
        first | refine ow_guard_no rfl rfl rfl rfl rfl ?_ | refine ow_guard_none rfl rfl rfl rfl rfl ?_
        first | refine ow_guard_no rfl rfl rfl rfl rfl ?_ | refine ow_guard_none rfl rfl rfl rfl rfl ?_
        first | refine ow_guard_no rfl rfl rfl rfl rfl ?_ | refine ow_guard_none rfl rfl rfl rfl rfl ?_
        first | refine ow_guard_no rfl rfl rfl rfl rfl ?_ | refine ow_guard_none rfl rfl rfl rfl rfl ?_
        first | refine ow_guard_no rfl rfl rfl rfl rfl ?_ | refine ow_guard_none rfl rfl rfl rfl rfl ?_
        first | refine ow_guard_no rfl rfl rfl rfl rfl ?_ | refine ow_guard_none rfl rfl rfl rfl rfl ?_
        first | refine ow_guard_no rfl rfl rfl rfl rfl ?_ | refine ow_guard_none rfl rfl rfl rfl rfl ?_
        refine ow_guard_yes rfl rfl rfl ?_
        refine ow_val (val_pick_false rfl rfl) rfl ?_   -- 88
        refine ow_val (val_pick_false rfl rfl) rfl ?_   -- 89
        refine ow_nil (into ?_)
        refine sw_false rfl rfl ?_
        refine sw_skip (into ?_)
        refine sw_region ?_
        refine ow_val (val_move rfl) rfl ?_   -- 58
        refine ow_val (val_add_int ((j + 1 : Nat) : Int) rfl rfl (by omega) (by omega)) rfl ?_   -- 59
        refine ow_val (val_assign rfl) rfl ?_   -- 17
        exact ow_nil (fun w hm => ⟨(j + 1, L1', L2), ⟨by dsimp only; omega, hP1', hP2.mono (Nat.le_succ _)⟩, by dsimp only; omega, ⟨rfl, rfl, rfl, rfl, rfl, rfl, rfl, rfl⟩, hm⟩)
    · -- no
      refine ow_val ((val_lss_int rfl rfl).to (congrArg Value.bool (decide_eq_false (by omega)))) rfl ?_   -- 63
      refine ow_val (val_move rfl) rfl ?_   -- 64
      first | refine ow_guard_no rfl rfl rfl rfl rfl ?_ | refine ow_guard_none rfl rfl rfl rfl rfl ?_
      first | refine ow_guard_no rfl rfl rfl rfl rfl ?_ | refine ow_guard_none rfl rfl rfl rfl rfl ?_
      first | refine ow_guard_no rfl rfl rfl rfl rfl ?_ | refine ow_guard_none rfl rfl rfl rfl rfl ?_
      first | refine ow_guard_no rfl rfl rfl rfl rfl ?_ | refine ow_guard_none rfl rfl rfl rfl rfl ?_
      first | refine ow_guard_no rfl rfl rfl rfl rfl ?_ | refine ow_guard_none rfl rfl rfl rfl rfl ?_
      first | refine ow_guard_no rfl rfl rfl rfl rfl ?_ | refine ow_guard_none rfl rfl rfl rfl rfl ?_
      first | refine ow_guard_no rfl rfl rfl rfl rfl ?_ | refine ow_guard_none rfl rfl rfl rfl rfl ?_
      first | refine ow_guard_no rfl rfl rfl rfl rfl ?_ | refine ow_guard_none rfl rfl rfl rfl rfl ?_
      refine ow_val (val_pick_false rfl rfl) rfl ?_   -- 73
      refine ow_val (val_move rfl) rfl ?_   -- 74
      refine ow_guard_yes rfl rfl rfl ?_
      refine ow_val (val_move rfl) rfl ?_   -- 75
      refine ow_guard_yes rfl rfl rfl ?_
      refine ow_val (val_move rfl) rfl ?_   -- 76
      refine ow_guard_yes rfl rfl rfl ?_
      refine ow_val (val_len rfl Try.underlying22) rfl ?_   -- 77
      by_cases g4 : j < m.length
      · -- yes
        refine ow_guard_yes rfl rfl rfl ?_
        refine ow_val ((val_lss_int rfl rfl).to (congrArg Value.bool (decide_eq_true (by omega)))) rfl ?_   -- 78
        refine ow_guard_yes rfl rfl rfl ?_
        refine ow_val (val_move rfl) rfl ?_   -- 79
        refine ow_guard_yes rfl rfl rfl ?_
        refine ow_val (val_move rfl) rfl ?_   -- 80
        refine ow_guard_yes rfl rfl rfl ?_
        refine ow_val (val_move rfl) rfl ?_   -- 81
        refine ow_guard_yes rfl rfl rfl ?_
        refine ow_val (val_move rfl) rfl ?_   -- 82
        refine ow_guard_yes rfl rfl rfl ?_
        refine ow_val (val_move rfl) rfl ?_   -- 83
        refine ow_guard_yes rfl rfl rfl ?_
        obtain ⟨bb, ob, rfl⟩ := hr2.addr (by rw [flatMap_size m (n := 2) (fun _ _ => rfl)]; omega)
        obtain ⟨⟨K2, z2⟩, hd2⟩ : ∃ o, m.getD j default = o := ⟨_, rfl⟩
        refine ow_val (val_indexAddr_slice j (ob + j * 2) rfl rfl Try.underlying22 Try.sizeOf32 (by omega) (by omega) (by omega)) rfl ?_
        refine ow_guard_yes rfl rfl rfl ?_
        refine ow_val ((val_load_elem (cells := (fun o : Int × Int => [vInt o.1, vInt o.2])) (l := m) (o := ob) (i := j) rfl Try.isAgg32 Try.sizeOf32 (fun _ _ => rfl) (by omega) (by omega) (fun w' hm => hr2.mem hm)).to (v' := .agg #[vInt K2, vInt z2]) (by rw [hd2])) rfl ?_   -- 85
        refine ow_guard_yes rfl rfl rfl ?_
        refine ow_sub (M' := Mem w [] (L2 ++ L1)) (fun w hm => hm.perm List.perm_append_comm) ?_
        refine ow_call_frame (fun _ => .bool true) (fun L => L) (fun L => Pr (.pointer none) (.pointer none) (j + 1) L) L2 L1 (callsTo Try.func11 rfl (by kernel_rfl) rfl) rfl (fun w hm hm2 => one_pr w hP2 (by omega) hm2 K2 z2) ?_
        rintro L2' hP2'
        refine ow_sub (M' := Mem w [] (L1 ++ L2')) (fun w hm => hm.perm List.perm_append_comm) ?_
        refine ow_guard_yes rfl rfl rfl ?_
        refine ow_val (val_not rfl) rfl ?_   -- 87
        refine ow_guard_yes rfl rfl rfl ?_
        refine ow_val (val_pick_true rfl rfl) rfl ?_   -- 88
        refine ow_val (val_pick_false rfl rfl) rfl ?_   -- 89
        refine ow_nil (into ?_)
        refine sw_false rfl rfl ?_
        refine sw_skip (into ?_)
        refine sw_region ?_
        refine ow_val (val_move rfl) rfl ?_   -- 58
        refine ow_val (val_add_int ((j + 1 : Nat) : Int) rfl rfl (by omega) (by omega)) rfl ?_   -- 59
        refine ow_val (val_assign rfl) rfl ?_   -- 17
        exact ow_nil (fun w hm => ⟨(j + 1, L1, L2'), ⟨by dsimp only; omega, hP1.mono (Nat.le_succ _), hP2'⟩, by dsimp only; omega, ⟨rfl, rfl, rfl, rfl, rfl, rfl, rfl, rfl⟩, hm⟩)
      · -- no
        refine ow_guard_yes rfl rfl rfl ?_
        refine ow_val ((val_lss_int rfl rfl).to (congrArg Value.bool (decide_eq_false (by omega)))) rfl ?_   -- 78
        refine ow_guard_yes rfl rfl rfl ?_
        refine ow_val (val_move rfl) rfl ?_   -- 79
        first | refine ow_guard_no rfl rfl rfl rfl rfl ?_ | refine ow_guard_none rfl rfl rfl rfl rfl ?_
        first | refine ow_guard_no rfl rfl rfl rfl rfl ?_ | refine ow_guard_none rfl rfl rfl rfl rfl ?_
        first | refine ow_guard_no rfl rfl rfl rfl rfl ?_ | refine ow_guard_none rfl rfl rfl rfl rfl ?_
        first | refine ow_guard_no rfl rfl rfl rfl rfl ?_ | refine ow_guard_none rfl rfl rfl rfl rfl ?_
        first | refine ow_guard_no rfl rfl rfl rfl rfl ?_ | refine ow_guard_none rfl rfl rfl rfl rfl ?_
        first | refine ow_guard_no rfl rfl rfl rfl rfl ?_ | refine ow_guard_none rfl rfl rfl rfl rfl ?_
        first | refine ow_guard_no rfl rfl rfl rfl rfl ?_ | refine ow_guard_none rfl rfl rfl rfl rfl ?_
        first | refine ow_guard_no rfl rfl rfl rfl rfl ?_ | refine ow_guard_none rfl rfl rfl rfl rfl ?_
        refine ow_guard_yes rfl rfl rfl ?_
        refine ow_val (val_pick_false rfl rfl) rfl ?_   -- 88
        refine ow_val (val_pick_false rfl rfl) rfl ?_   -- 89
        refine ow_nil (into ?_)
        refine sw_false rfl rfl ?_
        refine sw_skip (into ?_)
        refine sw_region ?_
        refine ow_val (val_move rfl) rfl ?_   -- 58
        refine ow_val (val_add_int ((j + 1 : Nat) : Int) rfl rfl (by omega) (by omega)) rfl ?_   -- 59
        refine ow_val (val_assign rfl) rfl ?_   -- 17
        exact ow_nil (fun w hm => ⟨(j + 1, L1, L2), ⟨by dsimp only; omega, hP1.mono (Nat.le_succ _), hP2.mono (Nat.le_succ _)⟩, by dsimp only; omega, ⟨rfl, rfl, rfl, rfl, rfl, rfl, rfl, rfl⟩, hm⟩)
  · -- no
    refine ow_val ((val_lss_int rfl rfl).to (congrArg Value.bool (decide_eq_false (by omega)))) rfl ?_   -- 51
    refine ow_val (val_move rfl) rfl ?_   -- 52
    refine ow_guard_yes rfl rfl rfl ?_
    refine ow_val (val_move rfl) rfl ?_   -- 53
    refine ow_guard_yes rfl rfl rfl ?_
    refine ow_val (val_move rfl) rfl ?_   -- 54
    refine ow_guard_yes rfl rfl rfl ?_
    refine ow_val (val_len rfl Try.underlying22) rfl ?_   -- 55
    by_cases g2 : j < m.length
    · -- yes
      refine ow_guard_yes rfl rfl rfl ?_
      refine ow_val ((val_lss_int rfl rfl).to (congrArg Value.bool (decide_eq_true (by omega)))) rfl ?_   -- 56
      refine ow_val (val_pick_false rfl rfl) rfl ?_   -- 57
      refine ow_nil (into ?_)
      refine sw_true rfl rfl ?_
      refine sw_skip (into ?_)
      refine sw_seq ?_
      refine sw_block ?_
      refine sw_seq ?_
      refine sw_region ?_
      refine ow_val (val_move rfl) rfl ?_   -- 60
      refine ow_val (val_move rfl) rfl ?_   -- 61
      refine ow_val (val_len rfl Try.underlying22) rfl ?_   -- 62
      by_cases g3 : j < l.length
      · -- yes
        refine ow_val ((val_lss_int rfl rfl).to (congrArg Value.bool (decide_eq_true (by omega)))) rfl ?_   -- 63
        refine ow_val (val_move rfl) rfl ?_   -- 64
        refine ow_guard_yes rfl rfl rfl ?_
        refine ow_val (val_move rfl) rfl ?_   -- 65
        refine ow_guard_yes rfl rfl rfl ?_
        refine ow_val (val_move rfl) rfl ?_   -- 66
        refine ow_guard_yes rfl rfl rfl ?_
        refine ow_val (val_move rfl) rfl ?_   -- 67
        refine ow_guard_yes rfl rfl rfl ?_
        refine ow_val (val_move rfl) rfl ?_   -- 68
        refine ow_guard_yes rfl rfl rfl ?_
        obtain ⟨ba, oa, rfl⟩ := hr.addr (by rw [flatMap_size l (n := 2) (fun _ _ => rfl)]; omega)
        obtain ⟨⟨K1, z1⟩, hd1⟩ : ∃ o, l.getD j default = o := ⟨_, rfl⟩
        refine ow_val (val_indexAddr_slice j (oa + j * 2) rfl rfl Try.underlying22 Try.sizeOf32 (by omega) (by omega) (by omega)) rfl ?_
        refine ow_guard_yes rfl rfl rfl ?_
        refine ow_val ((val_load_elem (cells := (fun o : Int × Int => [vInt o.1, vInt o.2])) (l := l) (o := oa) (i := j) rfl Try.isAgg32 Try.sizeOf32 (fun _ _ => rfl) (by omega) (by omega) (fun w' hm => hr.mem hm)).to (v' := .agg #[vInt K1, vInt z1]) (by rw [hd1])) rfl ?_   -- 70
        refine ow_guard_yes rfl rfl rfl ?_
        refine ow_call_frame (fun _ => .bool true) (fun L => L) (fun L => Pr (.pointer none) (.pointer none) (j + 1) L) L1 L2 (callsTo Try.func11 rfl (by kernel_rfl) rfl) rfl (fun w hm hm2 => one_pr w hP1 (by omega) hm2 K1 z1) ?_
        rintro L1' hP1'
        refine ow_guard_yes rfl rfl rfl ?_
        refine ow_val (val_not rfl) rfl ?_   -- 72
        refine ow_val (val_pick_true rfl rfl) rfl ?_   -- 73
        refine ow_val (val_move rfl) rfl ?_   -- 74
        refine ow_guard_yes rfl rfl rfl ?_
        refine ow_val (val_move rfl) rfl ?_   -- 75
        refine ow_guard_yes rfl rfl rfl ?_
        refine ow_val (val_move rfl) rfl ?_   -- 76
        refine ow_guard_yes rfl rfl rfl ?_
        refine ow_val (val_len rfl Try.underlying22) rfl ?_   -- 77
        by_cases g4 : j < m.length
        · -- yes
          refine ow_guard_yes rfl rfl rfl ?_
          refine ow_val ((val_lss_int rfl rfl).to (congrArg Value.bool (decide_eq_true (by omega)))) rfl ?_   -- 78
          refine ow_guard_yes rfl rfl rfl ?_
          refine ow_val (val_move rfl) rfl ?_   -- 79
          refine ow_guard_yes rfl rfl rfl ?_
          refine ow_val (val_move rfl) rfl ?_   -- 80
          refine ow_guard_yes rfl rfl rfl ?_
          refine ow_val (val_move rfl) rfl ?_   -- 81
          refine ow_guard_yes rfl rfl rfl ?_
          refine ow_val (val_move rfl) rfl ?_   -- 82
          refine ow_guard_yes rfl rfl rfl ?_
          refine ow_val (val_move rfl) rfl ?_   -- 83
          refine ow_guard_yes rfl rfl rfl ?_
          obtain ⟨bb, ob, rfl⟩ := hr2.addr (by rw [flatMap_size m (n := 2) (fun _ _ => rfl)]; omega)
          obtain ⟨⟨K2, z2⟩, hd2⟩ : ∃ o, m.getD j default = o := ⟨_, rfl⟩
          refine ow_val (val_indexAddr_slice j (ob + j * 2) rfl rfl Try.underlying22 Try.sizeOf32 (by omega) (by omega) (by omega)) rfl ?_
          refine ow_guard_yes rfl rfl rfl ?_
          refine ow_val ((val_load_elem (cells := (fun o : Int × Int => [vInt o.1, vInt o.2])) (l := m) (o := ob) (i := j) rfl Try.isAgg32 Try.sizeOf32 (fun _ _ => rfl) (by omega) (by omega) (fun w' hm => hr2.mem hm)).to (v' := .agg #[vInt K2, vInt z2]) (by rw [hd2])) rfl ?_   -- 85
          refine ow_guard_yes rfl rfl rfl ?_
          refine ow_sub (M' := Mem w [] (L2 ++ L1')) (fun w hm => hm.perm List.perm_append_comm) ?_
          refine ow_call_frame (fun _ => .bool true) (fun L => L) (fun L => Pr (.pointer none) (.pointer none) (j + 1) L) L2 L1' (callsTo Try.func11 rfl (by kernel_rfl) rfl) rfl (fun w hm hm2 => one_pr w hP2 (by omega) hm2 K2 z2) ?_
          rintro L2' hP2'
          refine ow_sub (M' := Mem w [] (L1' ++ L2')) (fun w hm => hm.perm List.perm_append_comm) ?_
          refine ow_guard_yes rfl rfl rfl ?_
          refine ow_val (val_not rfl) rfl ?_   -- 87
          refine ow_guard_yes rfl rfl rfl ?_
          refine ow_val (val_pick_true rfl rfl) rfl ?_   -- 88
          refine ow_val (val_pick_false rfl rfl) rfl ?_   -- 89
          refine ow_nil (into ?_)
          refine sw_false rfl rfl ?_
          refine sw_skip (into ?_)
          refine sw_region ?_
          refine ow_val (val_move rfl) rfl ?_   -- 58
          refine ow_val (val_add_int ((j + 1 : Nat) : Int) rfl rfl (by omega) (by omega)) rfl ?_   -- 59
          refine ow_val (val_assign rfl) rfl ?_   -- 17
          exact ow_nil (fun w hm => ⟨(j + 1, L1', L2'), ⟨by dsimp only; omega, hP1', hP2'⟩, by dsimp only; omega, ⟨rfl, rfl, rfl, rfl, rfl, rfl, rfl, rfl⟩, hm⟩)
        · -- no
          refine ow_guard_yes rfl rfl rfl ?_
          refine ow_val ((val_lss_int rfl rfl).to (congrArg Value.bool (decide_eq_false (by omega)))) rfl ?_   -- 78
          refine ow_guard_yes rfl rfl rfl ?_
          refine ow_val (val_move rfl) rfl ?_   -- 79
          first | refine ow_guard_no rfl rfl rfl rfl rfl ?_ | refine ow_guard_none rfl rfl rfl rfl rfl ?_
          first | refine ow_guard_no rfl rfl rfl rfl rfl ?_ | refine ow_guard_none rfl rfl rfl rfl rfl ?_
          first | refine ow_guard_no rfl rfl rfl rfl rfl ?_ | refine ow_guard_none rfl rfl rfl rfl rfl ?_
          first | refine ow_guard_no rfl rfl rfl rfl rfl ?_ | refine ow_guard_none rfl rfl rfl rfl rfl ?_
          first | refine ow_guard_no rfl rfl rfl rfl rfl ?_ | refine ow_guard_none rfl rfl rfl rfl rfl ?_
          first | refine ow_guard_no rfl rfl rfl rfl rfl ?_ | refine ow_guard_none rfl rfl rfl rfl rfl ?_
          first | refine ow_guard_no rfl rfl rfl rfl rfl ?_ | refine ow_guard_none rfl rfl rfl rfl rfl ?_
          first | refine ow_guard_no rfl rfl rfl rfl rfl ?_ | refine ow_guard_none rfl rfl rfl rfl rfl ?_
          refine ow_guard_yes rfl rfl rfl ?_
          refine ow_val (val_pick_false rfl rfl) rfl ?_   -- 88
          refine ow_val (val_pick_false rfl rfl) rfl ?_   -- 89
          refine ow_nil (into ?_)
          refine sw_false rfl rfl ?_
          refine sw_skip (into ?_)
          refine sw_region ?_
          refine ow_val (val_move rfl) rfl ?_   -- 58
          refine ow_val (val_add_int ((j + 1 : Nat) : Int) rfl rfl (by omega) (by omega)) rfl ?_   -- 59
          refine ow_val (val_assign rfl) rfl ?_   -- 17
          exact ow_nil (fun w hm => ⟨(j + 1, L1', L2), ⟨by dsimp only; omega, hP1', hP2.mono (Nat.le_succ _)⟩, by dsimp only; omega, ⟨rfl, rfl, rfl, rfl, rfl, rfl, rfl, rfl⟩, hm⟩)
      · -- no
        refine ow_val ((val_lss_int rfl rfl).to (congrArg Value.bool (decide_eq_false (by omega)))) rfl ?_   -- 63
        refine ow_val (val_move rfl) rfl ?_   -- 64
        first | refine ow_guard_no rfl rfl rfl rfl rfl ?_ | refine ow_guard_none rfl rfl rfl rfl rfl ?_
        first | refine ow_guard_no rfl rfl rfl rfl rfl ?_ | refine ow_guard_none rfl rfl rfl rfl rfl ?_
        first | refine ow_guard_no rfl rfl rfl rfl rfl ?_ | refine ow_guard_none rfl rfl rfl rfl rfl ?_
        first | refine ow_guard_no rfl rfl rfl rfl rfl ?_ | refine ow_guard_none rfl rfl rfl rfl rfl ?_
        first | refine ow_guard_no rfl rfl rfl rfl rfl ?_ | refine ow_guard_none rfl rfl rfl rfl rfl ?_
        first | refine ow_guard_no rfl rfl rfl rfl rfl ?_ | refine ow_guard_none rfl rfl rfl rfl rfl ?_
        first | refine ow_guard_no rfl rfl rfl rfl rfl ?_ | refine ow_guard_none rfl rfl rfl rfl rfl ?_
        first | refine ow_guard_no rfl rfl rfl rfl rfl ?_ | refine ow_guard_none rfl rfl rfl rfl rfl ?_
        refine ow_val (val_pick_false rfl rfl) rfl ?_   -- 73
        refine ow_val (val_move rfl) rfl ?_   -- 74
        refine ow_guard_yes rfl rfl rfl ?_
        refine ow_val (val_move rfl) rfl ?_   -- 75
        refine ow_guard_yes rfl rfl rfl ?_
        refine ow_val (val_move rfl) rfl ?_   -- 76
        refine ow_guard_yes rfl rfl rfl ?_
        refine ow_val (val_len rfl Try.underlying22) rfl ?_   -- 77
        by_cases g4 : j < m.length
        · -- yes
          refine ow_guard_yes rfl rfl rfl ?_
          refine ow_val ((val_lss_int rfl rfl).to (congrArg Value.bool (decide_eq_true (by omega)))) rfl ?_   -- 78
          refine ow_guard_yes rfl rfl rfl ?_
          refine ow_val (val_move rfl) rfl ?_   -- 79
          refine ow_guard_yes rfl rfl rfl ?_
          refine ow_val (val_move rfl) rfl ?_   -- 80
          refine ow_guard_yes rfl rfl rfl ?_
          refine ow_val (val_move rfl) rfl ?_   -- 81
          refine ow_guard_yes rfl rfl rfl ?_
          refine ow_val (val_move rfl) rfl ?_   -- 82
          refine ow_guard_yes rfl rfl rfl ?_
          refine ow_val (val_move rfl) rfl ?_   -- 83
          refine ow_guard_yes rfl rfl rfl ?_
          obtain ⟨bb, ob, rfl⟩ := hr2.addr (by rw [flatMap_size m (n := 2) (fun _ _ => rfl)]; omega)
          obtain ⟨⟨K2, z2⟩, hd2⟩ : ∃ o, m.getD j default = o := ⟨_, rfl⟩
          refine ow_val (val_indexAddr_slice j (ob + j * 2) rfl rfl Try.underlying22 Try.sizeOf32 (by omega) (by omega) (by omega)) rfl ?_
          refine ow_guard_yes rfl rfl rfl ?_
          refine ow_val ((val_load_elem (cells := (fun o : Int × Int => [vInt o.1, vInt o.2])) (l := m) (o := ob) (i := j) rfl Try.isAgg32 Try.sizeOf32 (fun _ _ => rfl) (by omega) (by omega) (fun w' hm => hr2.mem hm)).to (v' := .agg #[vInt K2, vInt z2]) (by rw [hd2])) rfl ?_   -- 85
          refine ow_guard_yes rfl rfl rfl ?_
          refine ow_sub (M' := Mem w [] (L2 ++ L1)) (fun w hm => hm.perm List.perm_append_comm) ?_
          refine ow_call_frame (fun _ => .bool true) (fun L => L) (fun L => Pr (.pointer none) (.pointer none) (j + 1) L) L2 L1 (callsTo Try.func11 rfl (by kernel_rfl) rfl) rfl (fun w hm hm2 => one_pr w hP2 (by omega) hm2 K2 z2) ?_
          rintro L2' hP2'
          refine ow_sub (M' := Mem w [] (L1 ++ L2')) (fun w hm => hm.perm List.perm_append_comm) ?_
          refine ow_guard_yes rfl rfl rfl ?_
          refine ow_val (val_not rfl) rfl ?_   -- 87
          refine ow_guard_yes rfl rfl rfl ?_
          refine ow_val (val_pick_true rfl rfl) rfl ?_   -- 88
          refine ow_val (val_pick_false rfl rfl) rfl ?_   -- 89
          refine ow_nil (into ?_)
          refine sw_false rfl rfl ?_
          refine sw_skip (into ?_)
          refine sw_region ?_
          refine ow_val (val_move rfl) rfl ?_   -- 58
          refine ow_val (val_add_int ((j + 1 : Nat) : Int) rfl rfl (by omega) (by omega)) rfl ?_   -- 59
          refine ow_val (val_assign rfl) rfl ?_   -- 17
          exact ow_nil (fun w hm => ⟨(j + 1, L1, L2'), ⟨by dsimp only; omega, hP1.mono (Nat.le_succ _), hP2'⟩, by dsimp only; omega, ⟨rfl, rfl, rfl, rfl, rfl, rfl, rfl, rfl⟩, hm⟩)
        · -- no
          refine ow_guard_yes rfl rfl rfl ?_
          refine ow_val ((val_lss_int rfl rfl).to (congrArg Value.bool (decide_eq_false (by omega)))) rfl ?_   -- 78
          refine ow_guard_yes rfl rfl rfl ?_
          refine ow_val (val_move rfl) rfl ?_   -- 79
          first | refine ow_guard_no rfl rfl rfl rfl rfl ?_ | refine ow_guard_none rfl rfl rfl rfl rfl ?_
          first | refine ow_guard_no rfl rfl rfl rfl rfl ?_ | refine ow_guard_none rfl rfl rfl rfl rfl ?_
          first | refine ow_guard_no rfl rfl rfl rfl rfl ?_ | refine ow_guard_none rfl rfl rfl rfl rfl ?_
          first | refine ow_guard_no rfl rfl rfl rfl rfl ?_ | refine ow_guard_none rfl rfl rfl rfl rfl ?_
          first | refine ow_guard_no rfl rfl rfl rfl rfl ?_ | refine ow_guard_none rfl rfl rfl rfl rfl ?_
          first | refine ow_guard_no rfl rfl rfl rfl rfl ?_ | refine ow_guard_none rfl rfl rfl rfl rfl ?_
          first | refine ow_guard_no rfl rfl rfl rfl rfl ?_ | refine ow_guard_none rfl rfl rfl rfl rfl ?_
          first | refine ow_guard_no rfl rfl rfl rfl rfl ?_ | refine ow_guard_none rfl rfl rfl rfl rfl ?_
          refine ow_guard_yes rfl rfl rfl ?_
          refine ow_val (val_pick_false rfl rfl) rfl ?_   -- 88
          refine ow_val (val_pick_false rfl rfl) rfl ?_   -- 89
          refine ow_nil (into ?_)
          refine sw_false rfl rfl ?_
          refine sw_skip (into ?_)
          refine sw_region ?_
          refine ow_val (val_move rfl) rfl ?_   -- 58
          refine ow_val (val_add_int ((j + 1 : Nat) : Int) rfl rfl (by omega) (by omega)) rfl ?_   -- 59
          refine ow_val (val_assign rfl) rfl ?_   -- 17
          exact ow_nil (fun w hm => ⟨(j + 1, L1, L2), ⟨by dsimp only; omega, hP1.mono (Nat.le_succ _), hP2.mono (Nat.le_succ _)⟩, by dsimp only; omega, ⟨rfl, rfl, rfl, rfl, rfl, rfl, rfl, rfl⟩, hm⟩)
    · -- no
      refine ow_guard_yes rfl rfl rfl ?_
      refine ow_val ((val_lss_int rfl rfl).to (congrArg Value.bool (decide_eq_false (by omega)))) rfl ?_   -- 56
      refine ow_val (val_pick_false rfl rfl) rfl ?_   -- 57
      refine ow_nil (into ?_)
      refine sw_false rfl rfl ?_
      refine sw_exit (into ?_)
      refine sw_seq ?_
      refine sw_region ?_
      refine ow_val (val_assign rfl) rfl ?_   -- 8
      refine ow_nil (into ?_)
      refine sw_ret (fun w hm => ?_)
      try dsimp only [thenP, blockP, Nat.beq, cond]
      exact ret_one _ rfl rfl ⟨rfl, hm.forgetAll⟩

theorem queueTwo_any (pa pb : Int) (w : World) (a : Option Addr) (c : Nat) (l : List (Int × Int)) (hr : Rd w a (l.flatMap (fun o : Int × Int => [vInt o.1, vInt o.2]))) (hc : l.length ≤ c) (hb : l.length * 16 ≤ 140737488351232) (a2 : Option Addr) (c2 : Nat) (m : List (Int × Int)) (hr2 : Rd w a2 (m.flatMap (fun o : Int × Int => [vInt o.1, vInt o.2]))) (hc2 : m.length ≤ c2) (hb2 : m.length * 16 ≤ 140737488351232) : Calls Try.prog 4 #[vInt pa, vInt pb, .slice a l.length c, .slice a2 m.length c2] w fun e w' => ∃ v, e = .returned v ∧ v = .bool true ∧ Mem w [] [] w' := by
  by_cases hwa : 1 ≤ pa ∧ pa ≤ 64
  · by_cases hwb : 1 ≤ pb ∧ pb ≤ 64
    · exact two_yy pa pb w a c l hr hc hb a2 c2 m hr2 hc2 hb2 hwa hwb
    · exact two_yn pa pb w a c l hr hc hb a2 c2 m hr2 hc2 hb2 hwa hwb
  · by_cases hwb : 1 ≤ pb ∧ pb ≤ 64
    · exact two_ny pa pb w a c l hr hc hb a2 c2 m hr2 hc2 hb2 hwa hwb
    · exact two_nn pa pb w a c l hr hc hb a2 c2 m hr2 hc2 hb2 hwa hwb
end Go.Proofs.Ytigogbodobifdaa
