import Derived.Test.YtcdponddgnkecaaDoorMp1
import Derived.Test.YtcdponddgnkecaaDoorRf10
import Derived.Test.YtcdponddgnkecaaDoorPMck
import Derived.Test.YtcdponddgnkecaaDoorProg
set_option linter.unusedVariables false
set_option linter.unusedSimpArgs false
namespace Go.Proofs.YtcdponddgnkecaaDoor
open Go.Sx Go.Ps
theorem upL_all {k : Nat} (h1 : 1 ≤ k) (h2 : k ≤ 32) : ∀ l : List (List UInt8), (∀ d ∈ l, d.length = 32) → (∀ d ∈ l, fm (k : Int) d = true) → (∀ d ∈ upL k l, d.length = 32) ∧ ∀ d ∈ upL k l, fm (k : Int) d = true
  | [], h, h' => by simp [upL]
  | [a], h, h' => by simpa [upL] using And.intro (h a (by simp)) (h' a (by simp))
  | a :: b :: r, h, h' => by
    have ih := upL_all h1 h2 r (fun d hd => h d (by simp [hd])) (fun d hd => h' d (by simp [hd]))
    rw [upL]
    exact ⟨fun d hd => (List.mem_cons.1 hd).elim (fun e => by rw [e]; exact nd_len _ _ _ h2) (ih.1 d), fun d hd => (List.mem_cons.1 hd).elim (fun e => by rw [e]; exact fm_nd h1 h2 _ _) (ih.2 d)⟩
theorem take_succ_getD {L : List (List UInt8)} {i : Nat} (h : i < L.length) : L.take i ++ [L.getD i default] = L.take (i + 1) := by
  rw [List.take_succ_eq_append_getElem h, List.getD_eq_getElem?_getD, List.getElem?_eq_getElem h, Option.getD_some]

theorem up_0 (k : Nat) (h1 : 1 ≤ k) (h2 : k ≤ 32) (w : World) (a : Option Addr) (c : Nat) (l : List (List UInt8)) (hdl : ∀ d ∈ l, d.length = 32) (hfl : ∀ d ∈ l, fm (k : Int) d = true) (hr : Rd w a (l.flatMap fun d => d.map vU8)) (hc : l.length ≤ c) (hb : l.length * 32 ≤ 140737488351232) : Calls Tryd.prog 77 #[vInt (k : Int), .slice a l.length c] w fun e w2 => ∃ v, e = .returned v ∧ ∃ e', RowE v 41 32 (upL k l).length ((upL k l).flatMap fun d => d.map vU8) e' ∧ Mem w [] [e'] w2 := by
  have hul := upL_len k l
  have hua := upL_all h1 h2 l hdl hfl
  obtain ⟨tiD, hDi, hDz, hDsz, hDby⟩ := info_parts iDg
  refine calls_of_sw (vs := [vInt (k : Int), .slice a l.length c]) Tryd.func77 rfl Tryd.ntmps77 rfl (SW.begin ?_)
  refine sw_seq ?_
  refine sw_region ?_
  refine ow_val (val_assign rfl) rfl ?_
  refine ow_nil (into ?_)
  refine sw_seq ?_
  refine sw_region ?_
  refine ow_val (val_assign rfl) rfl ?_
  refine ow_nil (into ?_)
  refine sw_seq ?_
  refine sw_seq ?_
  refine sw_region ?_
  refine ow_val (val_assign rfl) rfl ?_
  refine ow_nil (into ?_)
  refine sw_block ?_
  refine sw_loop (σ := Nat × Option Addr × Nat × Ent) (fun t => t.1 ≤ (l.length + 1) / 2 ∧ RowE (.slice t.2.1 t.1 t.2.2.1) 41 32 t.1 (((upL k l).take t.1).flatMap fun d => d.map vU8) t.2.2.2) (fun t => [(6, vInt ((2 * t.1 : Nat) : Int)), (5, .slice t.2.1 t.1 t.2.2.1), (0, vInt (k : Int)), (1, .slice a l.length c)]) (fun t => Mem w [] [t.2.2.2]) (fun t => l.length + 1 - t.1) (0, none, 0, none) ⟨Nat.zero_le _, RowE.nil _ _⟩ ⟨rfl, rfl, rfl, rfl, trivial⟩ (fun w hm => hm.place) ?_
  rintro ⟨j, a5, c5, e5⟩ ⟨hj, hrow⟩
  simp only at hj hrow ⊢
  have hjt : ((upL k l).take j).length = j := by rw [List.length_take, hul]; omega
  refine sw_seq ?_
  refine sw_seq ?_
  refine sw_region ?_
  refine ow_val (val_move rfl) rfl ?_
  refine ow_val (val_move rfl) rfl ?_
  refine ow_val (val_len rfl Tryd.underlying22) rfl ?_
  refine ow_val (val_lss_int rfl rfl) rfl ?_
  refine ow_nil (into ?_)
  refine sw_if rfl (fun h0 => ?_) (fun h0 => ?_)
  · -- then
    obtain ⟨ba, oa, rfl⟩ := hr.addr (by rw [flatMap_size' rfl hdl]; omega)
    have hg0 : (l.getD (2 * j) default).length = 32 := hdl _ (getD_mem (by omega))
    refine sw_skip (into ?_)
    refine sw_seq ?_
    refine sw_block ?_
    refine sw_seq ?_
    refine sw_region ?_
    refine ow_val (val_move rfl) rfl ?_
    refine ow_val (val_add_int ((2 * j + 1 : Nat) : Int) rfl rfl (by omega) (by omega)) rfl ?_
    refine ow_val (val_move rfl) rfl ?_
    refine ow_val (val_len rfl Tryd.underlying22) rfl ?_
    by_cases h2j : 2 * j + 1 < l.length
    · -- yes
      refine ow_val ((val_lss_int rfl rfl).to (congrArg Value.bool (decide_eq_true (by omega)))) rfl ?_
      refine ow_nil (into ?_)
      refine sw_true rfl rfl ?_
      refine sw_region_tree (Mem w [] []) [] (.one 0 0 (.one 1 0 (.one 2 0 (.one 3 0 (.one 4 0 (.one 6 0 (.one 7 0 (.one 8 0 (.one 9 0 (.one 5 1 (.one 10 1 (.one 11 2 (.one 12 2 (.one 13 2 (.one 14 0 .done))))))))))))))) (by kernel_rfl) (by kernel_rfl) (fun _ _ _ h => h) (fun _ h => h.only (List.nil_sublist _)) (fun _ h => h.drawn _) ?_
      refine lt_pure rfl trivial (val_move rfl) rfl ?_
      refine lt_pure rfl trivial (val_move rfl) rfl ?_
      refine lt_pure rfl trivial (val_move rfl) rfl ?_
      refine lt_pure rfl trivial (val_move rfl) rfl ?_
      refine lt_pure rfl trivial (val_indexAddr_slice (2 * j) (oa + (2 * j) * 32) rfl rfl Tryd.underlying22 Tryd.sizeOf41 (by omega) (by omega) (by omega)) rfl ?_
      refine lt_pure rfl trivial (val_move rfl) rfl ?_
      refine lt_pure rfl trivial (val_move rfl) rfl ?_
      refine lt_pure rfl trivial (val_add_int ((2 * j + 1 : Nat) : Int) rfl rfl (by omega) (by omega)) rfl ?_
      refine lt_pure rfl trivial (val_indexAddr_slice (2 * j + 1) (oa + (2 * j + 1) * 32) rfl rfl Tryd.underlying22 Tryd.sizeOf41 (by omega) (by omega) (by omega)) rfl ?_
      refine lt_held rfl trivial (val_load_elem (cells := fun d => d.map vU8) (l := l) (o := oa) (i := 2 * j) rfl Tryd.isAgg41 Tryd.sizeOf41 (fun x hx => by rw [List.length_map]; exact hdl x hx) (by omega) (by omega) (fun w' hm => hr.mem hm)) rfl ?_
      refine lt_held rfl trivial (val_load_elem (cells := fun d => d.map vU8) (l := l) (o := oa) (i := 2 * j + 1) rfl Tryd.isAgg41 Tryd.sizeOf41 (fun x hx => by rw [List.length_map]; exact hdl x hx) (by omega) (by omega) (fun w' hm => hr.mem hm)) rfl ?_
      refine lt_call_pure rfl trivial (callsTo Tryd.func41 rfl (by kernel_rfl) rfl) rfl (fun w hm => rnd_any k h1 h2 ((l.getD (2 * j) default)) ((l.getD (2 * j + 1) default)) hg0 (hdl _ (getD_mem (by omega))) w) (fun _ _ h => h.only (List.nil_sublist _)) ?_
      refine lt_make (fun b => .slice (some ⟨b, 0, none⟩) 1 1) rfl trivial (acts_buildSlice (cs := [((nd k ((l.getD (2 * j) default)) ((l.getD (2 * j + 1) default)))).map vU8].flatten) Tryd.underlying22 Tryd.sizeOf41 zD rfl rfl (fill_aggs [((nd k ((l.getD (2 * j) default)) ((l.getD (2 * j + 1) default)))).map vU8] (by decide) rfl (by simp only [List.forall_mem_cons, List.length_map]; exact ⟨(nd_len _ _ _ h2), fun _ h => by cases h⟩))) rfl (fun _ _ _ h => h.only (List.nil_sublist _)) (fun b30 hb30 => ?_)
      refine lt_append (k := j + 1) (xs := (((upL k l).take j) ++ [(nd k ((l.getD (2 * j) default)) ((l.getD (2 * j + 1) default)))]).flatMap fun d => d.map vU8) rfl trivial (acts_row (acts_append (size := 32) (bytes := 32) 1 rfl rfl rfl hrow rfl Tryd.underlying22 hDi hDz hDsz hDby rfl (by decide) (fun w hm => (Rd.blk (hm.at (i := 0) rfl))) (by simp only [List.flatten_cons, List.flatten_nil, List.append_nil, List.length_append, List.length_map, (nd_len _ _ _ h2)]) (fun u hu => by simp only [List.flatten_cons, List.flatten_nil, List.append_nil, List.mem_append] at hu; rcases hu with hu <;> exact one_u8s _ u hu) (by omega) (by omega)) rfl (by simp only [List.flatMap_append, List.flatMap_cons, List.flatMap_nil, List.flatten_cons, List.flatten_nil, List.nil_append, List.append_nil])) rfl (fun _ _ _ h => h.only (List.nil_sublist _)) (fun a31 c31 e31 hr31' => ?_)
      have hx31 : (((upL k l).take j) ++ [(nd k ((l.getD (2 * j) default)) ((l.getD (2 * j + 1) default)))]).length = j + 1 := by rw [List.length_append, hjt] <;> rfl
      refine lt_pure rfl trivial (val_assign rfl) rfl ?_
      refine lt_done (into ?_)
      refine sw_region ?_
      refine ow_val (val_move rfl) rfl ?_
      refine ow_val (val_add_int ((2 * (j + 1) : Nat) : Int) rfl rfl (by omega) (by omega)) rfl ?_
      refine ow_val (val_assign rfl) rfl ?_
      exact ow_nil (fun w hm => ⟨(j + 1, a31, c31, e31), ⟨by dsimp only; omega, hr31'.cong rfl rfl (congrArg (fun z : List (List UInt8) => z.flatMap fun d => d.map vU8) (by rw [← take_succ_getD (L := upL k l) (i := j) (by omega), upL_two k l j (by omega)]))⟩, by dsimp only; omega, ⟨rfl, rfl, rfl, rfl, trivial⟩, hm.only (.cons _ (.cons_cons _ (List.nil_sublist _)))⟩)
    · -- no
      refine ow_val ((val_lss_int rfl rfl).to (congrArg Value.bool (decide_eq_false (by omega)))) rfl ?_
      refine ow_nil (into ?_)
      refine sw_false rfl rfl ?_
      refine sw_region ?_
      refine ow_val (val_move rfl) rfl ?_
      refine ow_val (val_move rfl) rfl ?_
      refine ow_val (val_move rfl) rfl ?_
      refine ow_val (val_indexAddr_slice (2 * j) (oa + (2 * j) * 32) rfl rfl Tryd.underlying22 Tryd.sizeOf41 (by omega) (by omega) (by omega)) rfl ?_
      refine ow_val (val_load_elem (cells := fun d => d.map vU8) (l := l) (o := oa) (i := 2 * j) rfl Tryd.isAgg41 Tryd.sizeOf41 (fun x hx => by rw [List.length_map]; exact hdl x hx) (by omega) (by omega) (fun w' hm => hr.mem hm)) rfl ?_
      refine ow_make (acts_buildSlice (cs := [((l.getD (2 * j) default)).map vU8].flatten) Tryd.underlying22 Tryd.sizeOf41 zD rfl rfl (fill_aggs [((l.getD (2 * j) default)).map vU8] (by decide) rfl (by simp only [List.forall_mem_cons, List.length_map]; exact ⟨hg0, fun _ h => by cases h⟩))) rfl (fun b37 hb37 => ?_)
      refine ow_append' (k := j + 1) (xs := (((upL k l).take j) ++ [(l.getD (2 * j) default)]).flatMap fun d => d.map vU8) (acts_row (acts_append (size := 32) (bytes := 32) 1 rfl rfl rfl hrow rfl Tryd.underlying22 hDi hDz hDsz hDby rfl (by decide) (fun w hm => (Rd.blk (hm.at (i := 0) rfl))) (by simp only [List.flatten_cons, List.flatten_nil, List.append_nil, List.length_append, List.length_map, hg0]) (fun u hu => by simp only [List.flatten_cons, List.flatten_nil, List.append_nil, List.mem_append] at hu; rcases hu with hu <;> exact one_u8s _ u hu) (by omega) (by omega)) rfl (by simp only [List.flatMap_append, List.flatMap_cons, List.flatMap_nil, List.flatten_cons, List.flatten_nil, List.nil_append, List.append_nil])) rfl (fun a38 c38 e38 hr38' => ?_)
      have hx38 : (((upL k l).take j) ++ [(l.getD (2 * j) default)]).length = j + 1 := by rw [List.length_append, hjt] <;> rfl
      refine ow_val (val_assign rfl) rfl ?_
      refine ow_nil (into ?_)
      refine sw_region ?_
      refine ow_val (val_move rfl) rfl ?_
      refine ow_val (val_add_int ((2 * (j + 1) : Nat) : Int) rfl rfl (by omega) (by omega)) rfl ?_
      refine ow_val (val_assign rfl) rfl ?_
      exact ow_nil (fun w hm => ⟨(j + 1, a38, c38, e38), ⟨by dsimp only; omega, hr38'.cong rfl rfl (congrArg (fun z : List (List UInt8) => z.flatMap fun d => d.map vU8) (by rw [← take_succ_getD (L := upL k l) (i := j) (by omega), upL_last k l j (by omega)]))⟩, by dsimp only; omega, ⟨rfl, rfl, rfl, rfl, trivial⟩, hm.only (.cons _ (.cons_cons _ (List.nil_sublist _)))⟩)
  · -- else
    obtain rfl : (l.length + 1) / 2 = j := by omega
    rw [List.take_of_length_le (by omega)] at hrow
    refine sw_exit (into ?_)
    refine sw_seq ?_
    refine sw_region ?_
    refine ow_val (val_move rfl) rfl ?_
    refine ow_val (val_assign rfl) rfl ?_
    refine ow_nil (into ?_)
    refine sw_ret (fun w hm => ?_)
    try dsimp only [thenP, blockP, Nat.beq, cond]
    exact ret_one _ rfl rfl ⟨_, hrow.cong rfl hul.symm rfl, hm⟩

theorem up_any (k : Nat) (h1 : 1 ≤ k) (h2 : k ≤ 32) (w : World) (a : Option Addr) (m c : Nat) (l : List (List UInt8)) (hlm : l.length = m) (hdl : ∀ d ∈ l, d.length = 32) (hfl : ∀ d ∈ l, fm (k : Int) d = true) (hr : Rd w a (l.flatMap fun d => d.map vU8)) (hc : m ≤ c) (hb : l.length * 32 ≤ 140737488351232) : Calls Tryd.prog 77 #[vInt (k : Int), .slice a m c] w fun e w2 => ∃ v, e = .returned v ∧ ∃ e', RowE v 41 32 (upL k l).length ((upL k l).flatMap fun d => d.map vU8) e' ∧ Mem w [] [e'] w2 := by
  subst hlm; exact up_0 k h1 h2 w a c l hdl hfl hr hc hb

theorem path_0 (k : Nat) (h1 : 1 ≤ k) (h2 : k ≤ 32) (i : Nat) (w : World) (a : Option Addr) (c : Nat) (l : List (List UInt8)) (hdl : ∀ d ∈ l, d.length = 32) (hfl : ∀ d ∈ l, fm (k : Int) d = true) (hr : Rd w a (l.flatMap fun d => d.map vU8)) (hc : l.length ≤ c) (hb : l.length * 32 ≤ 140737488351232) (hi : i < l.length) : Calls Tryd.prog 47 #[vInt (k : Int), .slice a l.length c, vInt (i : Int)] w fun e w2 => ∃ v, e = .returned v ∧ ∃ e', RowE v 41 32 (incL k l i).length ((incL k l i).flatMap fun d => d.map vU8) e' ∧ Mem w [] [e'] w2 := by
  obtain ⟨tiD, hDi, hDz, hDsz, hDby⟩ := info_parts iDg
  refine calls_of_sw (vs := [vInt (k : Int), .slice a l.length c, vInt (i : Int)]) Tryd.func47 rfl Tryd.ntmps47 rfl (SW.begin ?_)
  refine sw_seq ?_
  refine sw_region ?_
  refine ow_val (val_assign rfl) rfl ?_
  refine ow_nil (into ?_)
  refine sw_seq ?_
  refine sw_region ?_
  refine ow_val (val_assign rfl) rfl ?_
  refine ow_nil (into ?_)
  refine sw_seq ?_
  refine sw_seq ?_
  refine sw_region ?_
  refine ow_val (val_move rfl) rfl ?_
  refine ow_val (val_assign rfl) rfl ?_
  refine ow_nil (into ?_)
  refine sw_block ?_
  refine sw_loop (σ := List (List UInt8) × Option Addr × Nat × Ent × List (List UInt8) × Option Addr × Nat × Ent × Nat) (fun t => RowE (.slice t.2.1 t.1.length t.2.2.1) 41 32 t.1.length (t.1.flatMap fun d => d.map vU8) t.2.2.2.1 ∧ (∀ w', Mem w [] [t.2.2.2.2.2.2.2.1] w' → Rd w' t.2.2.2.2.2.1 (t.2.2.2.2.1.flatMap fun d => d.map vU8)) ∧ (∃ b o, t.2.2.2.2.2.1 = some ⟨b, o, none⟩) ∧ t.2.2.2.2.1.length ≤ t.2.2.2.2.2.2.1 ∧ t.2.2.2.2.1.length ≤ l.length ∧ t.2.2.2.2.2.2.2.2 < t.2.2.2.2.1.length ∧ (∀ d ∈ t.2.2.2.2.1, d.length = 32) ∧ (∀ d ∈ t.2.2.2.2.1, fm (k : Int) d = true) ∧ t.1 ++ incL k t.2.2.2.2.1 t.2.2.2.2.2.2.2.2 = incL k l i) (fun t => [(8, .slice t.2.2.2.2.2.1 t.2.2.2.2.1.length t.2.2.2.2.2.2.1), (7, .slice t.2.1 t.1.length t.2.2.1), (2, vInt (t.2.2.2.2.2.2.2.2 : Int)), (0, vInt (k : Int))]) (fun t => Mem w [] [t.2.2.2.1, t.2.2.2.2.2.2.2.1]) (fun t => t.2.2.2.2.1.length) ([], none, 0, none, l, a, c, none, i) ⟨RowE.nil _ _, fun w' hm => hr.mem hm, hr.addr (by rw [flatMap_size' rfl hdl]; omega), hc, Nat.le_refl _, hi, hdl, hfl, rfl⟩ ⟨rfl, rfl, rfl, rfl, trivial⟩ (fun w hm => hm.place.place) ?_
  rintro ⟨P, a7, c7, e7, L, aL, cL, eL, x⟩ ⟨hrow, hLr, ⟨bL, oL, hLa⟩, hLc, hLn, hx, hLd, hLf, hpq⟩
  simp only at hrow hLr hLa hLc hLn hx hLd hLf hpq ⊢
  subst hLa
  have hPm : ∀ d ∈ P, d.length = 32 ∧ fm (k : Int) d = true := fun d hd => incL_mem h1 h2 _ (Nat.le_refl _) hdl hfl d (by rw [← hpq]; exact List.mem_append_left _ hd)
  have hPd : ∀ d ∈ P, d.length = 32 := fun d hd => (hPm d hd).1
  have hPf : ∀ d ∈ P, fm (k : Int) d = true := fun d hd => (hPm d hd).2
  have hPn : P.length ≤ l.length := by have h7 := incL_len (k := k) _ (l := l) (i := i) (Nat.le_refl _); rw [← hpq, List.length_append] at h7; omega
  refine sw_seq ?_
  refine sw_seq ?_
  refine sw_region ?_
  refine ow_val (val_move rfl) rfl ?_
  refine ow_val (val_len rfl Tryd.underlying22) rfl ?_
  refine ow_val (val_gtr_int rfl rfl) rfl ?_
  refine ow_nil (into ?_)
  refine sw_if rfl (fun h0 => ?_) (fun h0 => ?_)
  · -- then
    refine sw_skip (into ?_)
    refine sw_seq ?_
    refine sw_block ?_
    refine sw_seq ?_
    refine sw_region ?_
    refine ow_val (val_move rfl) rfl ?_
    refine ow_val (val_move rfl) rfl ?_
    refine ow_val (val_rem_nn ((x % 2 : Nat) : Int) rfl rfl (by omega) (by omega) (by omega)) rfl ?_
    refine ow_val (val_sub_int ((x - (x % 2) : Nat) : Int) rfl rfl (by omega) (by omega)) rfl ?_
    refine ow_val (val_add_int ((x - (x % 2) + 1 : Nat) : Int) rfl rfl (by omega) (by omega)) rfl ?_
    refine ow_val (val_move rfl) rfl ?_
    refine ow_val (val_rem_nn ((x % 2 : Nat) : Int) rfl rfl (by omega) (by omega) (by omega)) rfl ?_
    refine ow_val ((val_sub_int ((x - x % 2 + 1 - x % 2 : Nat) : Int) rfl rfl (by omega) (by omega)).to (v' := vInt ((bro x : Nat) : Int)) rfl) rfl ?_
    refine ow_val (val_assign rfl) rfl ?_
    refine ow_nil (into ?_)
    refine sw_seq ?_
    refine sw_seq ?_
    refine sw_region ?_
    refine ow_val (val_move rfl) rfl ?_
    refine ow_val (val_move rfl) rfl ?_
    refine ow_val (val_len rfl Tryd.underlying22) rfl ?_
    by_cases hbr : bro x < L.length
    · -- yes
      have hgb : (L.getD (bro x) default).length = 32 := hLd _ (getD_mem (by omega))
      refine ow_val ((val_lss_int rfl rfl).to (congrArg Value.bool (decide_eq_true (by omega)))) rfl ?_
      refine ow_nil (into ?_)
      refine sw_true rfl rfl ?_
      refine sw_region ?_
      refine ow_val (val_move rfl) rfl ?_
      refine ow_val (val_move rfl) rfl ?_
      refine ow_val (val_move rfl) rfl ?_
      refine ow_val (val_indexAddr_slice (bro x) (oL + (bro x) * 32) rfl rfl Tryd.underlying22 Tryd.sizeOf41 (by omega) (by omega) (by omega)) rfl ?_
      refine ow_val (val_load_elem (cells := fun d => d.map vU8) (l := L) (o := oL) (i := bro x) rfl Tryd.isAgg41 Tryd.sizeOf41 (fun x hx => by rw [List.length_map]; exact hLd x hx) (by omega) (by omega) (fun w' hm => hLr _ (hm.only (.cons _ (.cons_cons _ (List.nil_sublist _)))))) rfl ?_
      refine ow_make (acts_buildSlice (cs := [((L.getD (bro x) default)).map vU8].flatten) Tryd.underlying22 Tryd.sizeOf41 zD rfl rfl (fill_aggs [((L.getD (bro x) default)).map vU8] (by decide) rfl (by simp only [List.forall_mem_cons, List.length_map]; exact ⟨hgb, fun _ h => by cases h⟩))) rfl (fun b34 hb34 => ?_)
      refine ow_append' (k := (P ++ [(L.getD (bro x) default)]).length) (xs := (P ++ [(L.getD (bro x) default)]).flatMap fun d => d.map vU8) (acts_row (acts_append (size := 32) (bytes := 32) 1 rfl rfl rfl hrow rfl Tryd.underlying22 hDi hDz hDsz hDby rfl (by decide) (fun w hm => (Rd.blk (hm.at (i := 0) rfl))) (by simp only [List.flatten_cons, List.flatten_nil, List.append_nil, List.length_append, List.length_map, hgb]) (fun u hu => by simp only [List.flatten_cons, List.flatten_nil, List.append_nil, List.mem_append] at hu; rcases hu with hu <;> exact one_u8s _ u hu) (by omega) (by omega)) (by rw [List.length_append]; rfl) (by simp only [List.flatMap_append, List.flatMap_cons, List.flatMap_nil, List.flatten_cons, List.flatten_nil, List.nil_append, List.append_nil])) rfl (fun a35 c35 e35 hr35' => ?_)
      refine ow_val (val_assign rfl) rfl ?_
      refine ow_nil (into ?_)
      refine sw_region ?_
      refine ow_val (val_move rfl) rfl ?_
      refine ow_val (val_quo_int ((x / 2 : Nat) : Int) rfl rfl (by omega) (by omega) (by omega)) rfl ?_
      refine ow_val (val_assign rfl) rfl ?_
      refine ow_nil (into ?_)
      refine sw_region ?_
      refine ow_val (val_move rfl) rfl ?_
      refine ow_val (val_move rfl) rfl ?_
      refine ow_call_row (E := 41) (size := 32) (k := (upL k L).length) (xs := List.flatMap (fun d : List UInt8 => List.map vU8 d) (upL k L)) (callsTo Tryd.func77 rfl (by kernel_rfl) rfl) rfl (fun w hm => up_any k h1 h2 w (some ⟨bL, oL, none⟩) L.length cL L rfl hLd hLf (hLr _ (hm.only (.cons _ (.cons _ (.cons_cons _ (List.nil_sublist _)))))) hLc (by omega)) (fun a16 c16 e16 hr16 => ?_)
      refine ow_val (val_assign rfl) rfl ?_
      exact ow_nil (fun w hm => ⟨((P ++ [L.getD (bro x) default]), a35, c35, e35, upL k L, a16, c16, e16, x / 2), ⟨hr35', fun w' hm' => hr16.rdAt hm' (i := 0) rfl, rowAddr32 hr16 (by rw [upL_len]; omega), hr16.le, by dsimp only; rw [upL_len]; omega, by dsimp only; rw [upL_len]; omega, (upL_all h1 h2 L hLd hLf).1, (upL_all h1 h2 L hLd hLf).2, (by rw [← hpq, incL_up k _ (Nat.le_refl _) (by omega) hx, fst', if_pos hbr, List.append_assoc])⟩, by dsimp only; rw [upL_len]; omega, ⟨rfl, rfl, rfl, rfl, trivial⟩, (hm.only (.cons_cons _ (.cons _ (.cons_cons _ (List.nil_sublist _))))).perm (.swap _ _ _)⟩)
    · -- no
      refine ow_val ((val_lss_int rfl rfl).to (congrArg Value.bool (decide_eq_false (by omega)))) rfl ?_
      refine ow_nil (into ?_)
      refine sw_false rfl rfl ?_
      refine sw_skip (into ?_)
      refine sw_region ?_
      refine ow_val (val_move rfl) rfl ?_
      refine ow_val (val_quo_int ((x / 2 : Nat) : Int) rfl rfl (by omega) (by omega) (by omega)) rfl ?_
      refine ow_val (val_assign rfl) rfl ?_
      refine ow_nil (into ?_)
      refine sw_region ?_
      refine ow_val (val_move rfl) rfl ?_
      refine ow_val (val_move rfl) rfl ?_
      refine ow_call_row (E := 41) (size := 32) (k := (upL k L).length) (xs := List.flatMap (fun d : List UInt8 => List.map vU8 d) (upL k L)) (callsTo Tryd.func77 rfl (by kernel_rfl) rfl) rfl (fun w hm => up_any k h1 h2 w (some ⟨bL, oL, none⟩) L.length cL L rfl hLd hLf (hLr _ (hm.only (.cons _ (.cons_cons _ (List.nil_sublist _))))) hLc (by omega)) (fun a16 c16 e16 hr16 => ?_)
      refine ow_val (val_assign rfl) rfl ?_
      exact ow_nil (fun w hm => ⟨(P, a7, c7, e7, upL k L, a16, c16, e16, x / 2), ⟨hrow, fun w' hm' => hr16.rdAt hm' (i := 0) rfl, rowAddr32 hr16 (by rw [upL_len]; omega), hr16.le, by dsimp only; rw [upL_len]; omega, by dsimp only; rw [upL_len]; omega, (upL_all h1 h2 L hLd hLf).1, (upL_all h1 h2 L hLd hLf).2, (by rw [← hpq, incL_up k _ (Nat.le_refl _) (by omega) hx, fst', if_neg hbr, List.nil_append])⟩, by dsimp only; rw [upL_len]; omega, ⟨rfl, rfl, rfl, rfl, trivial⟩, (hm.only (.cons_cons _ (.cons_cons _ (List.nil_sublist _)))).perm (.swap _ _ _)⟩)
  · -- else
    rw [incL_one (by omega), List.append_nil] at hpq
    subst hpq
    refine sw_exit (into ?_)
    refine sw_seq ?_
    refine sw_region ?_
    refine ow_val (val_move rfl) rfl ?_
    refine ow_val (val_assign rfl) rfl ?_
    refine ow_nil (into ?_)
    refine sw_ret (fun w hm => ?_)
    try dsimp only [thenP, blockP, Nat.beq, cond]
    exact ret_one _ rfl rfl ⟨_, hrow, hm.only (.cons_cons _ (List.nil_sublist _))⟩

theorem path_any (k : Nat) (h1 : 1 ≤ k) (h2 : k ≤ 32) (i : Nat) (w : World) (a : Option Addr) (m c : Nat) (l : List (List UInt8)) (hlm : l.length = m) (hdl : ∀ d ∈ l, d.length = 32) (hfl : ∀ d ∈ l, fm (k : Int) d = true) (hr : Rd w a (l.flatMap fun d => d.map vU8)) (hc : m ≤ c) (hb : l.length * 32 ≤ 140737488351232) (hi : i < m) {X : List (List UInt8)} (hX : incL k l i = X) : Calls Tryd.prog 47 #[vInt (k : Int), .slice a m c, vInt (i : Int)] w fun e w2 => ∃ v, e = .returned v ∧ ∃ e', RowE v 41 32 X.length (X.flatMap fun d => d.map vU8) e' ∧ Mem w [] [e'] w2 := by
  subst hlm; subst hX; exact path_0 k h1 h2 i w a c l hdl hfl hr hc hb hi

theorem sub_known (k : Nat) (h1 : 1 ≤ k) (h2 : k ≤ 32) (mm : Nat) (w : World) (a : Option Addr) (c : Nat) (l : List (List UInt8)) (hdl : ∀ d ∈ l, d.length = 32) (hfl : ∀ d ∈ l, fm (k : Int) d = true) (hr : Rd w a (l.flatMap fun d => d.map vU8)) (hc : l.length ≤ c) (hb : l.length * 32 ≤ 140737488351232) (hm1 : 1 ≤ mm) (hm2 : mm ≤ l.length) (he : mm = l.length) : Calls Tryd.prog 78 #[vInt (k : Int), .slice a l.length c, vInt (mm : Int), .bool true] w fun e w2 => ∃ v, e = .returned v ∧ ∃ e', RowE v 41 32 (([] : List (List UInt8))).length ((([] : List (List UInt8))).flatMap fun d => d.map vU8) e' ∧ Mem w [] [e'] w2 := by
  refine calls_of_sw (vs := [vInt (k : Int), .slice a l.length c, vInt (mm : Int), .bool true]) Tryd.func78 rfl Tryd.ntmps78 rfl (SW.begin ?_)
  refine sw_seq ?_
  refine sw_region ?_
  refine ow_val (val_assign rfl) rfl ?_
  refine ow_nil (into ?_)
  refine sw_seq ?_
  refine sw_seq ?_
  refine sw_region ?_
  refine ow_val (val_move rfl) rfl ?_
  refine ow_val (val_move rfl) rfl ?_
  refine ow_val (val_len rfl Tryd.underlying22) rfl ?_
  refine ow_val ((val_eql_int rfl rfl).to (congrArg Value.bool (decide_eq_true (by omega)))) rfl ?_
  refine ow_nil (into ?_)
  refine sw_true rfl rfl ?_
  refine sw_seq ?_
  refine sw_seq ?_
  refine sw_region ?_
  refine ow_val (val_move rfl) rfl ?_
  refine ow_nil (into ?_)
  refine sw_true rfl rfl ?_
  refine sw_seq ?_
  refine sw_region ?_
  refine ow_val (val_assign rfl) rfl ?_
  refine ow_nil (into ?_)
  refine sw_ret (fun w hm => ?_)
  try dsimp only [thenP, blockP, Nat.beq, cond]
  exact ret_one _ rfl rfl ⟨none, RowE.nil _ _, hm.place⟩

theorem sub_last (k : Nat) (h1 : 1 ≤ k) (h2 : k ≤ 32) (mm : Nat) (w : World) (a : Option Addr) (c : Nat) (l : List (List UInt8)) (hdl : ∀ d ∈ l, d.length = 32) (hfl : ∀ d ∈ l, fm (k : Int) d = true) (hr : Rd w a (l.flatMap fun d => d.map vU8)) (hc : l.length ≤ c) (hb : l.length * 32 ≤ 140737488351232) (hm1 : 1 ≤ mm) (hm2 : mm ≤ l.length) (he : mm = l.length) : Calls Tryd.prog 78 #[vInt (k : Int), .slice a l.length c, vInt (mm : Int), .bool false] w fun e w2 => ∃ v, e = .returned v ∧ ∃ e', RowE v 41 32 (([lg k l] : List (List UInt8))).length ((([lg k l] : List (List UInt8))).flatMap fun d => d.map vU8) e' ∧ Mem w [] [e'] w2 := by
  have hD1 : (lg k l).length = 32 := lg_len h2 _ rfl hdl
  refine calls_of_sw (vs := [vInt (k : Int), .slice a l.length c, vInt (mm : Int), .bool false]) Tryd.func78 rfl Tryd.ntmps78 rfl (SW.begin ?_)
  refine sw_seq ?_
  refine sw_region ?_
  refine ow_val (val_assign rfl) rfl ?_
  refine ow_nil (into ?_)
  refine sw_seq ?_
  refine sw_seq ?_
  refine sw_region ?_
  refine ow_val (val_move rfl) rfl ?_
  refine ow_val (val_move rfl) rfl ?_
  refine ow_val (val_len rfl Tryd.underlying22) rfl ?_
  refine ow_val ((val_eql_int rfl rfl).to (congrArg Value.bool (decide_eq_true (by omega)))) rfl ?_
  refine ow_nil (into ?_)
  refine sw_true rfl rfl ?_
  refine sw_seq ?_
  refine sw_seq ?_
  refine sw_region ?_
  refine ow_val (val_move rfl) rfl ?_
  refine ow_nil (into ?_)
  refine sw_false rfl rfl ?_
  refine sw_skip (into ?_)
  refine sw_seq ?_
  refine sw_region ?_
  refine ow_val (val_move rfl) rfl ?_
  refine ow_val (val_move rfl) rfl ?_
  refine ow_call_pure (callsTo Tryd.func24 rfl (by kernel_rfl) rfl) rfl (fun w hm => rlog_any k h1 h2 _ a l.length c l w (Nat.le_refl _) rfl hdl hfl (hr.mem hm) hc (by omega)) ?_
  refine ow_make (acts_buildSlice (cs := [((lg k l)).map vU8].flatten) Tryd.underlying22 Tryd.sizeOf41 zD rfl rfl (fill_aggs [((lg k l)).map vU8] (by decide) rfl (by simp only [List.forall_mem_cons, List.length_map]; exact ⟨hD1, fun _ h => by cases h⟩))) rfl (fun b18 hb18 => ?_)
  refine ow_val (val_assign rfl) rfl ?_
  refine ow_nil (into ?_)
  refine sw_ret (fun w hm => ?_)
  try dsimp only [thenP, blockP, Nat.beq, cond]
  exact ret_one _ rfl rfl ⟨_, (RowE.full (n := 1) (size := 32) (by simp only [List.flatten_cons, List.flatten_nil, List.append_nil, List.length_map, hD1]) (by decide)).cong rfl rfl (by simp only [List.flatten_cons, List.flatten_nil, List.flatMap_cons, List.flatMap_nil]), hm.only (.cons_cons _ (List.nil_sublist _))⟩

theorem sub_left (k : Nat) (h1 : 1 ≤ k) (h2 : k ≤ 32) (mm : Nat) (w : World) (a : Option Addr) (c : Nat) (l : List (List UInt8)) (hdl : ∀ d ∈ l, d.length = 32) (hfl : ∀ d ∈ l, fm (k : Int) d = true) (hr : Rd w a (l.flatMap fun d => d.map vU8)) (hc : l.length ≤ c) (hb : l.length * 32 ≤ 140737488351232) (hm1 : 1 ≤ mm) (hm2 : mm ≤ l.length) (known : Bool) (he : ¬ mm = l.length) (q : Nat) (hq : splitN l.length = q) (his : mm ≤ q) (P : List (List UInt8)) (hPd : ∀ d ∈ P, d.length = 32) (hPf : ∀ d ∈ P, fm (k : Int) d = true) (hPn : P.length ≤ l.length) (ih : ∀ (a' : Option Addr) (m' c' : Nat) (l' : List (List UInt8)) (w' : World), l' = (l.take q) → l'.length = m' → Rd w' a' (l'.flatMap fun d => d.map vU8) → m' ≤ c' → Calls Tryd.prog 78 #[vInt (k : Int), .slice a' m' c', vInt (mm : Nat), .bool known] w' fun e w2 => ∃ v, e = .returned v ∧ ∃ e', RowE v 41 32 P.length (P.flatMap fun d => d.map vU8) e' ∧ Mem w' [] [e'] w2) : Calls Tryd.prog 78 #[vInt (k : Int), .slice a l.length c, vInt (mm : Int), .bool known] w fun e w2 => ∃ v, e = .returned v ∧ ∃ e', RowE v 41 32 ((P ++ [lg k (l.drop q)])).length (((P ++ [lg k (l.drop q)])).flatMap fun d => d.map vU8) e' ∧ Mem w [] [e'] w2 := by
  have hs1 := splitN_lt (n := l.length) (by omega)
  have hs2 := splitN_pos l.length
  rw [hq] at hs1 hs2
  have hD1 : (lg k (l.drop q)).length = 32 := lg_len h2 _ rfl (fun d hd => hdl d (by first | exact List.mem_of_mem_drop hd | exact List.mem_of_mem_take hd))
  have hD2 : fm (k : Int) (lg k (l.drop q)) = true := lg_fm h1 h2 (fun d hd => hfl d (by first | exact List.mem_of_mem_drop hd | exact List.mem_of_mem_take hd))
  obtain ⟨tiD, hDi, hDz, hDsz, hDby⟩ := info_parts iDg
  refine calls_of_sw (vs := [vInt (k : Int), .slice a l.length c, vInt (mm : Int), .bool known]) Tryd.func78 rfl Tryd.ntmps78 rfl (SW.begin ?_)
  refine sw_seq ?_
  refine sw_region ?_
  refine ow_val (val_assign rfl) rfl ?_
  refine ow_nil (into ?_)
  refine sw_seq ?_
  refine sw_seq ?_
  refine sw_region ?_
  refine ow_val (val_move rfl) rfl ?_
  refine ow_val (val_move rfl) rfl ?_
  refine ow_val (val_len rfl Tryd.underlying22) rfl ?_
  refine ow_val ((val_eql_int rfl rfl).to (congrArg Value.bool (decide_eq_false (by omega)))) rfl ?_
  refine ow_nil (into ?_)
  refine sw_false rfl rfl ?_
  refine sw_skip (into ?_)
  refine sw_seq ?_
  refine sw_region ?_
  refine ow_val (val_move rfl) rfl ?_
  refine ow_val (val_len rfl Tryd.underlying22) rfl ?_
  refine ow_val (val_conv_n_u64 l.length Tryd.underlying3 Tryd.underlying23 rfl rfl) rfl ?_
  refine ow_call_pure (v := vU64 (UInt64.ofNat q)) (callsTo Tryd.func55 rfl (by kernel_rfl) rfl) rfl (fun w hm => (by have h := rbelow_any (UInt64.ofNat l.length) (by rw [of_nat (by omega)]; omega) w; rw [splitU_of (by omega), hq] at h; exact h)) ?_
  refine ow_val ((val_conv_u64_i64 Tryd.underlying23 Tryd.underlying3 rfl (by rw [of_nat (by omega)]; omega)).to (v' := vInt (q : Int)) (by rw [of_nat (by omega)])) rfl ?_
  refine ow_val (val_assign rfl) rfl ?_
  refine ow_nil (into ?_)
  refine sw_seq ?_
  refine sw_seq ?_
  refine sw_region ?_
  refine ow_val (val_move rfl) rfl ?_
  refine ow_val (val_move rfl) rfl ?_
  refine ow_val ((val_leq_int rfl rfl).to (congrArg Value.bool (decide_eq_true (by omega)))) rfl ?_
  refine ow_nil (into ?_)
  refine sw_true rfl rfl ?_
  refine sw_seq ?_
  refine sw_region_tree (Mem w [] []) [] (.one 0 0 (.one 1 0 (.one 2 0 (.one 3 0 (.one 4 0 (.one 5 0 (.one 7 0 (.one 8 0 (.one 9 0 (.one 10 0 (.one 6 2 (.one 11 2 (.one 12 2 (.one 13 2 (.one 14 0 .done))))))))))))))) (by kernel_rfl) (by kernel_rfl) (fun _ _ _ h => h) (fun _ h => h.only (List.nil_sublist _)) (fun _ h => h.drawn _) ?_
  refine lt_pure rfl trivial (val_move rfl) rfl ?_
  refine lt_pure rfl trivial (val_move rfl) rfl ?_
  refine lt_pure rfl trivial (val_move rfl) rfl ?_
  refine lt_pure rfl trivial (val_slice_hi q rfl rfl Tryd.underlying22 Tryd.sizeOf41 rfl (by omega)) rfl ?_
  refine lt_pure rfl trivial (val_move rfl) rfl ?_
  refine lt_pure rfl trivial (val_move rfl) rfl ?_
  refine lt_pure rfl trivial (val_move rfl) rfl ?_
  refine lt_pure rfl trivial (val_move rfl) rfl ?_
  refine lt_pure rfl trivial (val_move rfl) rfl ?_
  refine lt_pure rfl trivial (val_slice_from q rfl rfl Tryd.underlying22 Tryd.sizeOf41 rfl (by omega) (by omega)) rfl ?_
  refine lt_call_row (E := 41) (size := 32) (k := P.length) (xs := List.flatMap (fun d : List UInt8 => List.map vU8 d) P) rfl trivial (callsTo Tryd.func78 rfl (by kernel_rfl) rfl) rfl (fun w hm => ih a q c (l.take q) w rfl (by rw [List.length_take]; omega) (rdTakeD (hr.mem hm) q) (by omega)) (fun _ _ _ h => h.only (List.nil_sublist _)) (fun a33 c33 e33 hr33 => ?_)
  refine lt_call_pure rfl trivial (callsTo Tryd.func24 rfl (by kernel_rfl) rfl) rfl (fun w hm => rlog_any k h1 h2 _ (Sx.cut a c q 32) (l.length - q) (c - q) (l.drop q) w (Nat.le_refl _) (by rw [List.length_drop]) (fun d hd => hdl d (List.mem_of_mem_drop hd)) (fun d hd => hfl d (List.mem_of_mem_drop hd)) (rdCutD (hr.mem hm) hdl hc) (by omega) (by omega)) (fun _ _ h => h.only (List.nil_sublist _)) ?_
  refine lt_make (fun b => .slice (some ⟨b, 0, none⟩) 1 1) rfl trivial (acts_buildSlice (cs := [((lg k (l.drop q))).map vU8].flatten) Tryd.underlying22 Tryd.sizeOf41 zD rfl rfl (fill_aggs [((lg k (l.drop q))).map vU8] (by decide) rfl (by simp only [List.forall_mem_cons, List.length_map]; exact ⟨hD1, fun _ h => by cases h⟩))) rfl (fun _ _ _ h => h.only (List.nil_sublist _)) (fun b39 hb39 => ?_)
  refine lt_append (k := P.length + 1) (xs := (P ++ [(lg k (l.drop q))]).flatMap fun d => d.map vU8) rfl trivial (acts_row (acts_append (size := 32) (bytes := 32) 1 rfl rfl rfl hr33 rfl Tryd.underlying22 hDi hDz hDsz hDby rfl (by decide) (fun w hm => (Rd.blk (hm.at (i := 0) rfl))) (by simp only [List.flatten_cons, List.flatten_nil, List.append_nil, List.length_append, List.length_map, hD1]) (fun u hu => by simp only [List.flatten_cons, List.flatten_nil, List.append_nil, List.mem_append] at hu; rcases hu with hu <;> exact one_u8s _ u hu) (by omega) (by omega)) rfl (by simp only [List.flatMap_append, List.flatMap_cons, List.flatMap_nil, List.flatten_cons, List.flatten_nil, List.nil_append, List.append_nil])) rfl (fun _ _ _ h => h.only (List.nil_sublist _)) (fun a40 c40 e40 hr40' => ?_)
  have hx40 : (P ++ [(lg k (l.drop q))]).length = P.length + 1 := by rw [List.length_append] <;> rfl
  refine lt_pure rfl trivial (val_assign rfl) rfl ?_
  refine lt_done (into ?_)
  refine sw_ret (fun w hm => ?_)
  try dsimp only [thenP, blockP, Nat.beq, cond]
  exact ret_one _ rfl rfl ⟨e40, hr40'.cong rfl (by rw [List.length_append]; rfl) rfl, hm.only (.cons _ (.cons_cons _ (List.nil_sublist _)))⟩

theorem sub_right (k : Nat) (h1 : 1 ≤ k) (h2 : k ≤ 32) (mm : Nat) (w : World) (a : Option Addr) (c : Nat) (l : List (List UInt8)) (hdl : ∀ d ∈ l, d.length = 32) (hfl : ∀ d ∈ l, fm (k : Int) d = true) (hr : Rd w a (l.flatMap fun d => d.map vU8)) (hc : l.length ≤ c) (hb : l.length * 32 ≤ 140737488351232) (hm1 : 1 ≤ mm) (hm2 : mm ≤ l.length) (known : Bool) (he : ¬ mm = l.length) (q : Nat) (hq : splitN l.length = q) (his : ¬ mm ≤ q) (P : List (List UInt8)) (hPd : ∀ d ∈ P, d.length = 32) (hPf : ∀ d ∈ P, fm (k : Int) d = true) (hPn : P.length ≤ l.length) (ih : ∀ (a' : Option Addr) (m' c' : Nat) (l' : List (List UInt8)) (w' : World), l' = (l.drop q) → l'.length = m' → Rd w' a' (l'.flatMap fun d => d.map vU8) → m' ≤ c' → Calls Tryd.prog 78 #[vInt (k : Int), .slice a' m' c', vInt ((mm - q) : Nat), .bool false] w' fun e w2 => ∃ v, e = .returned v ∧ ∃ e', RowE v 41 32 P.length (P.flatMap fun d => d.map vU8) e' ∧ Mem w' [] [e'] w2) : Calls Tryd.prog 78 #[vInt (k : Int), .slice a l.length c, vInt (mm : Int), .bool known] w fun e w2 => ∃ v, e = .returned v ∧ ∃ e', RowE v 41 32 ((P ++ [lg k (l.take q)])).length (((P ++ [lg k (l.take q)])).flatMap fun d => d.map vU8) e' ∧ Mem w [] [e'] w2 := by
  have hs1 := splitN_lt (n := l.length) (by omega)
  have hs2 := splitN_pos l.length
  rw [hq] at hs1 hs2
  have hD1 : (lg k (l.take q)).length = 32 := lg_len h2 _ rfl (fun d hd => hdl d (by first | exact List.mem_of_mem_drop hd | exact List.mem_of_mem_take hd))
  have hD2 : fm (k : Int) (lg k (l.take q)) = true := lg_fm h1 h2 (fun d hd => hfl d (by first | exact List.mem_of_mem_drop hd | exact List.mem_of_mem_take hd))
  obtain ⟨tiD, hDi, hDz, hDsz, hDby⟩ := info_parts iDg
  refine calls_of_sw (vs := [vInt (k : Int), .slice a l.length c, vInt (mm : Int), .bool known]) Tryd.func78 rfl Tryd.ntmps78 rfl (SW.begin ?_)
  refine sw_seq ?_
  refine sw_region ?_
  refine ow_val (val_assign rfl) rfl ?_
  refine ow_nil (into ?_)
  refine sw_seq ?_
  refine sw_seq ?_
  refine sw_region ?_
  refine ow_val (val_move rfl) rfl ?_
  refine ow_val (val_move rfl) rfl ?_
  refine ow_val (val_len rfl Tryd.underlying22) rfl ?_
  refine ow_val ((val_eql_int rfl rfl).to (congrArg Value.bool (decide_eq_false (by omega)))) rfl ?_
  refine ow_nil (into ?_)
  refine sw_false rfl rfl ?_
  refine sw_skip (into ?_)
  refine sw_seq ?_
  refine sw_region ?_
  refine ow_val (val_move rfl) rfl ?_
  refine ow_val (val_len rfl Tryd.underlying22) rfl ?_
  refine ow_val (val_conv_n_u64 l.length Tryd.underlying3 Tryd.underlying23 rfl rfl) rfl ?_
  refine ow_call_pure (v := vU64 (UInt64.ofNat q)) (callsTo Tryd.func55 rfl (by kernel_rfl) rfl) rfl (fun w hm => (by have h := rbelow_any (UInt64.ofNat l.length) (by rw [of_nat (by omega)]; omega) w; rw [splitU_of (by omega), hq] at h; exact h)) ?_
  refine ow_val ((val_conv_u64_i64 Tryd.underlying23 Tryd.underlying3 rfl (by rw [of_nat (by omega)]; omega)).to (v' := vInt (q : Int)) (by rw [of_nat (by omega)])) rfl ?_
  refine ow_val (val_assign rfl) rfl ?_
  refine ow_nil (into ?_)
  refine sw_seq ?_
  refine sw_seq ?_
  refine sw_region ?_
  refine ow_val (val_move rfl) rfl ?_
  refine ow_val (val_move rfl) rfl ?_
  refine ow_val ((val_leq_int rfl rfl).to (congrArg Value.bool (decide_eq_false (by omega)))) rfl ?_
  refine ow_nil (into ?_)
  refine sw_false rfl rfl ?_
  refine sw_skip (into ?_)
  refine sw_seq ?_
  refine sw_region_tree (Mem w [] []) [] (.one 0 0 (.one 1 0 (.one 2 0 (.one 3 0 (.one 4 0 (.one 5 0 (.one 6 0 (.one 8 0 (.one 9 0 (.one 10 0 (.one 11 0 (.one 7 2 (.one 12 2 (.one 13 2 (.one 14 2 (.one 15 0 .done)))))))))))))))) (by kernel_rfl) (by kernel_rfl) (fun _ _ _ h => h) (fun _ h => h.only (List.nil_sublist _)) (fun _ h => h.drawn _) ?_
  refine lt_pure rfl trivial (val_move rfl) rfl ?_
  refine lt_pure rfl trivial (val_move rfl) rfl ?_
  refine lt_pure rfl trivial (val_move rfl) rfl ?_
  refine lt_pure rfl trivial (val_slice_from q rfl rfl Tryd.underlying22 Tryd.sizeOf41 rfl (by omega) (by omega)) rfl ?_
  refine lt_pure rfl trivial (val_move rfl) rfl ?_
  refine lt_pure rfl trivial (val_move rfl) rfl ?_
  refine lt_pure rfl trivial (val_sub_int ((mm - q : Nat) : Int) rfl rfl (by omega) (by omega)) rfl ?_
  refine lt_pure rfl trivial (val_move rfl) rfl ?_
  refine lt_pure rfl trivial (val_move rfl) rfl ?_
  refine lt_pure rfl trivial (val_move rfl) rfl ?_
  refine lt_pure rfl trivial (val_slice_hi q rfl rfl Tryd.underlying22 Tryd.sizeOf41 rfl (by omega)) rfl ?_
  refine lt_call_row (E := 41) (size := 32) (k := P.length) (xs := List.flatMap (fun d : List UInt8 => List.map vU8 d) P) rfl trivial (callsTo Tryd.func78 rfl (by kernel_rfl) rfl) rfl (fun w hm => ih (Sx.cut a c q 32) (l.length - q) (c - q) (l.drop q) w rfl (by rw [List.length_drop]) (rdCutD (hr.mem hm) hdl hc) (by omega)) (fun _ _ _ h => h.only (List.nil_sublist _)) (fun a48 c48 e48 hr48 => ?_)
  refine lt_call_pure rfl trivial (callsTo Tryd.func24 rfl (by kernel_rfl) rfl) rfl (fun w hm => rlog_any k h1 h2 _ a q c (l.take q) w (Nat.le_refl _) (by rw [List.length_take]; omega) (fun d hd => hdl d (List.mem_of_mem_take hd)) (fun d hd => hfl d (List.mem_of_mem_take hd)) (rdTakeD (hr.mem hm) q) (by omega) (by omega)) (fun _ _ h => h.only (List.nil_sublist _)) ?_
  refine lt_make (fun b => .slice (some ⟨b, 0, none⟩) 1 1) rfl trivial (acts_buildSlice (cs := [((lg k (l.take q))).map vU8].flatten) Tryd.underlying22 Tryd.sizeOf41 zD rfl rfl (fill_aggs [((lg k (l.take q))).map vU8] (by decide) rfl (by simp only [List.forall_mem_cons, List.length_map]; exact ⟨hD1, fun _ h => by cases h⟩))) rfl (fun _ _ _ h => h.only (List.nil_sublist _)) (fun b54 hb54 => ?_)
  refine lt_append (k := P.length + 1) (xs := (P ++ [(lg k (l.take q))]).flatMap fun d => d.map vU8) rfl trivial (acts_row (acts_append (size := 32) (bytes := 32) 1 rfl rfl rfl hr48 rfl Tryd.underlying22 hDi hDz hDsz hDby rfl (by decide) (fun w hm => (Rd.blk (hm.at (i := 0) rfl))) (by simp only [List.flatten_cons, List.flatten_nil, List.append_nil, List.length_append, List.length_map, hD1]) (fun u hu => by simp only [List.flatten_cons, List.flatten_nil, List.append_nil, List.mem_append] at hu; rcases hu with hu <;> exact one_u8s _ u hu) (by omega) (by omega)) rfl (by simp only [List.flatMap_append, List.flatMap_cons, List.flatMap_nil, List.flatten_cons, List.flatten_nil, List.nil_append, List.append_nil])) rfl (fun _ _ _ h => h.only (List.nil_sublist _)) (fun a55 c55 e55 hr55' => ?_)
  have hx55 : (P ++ [(lg k (l.take q))]).length = P.length + 1 := by rw [List.length_append] <;> rfl
  refine lt_pure rfl trivial (val_assign rfl) rfl ?_
  refine lt_done (into ?_)
  exact sw_ret (fun w hm => ret_one _ rfl rfl ⟨e55, hr55'.cong rfl (by rw [List.length_append]; rfl) rfl, hm.only (.cons _ (.cons_cons _ (List.nil_sublist _)))⟩)

theorem sub_any (k : Nat) (h1 : 1 ≤ k) (h2 : k ≤ 32) : ∀ (N mm : Nat) (known : Bool) (w : World) (a : Option Addr) (m c : Nat) (l : List (List UInt8)), l.length ≤ N → l.length = m → (∀ d ∈ l, d.length = 32) → (∀ d ∈ l, fm (k : Int) d = true) → Rd w a (l.flatMap fun d => d.map vU8) → m ≤ c → l.length * 32 ≤ 140737488351232 → 1 ≤ mm → mm ≤ l.length → Calls Tryd.prog 78 #[vInt (k : Int), .slice a m c, vInt (mm : Int), .bool known] w fun e w2 => ∃ v, e = .returned v ∧ ∃ e', RowE v 41 32 (conL k l mm known).length ((conL k l mm known).flatMap fun d => d.map vU8) e' ∧ Mem w [] [e'] w2
  | N, mm, known, w, a, m, c, l, hN, hlm, hdl, hfl, hr, hc, hb, hm1, hm2 => by
    subst hlm
    by_cases he : mm = l.length
    · rw [conL_end he]
      cases known with
      | true => exact sub_known k h1 h2 mm w a c l hdl hfl hr hc hb hm1 hm2 he
      | false => exact sub_last k h1 h2 mm w a c l hdl hfl hr hc hb hm1 hm2 he
    match N, hN with
    | 0, hN => omega
    | N + 1, hN =>
      have hs1 := splitN_lt (n := l.length) (by omega)
      have hs2 := splitN_pos l.length
      have td : ∀ {q : Nat}, ∀ d ∈ l.take q, d ∈ l := fun d hd => List.mem_of_mem_take hd
      have dd : ∀ {q : Nat}, ∀ d ∈ l.drop q, d ∈ l := fun d hd => List.mem_of_mem_drop hd
      by_cases his : mm ≤ splitN l.length
      · rw [conL_left he (by omega) rfl his]
        exact sub_left k h1 h2 mm w a c l hdl hfl hr hc hb hm1 hm2 known he _ rfl his _ (fun d hd => (conL_mem h1 h2 _ (Nat.le_refl _) (fun d hd => hdl d (td d hd)) (fun d hd => hfl d (td d hd)) d hd).1) (fun d hd => (conL_mem h1 h2 _ (Nat.le_refl _) (fun d hd => hdl d (td d hd)) (fun d hd => hfl d (td d hd)) d hd).2)
          (by have h7 := conL_len (k := k) _ (l := l.take (splitN l.length)) (m := mm) (known := known) (Nat.le_refl _) (by rw [List.length_take]; omega); rw [List.length_take] at h7; omega)
          (fun a' m' c' l' w' hl' hlm' hr' hc' => by subst hl'; exact sub_any k h1 h2 N mm known w' a' m' c' _ (by rw [List.length_take]; omega) hlm' (fun d hd => hdl d (td d hd)) (fun d hd => hfl d (td d hd)) hr' hc' (by rw [List.length_take]; omega) hm1 (by rw [List.length_take]; omega))
      · rw [conL_right he (by omega) rfl his]
        exact sub_right k h1 h2 mm w a c l hdl hfl hr hc hb hm1 hm2 known he _ rfl his _ (fun d hd => (conL_mem h1 h2 _ (Nat.le_refl _) (fun d hd => hdl d (dd d hd)) (fun d hd => hfl d (dd d hd)) d hd).1) (fun d hd => (conL_mem h1 h2 _ (Nat.le_refl _) (fun d hd => hdl d (dd d hd)) (fun d hd => hfl d (dd d hd)) d hd).2)
          (by have h7 := conL_len (k := k) _ (l := l.drop (splitN l.length)) (m := mm - splitN l.length) (known := false) (Nat.le_refl _) (by rw [List.length_drop]; omega); rw [List.length_drop] at h7; omega)
          (fun a' m' c' l' w' hl' hlm' hr' hc' => by subst hl'; exact sub_any k h1 h2 N (mm - splitN l.length) false w' a' m' c' _ (by rw [List.length_drop]; omega) hlm' (fun d hd => hdl d (dd d hd)) (fun d hd => hfl d (dd d hd)) hr' hc' (by rw [List.length_drop]; omega) (by omega) (by rw [List.length_drop]; omega))
end Go.Proofs.YtcdponddgnkecaaDoor
