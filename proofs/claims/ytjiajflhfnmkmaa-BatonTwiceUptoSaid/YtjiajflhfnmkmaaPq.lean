/- A PLAY OF THE BATON: what the row rests on. -/
import Derived.Test.YtjiajflhfnmkmaaPp
import Derived.Test.YtjiajflhfnmkmaaPo
import Derived.Laws.CopyRow
set_option linter.unusedVariables false
set_option linter.unusedSimpArgs false
set_option linter.unusedSectionVars false
section
namespace Go.Bt
variable [Gnd]
open Go.Conc Go.ConcN Go.RowKit Go.Proofs
open Go.Sx (Rly RV pz pzo pz_heap spec isWg Gud Co blk RowE Rd Mem CallV vInt callV_of_callI callI_of_pt Pt pt_seq pt_sw pt_back pt_ret pt_region pt_regionEnd pt_val pt_block pt_inBlock pt_exit pt_if pt_skip pt_do pt_draw pt_call pt_loop_inv pt_panicE lz_val val_assign val_move val_load val_nilCheck val_fieldAddr val_len val_geq_int val_lss_int val_eql_int val_add_int val_load_elem val_load_at val_indexAddr_slice acts_alloc does_store_all tame_nilCheck tame_int callsTo res_nothing res_slot Lf ReI Stb re_fall panics_index pick_v)
section
variable {v : World} [C : Co Try.prog]
set_option maxRecDepth 100000 in
set_option maxHeartbeats 4000000 in
/-- Does v stand on the board? -/
theorem rstands_v {a : Option Addr} {c : Nat} {l : List (Int × Int)} {x : Int} (hrd : Rd v a (flatB l)) (hlen : l.length ≤ 8796093022208) : CallV Try.prog 67 #[.slice a l.length c, vI x] v (fun r u => r = .returned (.bool (stands l x)) ∧ RV v u) := by
  refine callV_of_callI (callI_of_pt (vs := [.slice a l.length c, vI x]) Try.func67 rfl rfl fun cf cs g1 g2 => ?_)
  refine Pt.imp (M' := fun u => RV v u) (fun u hu => hu ▸ RV.refl _) ?_
  refine pt_seq (pt_region ?_)
  refine pt_val (by decide) rfl (val_assign (v := .bool false) rfl) rfl ?_
  refine pt_regionEnd (pt_seq (pt_seq (pt_region ?_)))
  refine pt_val (by decide) rfl (val_move (v := .slice a l.length c) rfl) rfl ?_
  refine pt_val (by decide) rfl (val_len (len := l.length) rfl Try.underlying32) rfl ?_
  refine pt_val (by decide) rfl (val_move (v := vInt (0 : Nat)) rfl) rfl ?_
  refine pt_regionEnd (pt_block ?_)
  refine pt_loop_inv (fun j : Nat => j ≤ l.length ∧ ∀ i y, i < j → l[i]? = some y → y.2 ≠ x) (fun j => [(7, .slice a l.length c), (8, vInt l.length), (9, vInt j), (1, vI x)]) (fun _ => ()) (fun _ z => RV v z) (fun j => l.length - j) 0 ⟨Nat.zero_le _, fun _ _ h => by omega⟩ ⟨rfl, rfl, rfl, rfl, trivial⟩ rfl (fun _ h => h) ?_
  rintro j ⟨hle, hno⟩ hloop
  refine pt_seq (pt_region ?_)
  refine pt_val (by decide) rfl (val_lss_int (a := (j : Int)) (b := (l.length : Int)) rfl rfl) rfl ?_ (tame_int rfl rfl)
  refine pt_regionEnd (pt_seq (pt_if rfl (fun hlt => ?_) (fun hge => ?_)))
  · have hj : j < l.length := by omega
    obtain ⟨b, o, rfl, _⟩ := hrd (2 * j) _ (flatB_get (get_getD hj)).1
    refine pt_skip (pt_seq (pt_block (pt_seq (Pt.world fun z hz => ?_))))
    refine Pt.imp (M' := Mem z [] []) (fun w hw => hw ▸ Mem.refl z) (pt_region ?_)
    refine pt_val (by decide) rfl (val_indexAddr_slice (m := 2) j (o + j * 2) rfl rfl Try.underlying32 Try.sizeOf56 rfl hj rfl) rfl ?_
    refine pt_val (by decide) rfl (val_load_elem (cells := fun y : Int × Int => [vI y.1, vI y.2]) (l := l) (o := o) (i := j) rfl Try.isAgg56 Try.sizeOf56 (fun _ _ => rfl) hj rfl (fun w hw => (fun k y hy => let ⟨b', o', e1, e2⟩ := hrd k y hy; ⟨b', o', e1, cell_rv' e2 (hz.trans (Mem.rv hw))⟩))) rfl ?_
    have hget : l[j]? = some (l.getD j default) := by rw [List.getD_eq_getElem?_getD, List.getElem?_eq_getElem hj]; rfl
    generalize l.getD j default = y at hget
    refine pt_new (by decide) rfl (acts_alloc Try.zeroValue56) rfl fun t6 ht6 => ?_
    refine pt_do (by decide) rfl (does_store_all 0 (cs := [vI y.1, vI y.2]) rfl rfl rfl (by intro x hx; simp only [List.mem_cons, List.not_mem_nil, or_false] at hx; rcases hx with rfl | rfl <;> rfl) Try.sizeOf56 rfl rfl) fun _ _ => ?_
    refine pt_regionEnd (pt_seq (pt_region ?_))
    refine pt_val (by decide) rfl (val_fieldAddr (b := t6) (o := 0) (e := 1) rfl Try.underlying56 rfl rfl Try.sizeOf3 rfl) rfl ?_
    refine pt_val (by decide) rfl (val_load_at (l := [some (t6, blk [vI y.1, vI y.2] 56)]) (v := vI y.2) 0 rfl rfl Try.isAgg3 rfl) rfl ?_
    refine pt_val (by decide) rfl (val_move (v := vI x) rfl) rfl ?_
    refine pt_val (by decide) rfl (val_eql_int (a := y.2) (b := x) rfl rfl) rfl ?_ (tame_int rfl rfl)
    refine Pt.imp (M' := fun w => RV v w) (fun w hw => hz.trans (Mem.rv hw)) (pt_regionEnd ?_)
    refine pt_if rfl (fun he => ?_) (fun hne => ?_)
    · refine pt_seq (pt_region ?_)
      refine pt_val (by decide) rfl (val_assign (v := .bool true) rfl) rfl ?_
      refine pt_regionEnd (pt_ret (fn := Try.f67) (v := .bool true) Try.func67 rfl (fun a hf => res_slot rfl rfl hf) fun w hw => g1 _ () w (hw.mono fun q hq => ⟨?_, hq⟩))
      have : stands l x = true := by
        unfold stands
        rw [List.any_eq_true]
        exact ⟨y, List.mem_of_getElem? hget, by simp [he]⟩
      rw [this]
    · refine pt_skip (pt_inBlock (pt_region ?_))
      refine pt_val (by decide) rfl (val_add_int (a := (j : Int)) (b := 1) _ rfl rfl rfl (by omega)) rfl ?_ (tame_int rfl rfl)
      refine pt_val (by decide) rfl (val_move (v := vInt (j + 1 : Nat)) rfl) rfl ?_
      refine pt_regionEnd (Pt.weaken ?_ (fun _ h => h) (hloop (j + 1) ⟨hj, fun i y' hi hy' => ?_⟩ (by omega)))
      · exact ⟨rfl, rfl, rfl, rfl, trivial⟩
      · by_cases hij : i = j
        · subst hij; rw [hget] at hy'; cases hy'; exact hne
        · exact hno i y' (by omega) hy'
  · refine pt_exit rfl (pt_seq (pt_region ?_))
    refine pt_val (by decide) rfl (val_assign (v := .bool false) rfl) rfl ?_
    refine pt_regionEnd (pt_ret (fn := Try.f67) (v := .bool false) Try.func67 rfl (fun a hf => res_slot rfl rfl hf) fun w hw => g1 _ () w (hw.mono fun q hq => ⟨?_, hq⟩))
    have : stands l x = false := by
      unfold stands
      rw [List.any_eq_false]
      intro y hy
      obtain ⟨i, hi⟩ := List.mem_iff_getElem?.1 hy
      have := hno i y (by have := (List.getElem?_eq_some_iff.1 hi).1; omega) hi
      simpa using this
    rw [this]
end
end Go.Bt
end
section
namespace Go.Sx
variable [Gnd]
open Go.Conc Go.Proofs Go.Bt
section
variable [C : Co Try.prog]
set_option maxRecDepth 100000 in
set_option maxHeartbeats 2000000 in
/-- The board grows. -/
theorem rnote_sw {v0 : World} {olds : List Nat} {sb : Nat} {pv s1 s2 s3 bs s5 : Value} {i x : Int} {xs : List Value} {m : Nat} {e1 e2 e3 eb ep : Ent} (hr : RowE bs 56 2 m xs eb) (hk : m + 1 ≤ 8796093022208) :
    SW Try.prog 18 (Try.f65.body.getD .skip) (slots 0 [vPtr sb, vInt i, vInt x]) (Mem v0 olds [some (sb, blk [pv, s1, s2, s3, bs, s5] 35), e1, e2, e3, eb, ep]) (fun ex F' w => ex = .normal ∧ ∃ bs' eb', RowE bs' 56 2 (m + 1) (xs ++ [vInt i, vInt x]) eb' ∧ Mem v0 olds [some (sb, blk [pv, s1, s2, s3, bs', s5] 35), e1, e2, e3, eb', ep] w) := by
  obtain ⟨ti, hi, hz, hsz, hby⟩ : ∃ i, Try.prog.info? 56 = some i ∧ i.zero = some (.agg #[vInt 0, vInt 0]) ∧ i.size = 2 ∧ i.bytes = 16 := ⟨_, rfl, rfl, rfl, rfl⟩
  obtain ⟨av, cv, rfl, hkc⟩ := hr.slice
  show SW Try.prog 18 (Code.region 0 _ false) _ _ _
  refine sw_region ?_
  refine ow_val (val_move (v := vPtr sb) rfl) rfl ?_
  refine ow_val (val_move (v := vPtr sb) rfl) rfl ?_
  refine ow_val (val_nilCheck (a := ⟨sb, 0, none⟩) rfl) rfl ?_ (tame_nilCheck rfl)
  refine ow_val (val_fieldAddr (b := sb) (o := 0) (e := 4) rfl Try.underlying35 rfl rfl Try.sizeOf32 rfl) rfl ?_
  refine ow_val (val_load_at (v := .slice av m cv) 0 rfl rfl Try.isAgg32 rfl) rfl ?_
  refine ow_val (val_move (v := vInt i) rfl) rfl ?_
  refine ow_val (val_move (v := vInt x) rfl) rfl ?_
  refine ow_val (val_build' (parts := _) (vs := [(0, vInt i), (1, vInt x)]) (cs := [vInt i, vInt x]) rfl (by kernel_rfl)) rfl ?_
  refine ow_make (acts_buildSlice (cs := [vInt i, vInt x]) Try.underlying32 Try.sizeOf56 Try.zeroValue56 rfl rfl (by kernel_rfl)) rfl (fun bb hbb => ?_)
  refine ow_append' (k := m + 1) (acts_append (size := 2) (bytes := 16) (ys := [vInt i, vInt x]) 5 rfl rfl rfl hr rfl Try.underlying32 hi hz hsz hby rfl (by decide) (fun w hm => Rd.own hm (i := 0) rfl rfl) rfl (by intro u hu; simp only [List.mem_cons, List.not_mem_nil, or_false] at hu; rcases hu with rfl | rfl <;> rfl) (by omega) (by omega)) rfl (fun a5 c5 e5 hr5 => ?_)
  refine ow_val (val_nilCheck (a := ⟨sb, 0, none⟩) rfl) rfl ?_ (tame_nilCheck rfl)
  refine ow_val (val_fieldAddr (b := sb) (o := 0) (e := 4) rfl Try.underlying35 rfl rfl Try.sizeOf32 rfl) rfl ?_
  refine ow_do_eq (does_store_to [pv, s1, s2, s3, .slice a5 (m + 1) c5, s5] 1 rfl rfl rfl rfl Try.sizeOf32 (by simp) rfl) ?_
  exact ow_nil fun w hw => ⟨rfl, _, e5, hr5, hw.forget⟩
omit C in
theorem rowE_set {mv : Value} {T : TypeId} {n k : Nat} {xs : List Value} {er : Ent} (h : RowE mv T 1 n xs er) (hk : k < n) : ∃ b cap rest, mv = .slice (some ⟨b, 0, none⟩) n cap ∧ er = some (b, blk (xs ++ rest) T) ∧ k < (xs ++ rest).length ∧ ∀ u, RowE mv T 1 n (xs.set k u) (some (b, blk ((xs ++ rest).set k u) T)) := by
  obtain ⟨hl, ⟨h1, h2, _⟩ | ⟨b, cap, rest, h1, h2, h3, h4, h5⟩⟩ := h
  · omega
  · have hkx : k < xs.length := by omega
    refine ⟨b, cap, rest, h1, h5, by rw [List.length_append]; omega, fun u => ⟨by rw [List.length_set]; exact hl, .inr ⟨b, cap, rest, h1, h2, h3, by rw [← h4]; simp, by rw [List.set_append_left _ _ hkx]⟩⟩⟩
set_option maxRecDepth 100000 in
set_option maxHeartbeats 2000000 in
/-- An actor ends. -/
theorem rend_sw {v0 : World} {olds : List Nat} {sb k n : Nat} {pv s1 s2 s3 bs s5 : Value} {xs : List Value} {e1 e2 e3 eb ep : Ent} (hr : RowE s3 4 1 n xs e3) (hk : k < n) :
    SW Try.prog 10 (Try.f39.body.getD .skip) (slots 0 [vPtr sb, vInt k]) (Mem v0 olds [some (sb, blk [pv, s1, s2, s3, bs, s5] 35), e1, e2, e3, eb, ep]) (fun ex F' w => ex = .normal ∧ ∃ e3', RowE s3 4 1 n (xs.set k (.bool true)) e3' ∧ Mem v0 olds [some (sb, blk [pv, s1, s2, s3, bs, s5] 35), e1, e2, e3', eb, ep] w) := by
  obtain ⟨b, cap, rest, rfl, rfl, hlt, hset⟩ := rowE_set hr hk
  show SW Try.prog 10 (Code.region 0 _ false) _ _ _
  refine sw_region ?_
  refine ow_val (val_move (v := vPtr sb) rfl) rfl ?_
  refine ow_val (val_nilCheck (a := ⟨sb, 0, none⟩) rfl) rfl ?_ (tame_nilCheck rfl)
  refine ow_val (val_fieldAddr (b := sb) (o := 0) (e := 3) rfl Try.underlying35 rfl rfl Try.sizeOf31 rfl) rfl ?_
  refine ow_val (val_load_at (v := .slice (some ⟨b, 0, none⟩) n cap) 0 rfl rfl Try.isAgg31 rfl) rfl ?_
  refine ow_val (val_move (v := vInt k) rfl) rfl ?_
  refine ow_val (val_indexAddr_slice (m := 1) k k rfl rfl Try.underlying31 Try.sizeOf4 rfl hk (by omega)) rfl ?_
  refine ow_do_eq (does_store_to ((xs ++ rest).set k (.bool true)) 3 rfl rfl rfl rfl Try.sizeOf4 hlt rfl) ?_
  exact ow_nil fun w hw => ⟨rfl, _, hset (.bool true), hw⟩
end
end Go.Sx
end
section
namespace Go.Bt
variable [Gnd]
open Go.Conc Go.ConcN Go.RowKit Go.Proofs
open Go.Sx (RV Co CallV Pt SW vInt callV_of_callI callI_of_pt pt_seq pt_region pt_regionEnd pt_val pt_ret pt_sw val_assign val_move val_geq_int val_leq_int val_eql_int val_pick_true val_pick_false tame_int res_slot sw_region ow_val ow_nil ow_guard_yes ow_guard_no)
section
variable {v : World} [C : Co Try.prog]
noncomputable def f66r : Code := cL (cR (Try.f66.body.getD .skip))
set_option maxRecDepth 100000 in
set_option maxHeartbeats 4000000 in
theorem sw_until {d : Int} {F : Go.Sx.Fr} (h0 : Go.Sx.look F 0 = some (vInt d)) : SW Try.prog 17 f66r F (fun w => RV v w) (fun ex F' w => ex = .normal ∧ Go.Sx.look F' 2 = some (.bool (isUntil d)) ∧ RV v w) := by
  show SW Try.prog 17 (Code.region 1 _ false) _ _ _
  refine sw_region ?_
  refine ow_val (val_move (v := vInt d) (by exact h0)) rfl ?_
  refine ow_val (val_geq_int (a := d) (b := 3) rfl rfl) rfl ?_ (tame_int rfl rfl)
  refine ow_val (val_move (v := .bool (decide (3 ≤ d))) rfl) rfl ?_
  have last : ∀ (F2 : Go.Sx.Fr) (t : Bool), Go.Sx.look F2 0 = some (vInt d) → Go.Sx.look F2 8 = some (.bool t) → (t = true ↔ (3 ≤ d ∧ d ≤ 6)) → @Go.Sx.OW _ Try.prog C 17 (match f66r with | .region _ ops _ => ops | _ => #[]) (match f66r with | .region _ ⟨l⟩ _ => l.drop 6 | _ => []) F2 (fun w => RV v w) (fun ex F' w => ex = .normal ∧ Go.Sx.look F' 2 = some (.bool (isUntil d)) ∧ RV v w) := by
    intro F2 t g0 g8 ht
    refine ow_val (val_move (v := .bool t) (by exact g8)) rfl ?_
    cases t with
    | true =>
      obtain ⟨h1, h2⟩ := ht.1 rfl
      refine ow_guard_no (t := 9) rfl rfl rfl rfl rfl ?_
      refine ow_guard_no (t := 9) rfl rfl rfl rfl rfl ?_
      refine ow_val (val_pick_true (v := .bool true) rfl rfl) rfl ?_
      refine ow_val (val_move (v := .bool true) rfl) rfl ?_
      refine ow_guard_no (t := 13) rfl rfl rfl rfl rfl ?_
      refine ow_guard_no (t := 13) rfl rfl rfl rfl rfl ?_
      refine ow_val (val_pick_true (v := .bool true) rfl rfl) rfl ?_
      refine ow_val (val_assign (v := .bool true) rfl) rfl ?_
      refine ow_nil fun w hw => ⟨rfl, ?_, hw⟩
      show some (Value.bool _) = _
      simp [isUntil, h1, h2]
    | false =>
      have hn : ¬ (3 ≤ d ∧ d ≤ 6) := fun h => by cases ht.2 h
      refine ow_guard_yes (t := 9) rfl rfl rfl (ow_val (val_move (v := vInt d) (by exact g0)) rfl ?_)
      refine ow_guard_yes (t := 9) rfl rfl rfl (ow_val (val_eql_int (a := d) (b := 8) rfl rfl) rfl ?_ (tame_int rfl rfl))
      refine ow_val (val_pick_false (v := .bool (decide (d = 8))) rfl rfl) rfl ?_
      refine ow_val (val_move (v := .bool (decide (d = 8))) rfl) rfl ?_
      by_cases h8 : d = 8
      · rw [decide_eq_true h8]
        refine ow_guard_no (t := 13) rfl rfl rfl rfl rfl ?_
        refine ow_guard_no (t := 13) rfl rfl rfl rfl rfl ?_
        refine ow_val (val_pick_true (v := .bool true) rfl rfl) rfl ?_
        refine ow_val (val_assign (v := .bool true) rfl) rfl ?_
        refine ow_nil fun w hw => ⟨rfl, ?_, hw⟩
        show some (Value.bool _) = _
        simp [isUntil, h8]
      · rw [decide_eq_false h8]
        refine ow_guard_yes (t := 13) rfl rfl rfl (ow_val (val_move (v := vInt d) (by exact g0)) rfl ?_)
        refine ow_guard_yes (t := 13) rfl rfl rfl (ow_val (val_eql_int (a := d) (b := 10) rfl rfl) rfl ?_ (tame_int rfl rfl))
        refine ow_val (val_pick_false (v := .bool (decide (d = 10))) rfl rfl) rfl ?_
        refine ow_val (val_assign (v := .bool (decide (d = 10))) rfl) rfl ?_
        refine ow_nil fun w hw => ⟨rfl, ?_, hw⟩
        show some (Value.bool _) = _
        have e1 : (decide (3 ≤ d) && decide (d ≤ 6)) = false := by
          rw [Bool.and_eq_false_iff, decide_eq_false_iff_not, decide_eq_false_iff_not]; omega
        simp only [isUntil, e1, Bool.false_or, Option.some.injEq, Value.bool.injEq]
        have e2 : (d == 8) = false := by simpa using h8
        rw [e2, Bool.false_or]
        by_cases h10 : d = 10 <;> simp [h10]
  by_cases h3 : 3 ≤ d
  · rw [decide_eq_true h3]
    refine ow_guard_yes (t := 5) rfl rfl rfl (ow_val (val_move (v := vInt d) (by exact h0)) rfl ?_)
    refine ow_guard_yes (t := 5) rfl rfl rfl (ow_val (val_leq_int (a := d) (b := 6) rfl rfl) rfl ?_ (tame_int rfl rfl))
    refine ow_val (val_pick_true (v := .bool (decide (d ≤ 6))) rfl rfl) rfl ?_
    exact last _ (decide (d ≤ 6)) (by exact h0) rfl (by simp [h3])
  · rw [decide_eq_false h3]
    refine ow_guard_no (t := 5) rfl rfl rfl rfl rfl ?_
    refine ow_guard_no (t := 5) rfl rfl rfl rfl rfl ?_
    refine ow_val (val_pick_false (v := .bool false) rfl rfl) rfl ?_
    exact last _ false (by exact h0) rfl (by simp [h3])
set_option maxRecDepth 100000 in
theorem runtil_v {d : Int} : CallV Try.prog 66 #[vInt d] v (fun r u => r = .returned (.bool (isUntil d)) ∧ RV v u) := by
  refine callV_of_callI (callI_of_pt (vs := [vInt d]) Try.func66 rfl rfl fun cf cs g1 g2 => ?_)
  refine Pt.imp (M' := fun u => RV v u) (fun u hu => hu ▸ RV.refl _) ?_
  refine pt_seq (pt_region ?_)
  refine pt_val (by decide) rfl (val_assign (v := .bool false) rfl) rfl ?_
  refine pt_regionEnd (pt_seq ?_)
  refine pt_sw (by decide) (sw_until (d := d) rfl) (fun F' q hq => ?_) (fun ex F' q hne hq => hne hq.1)
  obtain ⟨-, h2, hq⟩ := hq
  exact pt_ret (fn := Try.f66) (v := .bool (isUntil d)) Try.func66 rfl (fun a hf => res_slot rfl h2 hf) fun w hw => g1 _ () w (hw.mono fun z hz => ⟨rfl, hz ▸ hq⟩)
end
end Go.Bt
end
section
namespace Go.Bt
variable [Gnd]
open Go.Conc Go.ConcN Go.RowKit Go.Proofs
open Go.Sx (Rly RV pz pzo pz_heap spec isWg Gud Co blk RowE Rd Mem CallV vInt callV_of_callI callI_of_pt Pt pt_seq pt_sw pt_back pt_ret pt_region pt_regionEnd pt_val pt_block pt_inBlock pt_exit pt_if pt_skip pt_do pt_draw pt_call pt_loop_inv pt_panicE lz_val val_assign val_move val_load val_nilCheck val_fieldAddr val_len val_geq_int val_lss_int val_eql_int val_add_int val_load_elem val_load_at val_indexAddr_slice acts_alloc does_store_all tame_nilCheck tame_int callsTo res_nothing res_slot Lf ReI Stb re_fall panics_index pick_v)
def wroteN (l : List (Int × Int)) (i : Int) : Nat := (l.filter fun y => y.1 == i).length
theorem wrote_take {l : List (Int × Int)} {j : Nat} {y : Int × Int} (h : l[j]? = some y) (i : Int) : wroteN (l.take (j + 1)) i = wroteN (l.take j) i + (if y.1 == i then 1 else 0) := by
  unfold wroteN
  rw [List.take_add_one, h, List.filter_append, List.length_append]
  cases e : (y.1 == i) <;> simp [e]
theorem wrote_le (l : List (Int × Int)) (i : Int) (j : Nat) : wroteN (l.take j) i ≤ j := by
  unfold wroteN
  refine Nat.le_trans (List.length_filter_le _ _) ?_
  rw [List.length_take]; omega
section
variable {v : World} [C : Co Try.prog]
set_option maxRecDepth 100000 in
set_option maxHeartbeats 4000000 in
theorem wrote_v {a : Option Addr} {c : Nat} {l : List (Int × Int)} {x : Int} (hrd : Rd v a (flatB l)) (hlen : l.length ≤ 8796093022208) : CallV Try.prog 24 #[.slice a l.length c, vI x] v (fun r u => r = .returned (vInt (wroteN l x : Nat)) ∧ RV v u) := by
  refine callV_of_callI (callI_of_pt (vs := [.slice a l.length c, vI x]) Try.func24 rfl rfl fun cf cs g1 g2 => ?_)
  refine Pt.imp (M' := fun u => RV v u) (fun u hu => hu ▸ RV.refl _) ?_
  refine pt_seq (pt_region ?_)
  refine pt_val (by decide) rfl (val_assign (v := vInt (0 : Nat)) rfl) rfl ?_
  refine pt_regionEnd (pt_seq (pt_region ?_))
  refine pt_val (by decide) rfl (val_assign (v := vInt (0 : Nat)) rfl) rfl ?_
  refine pt_regionEnd (pt_seq (pt_seq (pt_region ?_)))
  refine pt_val (by decide) rfl (val_move (v := .slice a l.length c) rfl) rfl ?_
  refine pt_val (by decide) rfl (val_len (len := l.length) rfl Try.underlying32) rfl ?_
  refine pt_val (by decide) rfl (val_move (v := vInt (0 : Nat)) rfl) rfl ?_
  refine pt_regionEnd (pt_block ?_)
  refine pt_loop_inv (fun j : Nat => j ≤ l.length) (fun j => [(5, vInt (wroteN (l.take j) x : Nat)), (8, .slice a l.length c), (9, vInt l.length), (10, vInt j), (1, vI x)]) (fun _ => ()) (fun _ z => RV v z) (fun j => l.length - j) 0 (Nat.zero_le _) ⟨rfl, rfl, rfl, rfl, rfl, trivial⟩ rfl (fun _ h => h) ?_
  rintro j hle hloop
  refine pt_seq (pt_region ?_)
  refine pt_val (by decide) rfl (val_lss_int (a := (j : Int)) (b := (l.length : Int)) rfl rfl) rfl ?_ (tame_int rfl rfl)
  refine pt_regionEnd (pt_seq (pt_if rfl (fun hlt => ?_) (fun hge => ?_)))
  · have hj : j < l.length := by omega
    have hget := get_getD hj
    obtain ⟨b, o, rfl, _⟩ := hrd (2 * j) _ (flatB_get hget).1
    refine pt_skip (pt_seq (pt_block (pt_seq (Pt.world fun z hz => ?_))))
    refine Pt.imp (M' := Mem z [] []) (fun w hw => hw ▸ Mem.refl z) (pt_region ?_)
    refine pt_val (by decide) rfl (val_indexAddr_slice (m := 2) j (o + j * 2) rfl rfl Try.underlying32 Try.sizeOf56 rfl hj rfl) rfl ?_
    refine pt_val (by decide) rfl (val_load_elem (cells := fun y : Int × Int => [vI y.1, vI y.2]) (l := l) (o := o) (i := j) rfl Try.isAgg56 Try.sizeOf56 (fun _ _ => rfl) hj rfl (fun w hw => (fun k y hy => let ⟨b', o', e1, e2⟩ := hrd k y hy; ⟨b', o', e1, cell_rv' e2 (hz.trans (Mem.rv hw))⟩))) rfl ?_
    generalize l.getD j default = y at hget
    have hst := wrote_take hget x
    have hwl := wrote_le l x j
    refine pt_new (by decide) rfl (acts_alloc Try.zeroValue56) rfl fun t6 ht6 => ?_
    refine pt_do (by decide) rfl (does_store_all 0 (cs := [vI y.1, vI y.2]) rfl rfl rfl (by intro x hx; simp only [List.mem_cons, List.not_mem_nil, or_false] at hx; rcases hx with rfl | rfl <;> rfl) Try.sizeOf56 rfl rfl) fun _ _ => ?_
    refine pt_regionEnd (pt_seq (pt_region ?_))
    refine pt_val (by decide) rfl (val_fieldAddr (b := t6) (o := 0) (e := 0) rfl Try.underlying56 rfl rfl Try.sizeOf3 rfl) rfl ?_
    refine pt_val (by decide) rfl (val_load_at (l := [some (t6, blk [vI y.1, vI y.2] 56)]) (v := vI y.1) 0 rfl rfl Try.isAgg3 rfl) rfl ?_
    refine pt_val (by decide) rfl (val_move (v := vI x) rfl) rfl ?_
    refine pt_val (by decide) rfl (val_eql_int (a := y.1) (b := x) rfl rfl) rfl ?_ (tame_int rfl rfl)
    refine Pt.imp (M' := fun w => RV v w) (fun w hw => hz.trans (Mem.rv hw)) (pt_regionEnd ?_)
    refine pt_if rfl (fun he => ?_) (fun hne => ?_)
    · rw [if_pos (by simpa using he)] at hst
      refine pt_region ?_
      refine pt_val (by decide) rfl (val_move (v := vInt (wroteN (l.take j) x : Nat)) rfl) rfl ?_
      refine pt_val (by decide) rfl (val_add_int (a := (wroteN (l.take j) x : Nat)) (b := 1) _ rfl rfl rfl (by omega)) rfl ?_ (tame_int rfl rfl)
      refine pt_val (by decide) rfl (val_assign (v := vInt (wroteN (l.take (j + 1)) x : Nat)) (by rw [hst]; rfl)) rfl ?_
      refine pt_regionEnd (pt_inBlock (pt_region ?_))
      refine pt_val (by decide) rfl (val_add_int (a := (j : Int)) (b := 1) _ rfl rfl rfl (by omega)) rfl ?_ (tame_int rfl rfl)
      refine pt_val (by decide) rfl (val_move (v := vInt (j + 1 : Nat)) rfl) rfl ?_
      refine pt_regionEnd (Pt.weaken ?_ (fun _ h => h) (hloop (j + 1) hj (by omega)))
      exact ⟨rfl, rfl, rfl, rfl, rfl, trivial⟩
    · rw [if_neg (by simpa using hne), Nat.add_zero] at hst
      refine pt_skip (pt_inBlock (pt_region ?_))
      refine pt_val (by decide) rfl (val_add_int (a := (j : Int)) (b := 1) _ rfl rfl rfl (by omega)) rfl ?_ (tame_int rfl rfl)
      refine pt_val (by decide) rfl (val_move (v := vInt (j + 1 : Nat)) rfl) rfl ?_
      refine pt_regionEnd (Pt.weaken ?_ (fun _ h => h) (hloop (j + 1) hj (by omega)))
      exact ⟨by rw [hst]; rfl, rfl, rfl, rfl, rfl, trivial⟩
  · have hjn : j = l.length := by omega
    subst hjn
    rw [List.take_of_length_le (Nat.le_refl _)]
    refine pt_exit rfl (pt_seq (pt_region ?_))
    refine pt_val (by decide) rfl (val_move (v := vInt (wroteN l x : Nat)) rfl) rfl ?_
    refine pt_val (by decide) rfl (val_assign (v := vInt (wroteN l x : Nat)) rfl) rfl ?_
    exact pt_regionEnd (pt_ret (fn := Try.f24) (v := vInt (wroteN l x : Nat)) Try.func24 rfl (fun a hf => res_slot rfl rfl hf) fun w hw => g1 _ () w (hw.mono fun q hq => ⟨rfl, hq⟩))
end
end Go.Bt
end
section
namespace Go.Sx
variable [Gnd]
open Go.ChangeShapes Go.WideShapes Go.ChangeAt Go.RowKit
section
variable {H : Type} {enc : TypeId × Value → H} {P : Program} {B : DataW H → Nat}
theorem Opener.cell {α : Type} {t : TypeId} {V : α → Value} {ok : World → α → Prop} {sz : α → Nat} (h : Opener enc P B t (fun x => [V x]) ok sz) {W : World} {v : Value} {d : DataW H} {ps : List MemPlace} (h1 : v.cells = #[v])
    (hd : DataW.Trod enc P W 0 (fun _ => true) true t v d ps) (hw : ∀ n ∈ d.weights P t, n ≤ reachBytes) : ∃ x, v = V x ∧ ok W x ∧ sz x < B d := by
  obtain ⟨fuel, hf⟩ := hd
  obtain ⟨x, hc, ho, hs⟩ := h hf hw
  rw [h1] at hc
  simp at hc
  exact ⟨x, hc, ho, hs⟩
variable {w : World} {r : Reach} {base : Nat} {t : TypeId} {v : Value}
theorem single_slice {e : TypeId} (ht : P.underlying t = some (.slice e)) (h : Value.okWide P w r base t v) : v.cells = #[v] := by obtain ⟨a, b, c, rfl⟩ := okWide_slice ht h; rfl
theorem single_bool (ht : P.underlying t = some .bool) (h : Value.okWide P w r base t v) : v.cells = #[v] := by obtain ⟨a, rfl⟩ := okWide_bool ht h; rfl
theorem weights_at {ts : List TypeId} {ds : List (DataW H)} (h : (DataW.weightsEach P ts ds).all (· ≤ reachBytes) = true) {j : Nat} {t : TypeId} {d : DataW H} (ht : ts[j]? = some t) (hd : ds[j]? = some d) : ∀ n ∈ d.weights P t, n ≤ reachBytes := by
  intro n hn
  have := List.all_eq_true.1 h _ (DataW.weights_mem_each ht hd n hn)
  simpa using this
/-- What a slice of bytes tells. -/
theorem Sl.bytes {W : World} {s : Sl UInt8} (h : Sl.ok (fun x => [vU8 x]) 1 noOk W s) : Rd W s.a (s.xs.map vU8) ∧ s.xs.length ≤ s.c ∧ s.xs.length < 9223372036854775808 := by
  have h1 := h.rd
  rw [flatMap_one] at h1
  have h2 := h.max
  have h3 := h.le
  exact ⟨h1, h3, by simp only [maxLen] at h2; omega⟩
end
end Go.Sx
end
section
namespace Go.Sx
variable [Gnd]
theorem Rd.pre {w : World} {a : Option Addr} {xs ys : List Value} (h : Rd w a (xs ++ ys)) : Rd w a xs := fun j x hj => h j x (by rw [List.getElem?_append_left (List.getElem?_eq_some_iff.1 hj).1]; exact hj)
end Go.Sx
end
section
namespace Go.Sx
variable [Gnd]
/-- The blocks of the list stand as it says. -/
def Held (l : List Ent) (w : World) : Prop := ∀ b o, some (b, o) ∈ l → w.heap[b]? = some o
theorem Held.blk {b : Nat} {xs : List Value} {T : TypeId} {l : List Ent} {w : World} (h : Held (some (b, blk xs T) :: l) w) : Rd w (some ⟨b, 0, none⟩) xs := Rd.blk (T := T) (h b _ List.mem_cons_self)
end Go.Sx
end
section
namespace Go.Sx
variable [Gnd]
variable {P : Program} [C : Co P] {n : Nat} {F : Fr} {S : World → Prop} {ty : TypeId}
end Go.Sx
end
section
namespace Go.Sx
variable [Gnd]
def RowO (v : Value) (T : TypeId) (xs : List Value) (e : Ent) : Prop :=
  (v = .slice none 0 0 ∧ xs = [] ∧ e = none) ∨
    ∃ b c pre rest, v = .slice (some ⟨b, pre.length, none⟩) xs.length c ∧ xs.length ≤ c ∧ c ≤ 9223372036854775807 ∧ c ≤ xs.length + rest.length ∧ e = some (b, blk (pre ++ xs ++ rest) T)
section
variable {P : Program} [C : Co P] {n : Nat} {F : Fr} {w0 : World} {olds : List Nat} {l : List Ent} {ty : TypeId}
omit C in
theorem RowO.nil (T : TypeId) : RowO (.slice none 0 0) T [] none := .inl ⟨rfl, rfl, rfl⟩
omit C in
theorem RowO.slice {v : Value} {T : TypeId} {xs : List Value} {e : Ent} (h : RowO v T xs e) : ∃ a c, v = .slice a xs.length c ∧ xs.length ≤ c := by
  rcases h with ⟨rfl, rfl, rfl⟩ | ⟨b, c, pre, rest, rfl, hc, _, _, rfl⟩
  · exact ⟨none, 0, rfl, Nat.le_refl _⟩
  · exact ⟨_, c, rfl, hc⟩
omit C in
/-- A row that is not empty: its block. -/
theorem RowO.blk {a : Option Addr} {k c : Nat} {T : TypeId} {xs : List Value} {e : Ent} (h : RowO (.slice a k c) T xs e) (h0 : 0 < xs.length) :
    ∃ b pre rest, a = some ⟨b, pre.length, none⟩ ∧ k = xs.length ∧ xs.length ≤ c ∧ c ≤ 9223372036854775807 ∧ c ≤ xs.length + rest.length ∧ e = some (b, blk (pre ++ xs ++ rest) T) := by
  rcases h with ⟨_, rfl, _⟩ | ⟨b, c', pre, rest, hv, hc, hm, hr, rfl⟩
  · exact absurd h0 (by simp)
  · simp only [Value.slice.injEq] at hv
    obtain ⟨rfl, rfl, rfl⟩ := hv
    exact ⟨b, pre, rest, rfl, rfl, hc, hm, hr, rfl⟩
omit C in
theorem keys_app (l m : List Ent) : keys (l ++ m) = keys l ++ keys m := by
  induction l with
  | nil => rfl
  | cons x r ih => cases x <;> simp [keys, ih]
omit C in
theorem mem_keys' {l : List Ent} {b : Nat} (h : b ∈ keys l) : ∃ o, some (b, o) ∈ l := by
  obtain ⟨x, hx, hb⟩ := List.mem_filterMap.1 h
  cases x with
  | none => cases hb
  | some y =>
    have e : y.1 = b := Option.some.inj hb
    subst e; exact ⟨y.2, hx⟩
omit C in
/-- A callee that knows, and turns, a part of what is known. -/
theorem Mem.frame {w w' : World} {l1 l1' l2 : List Ent} (h : Mem w0 olds (l1 ++ l2) w) (h' : Mem w (keys l1) l1' w') : Mem w0 olds (l1' ++ l2) w' := by
  have hn := h.nodup
  rw [keys_app] at hn
  have hlt : ∀ b o, some (b, o) ∈ l1 ++ l2 → b < w.heap.size := fun b o hb => (Array.getElem?_eq_some_iff.1 (h.own b o hb)).1
  have hk2 : ∀ b ∈ keys l2, b < w.heap.size ∧ b ∉ keys l1 := fun b hb => by
    obtain ⟨o, ho⟩ := mem_keys' hb
    exact ⟨hlt b o (List.mem_append_right _ ho), fun h1 => (List.nodup_append.1 hn).2.2 b h1 b hb rfl⟩
  refine ⟨h'.os.trans h.os, h'.tape.trans h.tape, h'.output.trans h.output, Nat.le_trans h.size h'.size, fun k hk ho => ?_, fun b o hb => ?_, ?_, fun b hb => ?_⟩
  · rw [h'.keep k (Nat.lt_of_lt_of_le hk h.size) (fun h1 => ?_), h.keep k hk ho]
    rcases h.fresh k (by rw [keys_app]; exact List.mem_append_left _ h1) with h2 | h2
    · omega
    · exact ho h2
  · rcases List.mem_append.1 hb with h1 | h1
    · exact h'.own b o h1
    · have h3 := hk2 b (mem_keys h1)
      rw [h'.keep b h3.1 h3.2]; exact h.own b o (List.mem_append_right _ h1)
  · rw [keys_app]
    refine List.nodup_append.2 ⟨h'.nodup, (List.nodup_append.1 hn).2.1, fun a ha b hb e => ?_⟩
    subst e
    have h3 := hk2 a hb
    rcases h'.fresh a ha with h4 | h4
    · omega
    · exact h3.2 h4
  · rw [keys_app] at hb
    rcases List.mem_append.1 hb with h1 | h1
    · rcases h'.fresh b h1 with h2 | h2
      · exact .inl (Nat.le_trans h.size h2)
      · exact h.fresh b (by rw [keys_app]; exact List.mem_append_left _ h2)
    · exact h.fresh b (by rw [keys_app]; exact List.mem_append_right _ h1)
omit C in
theorem Mem.startL {w : World} {l1 l2 : List Ent} (h : Mem w0 olds (l1 ++ l2) w) : Mem w (keys l1) l1 w :=
  (h.only (List.sublist_append_left _ _)).start
end
end Go.Sx
namespace Go.Ps
variable [Gnd]
end Go.Ps
end
section
namespace Go.Sx
variable [Gnd]
open Go.Conc Go.Proofs
theorem mem_of_rv {v u : World} (h : RV v u) : Mem v [] [] u := (Mem.refl v).grow h
section
variable {P : Program} [C : Co P] {n : Nat} {F : Fr} {S : World → Prop} {op : Op} {ty : TypeId} {ps : String} {af : Array Edge} {w0 : World} {olds : List Nat} {m : List Ent}
theorem lw_new {l : List Oper} {late : List Nat} {listed : Array Bool} {Q : Po} {r : List (Nat × Nat)} {i t : Nat} {o : Obj}
    (ho : nth l i = some ⟨some t, op, ty, ps, af, none⟩) (hv : Acts P n F (Mem w0 olds m) op ty (fun w u w' => u = .pointer (some ⟨w.heap.size, 0, none⟩) ∧ Mem w0 olds (some (w.heap.size, o) :: m) w')) (ht : Nat.blt t n = true)
    (hS : ∀ b w, Mem w0 olds (some (b, o) :: m) w → S w)
    (h : ∀ b, w0.heap.size ≤ b → LW P n l S late r (listed.setIfInBounds i true) ((t, .pointer (some ⟨b, 0, none⟩)) :: F) (Mem w0 olds (some (b, o) :: m)) Q) (hT : Tame P n F op ty := by infer_instance) (hS' : Stb S := by infer_instance) : LW P n l S late ((i, 2) :: r) listed F (Mem w0 olds m) Q :=
  lw_act (hT := hT) ho hv ht (fun _ w u w' _ hr => hS _ w' hr.2) (fun w u hm a w' hf hr => by obtain ⟨u_, ⟨rfl, hm'⟩, hr_⟩ := hr; exact h _ hm.size a w' hf ⟨u_, hm', hr_⟩)
end
end Go.Sx
namespace Go.Bt
variable [Gnd]
open Go.Conc Go.ConcN Go.RowKit Go.Proofs
open Go.Sx (Rly RV pz pzo pz_heap spec isWg Gud Co blk RowE Rd Mem CallV vInt SW Sub callV_of_callI callI_of_pt CallI Pt pt_seq pt_sw pt_back pt_ret pt_region pt_regionEnd pt_val pt_block pt_inBlock pt_exit pt_if pt_skip pt_do pt_draw pt_call pt_act pt_loop_inv val_assign val_move val_load val_nilCheck val_fieldAddr val_len val_geq_int val_lss_int val_eql_int val_add_int val_load_elem val_load_at val_indexAddr_slice acts_alloc does_store_all does_store_to tame_nilCheck tame_int callsTo res_nothing res_slot Lf ReI Stb re_fall pick_v slots rnote_sw rend_sw rowE_set look upd pick keys sw_region_lex lw_pure lw_held lw_nil lw_do lw_call_pure lw_new mem_of_rv)
theorem set_same {α : Type} {l : List α} {a : Nat} {x : α} (h : l[a]? = some x) : l.set a x = l := by
  refine List.ext_getElem? fun i => ?_
  rw [List.getElem?_set]
  split
  · rename_i e; subst e; split
    · exact h.symm
    · rename_i h2; exact absurd (List.getElem?_eq_some_iff.1 h).1 h2
  · rfl
def plL (l : List Ac) : List Value := l.map fun c => vI c.pl
def wtL (l : List Ac) : List Value := l.map fun c => .bool c.waits
def ovL (l : List Ac) : List Value := l.map fun c => .bool c.over
/-- The document's machine lies in the world. -/
structure MAt (v0 : World) (sb : Nat) (pv : Value) (acs : List Ac) (B : Bd) (mv : List (Int × Bool)) (w : World) : Prop where
  ex : ∃ s1 s2 s3 bs ms e1 e2 e3 eb em, RowE s1 3 1 acs.length (plL acs) e1 ∧ RowE s2 4 1 acs.length (wtL acs) e2 ∧ RowE s3 4 1 acs.length (ovL acs) e3 ∧
    RowE bs 56 2 B.notes.length (flatB B.notes) eb ∧ RowE ms 66 2 mv.length (flatM mv) em ∧ Mem v0 [] [some (sb, blk [pv, s1, s2, s3, bs, ms] 35), e1, e2, e3, eb, em] w
theorem MAt.grow {v0 : World} {sb : Nat} {pv : Value} {acs : List Ac} {B : Bd} {mv : List (Int × Bool)} {w w' : World} (h : MAt v0 sb pv acs B mv w) (hr : RV w w') : MAt v0 sb pv acs B mv w' :=
  let ⟨s1, s2, s3, bs, ms, e1, e2, e3, eb, em, h1, h2, h3, h4, h5, h6⟩ := h.ex
  ⟨s1, s2, s3, bs, ms, e1, e2, e3, eb, em, h1, h2, h3, h4, h5, h6.grow hr⟩
instance {v0 : World} {sb : Nat} {pv : Value} {acs : List Ac} {B : Bd} {mv : List (Int × Bool)} : Stb (fun w => MAt v0 sb pv acs B mv w) := ⟨fun h hr => h.grow hr⟩
section
variable [C : Co Try.prog]
noncomputable def sw_fetch38c : Code := cL (cR (Try.f38.body.getD .skip))
set_option maxRecDepth 100000 in
set_option maxHeartbeats 4000000 in
theorem sw_fetch38 {v0 : World} {sb a j n n1 pb po pc b1 c1 q qo qc : Nat} {s2 s3 bs ms : Value} {xs : List Value} {L : List Go.Sx.Ent} {p : List Ins} {o : Ins} {k : Nat} (han : a < n) (han1 : a < n1) (hx : xs[a]? = some (vInt j))
    (hc : v0.cell? ⟨pb, po + a, none⟩ = some (.slice (some ⟨q, qo, none⟩) p.length qc)) (ho : p[j]? = some o) (hrd : ∀ w, RV v0 w → Rd w (some ⟨q, qo, none⟩) (flatB p)) :
    SW Try.prog 61 sw_fetch38c [(6, vI 0), (0, vPtr sb), (1, vInt (a : Nat)), (2, vInt (k : Nat))] (Mem v0 [] (some (sb, blk [.slice (some ⟨pb, po, none⟩) n pc, .slice (some ⟨b1, 0, none⟩) n1 c1, s2, s3, bs, ms] 35) :: some (b1, blk xs 3) :: L)) (fun ex F' w => ex = .normal ∧ ∃ t, Sub ((7, vPtr t) :: [(6, vI 0), (0, vPtr sb), (1, vInt (a : Nat)), (2, vInt (k : Nat))]) F' ∧ Mem v0 [] (some (t, blk [vI o.1, vI o.2] 61) :: some (sb, blk [.slice (some ⟨pb, po, none⟩) n pc, .slice (some ⟨b1, 0, none⟩) n1 c1, s2, s3, bs, ms] 35) :: some (b1, blk xs 3) :: L) w) := by
  have hj : j < p.length := (List.getElem?_eq_some_iff.1 ho).1
  have hgo : o = p.getD j default := by rw [List.getD_eq_getElem?_getD, ho]; rfl
  subst hgo
  show SW Try.prog 61 (Code.region 1 _ true) _ _ _
  refine sw_region_lex (fun w => Mem v0 [] (some (sb, blk [.slice (some ⟨pb, po, none⟩) n pc, .slice (some ⟨b1, 0, none⟩) n1 c1, s2, s3, bs, ms] 35) :: some (b1, blk xs 3) :: L) w) [] [(0, 0), (1, 0), (2, 0), (3, 1), (4, 0), (5, 0), (6, 1), (7, 0), (8, 0), (9, 0), (10, 1), (11, 0), (12, 0), (13, 1), (14, 0), (15, 1), (16, 2), (17, 2)] (by kernel_rfl) (by kernel_rfl) (fun c F w h => by cases h.1) (fun _ h => h) (fun w h => h.drawn _) ?_
  refine lw_pure rfl (val_move (v := vPtr sb) rfl) rfl ?_
  refine lw_pure rfl (val_nilCheck (a := ⟨sb, 0, none⟩) rfl) rfl ?_ (hT := tame_nilCheck rfl)
  refine lw_pure rfl (val_fieldAddr (b := sb) (o := 0) (e := 0) rfl Try.underlying35 rfl rfl Try.sizeOf22 rfl) rfl ?_
  refine lw_held rfl (val_load_at (v := .slice (some ⟨pb, po, none⟩) n pc) 0 rfl rfl Try.isAgg22 rfl) rfl ?_
  refine lw_pure rfl (val_move (v := vInt (a : Nat)) rfl) rfl ?_
  refine lw_pure rfl (val_indexAddr_slice (m := 1) a (po + a) rfl rfl Try.underlying22 Try.sizeOf58 rfl han (by omega)) rfl ?_
  refine lw_held rfl (val_load rfl Try.isAgg58 (v := .slice (some ⟨q, qo, none⟩) p.length qc) (fun w h => h.cell_some hc)) rfl ?_
  refine lw_pure rfl (val_move (v := vPtr sb) rfl) rfl ?_
  refine lw_pure rfl (val_nilCheck (a := ⟨sb, 0, none⟩) rfl) rfl ?_ (hT := tame_nilCheck rfl)
  refine lw_pure rfl (val_fieldAddr (b := sb) (o := 0) (e := 1) rfl Try.underlying35 rfl rfl Try.sizeOf23 rfl) rfl ?_
  refine lw_held rfl (val_load_at (v := .slice (some ⟨b1, 0, none⟩) n1 c1) 0 rfl rfl Try.isAgg23 rfl) rfl ?_
  refine lw_pure rfl (val_move (v := vInt (a : Nat)) rfl) rfl ?_
  refine lw_pure rfl (val_indexAddr_slice (m := 1) a a rfl rfl Try.underlying23 Try.sizeOf3 rfl han1 (by omega)) rfl ?_
  refine lw_held rfl (val_load_at (v := vInt (j : Nat)) 1 rfl rfl Try.isAgg3 hx) rfl ?_
  refine lw_pure rfl (val_indexAddr_slice (m := 2) j (qo + j * 2) rfl rfl Try.underlying58 Try.sizeOf61 rfl hj rfl) rfl ?_
  refine lw_held rfl (val_load_elem (cells := fun y : Int × Int => [vI y.1, vI y.2]) (l := p) (o := qo) (i := j) rfl Try.isAgg61 Try.sizeOf61 (fun _ _ => rfl) hj rfl (fun w hw => hrd w (Mem.rv hw))) rfl ?_
  refine lw_new rfl (acts_alloc Try.zeroValue61) rfl (fun _ _ h => h.forget) fun t _ => ?_
  refine lw_do rfl (does_store_all 0 (cs := [vI (p.getD j default).1, vI (p.getD j default).2]) rfl rfl rfl (by intro x hx; simp only [List.mem_cons, List.not_mem_nil, or_false] at hx; rcases hx with rfl | rfl <;> rfl) Try.sizeOf61 rfl rfl) (fun _ _ _ _ h => h.forget) fun _ _ => ?_
  exact lw_nil fun w hw => ⟨rfl, t, ⟨rfl, rfl, rfl, rfl, rfl, trivial⟩, hw⟩
noncomputable def sw_fetch37c : Code := cL (cB (cR (cB (cB (cL (Try.f37.body.getD .skip))))))
set_option maxRecDepth 100000 in
set_option maxHeartbeats 4000000 in
theorem sw_fetch37 {v0 : World} {sb a j n n1 pb po pc b1 c1 q qo qc : Nat} {s2 s3 bs ms : Value} {xs : List Value} {L : List Go.Sx.Ent} {p : List Ins} {o : Ins} {k : Nat} (han : a < n) (han1 : a < n1) (hx : xs[a]? = some (vInt j))
    (hc : v0.cell? ⟨pb, po + a, none⟩ = some (.slice (some ⟨q, qo, none⟩) p.length qc)) (ho : p[j]? = some o) (hrd : ∀ w, RV v0 w → Rd w (some ⟨q, qo, none⟩) (flatB p)) :
    SW Try.prog 114 sw_fetch37c [(0, vPtr sb), (1, vInt (a : Nat)), (2, vInt (k : Nat))] (Mem v0 [] (some (sb, blk [.slice (some ⟨pb, po, none⟩) n pc, .slice (some ⟨b1, 0, none⟩) n1 c1, s2, s3, bs, ms] 35) :: some (b1, blk xs 3) :: L)) (fun ex F' w => ex = .normal ∧ ∃ t, Sub ((6, vPtr t) :: [(0, vPtr sb), (1, vInt (a : Nat)), (2, vInt (k : Nat))]) F' ∧ Mem v0 [] (some (t, blk [vI o.1, vI o.2] 61) :: some (sb, blk [.slice (some ⟨pb, po, none⟩) n pc, .slice (some ⟨b1, 0, none⟩) n1 c1, s2, s3, bs, ms] 35) :: some (b1, blk xs 3) :: L) w) := by
  have hj : j < p.length := (List.getElem?_eq_some_iff.1 ho).1
  have hgo : o = p.getD j default := by rw [List.getD_eq_getElem?_getD, ho]; rfl
  subst hgo
  show SW Try.prog 114 (Code.region 1 _ true) _ _ _
  refine sw_region_lex (fun w => Mem v0 [] (some (sb, blk [.slice (some ⟨pb, po, none⟩) n pc, .slice (some ⟨b1, 0, none⟩) n1 c1, s2, s3, bs, ms] 35) :: some (b1, blk xs 3) :: L) w) [] [(0, 0), (1, 0), (2, 0), (3, 1), (4, 0), (5, 0), (6, 1), (7, 0), (8, 0), (9, 0), (10, 1), (11, 0), (12, 0), (13, 1), (14, 0), (15, 1), (16, 2), (17, 2)] (by kernel_rfl) (by kernel_rfl) (fun c F w h => by cases h.1) (fun _ h => h) (fun w h => h.drawn _) ?_
  refine lw_pure rfl (val_move (v := vPtr sb) rfl) rfl ?_
  refine lw_pure rfl (val_nilCheck (a := ⟨sb, 0, none⟩) rfl) rfl ?_ (hT := tame_nilCheck rfl)
  refine lw_pure rfl (val_fieldAddr (b := sb) (o := 0) (e := 0) rfl Try.underlying35 rfl rfl Try.sizeOf22 rfl) rfl ?_
  refine lw_held rfl (val_load_at (v := .slice (some ⟨pb, po, none⟩) n pc) 0 rfl rfl Try.isAgg22 rfl) rfl ?_
  refine lw_pure rfl (val_move (v := vInt (a : Nat)) rfl) rfl ?_
  refine lw_pure rfl (val_indexAddr_slice (m := 1) a (po + a) rfl rfl Try.underlying22 Try.sizeOf58 rfl han (by omega)) rfl ?_
  refine lw_held rfl (val_load rfl Try.isAgg58 (v := .slice (some ⟨q, qo, none⟩) p.length qc) (fun w h => h.cell_some hc)) rfl ?_
  refine lw_pure rfl (val_move (v := vPtr sb) rfl) rfl ?_
  refine lw_pure rfl (val_nilCheck (a := ⟨sb, 0, none⟩) rfl) rfl ?_ (hT := tame_nilCheck rfl)
  refine lw_pure rfl (val_fieldAddr (b := sb) (o := 0) (e := 1) rfl Try.underlying35 rfl rfl Try.sizeOf23 rfl) rfl ?_
  refine lw_held rfl (val_load_at (v := .slice (some ⟨b1, 0, none⟩) n1 c1) 0 rfl rfl Try.isAgg23 rfl) rfl ?_
  refine lw_pure rfl (val_move (v := vInt (a : Nat)) rfl) rfl ?_
  refine lw_pure rfl (val_indexAddr_slice (m := 1) a a rfl rfl Try.underlying23 Try.sizeOf3 rfl han1 (by omega)) rfl ?_
  refine lw_held rfl (val_load_at (v := vInt (j : Nat)) 1 rfl rfl Try.isAgg3 hx) rfl ?_
  refine lw_pure rfl (val_indexAddr_slice (m := 2) j (qo + j * 2) rfl rfl Try.underlying58 Try.sizeOf61 rfl hj rfl) rfl ?_
  refine lw_held rfl (val_load_elem (cells := fun y : Int × Int => [vI y.1, vI y.2]) (l := p) (o := qo) (i := j) rfl Try.isAgg61 Try.sizeOf61 (fun _ _ => rfl) hj rfl (fun w hw => hrd w (Mem.rv hw))) rfl ?_
  refine lw_new rfl (acts_alloc Try.zeroValue61) rfl (fun _ _ h => h.forget) fun t _ => ?_
  refine lw_do rfl (does_store_all 0 (cs := [vI (p.getD j default).1, vI (p.getD j default).2]) rfl rfl rfl (by intro x hx; simp only [List.mem_cons, List.not_mem_nil, or_false] at hx; rcases hx with rfl | rfl <;> rfl) Try.sizeOf61 rfl rfl) (fun _ _ _ _ h => h.forget) fun _ _ => ?_
  exact lw_nil fun w hw => ⟨rfl, t, ⟨rfl, rfl, rfl, rfl, trivial⟩, hw⟩
theorem rnote_v {v0 w : World} {olds : List Nat} {sb m : Nat} {pv s1 s2 s3 bs s5 : Value} {i x : Int} {xs : List Value} {X : List Go.Sx.Ent} {e1 e2 e3 eb ep : Go.Sx.Ent} (hr : RowE bs 56 2 m xs eb) (hk : m + 1 ≤ 8796093022208) (hw : Mem v0 olds (X ++ [some (sb, blk [pv, s1, s2, s3, bs, s5] 35), e1, e2, e3, eb, ep]) w) :
    CallV Try.prog 65 #[vPtr sb, vI i, vI x] w (fun r u => r = .returned (.tuple #[]) ∧ ∃ bs' eb', RowE bs' 56 2 (m + 1) (xs ++ [vI i, vI x]) eb' ∧ Mem v0 olds (X ++ [some (sb, blk [pv, s1, s2, s3, bs', s5] 35), e1, e2, e3, eb', ep]) u) := by
  have hp := hw.perm (l' := [some (sb, blk [pv, s1, s2, s3, bs, s5] 35), e1, e2, e3, eb, ep] ++ X) List.perm_append_comm
  refine callV_of_callI (callI_of_pt (vs := [vPtr sb, vI i, vI x]) Try.func65 rfl rfl fun cf cs g1 g2 => ?_)
  refine Pt.imp (M' := Mem w (keys [some (sb, blk [pv, s1, s2, s3, bs, s5] 35), e1, e2, e3, eb, ep]) [some (sb, blk [pv, s1, s2, s3, bs, s5] 35), e1, e2, e3, eb, ep]) (fun u hu => hu ▸ hp.startL) ?_
  refine pt_sw (by decide) (rnote_sw (m := m) hr hk) (fun F' z hq => ?_) (fun ex F' z hne hq => hne hq.1)
  obtain ⟨-, bs', eb', hr', hz⟩ := hq
  exact pt_back (fn := Try.f65) (v := .tuple #[]) Try.func65 rfl (fun a _ => res_nothing rfl a) fun u hu => g1 _ () u (hu.mono fun y hy => by subst hy; exact ⟨rfl, bs', eb', hr', (hp.frame hz).perm List.perm_append_comm⟩)
theorem rend_v {v0 w : World} {sb a : Nat} {pv : Value} {acs : List Ac} {B : Bd} {mv : List (Int × Bool)} {c : Ac} (ha : acs[a]? = some c) (hM : MAt v0 sb pv acs B mv w) :
    CallV Try.prog 39 #[vPtr sb, vInt a] w (fun r u => r = .returned (.tuple #[]) ∧ MAt v0 sb pv (acs.set a { c with over := true }) B mv u) := by
  obtain ⟨s1, s2, s3, bs, ms, e1, e2, e3, eb, em, h1, h2, h3, h4, h5, hm⟩ := hM.ex
  have han : a < acs.length := (List.getElem?_eq_some_iff.1 ha).1
  refine callV_of_callI (callI_of_pt (vs := [vPtr sb, vInt a]) Try.func39 rfl rfl fun cf cs g1 g2 => ?_)
  refine Pt.imp (M' := Mem v0 [] [some (sb, blk [pv, s1, s2, s3, bs, ms] 35), e1, e2, e3, eb, em]) (fun u hu => hu ▸ hm) ?_
  refine pt_sw (by decide) (rend_sw h3 han) (fun F' z hq => ?_) (fun ex F' z hne hq => hne hq.1)
  obtain ⟨-, e3', hr', hz⟩ := hq
  exact pt_back (fn := Try.f39) (v := .tuple #[]) Try.func39 rfl (fun a _ => res_nothing rfl a) fun u hu => g1 _ () u (hu.mono fun y hy => by
    subst hy
    have e1' : plL (acs.set a { c with over := true }) = plL acs := by unfold plL; rw [List.map_set]; exact set_same (by rw [List.getElem?_map, ha]; rfl)
    have e2' : wtL (acs.set a { c with over := true }) = wtL acs := by unfold wtL; rw [List.map_set]; exact set_same (by rw [List.getElem?_map, ha]; rfl)
    have e3'' : ovL (acs.set a { c with over := true }) = (ovL acs).set a (.bool true) := by unfold ovL; rw [List.map_set]
    exact ⟨rfl, ⟨_, _, _, _, _, _, _, _, _, _, by rw [e1', List.length_set]; exact h1, by rw [e2', List.length_set]; exact h2, by rw [e3'', List.length_set]; exact hr', h4, h5, hz⟩⟩)
end
end Go.Bt
end
section
namespace Go.Bt
variable [Gnd]
open Go.Conc Go.ConcN Go.RowKit Go.Proofs
open Go.Sx (Rly RV pz pzo pz_heap spec isWg Gud Co blk RowE Rd Mem CallV vInt SW Sub callV_of_callI callI_of_pt CallI Pt pt_seq pt_sw pt_back pt_ret pt_region pt_regionEnd pt_val pt_block pt_inBlock pt_exit pt_if pt_cond pt_skip pt_do pt_draw pt_call pt_act pt_loop_inv val_assign val_move val_load val_nilCheck val_fieldAddr val_len val_geq_int val_lss_int val_eql_int val_add_int val_load_elem val_load_at val_indexAddr_slice acts_alloc does_store_all does_store_to tame_nilCheck tame_int callsTo res_nothing res_slot Lf ReI Stb re_fall pick_v slots rnote_sw rend_sw rowE_set look upd pick keys sw_region_lex lw_pure lw_held lw_nil lw_do lw_call_pure lw_new mem_of_rv)
section
variable [C : Co Try.prog]
noncomputable def c38_5 : Code := match Try.f38.body with
  | some (.seq _ (.seq _ (.seq _ (.seq (.seq _ (.block _ (.seq _ (.cond _ c _)))) _)))) => c
  | _ => .skip
set_option maxRecDepth 100000 in
set_option maxHeartbeats 4000000 in
theorem sw_38_5 {v0 : World} {sb t m cv : Nat} {av : Option Addr} {pv s1 s2 s3 ms : Value} {o1 o2 : Int} {L : List Go.Sx.Ent} : SW Try.prog 61 c38_5 [(7, vPtr t), (0, vPtr sb)] (Mem v0 [] (some (t, blk [vI o1, vI o2] 61) :: some (sb, blk [pv, s1, s2, s3, .slice av m cv, ms] 35) :: L)) (fun ex F' w => ex = .normal ∧ Sub [(8, .bool (decide (o2 ≤ (m : Nat))))] F' ∧ Mem v0 [] (some (t, blk [vI o1, vI o2] 61) :: some (sb, blk [pv, s1, s2, s3, .slice av m cv, ms] 35) :: L) w) := by
  show SW Try.prog 61 (Code.region 5 _ true) _ _ _
  refine sw_region_lex (fun w => Mem v0 [] (some (t, blk [vI o1, vI o2] 61) :: some (sb, blk [pv, s1, s2, s3, .slice av m cv, ms] 35) :: L) w) [] [(0, 0), (1, 0), (2, 0), (3, 1), (4, 0), (5, 0), (6, 1), (7, 0), (8, 0)] (by kernel_rfl) (by kernel_rfl) (fun c F w h => by cases h.1) (fun _ h => h) (fun w h => h.drawn _) ?_
  refine lw_pure rfl (val_move (v := vPtr sb) rfl) rfl ?_
  refine lw_pure rfl (val_nilCheck (a := ⟨sb, 0, none⟩) rfl) rfl ?_ (hT := tame_nilCheck rfl)
  refine lw_pure rfl (val_fieldAddr (b := sb) (o := 0) (e := 4) rfl Try.underlying35 rfl rfl Try.sizeOf32 rfl) rfl ?_
  refine lw_held rfl (val_load_at (v := .slice av m cv) 1 rfl rfl Try.isAgg32 rfl) rfl ?_
  refine lw_pure rfl (val_len (len := m) rfl Try.underlying32) rfl ?_
  refine lw_pure rfl (val_fieldAddr (b := t) (o := 0) (e := 1) rfl Try.underlying61 rfl rfl Try.sizeOf3 rfl) rfl ?_
  refine lw_held rfl (val_load_at (v := vI o2) 0 rfl rfl Try.isAgg3 rfl) rfl ?_
  refine lw_pure rfl (val_geq_int (a := (m : Nat)) (b := o2) rfl rfl) rfl ?_ (hT := tame_int rfl rfl)
  refine lw_pure rfl (val_assign (v := .bool (decide (o2 ≤ (m : Nat)))) rfl) rfl ?_
  exact lw_nil fun w hw => ⟨rfl, ⟨rfl, trivial⟩, hw⟩
noncomputable def c38_7 : Code := match Try.f38.body with
  | some (.seq _ (.seq _ (.seq _ (.seq (.seq _ (.block _ (.seq _ (.cond _ _ (.seq _ (.cond _ c _)))))) _)))) => c
  | _ => .skip
set_option maxRecDepth 100000 in
set_option maxHeartbeats 4000000 in
theorem sw_38_7 {v0 : World} {sb t m cv : Nat} {av : Option Addr} {pv s1 s2 s3 ms : Value} {o1 o2 : Int} {L : List Go.Sx.Ent} {nl : List (Int × Int)} (hcall : ∀ w, Mem v0 [] (some (t, blk [vI o1, vI o2] 61) :: some (sb, blk [pv, s1, s2, s3, .slice av m cv, ms] 35) :: L) w → CallV Try.prog 67 #[.slice av m cv, vI o2] w (fun r u => r = .returned (.bool (stands nl o2)) ∧ RV w u)) : SW Try.prog 61 c38_7 [(7, vPtr t), (0, vPtr sb)] (Mem v0 [] (some (t, blk [vI o1, vI o2] 61) :: some (sb, blk [pv, s1, s2, s3, .slice av m cv, ms] 35) :: L)) (fun ex F' w => ex = .normal ∧ Sub [(8, .bool (stands nl o2))] F' ∧ Mem v0 [] (some (t, blk [vI o1, vI o2] 61) :: some (sb, blk [pv, s1, s2, s3, .slice av m cv, ms] 35) :: L) w) := by
  show SW Try.prog 61 (Code.region 7 _ true) _ _ _
  refine sw_region_lex (fun w => Mem v0 [] (some (t, blk [vI o1, vI o2] 61) :: some (sb, blk [pv, s1, s2, s3, .slice av m cv, ms] 35) :: L) w) [] [(0, 0), (1, 0), (2, 0), (3, 1), (4, 0), (5, 1), (6, 2), (7, 0)] (by kernel_rfl) (by kernel_rfl) (fun c F w h => by cases h.1) (fun _ h => h) (fun w h => h.drawn _) ?_
  refine lw_pure rfl (val_move (v := vPtr sb) rfl) rfl ?_
  refine lw_pure rfl (val_nilCheck (a := ⟨sb, 0, none⟩) rfl) rfl ?_ (hT := tame_nilCheck rfl)
  refine lw_pure rfl (val_fieldAddr (b := sb) (o := 0) (e := 4) rfl Try.underlying35 rfl rfl Try.sizeOf32 rfl) rfl ?_
  refine lw_held rfl (val_load_at (v := .slice av m cv) 1 rfl rfl Try.isAgg32 rfl) rfl ?_
  refine lw_pure rfl (val_fieldAddr (b := t) (o := 0) (e := 1) rfl Try.underlying61 rfl rfl Try.sizeOf3 rfl) rfl ?_
  refine lw_held rfl (val_load_at (v := vI o2) 0 rfl rfl Try.isAgg3 rfl) rfl ?_
  refine lw_call_pure (v := .bool (stands nl o2)) rfl (callsTo Try.func67 rfl (by kernel_rfl) rfl) rfl (fun w hm => (hcall w hm).mono fun e u hu => ⟨_, hu.1, rfl, mem_of_rv hu.2⟩) ?_
  refine lw_pure rfl (val_assign (v := .bool ((stands nl o2))) rfl) rfl ?_
  exact lw_nil fun w hw => ⟨rfl, ⟨rfl, trivial⟩, hw⟩
def ansN : Ans → Int
  | .no => 0
  | .yes => 1
  | .broken => 2
noncomputable def c38e : Code := cR (cR (cR (cR (Try.f38.body.getD .skip))))
set_option maxRecDepth 100000 in
set_option maxHeartbeats 8000000 in
/-- ready. -/
theorem rready_v {v0 v : World} {sb a k j : Nat} {pv : Value} {ps : List (List Ins)} {acs : List Ac} {B : Bd} {mv : List (Int × Bool)} {c : Ac} {o : Ins} (hG : PrgV v0 pv ps) (hn : acs.length = ps.length) (ha : acs[a]? = some c) (hpl : c.pl = (j : Int)) (ho : (ps.getD a [])[j]? = some o) (hB : B.notes.length + 1 ≤ 8796093022208) (hM : MAt v0 sb pv acs B mv v) :
    CallV Try.prog 38 #[vPtr sb, vInt a, vInt k] v (fun r u => r = .returned (vI (ansN (rdyA a k o B))) ∧ MAt v0 sb pv acs (rdyB a k o B) mv u) := by
  obtain ⟨pa, pc, rfl, hp⟩ := hG.ex
  have han : a < acs.length := (List.getElem?_eq_some_iff.1 ha).1
  obtain ⟨pb, po, a', qc, rfl, hc, hrd⟩ := prog_at hp (i := a) (by omega)
  obtain ⟨q, qo, rfl, _⟩ := hrd (2 * j) _ (flatB_get ho).1
  obtain ⟨s1, s2, s3, bs, ms, e1, e2, e3, eb, em, h1, h2, h3, h4, h5, hm⟩ := hM.ex
  obtain ⟨b1, c1, rest1, rfl, rfl, hlt1, hset1⟩ := rowE_set h1 han
  obtain ⟨av, cv, rfl, hkc⟩ := h4.slice
  have hx : (plL acs ++ rest1)[a]? = some (vInt j) := by
    rw [List.getElem?_append_left (by unfold plL; rw [List.length_map]; exact han)]
    unfold plL; rw [List.getElem?_map, ha, Option.map_some, hpl]; rfl
  have hback : ∀ t w, Mem v0 [] (some (t, blk [vI o.1, vI o.2] 61) :: (some (sb, blk [.slice (some ⟨pb, po, none⟩) ps.length pc, .slice (some ⟨b1, 0, none⟩) acs.length c1, s2, s3, .slice av B.notes.length cv, ms] 35) :: some (b1, blk (plL acs ++ rest1) 3) :: [e2, e3, eb, em])) w → MAt v0 sb (.slice (some ⟨pb, po, none⟩) ps.length pc) acs B mv w := fun t w hw => ⟨_, _, _, _, _, _, _, _, _, _, h1, h2, h3, h4, h5, hw.forget⟩
  refine callV_of_callI (callI_of_pt (vs := [vPtr sb, vInt a, vInt k]) Try.func38 rfl rfl fun cf cs g1 g2 => ?_)
  -- behind the answer
  have hend : ∀ (x : Bool) (F : Go.Sx.Fr), Sub [(8, .bool x)] F → ansN (rdyA a k o B) = (if x = true then 1 else 0) → Pt (fun _ : Unit => C) 61 (Go.Sx.fr0 38) (cf :: cs) () [.inBlock 0, .code c38e] F (fun w => MAt v0 sb (.slice (some ⟨pb, po, none⟩) ps.length pc) acs (rdyB a k o B) mv w) := by
    intro x F hF hx
    refine Pt.weaken hF (fun _ h => h) (pt_inBlock (pt_seq (pt_seq (pt_region ?_))))
    refine pt_val (by decide) rfl (val_move (v := .bool x) rfl) rfl ?_
    refine pt_regionEnd (pt_cond rfl (fun hb => ?_) (fun hb => pt_skip ?_))
    · refine pt_seq (pt_region (pt_val (by decide) rfl (val_assign (v := vI 1) rfl) rfl ?_))
      exact pt_regionEnd (pt_ret (fn := Try.f38) (v := vI 1) Try.func38 rfl (fun a hf => res_slot rfl rfl hf) fun w hw => g1 _ () w (hw.mono fun z hz => ⟨by rw [hx, if_pos hb], hz⟩))
    · refine pt_seq (pt_region (pt_val (by decide) rfl (val_assign (v := vI 0) rfl) rfl ?_))
      exact pt_regionEnd (pt_ret (fn := Try.f38) (v := vI 0) Try.func38 rfl (fun a hf => res_slot rfl rfl hf) fun w hw => g1 _ () w (hw.mono fun z hz => ⟨by rw [hx, if_neg (by rw [hb]; simp)], hz⟩))
  refine Pt.imp (M' := Mem v0 [] (some (sb, blk [.slice (some ⟨pb, po, none⟩) ps.length pc, .slice (some ⟨b1, 0, none⟩) acs.length c1, s2, s3, .slice av B.notes.length cv, ms] 35) :: some (b1, blk (plL acs ++ rest1) 3) :: [e2, e3, eb, em])) (fun w hw => hw ▸ hm) (pt_seq (pt_region ?_))
  refine pt_val (by decide) rfl (val_assign (v := vI 0) rfl) rfl ?_
  refine pt_regionEnd (pt_seq ?_)
  refine Pt.weaken (F' := [(6, vI 0), (0, vPtr sb), (1, vInt a), (2, vInt k)]) ⟨rfl, rfl, rfl, rfl, trivial⟩ (fun _ h => h) ?_
  refine pt_sw (by decide) (sw_fetch38 (by omega) han hx hc ho (fun w hw k y hy => let ⟨b', o', e1, e2, _⟩ := hrd k y hy; ⟨b', o', e1, cell_rv' e2 hw⟩)) (fun F' z hq => ?_) (fun ex F' z hne hq => hne hq.1)
  obtain ⟨-, t, hF, hz⟩ := hq
  refine Pt.weaken hF (M' := Mem v0 [] (some (t, blk [vI o.1, vI o.2] 61) :: (some (sb, blk [.slice (some ⟨pb, po, none⟩) ps.length pc, .slice (some ⟨b1, 0, none⟩) acs.length c1, s2, s3, .slice av B.notes.length cv, ms] 35) :: some (b1, blk (plL acs ++ rest1) 3) :: [e2, e3, eb, em]))) (fun w hw => hw ▸ hz) ?_
  clear hF hz
  refine pt_seq (pt_region ?_)
  refine pt_val (by decide) rfl (val_assign (v := .bool false) rfl) rfl ?_
  refine pt_regionEnd (pt_seq (pt_seq (pt_region ?_)))
  refine pt_val (by decide) rfl (val_fieldAddr (b := t) (o := 0) (e := 0) rfl Try.underlying61 rfl rfl Try.sizeOf3 rfl) rfl ?_
  refine pt_val (by decide) rfl (val_load_at (v := vI o.1) 0 rfl rfl Try.isAgg3 rfl) rfl ?_
  refine pt_regionEnd (pt_block (pt_seq (pt_region ?_)))
  refine Pt.weaken (F' := [(26, vI o.1), (7, vPtr t), (0, vPtr sb), (1, vInt a), (2, vInt k), (6, vI 0), (8, .bool false)]) ⟨rfl, rfl, rfl, rfl, rfl, rfl, rfl, trivial⟩ (fun _ h => h) ?_
  refine pt_val (by decide) rfl (val_eql_int (a := o.1) (b := 3) rfl rfl) rfl ?_ (tame_int rfl rfl)
  refine pt_val (by decide) rfl (val_assign (v := .bool (decide (o.1 = 3))) rfl) rfl ?_
  refine pt_regionEnd (pt_if rfl (fun h3' => ?_) (fun h3' => ?_))
  · refine Pt.weaken (F' := [(7, vPtr t), (0, vPtr sb)]) ⟨rfl, rfl, trivial⟩ (fun _ h => h) ?_
    refine pt_sw (by decide) (sw_38_5 (av := av) (m := B.notes.length) (cv := cv)) (fun F' z hq => ?_) (fun ex F' z hne hq => hne hq.1)
    obtain ⟨-, hF, hz⟩ := hq
    refine Pt.imp (fun w hw => ?_) (hend _ F' hF ?_)
    · subst hw; have := hback t _ hz; unfold rdyB; rw [if_neg (by omega)]; exact this
    · unfold rdyA; rw [if_pos h3']; split <;> rename_i hh <;> simp [hh, ansN]
  refine pt_seq (pt_region ?_)
  refine pt_val (by decide) rfl (val_eql_int (a := o.1) (b := 4) rfl rfl) rfl ?_ (tame_int rfl rfl)
  refine pt_val (by decide) rfl (val_assign (v := .bool (decide (o.1 = 4))) rfl) rfl ?_
  refine pt_regionEnd (pt_if rfl (fun h4' => ?_) (fun h4' => ?_))
  · refine Pt.weaken (F' := [(7, vPtr t), (0, vPtr sb)]) ⟨rfl, rfl, trivial⟩ (fun _ h => h) ?_
    refine pt_sw (by decide) (sw_38_7 (av := av) (m := B.notes.length) (cv := cv) (nl := B.notes) (fun w hw => rstands_v (by obtain ⟨a2, c2, e, _, hr⟩ := h4.rd (i := 5) hw rfl; cases e; exact hr) (by omega))) (fun F' z hq => ?_) (fun ex F' z hne hq => hne hq.1)
    obtain ⟨-, hF, hz⟩ := hq
    refine Pt.imp (fun w hw => ?_) (hend _ F' hF ?_)
    · subst hw; have := hback t _ hz; unfold rdyB; rw [if_neg (by omega)]; exact this
    · unfold rdyA; rw [if_neg h3', if_pos h4']; cases stands B.notes o.2 <;> rfl
  refine pt_seq (pt_region ?_)
  refine pt_val (by decide) rfl (val_eql_int (a := o.1) (b := 5) rfl rfl) rfl ?_ (tame_int rfl rfl)
  refine pt_val (by decide) rfl (val_assign (v := .bool (decide (o.1 = 5))) rfl) rfl ?_
  refine pt_regionEnd (pt_if rfl (fun h5' => ?_) (fun h5' => ?_))
  · refine pt_region (pt_val (by decide) rfl (val_assign (v := .bool true) rfl) rfl (pt_regionEnd ?_))
    refine Pt.imp (fun w hw => ?_) (hend true _ ⟨rfl, trivial⟩ ?_)
    · have := hback t _ hw; unfold rdyB; rw [if_neg (by omega)]; exact this
    · unfold rdyA; rw [if_neg h3', if_neg h4', if_pos h5']; rfl
  refine pt_seq (pt_region ?_)
  refine pt_val (by decide) rfl (val_eql_int (a := o.1) (b := 8) rfl rfl) rfl ?_ (tame_int rfl rfl)
  refine pt_val (by decide) rfl (val_assign (v := .bool (decide (o.1 = 8))) rfl) rfl ?_
  refine pt_regionEnd (pt_if rfl (fun h8' => ?_) (fun h8' => ?_))
  · refine pt_seq (pt_region (pt_val (by decide) rfl (val_assign (v := vI 2) rfl) rfl (pt_regionEnd ?_)))
    refine pt_ret (fn := Try.f38) (v := vI 2) Try.func38 rfl (fun a hf => res_slot rfl rfl hf) fun w hw => g1 _ () w (hw.mono fun z hz => ⟨?_, ?_⟩)
    · unfold rdyA; rw [if_neg h3', if_neg h4', if_neg h5', if_pos h8']; rfl
    · have := hback t _ hz; unfold rdyB; rw [if_neg (by omega)]; exact this
  refine pt_seq (pt_region ?_)
  refine pt_val (by decide) rfl (val_eql_int (a := o.1) (b := 10) rfl rfl) rfl ?_ (tame_int rfl rfl)
  refine pt_val (by decide) rfl (val_assign (v := .bool (decide (o.1 = 10))) rfl) rfl ?_
  refine pt_regionEnd (pt_if rfl (fun h10' => ?_) (fun h10' => ?_))
  · refine pt_seq (pt_region ?_)
    refine pt_val (by decide) rfl (val_move (v := vPtr sb) rfl) rfl ?_
    refine pt_val (by decide) rfl (val_move (v := vInt (a : Nat)) rfl) rfl ?_
    refine pt_val (by decide) rfl (val_move (v := vInt (k : Nat)) rfl) rfl ?_
    refine pt_call (T := fun w r _ u => r = .returned (.tuple #[]) ∧ ∃ bs' eb', RowE bs' 56 2 (B.notes.length + 1) (flatB B.notes ++ [vInt a, vInt k]) eb' ∧ Mem v0 [] (some (t, blk [vI o.1, vI o.2] 61) :: [some (sb, blk [.slice (some ⟨pb, po, none⟩) ps.length pc, .slice (some ⟨b1, 0, none⟩) acs.length c1, s2, s3, bs', ms] 35), some (b1, blk (plL acs ++ rest1) 3), e2, e3, eb', em]) u) (by decide) rfl (callsTo (xs := [.tmp 52, .tmp 53, .tmp 54]) (vs := [vPtr sb, vInt a, vInt k]) Try.func65 rfl (by decide) rfl) (by infer_instance) (fun w hw => callI_of_v (rnote_v (X := [some (t, blk [vI o.1, vI o.2] 61)]) h4 hB hw)) (fun t' ht => by cases ht; rfl) (fun w r x' hw => ?_) (fun w ch x' hw a w' hf hl => ?_)
    rotate_left
    · obtain ⟨z, ⟨hz, _⟩, _⟩ := hl; cases hz
    refine Pt.world fun z hz => ?_
    obtain ⟨-, bs', eb', hr', hz⟩ := hz
    refine Pt.imp (M' := Mem v0 [] (some (t, blk [vI o.1, vI o.2] 61) :: [some (sb, blk [.slice (some ⟨pb, po, none⟩) ps.length pc, .slice (some ⟨b1, 0, none⟩) acs.length c1, s2, s3, bs', ms] 35), some (b1, blk (plL acs ++ rest1) 3), e2, e3, eb', em])) (fun w hw => hw ▸ hz) (pt_regionEnd (pt_region ?_))
    refine pt_val (by decide) rfl (val_move (v := vInt (k : Nat)) rfl) rfl ?_
    refine pt_val (by decide) rfl (val_fieldAddr (b := t) (o := 0) (e := 1) rfl Try.underlying61 rfl rfl Try.sizeOf3 rfl) rfl ?_
    refine pt_val (by decide) rfl (val_load_at (v := vI o.2) 0 rfl rfl Try.isAgg3 rfl) rfl ?_
    refine pt_val (by decide) rfl (val_geq_int (a := (k : Nat)) (b := o.2) rfl rfl) rfl ?_ (tame_int rfl rfl)
    refine pt_val (by decide) rfl (val_assign (v := .bool (decide (o.2 ≤ (k : Nat)))) rfl) rfl ?_
    refine pt_regionEnd (Pt.imp (fun w hw => ?_) (hend (decide (o.2 ≤ (k : Nat))) _ ⟨rfl, trivial⟩ ?_))
    · unfold rdyB; rw [if_pos h10']
      refine ⟨_, _, _, _, _, _, _, _, _, _, h1, h2, h3, ?_, h5, hw.forget⟩
      show RowE bs' 56 2 (B.notes ++ [((a : Int), (k : Int))]).length (flatB (B.notes ++ [((a : Int), (k : Int))])) eb'
      rw [List.length_append, flatB_snoc]; exact hr'
    · unfold rdyA; rw [if_neg h3', if_neg h4', if_neg h5', if_neg h8', if_pos h10']; split <;> rename_i hh <;> simp [hh, ansN]
  · refine pt_skip ?_
    refine Pt.imp (fun w hw => ?_) (hend false _ ⟨rfl, trivial⟩ ?_)
    · have := hback t _ hw; unfold rdyB; rw [if_neg h10']; exact this
    · unfold rdyA; rw [if_neg h3', if_neg h4', if_neg h5', if_neg h8', if_neg h10']; rfl
theorem rnoteM_v {v0 w : World} {sb : Nat} {a : Int} {x k : Int} {pv : Value} {acs : List Ac} {B : Bd} {mv : List (Int × Bool)} (hB : B.notes.length + 1 ≤ 8796093022208) (hM : MAt v0 sb pv acs B mv w) :
    CallV Try.prog 65 #[vPtr sb, vI a, vI x] w (fun r u => r = .returned (.tuple #[]) ∧ MAt v0 sb pv acs (B.note a x k) mv u) := by
  obtain ⟨s1, s2, s3, bs, ms, e1, e2, e3, eb, em, h1, h2, h3, h4, h5, hm⟩ := hM.ex
  refine (rnote_v (X := []) h4 hB hm).mono fun r u hu => ?_
  obtain ⟨hr, bs', eb', hr', hu⟩ := hu
  refine ⟨hr, ⟨_, _, _, _, _, _, _, _, _, _, h1, h2, h3, ?_, h5, hu⟩⟩
  show RowE bs' 56 2 (B.notes ++ [(a, x)]).length (flatB (B.notes ++ [(a, x)])) eb'
  rw [List.length_append, flatB_snoc]; exact hr'
end
end Go.Bt
end
