import Derived.Test.YtcdponddgnkecaaDoorMt4
import Derived.Test.YtcdponddgnkecaaDoorProg
set_option linter.unusedVariables false
set_option linter.unusedSimpArgs false
namespace Go.Proofs.YtcdponddgnkecaaDoor
open Go.Sx Go.Ps
theorem few_of : ∀ {ps : List Pk} {m : Nat}, ps.Pairwise (fun x y => y.p < x.p) → (∀ x ∈ ps, x.p < m) → ps.length ≤ m
  | [], m, _, _ => Nat.zero_le _
  | x :: r, m, h, hm => by
    have h1 := few_of (List.pairwise_cons.1 h).2 (m := x.p) (fun y hy => (List.pairwise_cons.1 h).1 y hy)
    have h2 : x.p < m := hm x (by simp)
    rw [List.length_cons]; omega
theorem peaks_few {ps : List Pk} {l : List (List UInt8)} (h : Peaks ps l) (hl : l.length < 9223372036854775808) : ps.length ≤ 63 :=
  few_of h.down fun x hx => lt_63 (by
    have h1 := h.len x hx
    have h3 : x.seg.length ≤ l.length := by
      rw [← h.cat]
      obtain ⟨s, t, hst⟩ := List.append_of_mem hx
      rw [hst]; simp only [segs, List.flatMap_append, List.flatMap_cons, List.length_append]; omega
    omega)
theorem rowAddr {a : Option Addr} {c n : Nat} {T : TypeId} {xs : List Value} {e : Ent} (h : RowE (.slice a n c) T 1 n xs e) (hn : 0 < n) : ∃ b o, a = some ⟨b, o, none⟩ := by
  obtain ⟨hl, ⟨hv, h0, he⟩ | ⟨b, cap, rest, hv, _⟩⟩ := h
  · omega
  · simp only [Value.slice.injEq] at hv; exact ⟨b, 0, hv.1⟩
theorem rowType {a : Option Addr} {c n : Nat} {T : TypeId} {xs : List Value} {e : Ent} (h : RowE (.slice a n c) T 1 n xs e) {bb : Nat} {o : Obj} (he : e = some (bb, o)) : ∃ ys, o = blk ys T := by
  obtain ⟨hl, ⟨hv, h0, h1⟩ | ⟨b, cap, rest, hv, _, _, _, h1⟩⟩ := h
  · rw [he] at h1; cases h1
  · rw [he] at h1; cases h1; exact ⟨_, rfl⟩
/-- The nodes' blocks are other than the tree's and its row's. -/
theorem addKeep {w w' : World} {b : Nat} {xs ys : List Value} {a : Option Addr} {c n : Nat} {e : Ent} {m : List Ent} (hrow : RowE (.slice a n c) 93 1 n ys e) (hm0 : Mem w (b :: keys [e]) [some (b, blk xs 79), e] w) (hm : Mem w (b :: keys [e]) m w') :
    ∀ (b' : Nat) (o : Obj), w.heap[b']? = some o → (∃ xs, o = blk xs 110) → w'.heap[b']? = some o := fun b' o hb ⟨zs, ho⟩ => hm.oldBlk' hb (fun hmem => by
  subst ho
  rcases List.mem_cons.1 hmem with rfl | hmem
  · have h1 := hm0.own b' _ List.mem_cons_self
    rw [h1] at hb; cases hb
  · cases he : e with
    | none => rw [he] at hmem; simp [keys] at hmem
    | some x =>
      obtain ⟨bb, o⟩ := x
      obtain ⟨ys', rfl⟩ := rowType hrow he
      rw [he] at hmem
      obtain rfl : b' = bb := by simpa [keys] using hmem
      have h1 := hm0.own b' (blk ys' 93) (by rw [he]; simp)
      rw [h1] at hb; cases hb)
theorem pow_inj {p q : Nat} (hp : p < 63) (hq : q < 63) (h : UInt64.ofNat (2 ^ p) = UInt64.ofNat (2 ^ q)) : p = q := by
  have h1 := congrArg UInt64.toNat h
  rw [pow_nat hp, pow_nat hq] at h1
  exact Nat.le_antisymm ((Nat.pow_le_pow_iff_right (show 1 < 2 by omega)).1 (Nat.le_of_eq h1)) ((Nat.pow_le_pow_iff_right (show 1 < 2 by omega)).1 (Nat.le_of_eq h1.symm))
theorem take_snoc {ps : List Pk} {q : Nat} {Y : Pk} (hY : ps.getD (q - 1) default = Y) (h0 : 0 < q) (h : q ≤ ps.length) : ps.take q = ps.take (q - 1) ++ [Y] := by
  obtain ⟨r, rfl⟩ : ∃ r, q = r + 1 := ⟨q - 1, by omega⟩
  rw [Nat.add_sub_cancel] at hY ⊢
  rw [List.take_succ_eq_append_getElem (by omega), ← hY, List.getD_eq_getElem?_getD, List.getElem?_eq_getElem (by omega), Option.getD_some]
theorem carry_lt {ps : List Pk} {x : Pk} {l : List (List UInt8)} (h : Carry ps x l) (hl : l.length < 9223372036854775808) : x.p < 63 ∧ (∀ y ∈ x.seg, y ∈ l) := by
  refine ⟨lt_63 ?_, fun y hy => by rw [← h.cat]; simp [hy]⟩
  have := h.lenx
  have h2 := congrArg List.length h.cat
  rw [List.length_append] at h2
  omega

theorem pow_dbl {p : Nat} (h : p + 1 < 63) : UInt64.ofNat (Int.toNat 2) * UInt64.ofNat (2 ^ p) = UInt64.ofNat (2 ^ (p + 1)) := by
  apply UInt64.toNat.inj
  have h1 : 2 ^ (p + 1) < 2 ^ 64 := Nat.pow_lt_pow_right (by omega) (by omega)
  rw [UInt64.toNat_mul, pow_nat h, pow_nat (by omega)]
  show 2 * 2 ^ p % 2 ^ 64 = _
  rw [Nat.pow_succ] at h1 ⊢
  rw [Nat.mod_eq_of_lt (by omega)]; omega

theorem seg_le {ps : List Pk} {l : List (List UInt8)} (h : Peaks ps l) {x : Pk} (hx : x ∈ ps) : x.seg.length ≤ l.length := by
  rw [← h.cat, segs]
  clear h
  induction ps with
  | nil => cases hx
  | cons y r ih =>
    rw [List.flatMap_cons, List.length_append]
    rcases List.mem_cons.1 hx with rfl | hx
    · omega
    · have := ih hx; omega
theorem kwO {w w' : World} {olds : List Nat} {m : List Ent} (hK : KW w) (hm : Mem w olds m w') (h0 : 0 ∉ olds := by assumption) : KW w' := fun i hi => by
  have h1 := hK i hi
  rw [← h1]
  exact World.cell?_of_block (hm.keep 0 (by
    rcases Nat.lt_or_ge 0 w.heap.size with h | h
    · exact h
    · exfalso; have h2 : w.heap.size = 0 := by omega
      simp [World.cell?, h2] at h1) h0)

theorem add_any (k : Nat) (h1 : 1 ≤ k) (h2 : k ≤ 32) (w : World) (hK : KW w) (b : Nat) (sz : UInt64) (ps : List Pk) (l : List (List UInt8)) (d : List UInt8) (hdd : d.length = 32) (hdf : fm (k : Int) d = true) (hpk : Peaks ps l) (hl63 : l.length + 1 < 4611686018427387904) (hdl : ∀ x ∈ l, x.length = 32) (hfl : ∀ x ∈ l, fm (k : Int) x = true) (a : Option Addr) (c : Nat) (e : Ent) (hrow : RowE (.slice a ps.length c) 93 1 ps.length (ps.map fun x => vPtr x.b) e) (hm0 : Mem w (b :: keys [e]) [some (b, blk (treeC k sz (.slice a ps.length c)) 79), e] w) (hnd : ∀ x ∈ ps, NodeIs 110 k w x.p x.b x.seg) (h0 : 0 ∉ (b :: keys [e])) : Calls Tryd.prog 66 #[vPtr b, .agg ((d).map vU8).toArray] w fun en w' => ∃ v, en = .returned v ∧ v = .tuple #[] ∧ ∃ (ps' : List Pk) (a' : Option Addr) (c' : Nat) (e' : Ent) (es : List Ent), RowE (.slice a' ps'.length c') 93 1 ps'.length (ps'.map fun x => vPtr x.b) e' ∧ Peaks ps' (l ++ [d]) ∧ (∀ w'', Held es w'' → (∀ x ∈ ps, NodeIs 110 k w'' x.p x.b x.seg) → ∀ x ∈ ps', NodeIs 110 k w'' x.p x.b x.seg) ∧ Mem w (b :: keys [e]) (some (b, blk (treeC k (sz + 1) (.slice a' ps'.length c')) 79) :: e' :: es) w' := by
  obtain ⟨tiP, hPi, hPz, hPsz, hPby⟩ := info_parts iPn
  have hel : ∀ y ∈ l ++ [d], y.length = 32 := fun y hy => (List.mem_append.1 hy).elim (hdl y) (fun h => by rw [List.mem_singleton.1 h]; exact hdd)
  have hef : ∀ y ∈ l ++ [d], fm (k : Int) y = true := fun y hy => (List.mem_append.1 hy).elim (hfl y) (fun h => by rw [List.mem_singleton.1 h]; exact hdf)
  have hpl : ps.length ≤ 63 := peaks_few hpk (by omega)
  refine calls_of_sw (vs := [vPtr b, .agg ((d).map vU8).toArray]) Tryd.func66 rfl Tryd.ntmps66 rfl (SW.beginM hm0 ?_)
  refine sw_seq ?_
  refine sw_region ?_
  refine ow_new (acts_box rfl) rfl (fun b3 hb3 => ?_)
  refine ow_nil (into ?_)
  refine sw_seq ?_
  refine sw_region ?_
  refine ow_val (val_load_all 0 rfl rfl Tryd.isAgg41 Tryd.sizeOf41 (by show (List.map vU8 d).length = _; rw [List.length_map]; exact hdd)) rfl ?_
  refine ow_val (val_build' (cs := nodeC d (.pointer none) (.pointer none) 1) rfl (leaf_built d hdd)) rfl ?_
  refine ow_new (acts_box rfl) rfl (fun b8 hb8 => ?_)
  refine ow_val (val_assign rfl) rfl ?_
  refine ow_nil (into ?_)
  refine sw_seq ?_
  refine sw_block ?_
  refine sw_loop (σ := Nat × Pk × List Ent) (fun t => t.1 ≤ ps.length ∧ Carry (ps.take t.1) t.2.1 (l ++ [d]) ∧ ∀ w'', Held t.2.2 w'' → (∀ x ∈ ps, NodeIs 110 k w'' x.p x.b x.seg) → NodeIs 110 k w'' t.2.1.p t.2.1.b t.2.1.seg) (fun t => [(4, vPtr t.2.1.b), (0, vPtr b)]) (fun t => Mem w (b :: keys [e]) (some (b, blk (treeC k sz (.slice a t.1 c)) 79) :: e :: t.2.2)) (fun t => t.1) (ps.length, ⟨b8, 0, [d]⟩, [some (b8, blk (nodeC d (.pointer none) (.pointer none) 1) 110)]) ⟨Nat.le_refl _, by rw [List.take_length]; exact hpk.carry b8 d, fun w'' hh _ => NodeIs.leaf (hh b8 _ List.mem_cons_self)⟩ ⟨rfl, rfl, trivial⟩ (fun w hm => ((hm.only (.cons_cons _ (.cons _ (List.Sublist.refl _)))).perm (.swap _ _ _)).perm (.cons _ (.swap _ _ _))) ?_
  rintro ⟨q, X, es⟩ ⟨hq, hcy, hX⟩
  simp only at hq hcy hX ⊢
  have hXs := carry_lt hcy (by rw [List.length_append, List.length_cons, List.length_nil]; omega)
  have hXl := lg_len h2 _ rfl (fun y hy => hel y (hXs.2 y hy))
  have hrc := hrow.le
  have hXw : ∀ (o : Obj) (w' : World), Mem w (b :: keys [e]) (some (b, o) :: e :: es) w' → NodeIs 110 k w' X.p X.b X.seg := fun o w' hm => hX w' (hm.heldSub (.cons _ (.cons _ (List.Sublist.refl _)))) (fun x hx => (hnd x hx).map (addKeep hrow hm0 hm))
  refine sw_seq ?_
  refine sw_seq ?_
  by_cases hq0 : 0 < q
  · -- yes
    obtain ⟨ba, oa, rfl⟩ := rowAddr hrow (by omega)
    obtain ⟨Y, hY⟩ : ∃ z, ps.getD (q - 1) default = z := ⟨_, rfl⟩
    have hYm : Y ∈ ps := by rw [← hY]; exact getD_mem (by omega)
    have hsn := take_snoc hY hq0 hq
    have hYl := lg_len h2 _ rfl (fun y hy => hdl y (seg_mem hpk hYm hy))
    have hY63 : Y.p < 63 := lt_63 (by have h1 := hpk.len Y hYm; have h3 := seg_le hpk hYm; omega)
    have hYw : ∀ (o : Obj) (w' : World), Mem w _ (some (b, o) :: e :: es) w' → NodeIs 110 k w' Y.p Y.b Y.seg := fun o w' hm => (hnd Y hYm).map (addKeep hrow hm0 hm)
    by_cases hYX : Y.p = X.p
    · -- yes
      have hX1 : X.p + 1 < 63 := by rw [hsn] at hcy; exact (carry_lt (hcy.step hYX 0) (by rw [List.length_append, List.length_cons, List.length_nil]; omega)).1
      refine sw_region_lex _ [] [(0, 0), (1, 0), (2, 0), (3, 1), (4, 0), (5, 0), (6, 0), (7, 0), (8, 0), (9, 0), (11, 0), (12, 0), (13, 0), (22, 0), (23, 0), (24, 0), (10, 1), (14, 1), (15, 0), (16, 0), (17, 0), (18, 1), (19, 0), (20, 0), (21, 1), (25, 1), (26, 0), (27, 0)] (by kernel_rfl) (by kernel_rfl) (fun _ _ _ h => h) (fun _ h => h) (fun _ h => h.drawn _) ?_
      refine lw_pure rfl (val_move rfl) rfl ?_
      refine lw_pure rfl (val_nilCheck rfl) rfl ?_
      refine lw_pure rfl (val_fieldAddr (m := 0) (e := 2) rfl Tryd.underlying79 rfl rfl Tryd.sizeOf77 rfl) rfl ?_
      refine lw_held rfl (val_load_at 0 rfl rfl Tryd.isAgg77 rfl) rfl ?_
      refine lw_pure rfl (val_len rfl Tryd.underlying77) rfl ?_
      refine lw_pure rfl ((val_gtr_int rfl rfl).to (congrArg Value.bool (decide_eq_true (by omega)))) rfl ?_
      refine lw_pure rfl (val_move rfl) rfl ?_
      refine lwg_pure rfl (wg rfl rfl) (val_move rfl) rfl ?_
      refine lwg_pure rfl (wg rfl rfl) (val_nilCheck rfl) rfl ?_
      refine lwg_pure rfl (wg rfl rfl) (val_fieldAddr (m := 0) (e := 2) rfl Tryd.underlying79 rfl rfl Tryd.sizeOf77 rfl) rfl ?_
      refine lwg_pure rfl (wg rfl rfl) (val_move rfl) rfl ?_
      refine lwg_pure rfl (wg rfl rfl) (val_nilCheck rfl) rfl ?_
      refine lwg_pure rfl (wg rfl rfl) (val_fieldAddr (m := 0) (e := 2) rfl Tryd.underlying79 rfl rfl Tryd.sizeOf77 rfl) rfl ?_
      refine lwg_pure rfl (wg rfl rfl) (val_move rfl) rfl ?_
      refine lwg_pure rfl (wg rfl rfl) (val_nilCheck rfl) rfl ?_
      refine lwg_pure rfl (wg rfl rfl) (val_fieldAddr (m := 0) (e := 34) rfl Tryd.underlying110 rfl rfl Tryd.sizeOf23 rfl) rfl ?_
      refine lwg_held rfl (wg rfl rfl) (val_load_at 0 rfl rfl Tryd.isAgg77 rfl) rfl ?_
      refine lwg_held rfl (wg rfl rfl) (val_load_at 0 rfl rfl Tryd.isAgg77 rfl) rfl ?_
      refine lwg_pure rfl (wg rfl rfl) (val_len rfl Tryd.underlying77) rfl ?_
      refine lwg_pure rfl (wg rfl rfl) (val_sub_int ((q - 1 : Nat) : Int) rfl rfl (by omega) (by omega)) rfl ?_
      refine lwg_pure rfl (wg rfl rfl) (val_indexAddr_slice (q - 1) (oa + (q - 1)) rfl rfl Tryd.underlying77 Tryd.sizeOf93 (by omega) (by omega) (by omega)) rfl ?_
      refine lwg_held rfl (wg rfl rfl) ((val_load (v := vPtr (ps.getD (q - 1) default).b) rfl Tryd.isAgg93 (fun w' hm => Rd.get (V := fun x : Pk => vPtr x.b) (p := ps) (k := q - 1) (hrow.rdAt hm (i := 1) rfl) (by omega) (by omega))).to (v' := vPtr Y.b) (by rw [hY])) rfl ?_
      refine lwg_pure rfl (wg rfl rfl) (val_nilCheck rfl) rfl ?_
      refine lwg_pure rfl (wg rfl rfl) (val_fieldAddr (m := 0) (e := 34) rfl Tryd.underlying110 rfl rfl Tryd.sizeOf23 rfl) rfl ?_
      refine lwg_held rfl (wg rfl rfl) (val_load (v := vU64 (UInt64.ofNat (2 ^ Y.p))) rfl Tryd.isAgg23 (fun w' hm => node_size (hYw _ w' hm) hYl)) rfl ?_
      refine lwg_held rfl (wg rfl rfl) (val_load (v := vU64 (UInt64.ofNat (2 ^ X.p))) rfl Tryd.isAgg23 (fun w' hm => node_size (hXw _ w' hm) hXl)) rfl ?_
      refine lwg_pure rfl (wg rfl rfl) ((val_eql_u64 rfl rfl).to (congrArg Value.bool (decide_eq_true ((by rw [hYX]))))) rfl ?_
      refine lw_pure rfl (val_pick_true rfl rfl) rfl ?_
      refine lw_nil (into ?_)
      refine sw_true rfl rfl ?_
      refine sw_skip (into ?_)
      refine sw_block ?_
      refine sw_seq ?_
      refine sw_region_lex _ [] [(0, 0), (1, 0), (2, 0), (4, 0), (5, 0), (6, 0), (3, 1), (7, 1), (8, 0), (9, 0), (10, 0), (11, 1), (12, 0)] (by kernel_rfl) (by kernel_rfl) (fun _ _ _ h => h) (fun _ h => h) (fun _ h => h.drawn _) ?_
      refine lw_pure rfl (val_move rfl) rfl ?_
      refine lw_pure rfl (val_nilCheck rfl) rfl ?_
      refine lw_pure rfl (val_fieldAddr (m := 0) (e := 2) rfl Tryd.underlying79 rfl rfl Tryd.sizeOf77 rfl) rfl ?_
      refine lw_pure rfl (val_move rfl) rfl ?_
      refine lw_pure rfl (val_nilCheck rfl) rfl ?_
      refine lw_pure rfl (val_fieldAddr (m := 0) (e := 2) rfl Tryd.underlying79 rfl rfl Tryd.sizeOf77 rfl) rfl ?_
      refine lw_held rfl (val_load_at 0 rfl rfl Tryd.isAgg77 rfl) rfl ?_
      refine lw_held rfl (val_load_at 0 rfl rfl Tryd.isAgg77 rfl) rfl ?_
      refine lw_pure rfl (val_len rfl Tryd.underlying77) rfl ?_
      refine lw_pure rfl (val_sub_int ((q - 1 : Nat) : Int) rfl rfl (by omega) (by omega)) rfl ?_
      refine lw_pure rfl (val_indexAddr_slice (q - 1) (oa + (q - 1)) rfl rfl Tryd.underlying77 Tryd.sizeOf93 (by omega) (by omega) (by omega)) rfl ?_
      refine lw_held rfl ((val_load (v := vPtr (ps.getD (q - 1) default).b) rfl Tryd.isAgg93 (fun w' hm => Rd.get (V := fun x : Pk => vPtr x.b) (p := ps) (k := q - 1) (hrow.rdAt hm (i := 1) rfl) (by omega) (by omega))).to (v' := vPtr Y.b) (by rw [hY])) rfl ?_
      refine lw_pure rfl (val_assign rfl) rfl ?_
      refine lw_nil (into ?_)
      refine sw_seq ?_
      refine sw_region_lex _ [14] [(0, 0), (1, 0), (2, 0), (3, 0), (5, 0), (6, 0), (7, 0), (4, 1), (8, 1), (9, 0), (10, 0), (11, 0), (12, 0), (13, 0), (14, 2)] (by kernel_rfl) (by kernel_rfl) (fun _ _ _ h => h) (fun _ h => h) (fun _ h => h.drawn _) ?_
      refine lw_pure rfl (val_move rfl) rfl ?_
      refine lw_pure rfl (val_move rfl) rfl ?_
      refine lw_pure rfl (val_nilCheck rfl) rfl ?_
      refine lw_pure rfl (val_fieldAddr (m := 0) (e := 2) rfl Tryd.underlying79 rfl rfl Tryd.sizeOf77 rfl) rfl ?_
      refine lw_pure rfl (val_move rfl) rfl ?_
      refine lw_pure rfl (val_nilCheck rfl) rfl ?_
      refine lw_pure rfl (val_fieldAddr (m := 0) (e := 2) rfl Tryd.underlying79 rfl rfl Tryd.sizeOf77 rfl) rfl ?_
      refine lw_held rfl (val_load_at 0 rfl rfl Tryd.isAgg77 rfl) rfl ?_
      refine lw_held rfl (val_load_at 0 rfl rfl Tryd.isAgg77 rfl) rfl ?_
      refine lw_pure rfl (val_len rfl Tryd.underlying77) rfl ?_
      refine lw_pure rfl (val_sub_int ((q - 1 : Nat) : Int) rfl rfl (by omega) (by omega)) rfl ?_
      refine lw_pure rfl (val_slice_hi (q - 1) rfl rfl Tryd.underlying77 Tryd.sizeOf93 (by omega) (by omega)) rfl ?_
      refine lw_pure rfl (val_nilCheck rfl) rfl ?_
      refine lw_pure rfl (val_fieldAddr (m := 0) (e := 2) rfl Tryd.underlying79 rfl rfl Tryd.sizeOf77 rfl) rfl ?_
      refine lw_do rfl (does_store 0 rfl rfl rfl rfl Tryd.sizeOf77 (by simp [Go.Ps.treeC])) (fun h => nomatch h) (fun _ _ => ?_)
      refine lw_nil (into ?_)
      refine sw_region_tree _ [18] (.one 0 0 (.one 1 0 (.one 2 0 (.one 3 0 (.one 5 0 (.one 6 0 (.one 7 0 (.one 10 0 (.one 11 0 (.one 12 0 (.one 13 0 (.one 14 0 (.one 4 1 (.one 8 1 (.one 15 1 (.one 16 0 (.one 9 2 (.one 17 0 (.one 18 2 (.one 19 0 .done)))))))))))))))))))) (by kernel_rfl) (by kernel_rfl) (fun _ _ _ h => h) (fun _ h => h) (fun _ h => h.drawn _) ?_
      refine lt_pure rfl trivial (val_move rfl) rfl ?_
      refine lt_pure rfl trivial (val_move rfl) rfl ?_
      refine lt_pure rfl trivial (val_nilCheck rfl) rfl ?_
      refine lt_pure rfl trivial (val_fieldAddr (m := 31) (e := 0) rfl Tryd.underlying110 rfl rfl Tryd.sizeOf41 rfl) rfl ?_
      refine lt_pure rfl trivial (val_move rfl) rfl ?_
      refine lt_pure rfl trivial (val_nilCheck rfl) rfl ?_
      refine lt_pure rfl trivial (val_fieldAddr (m := 31) (e := 0) rfl Tryd.underlying110 rfl rfl Tryd.sizeOf41 rfl) rfl ?_
      refine lt_pure rfl trivial (val_move rfl) rfl ?_
      refine lt_pure rfl trivial (val_move rfl) rfl ?_
      refine lt_pure rfl trivial (val_move rfl) rfl ?_
      refine lt_pure rfl trivial (val_nilCheck rfl) rfl ?_
      refine lt_pure rfl trivial (val_fieldAddr (m := 0) (e := 34) rfl Tryd.underlying110 rfl rfl Tryd.sizeOf23 rfl) rfl ?_
      refine lt_held rfl trivial (val_load_agg (cs := (lg k Y.seg).map vU8) rfl Tryd.isAgg41 Tryd.sizeOf41 (by rw [List.length_map]; exact hYl) (fun w' hm => node_dig (hYw _ w' hm) hYl)) rfl ?_
      refine lt_held rfl trivial (val_load_agg (cs := (lg k X.seg).map vU8) rfl Tryd.isAgg41 Tryd.sizeOf41 (by rw [List.length_map]; exact hXl) (fun w' hm => node_dig (hXw _ w' hm) hXl)) rfl ?_
      refine lt_held rfl trivial (val_load (v := vU64 (UInt64.ofNat (2 ^ X.p))) rfl Tryd.isAgg23 (fun w' hm => node_size (hXw _ w' hm) hXl)) rfl ?_
      refine lt_pure rfl trivial ((val_mul_u64 rfl rfl).to (congrArg vU64 (pow_dbl hX1))) rfl ?_
      refine lt_call_pure rfl trivial (callsTo Tryd.func71 rfl (by kernel_rfl) rfl) rfl (fun w hm => tjoin_any k h1 h2 (lg k Y.seg) (lg k X.seg) hYl hXl (lg_fm h1 h2 (fun y hy => hfl y (seg_mem hpk hYm hy))) (lg_fm h1 h2 (fun y hy => hef y (hXs.2 y hy))) w (kwO hK hm) b _ _ (hm.at (i := 0) rfl)) (fun _ _ h => h) ?_
      refine lt_pure rfl trivial (val_build' (cs := nodeC (nd k (lg k Y.seg) (lg k X.seg)) (vPtr Y.b) (vPtr X.b) (UInt64.ofNat (2 ^ (X.p + 1)))) rfl (node_built _ (nd_len _ _ _ h2) Y.b X.b _)) rfl ?_
      refine lt_make (fun b => .pointer (some ⟨b, 0, none⟩)) rfl trivial (acts_box rfl) rfl (fun h => nomatch h) (fun b81 hb81 => ?_)
      refine lt_pure rfl trivial (val_assign rfl) rfl ?_
      exact lt_done (fun w hm => ⟨(q - 1, ⟨b81, X.p + 1, Y.seg ++ X.seg⟩, some (b81, blk (nodeC (nd k (lg k Y.seg) (lg k X.seg)) (vPtr Y.b) (vPtr X.b) (UInt64.ofNat (2 ^ (X.p + 1)))) 110) :: es), ⟨by dsimp only; omega, (by dsimp only; rw [hsn] at hcy; exact hcy.step hYX b81), fun w'' hh hn => NodeIs.mk (hYX ▸ hn Y hYm) (hX w'' hh.tail hn) (hh b81 _ List.mem_cons_self)⟩, by dsimp only; omega, ⟨rfl, rfl, trivial⟩, (hm.perm (.swap _ _ _)).perm (.cons _ (.swap _ _ _))⟩)
    · -- no
      refine sw_region_lex _ [] [(0, 0), (1, 0), (2, 0), (3, 1), (4, 0), (5, 0), (6, 0), (7, 0), (8, 0), (9, 0), (11, 0), (12, 0), (13, 0), (22, 0), (23, 0), (24, 0), (10, 1), (14, 1), (15, 0), (16, 0), (17, 0), (18, 1), (19, 0), (20, 0), (21, 1), (25, 1), (26, 0), (27, 0)] (by kernel_rfl) (by kernel_rfl) (fun _ _ _ h => h) (fun _ h => h) (fun _ h => h.drawn _) ?_
      refine lw_pure rfl (val_move rfl) rfl ?_
      refine lw_pure rfl (val_nilCheck rfl) rfl ?_
      refine lw_pure rfl (val_fieldAddr (m := 0) (e := 2) rfl Tryd.underlying79 rfl rfl Tryd.sizeOf77 rfl) rfl ?_
      refine lw_held rfl (val_load_at 0 rfl rfl Tryd.isAgg77 rfl) rfl ?_
      refine lw_pure rfl (val_len rfl Tryd.underlying77) rfl ?_
      refine lw_pure rfl ((val_gtr_int rfl rfl).to (congrArg Value.bool (decide_eq_true (by omega)))) rfl ?_
      refine lw_pure rfl (val_move rfl) rfl ?_
      refine lwg_pure rfl (wg rfl rfl) (val_move rfl) rfl ?_
      refine lwg_pure rfl (wg rfl rfl) (val_nilCheck rfl) rfl ?_
      refine lwg_pure rfl (wg rfl rfl) (val_fieldAddr (m := 0) (e := 2) rfl Tryd.underlying79 rfl rfl Tryd.sizeOf77 rfl) rfl ?_
      refine lwg_pure rfl (wg rfl rfl) (val_move rfl) rfl ?_
      refine lwg_pure rfl (wg rfl rfl) (val_nilCheck rfl) rfl ?_
      refine lwg_pure rfl (wg rfl rfl) (val_fieldAddr (m := 0) (e := 2) rfl Tryd.underlying79 rfl rfl Tryd.sizeOf77 rfl) rfl ?_
      refine lwg_pure rfl (wg rfl rfl) (val_move rfl) rfl ?_
      refine lwg_pure rfl (wg rfl rfl) (val_nilCheck rfl) rfl ?_
      refine lwg_pure rfl (wg rfl rfl) (val_fieldAddr (m := 0) (e := 34) rfl Tryd.underlying110 rfl rfl Tryd.sizeOf23 rfl) rfl ?_
      refine lwg_held rfl (wg rfl rfl) (val_load_at 0 rfl rfl Tryd.isAgg77 rfl) rfl ?_
      refine lwg_held rfl (wg rfl rfl) (val_load_at 0 rfl rfl Tryd.isAgg77 rfl) rfl ?_
      refine lwg_pure rfl (wg rfl rfl) (val_len rfl Tryd.underlying77) rfl ?_
      refine lwg_pure rfl (wg rfl rfl) (val_sub_int ((q - 1 : Nat) : Int) rfl rfl (by omega) (by omega)) rfl ?_
      refine lwg_pure rfl (wg rfl rfl) (val_indexAddr_slice (q - 1) (oa + (q - 1)) rfl rfl Tryd.underlying77 Tryd.sizeOf93 (by omega) (by omega) (by omega)) rfl ?_
      refine lwg_held rfl (wg rfl rfl) ((val_load (v := vPtr (ps.getD (q - 1) default).b) rfl Tryd.isAgg93 (fun w' hm => Rd.get (V := fun x : Pk => vPtr x.b) (p := ps) (k := q - 1) (hrow.rdAt hm (i := 1) rfl) (by omega) (by omega))).to (v' := vPtr Y.b) (by rw [hY])) rfl ?_
      refine lwg_pure rfl (wg rfl rfl) (val_nilCheck rfl) rfl ?_
      refine lwg_pure rfl (wg rfl rfl) (val_fieldAddr (m := 0) (e := 34) rfl Tryd.underlying110 rfl rfl Tryd.sizeOf23 rfl) rfl ?_
      refine lwg_held rfl (wg rfl rfl) (val_load (v := vU64 (UInt64.ofNat (2 ^ Y.p))) rfl Tryd.isAgg23 (fun w' hm => node_size (hYw _ w' hm) hYl)) rfl ?_
      refine lwg_held rfl (wg rfl rfl) (val_load (v := vU64 (UInt64.ofNat (2 ^ X.p))) rfl Tryd.isAgg23 (fun w' hm => node_size (hXw _ w' hm) hXl)) rfl ?_
      refine lwg_pure rfl (wg rfl rfl) ((val_eql_u64 rfl rfl).to (congrArg Value.bool (decide_eq_false ((fun h => hYX (pow_inj hY63 hXs.1 h)))))) rfl ?_
      refine lw_pure rfl (val_pick_true rfl rfl) rfl ?_
      refine lw_nil (into ?_)
      refine sw_false rfl rfl ?_
      refine sw_exit (into ?_)
      refine sw_seq ?_
      refine sw_region ?_
      refine ow_val (val_move rfl) rfl ?_
      refine ow_val (val_move rfl) rfl ?_
      refine ow_val (val_nilCheck rfl) rfl ?_
      refine ow_val (val_fieldAddr (m := 0) (e := 2) rfl Tryd.underlying79 rfl rfl Tryd.sizeOf77 rfl) rfl ?_
      refine ow_val (val_load_at 0 rfl rfl Tryd.isAgg77 rfl) rfl ?_
      refine ow_val (val_move rfl) rfl ?_
      refine ow_make (acts_buildSlice (cs := [vPtr X.b]) Tryd.underlying77 Tryd.sizeOf93 zPn rfl rfl (by kernel_rfl)) rfl (fun b88 hb88 => ?_)
      refine ow_append' (k := q + 1) (acts_append (size := 1) (bytes := 8) 2 rfl rfl rfl (rowTake hrow hq) rfl Tryd.underlying77 hPi hPz hPsz hPby rfl (by decide) (fun w hm => Rd.blk (hm.at (i := 0) rfl)) rfl (fun u hu => by rw [List.mem_singleton.1 hu]; rfl) (by omega) (by omega)) rfl (fun a89 c89 e89 hr89 => ?_)
      refine ow_val (val_nilCheck rfl) rfl ?_
      refine ow_val (val_fieldAddr (m := 0) (e := 2) rfl Tryd.underlying79 rfl rfl Tryd.sizeOf77 rfl) rfl ?_
      refine ow_do (does_store 1 rfl rfl rfl rfl Tryd.sizeOf77 (by simp [Go.Ps.treeC])) (fun _ _ => ?_)
      refine ow_nil (into ?_)
      refine sw_region ?_
      refine ow_val (val_move rfl) rfl ?_
      refine ow_val (val_nilCheck rfl) rfl ?_
      refine ow_val (val_fieldAddr (m := 0) (e := 1) rfl Tryd.underlying79 rfl rfl Tryd.sizeOf23 rfl) rfl ?_
      refine ow_val (val_load_at 1 rfl rfl Tryd.isAgg23 rfl) rfl ?_
      refine ow_val (val_add_u64 rfl rfl) rfl ?_
      refine ow_val (val_nilCheck rfl) rfl ?_
      refine ow_val (val_fieldAddr (m := 0) (e := 1) rfl Tryd.underlying79 rfl rfl Tryd.sizeOf23 rfl) rfl ?_
      refine ow_do (does_store 1 rfl rfl rfl rfl Tryd.sizeOf23 (by simp [Go.Ps.treeC])) (fun _ _ => ?_)
      refine ow_nil (fun w hm => ?_)
      try dsimp only [thenP, blockP, Nat.beq, cond]
      exact ret_end rfl ⟨rfl, ps.take q ++ [X], a89, c89, e89, es, by rw [List.length_append, List.length_take, Nat.min_eq_left hq]; exact hr89.cong rfl rfl (by rw [List.map_append, List.map_take]; rfl), hcy.done (fun y hy => by rw [hsn, List.getLast?_append] at hy; simp at hy; subst hy; exact hYX), fun w'' hh hn x hx => (List.mem_append.1 hx).elim (fun h => hn x (List.mem_of_mem_take h)) (fun h => by rw [List.mem_singleton.1 h]; exact hX w'' hh hn), by rw [List.length_append, List.length_take, Nat.min_eq_left hq]; exact hm.only (.cons _ (.cons_cons _ (.cons_cons _ (List.Sublist.refl _))))⟩
  · -- no
    refine sw_region_lex _ [] [(0, 0), (1, 0), (2, 0), (3, 1), (4, 0), (5, 0), (6, 0), (7, 0), (8, 0), (9, 0), (10, 0), (11, 0), (12, 0), (13, 0), (14, 0), (15, 0), (16, 0), (17, 0), (18, 0), (19, 0), (20, 0), (21, 0), (22, 0), (23, 0), (24, 0), (25, 0), (26, 0), (27, 0)] (by kernel_rfl) (by kernel_rfl) (fun _ _ _ h => h) (fun _ h => h) (fun _ h => h.drawn _) ?_
    refine lw_pure rfl (val_move rfl) rfl ?_
    refine lw_pure rfl (val_nilCheck rfl) rfl ?_
    refine lw_pure rfl (val_fieldAddr (m := 0) (e := 2) rfl Tryd.underlying79 rfl rfl Tryd.sizeOf77 rfl) rfl ?_
    refine lw_held rfl (val_load_at 0 rfl rfl Tryd.isAgg77 rfl) rfl ?_
    refine lw_pure rfl (val_len rfl Tryd.underlying77) rfl ?_
    refine lw_pure rfl ((val_gtr_int rfl rfl).to (congrArg Value.bool (decide_eq_false (by omega)))) rfl ?_
    refine lw_pure rfl (val_move rfl) rfl ?_
    first | refine lwg_no rfl (ng1 rfl rfl) rfl ?_ | refine lwg_no rfl (ng2 rfl rfl) rfl ?_
    first | refine lwg_no rfl (ng1 rfl rfl) rfl ?_ | refine lwg_no rfl (ng2 rfl rfl) rfl ?_
    first | refine lwg_no rfl (ng1 rfl rfl) rfl ?_ | refine lwg_no rfl (ng2 rfl rfl) rfl ?_
    first | refine lwg_no rfl (ng1 rfl rfl) rfl ?_ | refine lwg_no rfl (ng2 rfl rfl) rfl ?_
    first | refine lwg_no rfl (ng1 rfl rfl) rfl ?_ | refine lwg_no rfl (ng2 rfl rfl) rfl ?_
    first | refine lwg_no rfl (ng1 rfl rfl) rfl ?_ | refine lwg_no rfl (ng2 rfl rfl) rfl ?_
    first | refine lwg_no rfl (ng1 rfl rfl) rfl ?_ | refine lwg_no rfl (ng2 rfl rfl) rfl ?_
    first | refine lwg_no rfl (ng1 rfl rfl) rfl ?_ | refine lwg_no rfl (ng2 rfl rfl) rfl ?_
    first | refine lwg_no rfl (ng1 rfl rfl) rfl ?_ | refine lwg_no rfl (ng2 rfl rfl) rfl ?_
    first | refine lwg_no rfl (ng1 rfl rfl) rfl ?_ | refine lwg_no rfl (ng2 rfl rfl) rfl ?_
    first | refine lwg_no rfl (ng1 rfl rfl) rfl ?_ | refine lwg_no rfl (ng2 rfl rfl) rfl ?_
    first | refine lwg_no rfl (ng1 rfl rfl) rfl ?_ | refine lwg_no rfl (ng2 rfl rfl) rfl ?_
    first | refine lwg_no rfl (ng1 rfl rfl) rfl ?_ | refine lwg_no rfl (ng2 rfl rfl) rfl ?_
    first | refine lwg_no rfl (ng1 rfl rfl) rfl ?_ | refine lwg_no rfl (ng2 rfl rfl) rfl ?_
    first | refine lwg_no rfl (ng1 rfl rfl) rfl ?_ | refine lwg_no rfl (ng2 rfl rfl) rfl ?_
    first | refine lwg_no rfl (ng1 rfl rfl) rfl ?_ | refine lwg_no rfl (ng2 rfl rfl) rfl ?_
    first | refine lwg_no rfl (ng1 rfl rfl) rfl ?_ | refine lwg_no rfl (ng2 rfl rfl) rfl ?_
    first | refine lwg_no rfl (ng1 rfl rfl) rfl ?_ | refine lwg_no rfl (ng2 rfl rfl) rfl ?_
    first | refine lwg_no rfl (ng1 rfl rfl) rfl ?_ | refine lwg_no rfl (ng2 rfl rfl) rfl ?_
    first | refine lwg_no rfl (ng1 rfl rfl) rfl ?_ | refine lwg_no rfl (ng2 rfl rfl) rfl ?_
    refine lw_pure rfl (val_pick_false rfl rfl) rfl ?_
    refine lw_nil (into ?_)
    refine sw_false rfl rfl ?_
    refine sw_exit (into ?_)
    refine sw_seq ?_
    refine sw_region ?_
    refine ow_val (val_move rfl) rfl ?_
    refine ow_val (val_move rfl) rfl ?_
    refine ow_val (val_nilCheck rfl) rfl ?_
    refine ow_val (val_fieldAddr (m := 0) (e := 2) rfl Tryd.underlying79 rfl rfl Tryd.sizeOf77 rfl) rfl ?_
    refine ow_val (val_load_at 0 rfl rfl Tryd.isAgg77 rfl) rfl ?_
    refine ow_val (val_move rfl) rfl ?_
    refine ow_make (acts_buildSlice (cs := [vPtr X.b]) Tryd.underlying77 Tryd.sizeOf93 zPn rfl rfl (by kernel_rfl)) rfl (fun b88 hb88 => ?_)
    refine ow_append' (k := q + 1) (acts_append (size := 1) (bytes := 8) 2 rfl rfl rfl (rowTake hrow hq) rfl Tryd.underlying77 hPi hPz hPsz hPby rfl (by decide) (fun w hm => Rd.blk (hm.at (i := 0) rfl)) rfl (fun u hu => by rw [List.mem_singleton.1 hu]; rfl) (by omega) (by omega)) rfl (fun a89 c89 e89 hr89 => ?_)
    refine ow_val (val_nilCheck rfl) rfl ?_
    refine ow_val (val_fieldAddr (m := 0) (e := 2) rfl Tryd.underlying79 rfl rfl Tryd.sizeOf77 rfl) rfl ?_
    refine ow_do (does_store 1 rfl rfl rfl rfl Tryd.sizeOf77 (by simp [Go.Ps.treeC])) (fun _ _ => ?_)
    refine ow_nil (into ?_)
    refine sw_region ?_
    refine ow_val (val_move rfl) rfl ?_
    refine ow_val (val_nilCheck rfl) rfl ?_
    refine ow_val (val_fieldAddr (m := 0) (e := 1) rfl Tryd.underlying79 rfl rfl Tryd.sizeOf23 rfl) rfl ?_
    refine ow_val (val_load_at 1 rfl rfl Tryd.isAgg23 rfl) rfl ?_
    refine ow_val (val_add_u64 rfl rfl) rfl ?_
    refine ow_val (val_nilCheck rfl) rfl ?_
    refine ow_val (val_fieldAddr (m := 0) (e := 1) rfl Tryd.underlying79 rfl rfl Tryd.sizeOf23 rfl) rfl ?_
    refine ow_do (does_store 1 rfl rfl rfl rfl Tryd.sizeOf23 (by simp [Go.Ps.treeC])) (fun _ _ => ?_)
    refine ow_nil (fun w hm => ?_)
    try dsimp only [thenP, blockP, Nat.beq, cond]
    exact ret_end rfl ⟨rfl, ps.take q ++ [X], a89, c89, e89, es, by rw [List.length_append, List.length_take, Nat.min_eq_left hq]; exact hr89.cong rfl rfl (by rw [List.map_append, List.map_take]; rfl), hcy.done (fun y hy => by rw [show q = 0 by omega] at hy; simp at hy), fun w'' hh hn x hx => (List.mem_append.1 hx).elim (fun h => hn x (List.mem_of_mem_take h)) (fun h => by rw [List.mem_singleton.1 h]; exact hX w'' hh hn), by rw [List.length_append, List.length_take, Nat.min_eq_left hq]; exact hm.only (.cons _ (.cons_cons _ (.cons_cons _ (List.Sublist.refl _))))⟩
end Go.Proofs.YtcdponddgnkecaaDoor
