import Derived.Test.YtpmnhmfahgchgaaDoorDigT
set_option linter.unusedVariables false
set_option linter.unusedSimpArgs false
namespace Go.Sx
open Go.Ps

structure Cop.fine (o : Cop) : Prop where
  ll : o.L.length = 32
  gl : o.log.length = 32
  ke : ∀ d ∈ o.kids.xs, d.length = 32
  pm : o.pairs.xs.length < 9223372036854775808
  pe : ∀ s ∈ prs o.pairs.xs, s.1.length < 2 ^ 64 ∧ s.2.length < 2 ^ 64
theorem one_fine {a b : Cop} (ha : a.fine) (hb : b.fine) (hka : 1 ≤ a.kind ∧ a.kind ≤ 6) (hkb : 1 ≤ b.kind ∧ b.kind ≤ 6) (hw : a.w = b.w) (ea : (opIn a).2 = 0) (eb : (opIn b).2 = 0) :
    (a.kind = b.kind → decide ((opIn a).1 = (opIn b).1) = sameO a b) ∧ (¬ a.kind = b.kind → decide ((opIn a).1 = (opIn b).1) = false) := by
  refine ⟨fun hk => ?_, fun hk => ?_⟩
  · rw [Bool.eq_iff_iff, decide_eq_true_eq]
    unfold opIn at ea eb ⊢
    unfold sameO
    rw [← hk] at eb ⊢
    by_cases h1 : a.kind = 1
    · simp only [h1, if_true, true_or, decide_eq_true_eq]; exact leaf_inj
    by_cases h2 : a.kind = 2
    · simp only [h2, if_true, if_false, Int.reduceEq, or_self, Bool.and_eq_true, decide_eq_true_eq] at ea eb ⊢
      rw [nodeP, nodeP, if_pos ea, if_pos eb, ← hw]
      rw [← hw] at eb
      exact node_inj ha.ll hb.ll (chk_mem ea (by simp)) (chk_mem ea (by simp)) (chk_mem eb (by simp)) (chk_mem eb (by simp))
    by_cases h3 : a.kind = 3
    · simp only [h3, if_true, if_false, Int.reduceEq, or_true, decide_eq_true_eq]; exact key_inj
    by_cases h4 : a.kind = 4
    · simp only [h4, if_true, if_false, Int.reduceEq, or_self, decide_eq_true_eq]
      have hpa := ha.pm
      have hpb := hb.pm
      exact bucket_inj (by rw [prs_len]; omega) (by rw [prs_len]; omega) ha.pe hb.pe
    by_cases h5 : a.kind = 5
    · simp only [h5, if_true, if_false, Int.reduceEq, or_self, Bool.and_eq_true, decide_eq_true_eq] at ea eb ⊢
      rw [branchP, branchP, if_pos ea, if_pos eb, ← hw]
      rw [← hw] at eb
      obtain ⟨c1, _, o1⟩ := chkB_zero ea
      obtain ⟨c2, _, o2⟩ := chkB_zero eb
      exact branch_inj o1 o2 (fun d hd => ⟨ha.ke d hd, chk_mem c1 hd⟩) (fun d hd => ⟨hb.ke d hd, chk_mem c2 hd⟩)
    · simp only [h1, h2, h3, h4, h5, if_false, or_self, Bool.and_eq_true, decide_eq_true_eq] at ea eb ⊢
      rw [rootP, rootP, if_pos ea, if_pos eb, ← hw]
      rw [← hw] at eb
      rw [root_inj ha.gl hb.gl (chk_mem ea (by simp)) (chk_mem ea (by simp)) (chk_mem eb (by simp)) (chk_mem eb (by simp)), and_assoc]
  · rw [decide_eq_false_iff_not]
    intro h
    obtain ⟨r, h1⟩ := opIn_fst a ea
    obtain ⟨s, h2⟩ := opIn_fst b eb
    rw [h1, h2] at h
    injection h with h3 _
    exact hk (kind_tag hka hkb h3)

/-- Of a bitmap's ones, below i, the digests. -/
def kidsAt (w : Nat) (bm : UInt16) (ks : List (List UInt8)) : Nat → List (List UInt8)
  | 0 => []
  | i + 1 => if (bm >>> UInt16.ofNat i) &&& 1 = 0 then kidsAt w bm ks i else kidsAt w bm ks i ++ [if (kidsAt w bm ks i).length < ks.length then cutw w (ks.getD (kidsAt w bm ks i).length default) else zeros32]
theorem bit16 (bm : UInt16) {i : Nat} (hi : i < 16) : ((bm >>> UInt16.ofNat i) &&& 1 = 0) ↔ bm.toNat / 2 ^ i % 2 = 0 := by
  rw [← UInt16.toNat_inj, UInt16.toNat_and, UInt16.toNat_shiftRight, UInt16.toNat_ofNat']
  have h1 : i % 2 ^ 16 % 16 = i := by omega
  rw [h1, Nat.shiftRight_eq_div_pow]
  show bm.toNat / 2 ^ i &&& 1 = 0 ↔ _
  rw [Nat.and_one_is_mod]
theorem onesF_snoc : ∀ (i n : Nat), onesF (i + 1) n = onesF i n + n / 2 ^ i % 2
  | 0, n => by simp [onesF]
  | i + 1, n => by
    rw [onesF_step (i + 1) n, onesF_snoc i (n / 2), onesF_step i n, Nat.div_div_eq_div_mul, Nat.pow_succ, Nat.mul_comm 2]
    omega
theorem kidsAt_len (w : Nat) (bm : UInt16) (ks : List (List UInt8)) : ∀ i, i ≤ 16 → (kidsAt w bm ks i).length = onesF i bm.toNat
  | 0, _ => rfl
  | i + 1, h => by
    have ih := kidsAt_len w bm ks i (by omega)
    rw [kidsAt, onesF_snoc]
    by_cases hb : (bm >>> UInt16.ofNat i) &&& 1 = 0
    · rw [if_pos hb, ih, (bit16 bm (by omega)).1 hb]; rfl
    · rw [if_neg hb, List.length_append, ih]
      have h2 : ¬ bm.toNat / 2 ^ i % 2 = 0 := fun h3 => hb ((bit16 bm (by omega)).2 h3)
      have : bm.toNat / 2 ^ i % 2 = 1 := by omega
      rw [this]; rfl
theorem cutw_idem {w : Nat} {d : List UInt8} (hd : d.length = 32) (hw : w ≤ 32) : cutw w (cutw w d) = cutw w d := by
  show (cutw w d).take w ++ _ = _
  rw [cutw, List.take_left' (by rw [List.length_take]; omega)]
theorem cutw_zeros {w : Nat} (hw : w ≤ 32) : cutw w zeros32 = zeros32 := by
  rw [cutw, zeros32, List.take_replicate, List.replicate_append_replicate]
  congr 1; omega
theorem kidsAt_mem {w : Nat} (hw : w ≤ 32) {bm : UInt16} {ks : List (List UInt8)} (hk : ∀ d ∈ ks, d.length = 32) : ∀ i, ∀ d ∈ kidsAt w bm ks i, d.length = 32 ∧ cutw w d = d
  | 0, d, h => by cases h
  | i + 1, d, h => by
    rw [kidsAt] at h
    by_cases hb : (bm >>> UInt16.ofNat i) &&& 1 = 0
    · rw [if_pos hb] at h; exact kidsAt_mem hw hk i d h
    · rw [if_neg hb] at h
      rcases List.mem_append.1 h with h | h
      · exact kidsAt_mem hw hk i d h
      · rw [List.mem_singleton.1 h]
        by_cases hl : (kidsAt w bm ks i).length < ks.length
        · rw [if_pos hl]
          have := hk _ (getD_mem hl)
          exact ⟨cutw_len this hw, cutw_idem this hw⟩
        · rw [if_neg hl]; exact ⟨rfl, cutw_zeros hw⟩

structure Nod where
  k : UInt8
  o : Cop
instance : Inhabited Nod := ⟨⟨0, default⟩⟩
def Nod.cells (n : Nod) : List Value := vU8 n.k :: n.o.cells.drop 2
def Nod.kids (n : Nod) (w : Nat) : List (List UInt8) := kidsAt w n.o.bm n.o.kids.xs 16
def Nod.op (n : Nod) (w : Nat) : Cop := { n.o with kind := (n.k.toNat : Int) + 1, w := (w : Int), L := cutw w n.o.L, R := cutw w n.o.R, kids := ⟨none, 0, n.kids w⟩, log := cutw w n.o.log, map := cutw w n.o.map }
def nodIn (w : Nat) (n : Nod) : List UInt8 := if n.k = 6 then [] else if 6 < n.k then [5] else (opIn (n.op w)).1
def alikeO (w : Nat) (a b : Nod) : Bool := if a.k ≠ b.k then decide (6 < a.k) && decide (6 < b.k) else if a.k < 6 then sameO (a.op w) (b.op w) else true
section
variable {W : World} {n : Nod}
theorem Nod.drop (n : Nod) (j : Nat) : n.cells.drop (j + 1) = n.o.cells.drop (j + 2) := by
  rw [Nod.cells, List.drop_succ_cons, List.drop_drop, Nat.add_comm]
theorem Nod.get (n : Nod) (j : Nat) : n.cells[j + 1]? = n.o.cells[j + 2]? := by
  rw [Nod.cells, List.getElem?_cons_succ, List.getElem?_drop, Nat.add_comm]
theorem Nod.cells_len (h : n.o.ok W) : n.cells.length = 134 := by
  rw [Nod.cells, List.length_cons, List.length_drop, Cop.cells_len h]
theorem Nod.one : ∀ v ∈ n.cells, v.oneCell' = true := by
  intro v hv
  rcases List.mem_cons.1 hv with rfl | h
  · rfl
  · exact Cop.one v (List.mem_of_mem_drop h)
theorem Nod.c1 : n.cells[1]? = some n.o.P.v := rfl
theorem Nod.c66 (h : n.o.ok W) : n.cells[66]? = some n.o.pairs.v := (Nod.get n 65).trans (Cop.c67 h)
theorem Nod.c67 (h : n.o.ok W) : n.cells[67]? = some (vU16 n.o.bm) := (Nod.get n 66).trans (Cop.c68 h)
theorem Nod.c68 (h : n.o.ok W) : n.cells[68]? = some n.o.kids.v := (Nod.get n 67).trans (Cop.c69 h)
theorem Nod.c69 (h : n.o.ok W) : n.cells[69]? = some (vU64 n.o.size) := (Nod.get n 68).trans (Cop.get67 h 3)
theorem Nod.cells_L (h : n.o.ok W) : (n.cells.drop 2).take 32 = n.o.L.map vU8 := by rw [Nod.drop n 1]; exact Cop.cells_L h
theorem Nod.cells_R (h : n.o.ok W) : (n.cells.drop 34).take 32 = n.o.R.map vU8 := by rw [Nod.drop n 33]; exact Cop.cells_R h
theorem Nod.cells_root (h : n.o.ok W) : (n.cells.drop 69).take 65 = rootC n.o.size n.o.log n.o.map := by rw [Nod.drop n 68]; exact Cop.cells_root h
theorem rootC_log {s : UInt64} {l m : List UInt8} (hl : l.length = 32) : ((rootC s l m).drop 1).take 32 = l.map vU8 := by
  rw [rootC, List.drop_succ_cons, List.drop_zero, List.take_left' (by rw [List.length_map]; exact hl)]
theorem rootC_map {s : UInt64} {l m : List UInt8} (hl : l.length = 32) (hm : m.length = 32) : ((rootC s l m).drop 33).take 32 = m.map vU8 := by
  rw [rootC, List.drop_succ_cons, List.drop_left' (by rw [List.length_map]; exact hl), List.take_of_length_le (by rw [List.length_map, hm]; omega)]
theorem Nod.cells_log (h : n.o.ok W) : (n.cells.drop 70).take 32 = n.o.log.map vU8 := by
  have h1 := congrArg (fun l => (l.drop 1).take 32) (Nod.cells_root h)
  rw [rootC_log h.gl, List.drop_take, List.drop_drop, List.take_take] at h1
  exact h1
theorem Nod.cells_map (h : n.o.ok W) : (n.cells.drop 102).take 32 = n.o.map.map vU8 := by
  have h1 := congrArg (fun l => (l.drop 33).take 32) (Nod.cells_root h)
  rw [rootC_map h.gl h.ml, List.drop_take, List.drop_drop, List.take_take] at h1
  exact h1
end
theorem fm_of {w : Nat} (h1 : 1 ≤ w) (h2 : w ≤ 32) {d : List UInt8} (h : cutw w d = d) : fm (w : Int) d = true := by
  simp only [fm, wd_of h1 h2, Int.toNat_natCast, h, decide_true, Bool.and_self]
theorem Nod.op_fine {W : World} {n : Nod} (h : n.o.ok W) {w : Nat} (h2 : w ≤ 32) : (n.op w).fine :=
  ⟨cutw_len h.ll h2, cutw_len h.gl h2, fun d hd => (kidsAt_mem h2 h.ke 16 d hd).1, h.pm, prs_small h.pe⟩
theorem Nod.chk2 {w : Nat} (h1 : 1 ≤ w) (h2 : w ≤ 32) {l r : List UInt8} (hl : l.length = 32) (hr : r.length = 32) : chk (w : Int) [cutw w l, cutw w r] = 0 :=
  chk_all (wd_of h1 h2) (fun d hd => by
    rcases List.mem_cons.1 hd with rfl | hd
    · exact fm_of h1 h2 (cutw_idem hl h2)
    · rw [List.mem_singleton.1 hd]; exact fm_of h1 h2 (cutw_idem hr h2))
theorem Nod.chkB {W : World} {n : Nod} (h : n.o.ok W) {w : Nat} (h1 : 1 ≤ w) (h2 : w ≤ 32) (hb : ¬ n.o.bm = 0) : chkB (w : Int) n.o.bm (n.kids w) = 0 := by
  have hc : chk (w : Int) (n.kids w) = 0 := chk_all (wd_of h1 h2) (fun d hd => fm_of h1 h2 (kidsAt_mem h2 h.ke 16 d hd).2)
  rw [Go.Ps.chkB, if_neg (by rw [hc]; exact fun h => h rfl), if_neg]
  rintro (h3 | h3)
  · exact hb h3
  · exact h3 (kidsAt_len w n.o.bm n.o.kids.xs 16 (Nat.le_refl _)).symm
theorem u8_lt6 {k : UInt8} (h6 : ¬ k = 6) (h7 : ¬ 6 < k) : k.toNat < 6 := by
  have h1 : ¬ 6 < k.toNat := fun h => h7 (UInt8.lt_iff_toNat_lt.2 h)
  have h2 : ¬ k.toNat = 6 := fun h => h6 (UInt8.toNat_inj.1 h)
  omega
theorem Nod.op_zero {W : World} {n : Nod} (h : n.o.ok W) {w : Nat} (h1 : 1 ≤ w) (h2 : w ≤ 32) (hb : ¬ (n.k = 4 ∧ n.o.bm = 0)) : (opIn (n.op w)).2 = 0 := by
  unfold opIn
  by_cases e1 : (n.op w).kind = 1
  · rw [if_pos e1]
  by_cases e2 : (n.op w).kind = 2
  · rw [if_neg e1, if_pos e2]; exact Nod.chk2 h1 h2 h.ll h.rl
  by_cases e3 : (n.op w).kind = 3
  · rw [if_neg e1, if_neg e2, if_pos e3]
  by_cases e4 : (n.op w).kind = 4
  · rw [if_neg e1, if_neg e2, if_neg e3, if_pos e4]
  by_cases e5 : (n.op w).kind = 5
  · rw [if_neg e1, if_neg e2, if_neg e3, if_neg e4, if_pos e5]
    refine Nod.chkB h h1 h2 fun h0 => hb ⟨?_, h0⟩
    have : (n.k.toNat : Int) + 1 = 5 := e5
    exact UInt8.toNat_inj.1 (by show n.k.toNat = 4; omega)
  · rw [if_neg e1, if_neg e2, if_neg e3, if_neg e4, if_neg e5]; exact Nod.chk2 h1 h2 h.gl h.ml
theorem nod_law {W W' : World} {a b : Nod} (ha : a.o.ok W) (hb : b.o.ok W') {w : Nat} (h1 : 1 ≤ w) (h2 : w ≤ 32) (ba : ¬ (a.k = 4 ∧ a.o.bm = 0)) (bb : ¬ (b.k = 4 ∧ b.o.bm = 0)) : decide (nodIn w a = nodIn w b) = alikeO w a b := by
  have za := Nod.op_zero ha h1 h2 ba
  have zb := Nod.op_zero hb h1 h2 bb
  have pa := opIn_head _ za
  have pb := opIn_head _ zb
  have n6 : ∀ k : UInt8, k = 6 → ¬ k < 6 ∧ ¬ 6 < k := fun k h => by subst h; decide
  have n7 : ∀ k : UInt8, 6 < k → ¬ k < 6 := fun k h h3 => by
    have := UInt8.lt_iff_toNat_lt.1 h
    have := UInt8.lt_iff_toNat_lt.1 h3
    omega
  have nil_ne : ∀ x : List UInt8, 0 < x.length → ¬ ([] = x) := fun x h e => by subst e; simp at h
  have five_ne : ∀ x : List UInt8, x.getD 0 default ≠ 5 → ¬ ([5] = x) := fun x h e => by subst e; exact h rfl
  unfold nodIn alikeO
  by_cases a6 : a.k = 6
  · rw [if_pos a6]
    by_cases b6 : b.k = 6
    · rw [if_pos b6, if_neg (by rw [a6, b6]; exact fun h => h rfl), if_neg (n6 _ a6).1]; rfl
    · rw [if_neg b6, if_pos (fun h => b6 (h.symm.trans a6)), decide_eq_false (n6 _ a6).2, Bool.false_and]
      by_cases b7 : 6 < b.k
      · rw [if_pos b7]; rfl
      · rw [if_neg b7]; exact decide_eq_false (nil_ne _ pb.1)
  · rw [if_neg a6]
    by_cases a7 : 6 < a.k
    · rw [if_pos a7]
      by_cases b6 : b.k = 6
      · rw [if_pos b6, if_pos (fun h => a6 (h.trans b6)), decide_eq_false (n6 _ b6).2, Bool.and_false]; rfl
      · rw [if_neg b6]
        by_cases b7 : 6 < b.k
        · rw [if_pos b7, decide_eq_true rfl]
          by_cases hk : a.k ≠ b.k
          · rw [if_pos hk, decide_eq_true a7, decide_eq_true b7]; rfl
          · rw [if_neg hk, if_neg (n7 _ a7)]
        · rw [if_neg b7, if_pos (fun h : a.k = b.k => b7 (h ▸ a7)), decide_eq_false b7, Bool.and_false]
          exact decide_eq_false (five_ne _ pb.2)
    · rw [if_neg a7]
      have la := u8_lt6 a6 a7
      by_cases b6 : b.k = 6
      · rw [if_pos b6, if_pos (fun h => a6 (h.trans b6)), decide_eq_false a7, Bool.false_and]
        exact decide_eq_false fun h => nil_ne _ pa.1 h.symm
      · rw [if_neg b6]
        by_cases b7 : 6 < b.k
        · rw [if_pos b7, if_pos (fun h : a.k = b.k => a7 (h ▸ b7)), decide_eq_false a7, Bool.false_and]
          exact decide_eq_false fun h => five_ne _ pa.2 h.symm
        · rw [if_neg b7]
          have lb := u8_lt6 b6 b7
          obtain ⟨e1, e2⟩ := one_fine (Nod.op_fine ha h2) (Nod.op_fine hb h2) (by show 1 ≤ (a.k.toNat : Int) + 1 ∧ (a.k.toNat : Int) + 1 ≤ 6; omega) (by show 1 ≤ (b.k.toNat : Int) + 1 ∧ (b.k.toNat : Int) + 1 ≤ 6; omega) rfl za zb
          by_cases hk : a.k ≠ b.k
          · rw [if_pos hk, decide_eq_false a7, Bool.false_and]
            refine e2 fun h => hk (UInt8.toNat_inj.1 ?_)
            have : (a.k.toNat : Int) + 1 = (b.k.toNat : Int) + 1 := h
            omega
          · rw [if_neg hk, if_pos (UInt8.lt_iff_toNat_lt.2 la)]
            exact e1 (by rw [ne_eq, Decidable.not_not] at hk; show (a.k.toNat : Int) + 1 = (b.k.toNat : Int) + 1; rw [hk])
end Go.Sx
