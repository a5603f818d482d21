import Derived.Test.YtiagaoeaploijaaDoorSha6
import Derived.Test.YtiagaoeaploijaaDoorSxU
import Derived.Test.YtiagaoeaploijaaDoorPRoot
import Derived.Test.YtiagaoeaploijaaDoorProg
set_option linter.unusedVariables false
set_option linter.unusedSimpArgs false
namespace Go.Proofs.YtiagaoeaploijaaDoor
open Go.Sx Go.Ps
theorem iu64 : (Tryd.prog.info? 34).map (fun i => (i.zero, i.size, i.bytes)) = some (some (.int .u64 0), 1, 8) := by kernel_rfl
theorem info_p64 {o : Option TypeInfo} {z : Value} {s b : Nat} (h : o.map (fun i => (i.zero, i.size, i.bytes)) = some (some z, s, b)) : ∃ i, o = some i ∧ i.zero = some z ∧ i.size = s ∧ i.bytes = b := by
  obtain ⟨i, hi, he⟩ := Option.map_eq_some_iff.1 h
  simp only [Prod.mk.injEq] at he
  exact ⟨i, hi, he.1, he.2.1, he.2.2⟩
theorem made64 (L : Nat) : (madeCells (Value.int .u64 0).cells L).toList = (List.replicate L (0 : UInt64)).map vU64 := by
  rw [show (Value.int .u64 0).cells = #[Value.int .u64 0] from rfl, made_one, List.map_replicate]; rfl
theorem rowB0 {a : Option Addr} {k c size : Nat} {T : TypeId} {xs : List Value} {e : Ent} (h : RowE (.slice a k c) T size k xs e) (h0 : 0 < k) : ∃ b, a = some ⟨b, 0, none⟩ := by
  obtain ⟨_, ⟨_, h1, _⟩ | ⟨b, cap, rest, hv, _⟩⟩ := h
  · omega
  · simp only [Value.slice.injEq] at hv; exact ⟨b, hv.1⟩
theorem one_u64s (l : List UInt64) : ∀ v ∈ l.map vU64, v.oneCell' = true := fun v hv => by obtain ⟨x, _, rfl⟩ := List.mem_map.1 hv; rfl
theorem sm_two {x y : UInt64} (hx : x.toNat < 524288) (hy : y.toNat < 524288) : sm [x, y] := fun t ht => by
  match t, ht with
  | 0, _ => exact hx
  | 1, _ => exact hy
theorem sm_one : sm [1] := fun t ht => by
  match t, ht with
  | 0, _ => decide
theorem prime_step {n d : Nat} (h : ∀ e, 2 ≤ e → e < d → n % e ≠ 0) (hd : n % d ≠ 0) : ∀ e, 2 ≤ e → e < d + 1 → n % e ≠ 0 := fun e h1 h2 => by
  by_cases h3 : e < d
  · exact h e h1 h3
  · obtain rfl : e = d := by omega
    exact hd
theorem sm_zeros (n : Nat) : sm (List.replicate n 0) := fun t ht => by
  rw [List.length_replicate] at ht
  rw [List.getD_eq_getElem?_getD, List.getElem?_replicate, if_pos ht]; decide
theorem sm_app {l : List UInt64} (h : sm l) : sm (l ++ [0]) := fun t ht => by
  rw [List.length_append] at ht
  by_cases h1 : t < l.length
  · rw [List.getD_eq_getElem?_getD, List.getElem?_append_left h1, ← List.getD_eq_getElem?_getD]; exact h t h1
  · obtain rfl : t = l.length := by simp at ht; omega
    rw [List.getD_eq_getElem?_getD, List.getElem?_append_right (Nat.le_refl _), Nat.sub_self]; decide
theorem digs (x : UInt64) (h : x.toNat < 274877906944) : sm [x % 524288, x / 524288] ∧ vl [x % 524288, x / 524288] = x.toNat := by
  have e1 : (x % 524288).toNat = x.toNat % 524288 := by rw [UInt64.toNat_mod]; rfl
  have e2 : (x / 524288).toNat = x.toNat / 524288 := by rw [UInt64.toNat_div]; rfl
  refine ⟨sm_two (by rw [e1]; omega) (by rw [e2]; omega), ?_⟩
  show (x % 524288).toNat + 524288 * ((x / 524288).toNat + 524288 * 0) = _
  rw [e1, e2]; omega

theorem times_any (w : World) (a1 : Option Addr) (c1 : Nat) (xs : List UInt64) (hr1 : Rd w a1 (xs.map vU64)) (a2 : Option Addr) (c2 : Nat) (ys : List UInt64) (hr2 : Rd w a2 (ys.map vU64)) (hsx : sm xs) (hsy : sm ys) (hl : xs.length + ys.length ≤ 1000) : Calls Tryd.prog 42 #[.slice a1 xs.length c1, .slice a2 ys.length c2] w fun e w' => ∃ v, e = .returned v ∧ ∃ t : Nat × List UInt64, v = .slice (some ⟨t.1, 0, none⟩) (xs.length + ys.length) (xs.length + ys.length) ∧ (t.2.length = (xs.length + ys.length) ∧ sm t.2 ∧ vl t.2 = vl xs * vl ys) ∧ Mem w [] [some (t.1, blk (t.2.map vU64) 34)] w' := by
  obtain ⟨ti6, hi6, hz6, hsz6, hby6⟩ := info_p64 iu64
  refine calls_of_sw (vs := [.slice a1 xs.length c1, .slice a2 ys.length c2]) Tryd.func42 rfl Tryd.ntmps42 rfl (SW.begin ?_)
  refine sw_seq ?_
  refine sw_region ?_
  refine ow_val (val_assign rfl) rfl ?_   -- 4
  refine ow_nil (into ?_)
  refine sw_seq ?_
  refine sw_region ?_
  refine ow_val (val_move rfl) rfl ?_   -- 8
  refine ow_val (val_len rfl Tryd.underlying60) rfl ?_   -- 9
  refine ow_val (val_move rfl) rfl ?_   -- 10
  refine ow_val (val_len rfl Tryd.underlying60) rfl ?_   -- 11
  refine ow_val (val_add_int ((xs.length + ys.length : Nat) : Int) rfl rfl (by omega) (by omega)) rfl ?_   -- 12
  refine ow_make (o := blk ((List.replicate (xs.length + ys.length) (0 : UInt64)).map vU64) 34) (acts_make_to (vs := (List.replicate (xs.length + ys.length) (0 : UInt64)).map vU64) (xs.length + ys.length) (xs.length + ys.length) rfl rfl rfl rfl Tryd.underlying60 hi6 hz6 (Nat.le_refl _) (by rw [hby6]; omega) (by omega) (by rw [hsz6, Nat.mul_one]; exact made64 _)) rfl (fun b13 hb13 => ?_)   -- 13
  refine ow_val (val_assign rfl) rfl ?_   -- 5
  refine ow_nil (into ?_)
  refine sw_seq ?_
  refine sw_seq ?_
  refine sw_region ?_
  refine ow_val (val_assign rfl) rfl ?_   -- 6
  refine ow_nil (into ?_)
  refine sw_block ?_
  refine sw_loop (σ := Nat × List UInt64) (fun t => t.1 ≤ xs.length ∧ t.2.length = (xs.length + ys.length) ∧ sm t.2 ∧ vl t.2 = vl (xs.take t.1) * vl ys) (fun t => [(6, vInt (t.1 : Int)), (5, .slice (some ⟨b13, 0, none⟩) (xs.length + ys.length) (xs.length + ys.length)), (1, .slice a2 ys.length c2), (0, .slice a1 xs.length c1)]) (fun t => Mem w [] [some (b13, blk (t.2.map vU64) 34)]) (fun t => xs.length - t.1) (0, List.replicate (xs.length + ys.length) 0) ⟨Nat.zero_le _, List.length_replicate, sm_zeros _, by rw [vl_zeros, List.take_zero]; exact (Nat.zero_mul _).symm⟩ ⟨rfl, rfl, rfl, rfl, trivial⟩ (fun w hm => hm) ?_
  rintro ⟨i, c⟩ ⟨hi, hcl, hcs, hcv⟩
  simp only at hi hcl hcs hcv ⊢
  refine sw_seq ?_
  refine sw_seq ?_
  refine sw_region ?_
  refine ow_val (val_move rfl) rfl ?_   -- 14
  refine ow_val (val_move rfl) rfl ?_   -- 15
  refine ow_val (val_len rfl Tryd.underlying60) rfl ?_   -- 16
  refine ow_val (val_lss_int rfl rfl) rfl ?_   -- 17
  refine ow_nil (into ?_)
  refine sw_if rfl (fun h0 => ?_) (fun h0 => ?_)
  · -- then
    obtain ⟨b1, o1, rfl⟩ := hr1.addr (by rw [List.length_map]; omega)
    refine sw_skip (into ?_)
    refine sw_seq ?_
    refine sw_block ?_
    refine sw_seq ?_
    refine sw_region ?_
    refine ow_val (val_assign rfl) rfl ?_   -- 7
    refine ow_nil (into ?_)
    refine sw_block ?_
    refine sw_loop (σ := Nat × List UInt64) (fun t => t.1 ≤ ys.length ∧ t.2.length = (xs.length + ys.length) ∧ sm4 t.2 (i + t.1) ∧ vl t.2 = vl (xs.take i) * vl ys + (xs.getD i default).toNat * vl (ys.take t.1) * 524288 ^ i) (fun t => [(7, vInt (t.1 : Int)), (6, vInt (i : Int)), (5, .slice (some ⟨b13, 0, none⟩) (xs.length + ys.length) (xs.length + ys.length)), (1, .slice a2 ys.length c2), (0, .slice (some ⟨b1, o1, none⟩) xs.length c1)]) (fun t => Mem w [] [some (b13, blk (t.2.map vU64) 34)]) (fun t => ys.length - t.1) (0, c) ⟨Nat.zero_le _, hcl, sm_four hcs _, by rw [hcv, List.take_zero]; show _ = _ + _ * 0 * _; rw [Nat.mul_zero, Nat.zero_mul, Nat.add_zero]⟩ ⟨rfl, rfl, rfl, rfl, rfl, trivial⟩ (fun w hm => hm) ?_
    rintro ⟨j, e⟩ ⟨hj, hel, hes, hev⟩
    simp only at hj hel hes hev ⊢
    refine sw_seq ?_
    refine sw_seq ?_
    refine sw_region ?_
    refine ow_val (val_move rfl) rfl ?_   -- 20
    refine ow_val (val_move rfl) rfl ?_   -- 21
    refine ow_val (val_len rfl Tryd.underlying60) rfl ?_   -- 22
    refine ow_val (val_lss_int rfl rfl) rfl ?_   -- 23
    refine ow_nil (into ?_)
    refine sw_if rfl (fun h6 => ?_) (fun h6 => ?_)
    · -- then
      obtain ⟨b2, o2, rfl⟩ := hr2.addr (by rw [List.length_map]; omega)
      refine sw_skip (into ?_)
      refine sw_seq ?_
      refine sw_block ?_
      refine sw_seq ?_
      refine sw_region_lex _ [17] [(0, 0), (1, 0), (2, 0), (3, 0), (4, 0), (6, 0), (7, 0), (8, 0), (10, 0), (11, 0), (12, 0), (5, 1), (9, 1), (13, 1), (14, 0), (15, 0), (16, 0), (17, 2)] (by kernel_rfl) (by kernel_rfl) (fun _ _ _ h => h) (fun _ h => h) (fun _ h => h.drawn _) ?_
      refine lw_pure rfl (val_move rfl) rfl ?_   -- 26
      refine lw_pure rfl (val_move rfl) rfl ?_   -- 27
      refine lw_pure rfl (val_move rfl) rfl ?_   -- 28
      refine lw_pure rfl (val_add_int ((i + j : Nat) : Int) rfl rfl (by omega) (by omega)) rfl ?_   -- 29
      refine lw_pure rfl (val_indexAddr_slice (i + j) (i + j) rfl rfl Tryd.underlying60 Tryd.sizeOf34 (by omega) (by omega) (by omega)) rfl ?_   -- 30
      refine lw_pure rfl (val_move rfl) rfl ?_   -- 32
      refine lw_pure rfl (val_move rfl) rfl ?_   -- 33
      refine lw_pure rfl (val_indexAddr_slice (i) (o1 + i) rfl rfl Tryd.underlying60 Tryd.sizeOf34 (by omega) (by omega) (by omega)) rfl ?_   -- 34
      refine lw_pure rfl (val_move rfl) rfl ?_   -- 36
      refine lw_pure rfl (val_move rfl) rfl ?_   -- 37
      refine lw_pure rfl (val_indexAddr_slice (j) (o2 + j) rfl rfl Tryd.underlying60 Tryd.sizeOf34 (by omega) (by omega) (by omega)) rfl ?_   -- 38
      refine lw_held rfl (val_load_at 0 rfl rfl Tryd.isAgg34 (get_map _ _ _ (by first | omega | (simp only [List.length_set]; omega)))) rfl ?_   -- 31
      refine lw_held rfl (val_load rfl Tryd.isAgg34 (fun w' hm => Rd.get (p := xs) (k := i) (hr1.mem hm) (by omega) (by omega))) rfl ?_   -- 35
      refine lw_held rfl (val_load rfl Tryd.isAgg34 (fun w' hm => Rd.get (p := ys) (k := j) (hr2.mem hm) (by omega) (by omega))) rfl ?_   -- 39
      refine lw_pure rfl (val_mul_u64 rfl rfl) rfl ?_   -- 40
      refine lw_pure rfl (val_add_u64 rfl rfl) rfl ?_   -- 41
      refine lw_pure rfl (val_indexAddr_slice (i + j) (i + j) rfl rfl Tryd.underlying60 Tryd.sizeOf34 (by omega) (by omega) (by omega)) rfl ?_   -- 42
      refine lw_do rfl (does_store_map (V := vU64) 0 rfl rfl rfl rfl Tryd.sizeOf34 (by first | omega | (simp only [List.length_set]; omega))) (fun h => nomatch h) (fun _ _ => ?_)
      refine lw_nil (into ?_)
      refine sw_seq ?_
      refine sw_region_lex _ [16] [(0, 0), (1, 0), (2, 0), (3, 0), (4, 0), (5, 0), (7, 0), (8, 0), (9, 0), (10, 0), (11, 0), (6, 1), (12, 1), (13, 0), (14, 0), (15, 0), (16, 2)] (by kernel_rfl) (by kernel_rfl) (fun _ _ _ h => h) (fun _ h => h) (fun _ h => h.drawn _) ?_
      refine lw_pure rfl (val_move rfl) rfl ?_   -- 43
      refine lw_pure rfl (val_move rfl) rfl ?_   -- 44
      refine lw_pure rfl (val_move rfl) rfl ?_   -- 45
      refine lw_pure rfl (val_add_int ((i + j : Nat) : Int) rfl rfl (by omega) (by omega)) rfl ?_   -- 46
      refine lw_pure rfl (val_add_int ((i + j + 1 : Nat) : Int) rfl rfl (by omega) (by omega)) rfl ?_   -- 47
      refine lw_pure rfl (val_indexAddr_slice (i + j + 1) (i + j + 1) rfl rfl Tryd.underlying60 Tryd.sizeOf34 (by omega) (by omega) (by omega)) rfl ?_   -- 48
      refine lw_pure rfl (val_move rfl) rfl ?_   -- 50
      refine lw_pure rfl (val_move rfl) rfl ?_   -- 51
      refine lw_pure rfl (val_move rfl) rfl ?_   -- 52
      refine lw_pure rfl (val_add_int ((i + j : Nat) : Int) rfl rfl (by omega) (by omega)) rfl ?_   -- 53
      refine lw_pure rfl (val_indexAddr_slice (i + j) (i + j) rfl rfl Tryd.underlying60 Tryd.sizeOf34 (by omega) (by omega) (by omega)) rfl ?_   -- 54
      refine lw_held rfl (val_load_at 0 rfl rfl Tryd.isAgg34 (get_map _ _ _ (by first | omega | (simp only [List.length_set]; omega)))) rfl ?_   -- 49
      refine lw_held rfl (val_load_at 0 rfl rfl Tryd.isAgg34 (get_map _ _ _ (by first | omega | (simp only [List.length_set]; omega)))) rfl ?_   -- 55
      refine lw_pure rfl (val_quo_u64 rfl rfl (by decide)) rfl ?_   -- 56
      refine lw_pure rfl (val_add_u64 rfl rfl) rfl ?_   -- 57
      refine lw_pure rfl (val_indexAddr_slice (i + j + 1) (i + j + 1) rfl rfl Tryd.underlying60 Tryd.sizeOf34 (by omega) (by omega) (by omega)) rfl ?_   -- 58
      refine lw_do rfl (does_store_map (V := vU64) 0 rfl rfl rfl rfl Tryd.sizeOf34 (by first | omega | (simp only [List.length_set]; omega))) (fun h => nomatch h) (fun _ _ => ?_)
      refine lw_nil (into ?_)
      refine sw_region ?_
      refine ow_val (val_move rfl) rfl ?_   -- 59
      refine ow_val (val_move rfl) rfl ?_   -- 60
      refine ow_val (val_move rfl) rfl ?_   -- 61
      refine ow_val (val_add_int ((i + j : Nat) : Int) rfl rfl (by omega) (by omega)) rfl ?_   -- 62
      refine ow_val (val_indexAddr_slice (i + j) (i + j) rfl rfl Tryd.underlying60 Tryd.sizeOf34 (by omega) (by omega) (by omega)) rfl ?_   -- 63
      refine ow_val (val_load_at 0 rfl rfl Tryd.isAgg34 (get_map _ _ _ (by first | omega | (simp only [List.length_set]; omega)))) rfl ?_   -- 64
      refine ow_val (val_rem_u64 rfl rfl (by decide)) rfl ?_   -- 65
      refine ow_val (val_indexAddr_slice (i + j) (i + j) rfl rfl Tryd.underlying60 Tryd.sizeOf34 (by omega) (by omega) (by omega)) rfl ?_   -- 66
      refine ow_do (does_store_map (V := vU64) 0 rfl rfl rfl rfl Tryd.sizeOf34 (by first | omega | (simp only [List.length_set]; omega))) (fun _ _ => ?_)
      refine ow_nil (into ?_)
      refine sw_region ?_
      refine ow_val (val_move rfl) rfl ?_   -- 24
      refine ow_val (val_add_int ((j + 1 : Nat) : Int) rfl rfl (by omega) (by omega)) rfl ?_   -- 25
      refine ow_val (val_assign rfl) rfl ?_   -- 7
      have hst := mstep_ok (c := e) (p := i + j) (u := xs.getD i default) (v := ys.getD j default) (by omega) (hsx i (by omega)) (hsy j (by omega)) hes
      have htk := take_succ_vl (l := ys) (j := j) (by omega)
      exact ow_nil (fun w hm => ⟨(j + 1, (mstep e (i + j) (xs.getD i default) (ys.getD j default))), ⟨by dsimp only; omega, by dsimp only; rw [mstep_len]; exact hel, hst.2, by
          dsimp only
          rw [hst.1, hev, htk, Nat.mul_add, Nat.add_mul, Nat.add_assoc, Nat.pow_add, ← Nat.mul_assoc (xs.getD i default).toNat (ys.getD j default).toNat (524288 ^ j), Nat.mul_assoc ((xs.getD i default).toNat * (ys.getD j default).toNat) (524288 ^ j), Nat.mul_comm (524288 ^ j) (524288 ^ i)]⟩, by dsimp only; omega, ⟨rfl, rfl, rfl, rfl, rfl, trivial⟩, hm⟩)
    · -- else
      obtain rfl : j = ys.length := by omega
      refine sw_exit (into ?_)
      refine sw_region ?_
      refine ow_val (val_move rfl) rfl ?_   -- 18
      refine ow_val (val_add_int ((i + 1 : Nat) : Int) rfl rfl (by omega) (by omega)) rfl ?_   -- 19
      refine ow_val (val_assign rfl) rfl ?_   -- 6
      have htk := take_succ_vl (l := xs) (j := i) (by omega)
      have hfin : vl e = vl (xs.take (i + 1)) * vl ys := by
        rw [hev, htk, Nat.add_mul, List.take_length, Nat.mul_assoc _ (vl ys), Nat.mul_comm (vl ys), ← Nat.mul_assoc]
      exact ow_nil (fun w hm => ⟨(i + 1, e), ⟨by dsimp only; omega, hel, row_end hsx hsy (by omega) hel hes hfin, hfin⟩, by dsimp only; omega, ⟨rfl, rfl, rfl, rfl, trivial⟩, hm⟩)
  · -- else
    obtain rfl : i = xs.length := by omega
    rw [List.take_length] at hcv
    refine sw_exit (into ?_)
    refine sw_seq ?_
    refine sw_region ?_
    refine ow_val (val_move rfl) rfl ?_   -- 67
    refine ow_val (val_assign rfl) rfl ?_   -- 4
    refine ow_nil (into ?_)
    exact sw_ret (fun w hm => ret_one _ rfl rfl ⟨(b13, c), rfl, ⟨hcl, hcs, hcv⟩, hm⟩)

theorem above_any (x K p : UInt64) (hx : x.toNat < 274877906944) (hK : K.toNat ≤ 3) (hp : p.toNat < 1000) (w : World) : Calls Tryd.prog 36 #[vU64 x, vU64 K, vU64 p] w fun e w' => ∃ v, e = .returned v ∧ v = .bool (aboveF x.toNat K.toNat p.toNat) ∧ Mem w [] [] w' := by
  obtain ⟨ti6, hi6, hz6, hsz6, hby6⟩ := info_p64 iu64
  have hdx := digs x hx
  have hdp := digs p (by omega)
  have hd6 : sm [65536, 0] ∧ vl [65536, 0] = 65536 := ⟨sm_two (by decide) (by decide), by decide⟩
  have hK2 : ((2 : UInt64) * K).toNat = 2 * K.toNat := by rw [UInt64.toNat_mul, show (2 : UInt64).toNat = 2 from rfl, Nat.mod_eq_of_lt (by omega)]
  have hK2' : (UInt64.ofNat (Int.toNat 2) * K).toNat = 2 * K.toNat := hK2
  refine calls_of_sw (vs := [vU64 x, vU64 K, vU64 p]) Tryd.func36 rfl Tryd.ntmps36 rfl (SW.begin ?_)
  refine sw_seq ?_
  refine sw_region ?_
  refine ow_val (val_assign rfl) rfl ?_   -- 6
  refine ow_nil (into ?_)
  refine sw_seq ?_
  refine sw_region ?_
  refine ow_make (acts_buildSlice (cs := ([1] : List UInt64).map vU64) Tryd.underlying60 Tryd.sizeOf34 Tryd.zeroValue34 rfl rfl (by kernel_rfl)) rfl (fun b12 hb12 => ?_)   -- 12
  refine ow_val (val_assign rfl) rfl ?_   -- 7
  refine ow_nil (into ?_)
  refine sw_seq ?_
  refine sw_seq ?_
  refine sw_region ?_
  refine ow_val (val_assign rfl) rfl ?_   -- 8
  refine ow_nil (into ?_)
  refine sw_block ?_
  refine sw_loop (σ := UInt64 × Nat × List UInt64) (fun t => t.1.toNat ≤ K.toNat ∧ t.2.2.length = 1 + 2 * t.1.toNat ∧ sm t.2.2 ∧ vl t.2.2 = x.toNat ^ t.1.toNat) (fun t => [(8, vU64 t.1), (7, .slice (some ⟨t.2.1, 0, none⟩) t.2.2.length t.2.2.length), (0, vU64 x), (1, vU64 K), (2, vU64 p)]) (fun t => Mem w [] [some (t.2.1, blk (t.2.2.map vU64) 34)]) (fun t => K.toNat - t.1.toNat) (0, b12, [1]) ⟨Nat.zero_le _, rfl, sm_one, rfl⟩ ⟨rfl, rfl, rfl, rfl, rfl, trivial⟩ (fun w hm => hm) ?_
  rintro ⟨c, ba, ls⟩ ⟨hc, hal, has, hav⟩
  simp only at hc hal has hav ⊢
  refine sw_seq ?_
  refine sw_seq ?_
  refine sw_region ?_
  refine ow_val (val_move rfl) rfl ?_   -- 13
  refine ow_val (val_move rfl) rfl ?_   -- 14
  refine ow_val (val_lss_u64 rfl rfl) rfl ?_   -- 15
  refine ow_nil (into ?_)
  refine sw_if rfl (fun h3 => ?_) (fun h3 => ?_)
  · -- then
    have h3n := UInt64.lt_iff_toNat_lt.1 h3
    have hc1 : (c + 1).toNat = c.toNat + 1 := by rw [UInt64.toNat_add, Nat.mod_eq_of_lt (by have : (1 : UInt64).toNat = 1 := rfl; omega)]; rfl
    refine sw_skip (into ?_)
    refine sw_seq ?_
    refine sw_block ?_
    refine sw_region ?_
    refine ow_val (val_move rfl) rfl ?_   -- 18
    refine ow_val (val_move rfl) rfl ?_   -- 19
    refine ow_val (val_rem_u64 rfl rfl (by decide)) rfl ?_   -- 20
    refine ow_val (val_move rfl) rfl ?_   -- 21
    refine ow_val (val_quo_u64 rfl rfl (by decide)) rfl ?_   -- 22
    refine ow_make (acts_buildSlice (cs := ([x % 524288, x / 524288] : List UInt64).map vU64) Tryd.underlying60 Tryd.sizeOf34 Tryd.zeroValue34 rfl rfl (by kernel_rfl)) rfl (fun b23 hb23 => ?_)   -- 23
    refine ow_call_tail (σ := Nat × List UInt64) (fun t => .slice (some ⟨t.1, 0, none⟩) (ls.length + 2) (ls.length + 2)) (fun t => [some (t.1, blk (t.2.map vU64) 34)]) (fun t => t.2.length = (ls.length + 2) ∧ sm t.2 ∧ vl t.2 = vl ls * x.toNat) (callsTo Tryd.func42 rfl (by kernel_rfl) rfl) rfl (fun w hm => (times_any w (some ⟨ba, 0, none⟩) ls.length ls (Rd.blk (hm.at (i := 1) rfl)) (some ⟨b23, 0, none⟩) 2 [x % 524288, x / 524288] (Rd.blk (hm.at (i := 0) rfl)) has hdx.1 (by show ls.length + 2 ≤ 1000; omega)).mono fun _ _ ⟨u, he, t, hu, hi, hm'⟩ => ⟨u, he, t, hu, ⟨hi.1, hi.2.1, by rw [hi.2.2, hdx.2]⟩, hm'⟩) ?_   -- 24
    rintro ⟨b24, l24⟩ ⟨hl24, hs24, hv24⟩
    simp only at hl24 hs24 hv24 ⊢
    refine ow_val (val_assign rfl) rfl ?_   -- 7
    refine ow_nil (into ?_)
    refine sw_region ?_
    refine ow_val (val_move rfl) rfl ?_   -- 16
    refine ow_val (val_add_u64 rfl rfl) rfl ?_   -- 17
    refine ow_val (val_assign rfl) rfl ?_   -- 8
    exact ow_nil (fun w hm => ⟨(c + 1, b24, l24), ⟨by dsimp only; omega, by dsimp only; omega, hs24, by dsimp only; rw [hv24, hav, hc1, Nat.pow_succ]⟩, by dsimp only; omega, ⟨rfl, by dsimp only; rw [hl24] <;> rfl, rfl, rfl, rfl, trivial⟩, hm.only (.cons _ (.cons _ (.cons_cons _ (List.nil_sublist _))))⟩)
  · -- else
    have hcK : c.toNat = K.toNat := Nat.le_antisymm hc (Nat.le_of_not_lt fun h => h3 (UInt64.lt_iff_toNat_lt.2 h))
    rw [hcK] at hal hav
    clear hc h3 hcK
    refine sw_exit (into ?_)
    refine sw_seq ?_
    refine sw_region ?_
    refine ow_val (val_move rfl) rfl ?_   -- 25
    refine ow_val (val_rem_u64 rfl rfl (by decide)) rfl ?_   -- 26
    refine ow_val (val_move rfl) rfl ?_   -- 27
    refine ow_val (val_quo_u64 rfl rfl (by decide)) rfl ?_   -- 28
    refine ow_make (acts_buildSlice (cs := ([p % 524288, p / 524288] : List UInt64).map vU64) Tryd.underlying60 Tryd.sizeOf34 Tryd.zeroValue34 rfl rfl (by kernel_rfl)) rfl (fun b29 hb29 => ?_)   -- 29
    refine ow_val (val_assign rfl) rfl ?_   -- 9
    refine ow_nil (into ?_)
    refine sw_seq ?_
    refine sw_seq ?_
    refine sw_region ?_
    refine ow_val (val_assign rfl) rfl ?_   -- 10
    refine ow_nil (into ?_)
    refine sw_block ?_
    refine sw_loop (σ := UInt64 × Nat × List UInt64) (fun t => t.1.toNat ≤ 2 * K.toNat ∧ t.2.2.length = 2 + 2 * t.1.toNat ∧ sm t.2.2 ∧ vl t.2.2 = p.toNat * 65536 ^ t.1.toNat) (fun t => [(10, vU64 t.1), (9, .slice (some ⟨t.2.1, 0, none⟩) t.2.2.length t.2.2.length), (7, .slice (some ⟨ba, 0, none⟩) ls.length ls.length), (0, vU64 x), (1, vU64 K), (2, vU64 p)]) (fun t => Mem w [] [some (t.2.1, blk (t.2.2.map vU64) 34), some (ba, blk (ls.map vU64) 34)]) (fun t => 2 * K.toNat - t.1.toNat) (0, b29, [p % 524288, p / 524288]) ⟨Nat.zero_le _, rfl, hdp.1, by dsimp only; rw [hdp.2]; exact (Nat.mul_one _).symm⟩ ⟨rfl, rfl, rfl, rfl, rfl, rfl, trivial⟩ (fun w hm => hm) ?_
    rintro ⟨c, bb, bs⟩ ⟨hc, hbl, hbs, hbv⟩
    simp only at hc hbl hbs hbv ⊢
    refine sw_seq ?_
    refine sw_seq ?_
    refine sw_region ?_
    refine ow_val (val_move rfl) rfl ?_   -- 30
    refine ow_val (val_move rfl) rfl ?_   -- 31
    refine ow_val (val_mul_u64 rfl rfl) rfl ?_   -- 32
    refine ow_val (val_lss_u64 rfl rfl) rfl ?_   -- 33
    refine ow_nil (into ?_)
    refine sw_if rfl (fun h8 => ?_) (fun h8 => ?_)
    · -- then
      have h8n := UInt64.lt_iff_toNat_lt.1 h8
      have h8k : ((UInt64.ofNat (Int.toNat 2)) * K).toNat = 2 * K.toNat := hK2
      have hc1 : (c + 1).toNat = c.toNat + 1 := by rw [UInt64.toNat_add, Nat.mod_eq_of_lt (by have : (1 : UInt64).toNat = 1 := rfl; omega)]; rfl
      refine sw_skip (into ?_)
      refine sw_seq ?_
      refine sw_block ?_
      refine sw_region ?_
      refine ow_val (val_move rfl) rfl ?_   -- 36
      refine ow_make (acts_buildSlice (cs := ([65536, 0] : List UInt64).map vU64) Tryd.underlying60 Tryd.sizeOf34 Tryd.zeroValue34 rfl rfl (by kernel_rfl)) rfl (fun b37 hb37 => ?_)   -- 37
      refine ow_call_tail (σ := Nat × List UInt64) (fun t => .slice (some ⟨t.1, 0, none⟩) (bs.length + 2) (bs.length + 2)) (fun t => [some (t.1, blk (t.2.map vU64) 34)]) (fun t => t.2.length = (bs.length + 2) ∧ sm t.2 ∧ vl t.2 = vl bs * 65536) (callsTo Tryd.func42 rfl (by kernel_rfl) rfl) rfl (fun w hm => (times_any w (some ⟨bb, 0, none⟩) bs.length bs (Rd.blk (hm.at (i := 1) rfl)) (some ⟨b37, 0, none⟩) 2 [65536, 0] (Rd.blk (hm.at (i := 0) rfl)) hbs hd6.1 (by show bs.length + 2 ≤ 1000; omega)).mono fun _ _ ⟨u, he, t, hu, hi, hm'⟩ => ⟨u, he, t, hu, ⟨hi.1, hi.2.1, by rw [hi.2.2, hd6.2]⟩, hm'⟩) ?_   -- 38
      rintro ⟨b38, l38⟩ ⟨hl38, hs38, hv38⟩
      simp only at hl38 hs38 hv38 ⊢
      refine ow_val (val_assign rfl) rfl ?_   -- 9
      refine ow_nil (into ?_)
      refine sw_region ?_
      refine ow_val (val_move rfl) rfl ?_   -- 34
      refine ow_val (val_add_u64 rfl rfl) rfl ?_   -- 35
      refine ow_val (val_assign rfl) rfl ?_   -- 10
      exact ow_nil (fun w hm => ⟨(c + 1, b38, l38), ⟨by dsimp only; omega, by dsimp only; omega, hs38, by dsimp only; rw [hv38, hbv, hc1, Nat.pow_succ, Nat.mul_assoc]⟩, by dsimp only; omega, ⟨rfl, by dsimp only; rw [hl38] <;> rfl, rfl, rfl, rfl, rfl, trivial⟩, (hm.only (.cons _ (.cons _ (.cons_cons _ (.cons_cons _ (List.nil_sublist _)))))).perm (.swap _ _ _)⟩)
    · -- else
      have hcK : c.toNat = 2 * K.toNat := Nat.le_antisymm hc (Nat.le_of_not_lt fun h => h8 (UInt64.lt_iff_toNat_lt.2 (by rw [hK2']; exact h)))
      rw [hcK] at hbl hbv
      clear hc h8 hcK
      refine sw_exit (into ?_)
      refine sw_seq ?_
      refine sw_block ?_
      refine sw_loop (σ := Option Addr × Nat × Ent × List UInt64) (fun t => RowE (.slice t.1 t.2.2.2.length t.2.1) 34 1 t.2.2.2.length (t.2.2.2.map vU64) t.2.2.1 ∧ sm t.2.2.2 ∧ vl t.2.2.2 = x.toNat ^ K.toNat ∧ t.2.2.2.length ≤ bs.length) (fun t => [(9, .slice (some ⟨bb, 0, none⟩) bs.length bs.length), (7, .slice t.1 t.2.2.2.length t.2.1), (0, vU64 x), (1, vU64 K), (2, vU64 p)]) (fun t => Mem w [] [some (bb, blk (bs.map vU64) 34), t.2.2.1]) (fun t => bs.length - t.2.2.2.length) (some ⟨ba, 0, none⟩, ls.length, some (ba, blk (ls.map vU64) 34), ls) ⟨RowE.full (by rw [List.length_map, Nat.mul_one]) (by dsimp only; omega), has, hav, by dsimp only; omega⟩ ⟨rfl, rfl, rfl, rfl, rfl, trivial⟩ (fun w hm => hm) ?_
      rintro ⟨aa, ca, ea, a2⟩ ⟨hra, has2, hav2, hal2⟩
      simp only at hra has2 hav2 hal2 ⊢
      refine sw_seq ?_
      refine sw_seq ?_
      refine sw_region ?_
      refine ow_val (val_move rfl) rfl ?_   -- 39
      refine ow_val (val_len rfl Tryd.underlying60) rfl ?_   -- 40
      refine ow_val (val_move rfl) rfl ?_   -- 41
      refine ow_val (val_len rfl Tryd.underlying60) rfl ?_   -- 42
      refine ow_val (val_lss_int rfl rfl) rfl ?_   -- 43
      refine ow_nil (into ?_)
      refine sw_if rfl (fun h11 => ?_) (fun h11 => ?_)
      · -- then
        refine sw_skip (into ?_)
        refine sw_block ?_
        refine sw_region ?_
        refine ow_val (val_move rfl) rfl ?_   -- 44
        refine ow_make (acts_buildSlice (cs := ([0] : List UInt64).map vU64) Tryd.underlying60 Tryd.sizeOf34 Tryd.zeroValue34 rfl rfl (by kernel_rfl)) rfl (fun b45 hb45 => ?_)   -- 45
        refine ow_append' (k := a2.length + 1) (acts_append (size := 1) (bytes := 8) 2 rfl rfl rfl hra rfl Tryd.underlying60 hi6 hz6 hsz6 hby6 rfl (by decide) (fun w hm => Rd.blk (hm.at (i := 0) rfl)) rfl (one_u64s _) (by omega) (by omega)) rfl (fun a46 c46 e46 hr46 => ?_)   -- 46
        refine ow_val (val_assign rfl) rfl ?_   -- 7
        have hnl : (a2 ++ [(0 : UInt64)]).length = a2.length + 1 := by rw [List.length_append]; rfl
        exact ow_nil (fun w hm => ⟨(a46, c46, e46, a2 ++ [0]), ⟨by dsimp only; rw [hnl]; exact hr46.cong rfl rfl (by rw [List.map_append]), sm_app has2, by dsimp only; rw [vl_append, hav2]; show _ + _ * (0 + 524288 * 0) = _; simp, by dsimp only; rw [hnl]; omega⟩, by dsimp only; rw [hnl]; omega, ⟨rfl, by dsimp only; rw [hnl] <;> rfl, rfl, rfl, rfl, trivial⟩, hm.only (.cons _ (.cons_cons _ (.cons_cons _ (List.nil_sublist _))))⟩)
      · -- else
        have hab : a2.length = bs.length := by omega
        refine sw_exit (into ?_)
        refine sw_seq ?_
        refine sw_block ?_
        refine sw_loop (σ := Unit) (fun _ => True) (fun _ => [(9, .slice (some ⟨bb, 0, none⟩) bs.length bs.length), (7, .slice aa a2.length ca)]) (fun _ => Mem w [] [some (bb, blk (bs.map vU64) 34), ea]) (fun _ => 0) () trivial ⟨rfl, rfl, trivial⟩ (fun w hm => hm) ?_
        rintro ⟨⟩ -
        refine sw_seq ?_
        refine sw_seq ?_
        refine sw_region ?_
        refine ow_val (val_move rfl) rfl ?_   -- 47
        refine ow_val (val_len rfl Tryd.underlying60) rfl ?_   -- 48
        refine ow_val (val_move rfl) rfl ?_   -- 49
        refine ow_val (val_len rfl Tryd.underlying60) rfl ?_   -- 50
        refine ow_val (val_lss_int rfl rfl) rfl ?_   -- 51
        refine ow_nil (into ?_)
        refine sw_false rfl (decide_eq_false (by omega)) ?_
        refine sw_exit (into ?_)
        refine sw_seq ?_
        refine sw_seq ?_
        refine sw_region ?_
        refine ow_val (val_move rfl) rfl ?_   -- 55
        refine ow_val (val_len rfl Tryd.underlying60) rfl ?_   -- 56
        refine ow_val (val_sub_int ((a2.length : Int) - 1) rfl rfl rfl (by omega)) rfl ?_   -- 57
        refine ow_val (val_assign rfl) rfl ?_   -- 11
        refine ow_nil (into ?_)
        refine sw_block ?_
        refine sw_loop (σ := Nat) (fun j => j ≤ a2.length ∧ a2.drop j = bs.drop j) (fun j => [(11, vInt ((j : Int) - 1)), (9, .slice (some ⟨bb, 0, none⟩) bs.length bs.length), (7, .slice aa a2.length ca)]) (fun _ => Mem w [] [some (bb, blk (bs.map vU64) 34), ea]) (fun j => j) a2.length ⟨Nat.le_refl _, by rw [List.drop_length, hab, List.drop_length]⟩ ⟨rfl, rfl, rfl, trivial⟩ (fun w hm => hm) ?_
        rintro j0 ⟨hj0, hjd⟩
        refine sw_seq ?_
        refine sw_seq ?_
        refine sw_region ?_
        refine ow_val (val_move rfl) rfl ?_   -- 58
        refine ow_val (val_geq_int rfl rfl) rfl ?_   -- 59
        refine ow_nil (into ?_)
        refine sw_if rfl (fun h16 => ?_) (fun h16 => ?_)
        · -- then
          obtain ⟨j, rfl⟩ : ∃ q, j0 = q + 1 := ⟨j0 - 1, by omega⟩
          have h15 : (((j + 1 : Nat) : Int) - 1) = (j : Int) := by omega
          rw [h15]
          obtain ⟨b7, rfl⟩ := rowB0 hra (by omega)
          refine sw_skip (into ?_)
          refine sw_seq ?_
          refine sw_block ?_
          refine sw_seq ?_
          by_cases hne : a2.getD j default ≠ bs.getD j default
          · -- yes
            refine sw_region_lex _ [] [(0, 0), (1, 0), (2, 0), (4, 0), (5, 0), (6, 0), (3, 1), (7, 1), (8, 0)] (by kernel_rfl) (by kernel_rfl) (fun _ _ _ h => h) (fun _ h => h) (fun _ h => h.drawn _) ?_
            refine lw_pure rfl (val_move rfl) rfl ?_   -- 62
            refine lw_pure rfl (val_move rfl) rfl ?_   -- 63
            refine lw_pure rfl (val_indexAddr_slice (j) (j) rfl rfl Tryd.underlying60 Tryd.sizeOf34 (by omega) (by omega) (by omega)) rfl ?_   -- 64
            refine lw_pure rfl (val_move rfl) rfl ?_   -- 66
            refine lw_pure rfl (val_move rfl) rfl ?_   -- 67
            refine lw_pure rfl (val_indexAddr_slice (j) (j) rfl rfl Tryd.underlying60 Tryd.sizeOf34 (by omega) (by omega) (by omega)) rfl ?_   -- 68
            refine lw_held rfl (val_load rfl Tryd.isAgg34 (fun w' hm => Rd.get (p := a2) (k := j) (hra.rdAt hm (i := 1) rfl) (by omega) (by omega))) rfl ?_   -- 65
            refine lw_held rfl (val_load rfl Tryd.isAgg34 (fun w' hm => Rd.get (p := bs) (k := j) (Rd.blk (hm.at (i := 0) rfl)) (by omega) (by omega))) rfl ?_   -- 69
            refine lw_pure rfl ((val_neq_u64 rfl rfl).to (congrArg Value.bool (decide_eq_true (hne)))) rfl ?_   -- 70
            refine lw_nil (into ?_)
            refine sw_true rfl rfl ?_
            refine sw_seq ?_
            refine sw_region_lex _ [] [(0, 0), (1, 0), (2, 0), (4, 0), (5, 0), (6, 0), (3, 1), (7, 1), (8, 0), (9, 0)] (by kernel_rfl) (by kernel_rfl) (fun _ _ _ h => h) (fun _ h => h) (fun _ h => h.drawn _) ?_
            refine lw_pure rfl (val_move rfl) rfl ?_   -- 71
            refine lw_pure rfl (val_move rfl) rfl ?_   -- 72
            refine lw_pure rfl (val_indexAddr_slice (j) (j) rfl rfl Tryd.underlying60 Tryd.sizeOf34 (by omega) (by omega) (by omega)) rfl ?_   -- 73
            refine lw_pure rfl (val_move rfl) rfl ?_   -- 75
            refine lw_pure rfl (val_move rfl) rfl ?_   -- 76
            refine lw_pure rfl (val_indexAddr_slice (j) (j) rfl rfl Tryd.underlying60 Tryd.sizeOf34 (by omega) (by omega) (by omega)) rfl ?_   -- 77
            refine lw_held rfl (val_load rfl Tryd.isAgg34 (fun w' hm => Rd.get (p := a2) (k := j) (hra.rdAt hm (i := 1) rfl) (by omega) (by omega))) rfl ?_   -- 74
            refine lw_held rfl (val_load rfl Tryd.isAgg34 (fun w' hm => Rd.get (p := bs) (k := j) (Rd.blk (hm.at (i := 0) rfl)) (by omega) (by omega))) rfl ?_   -- 78
            refine lw_pure rfl (val_gtr_u64 rfl rfl) rfl ?_   -- 79
            refine lw_pure rfl (val_assign rfl) rfl ?_   -- 6
            refine lw_nil (into ?_)
            refine sw_ret (fun w hm => ?_)
            try dsimp only [thenP, blockP, Nat.beq, cond]
            exact ret_one _ rfl rfl ⟨by rw [aboveF, ← hav2, ← hbv]; exact congrArg Value.bool (decide_eq_decide.2 (UInt64.lt_iff_toNat_lt.trans (cmp_top a2 bs j hab has2 hbs (by omega) hjd hne).symm)), hm.forgetAll⟩
          · -- no
            refine sw_region_lex _ [] [(0, 0), (1, 0), (2, 0), (4, 0), (5, 0), (6, 0), (3, 1), (7, 1), (8, 0)] (by kernel_rfl) (by kernel_rfl) (fun _ _ _ h => h) (fun _ h => h) (fun _ h => h.drawn _) ?_
            refine lw_pure rfl (val_move rfl) rfl ?_   -- 62
            refine lw_pure rfl (val_move rfl) rfl ?_   -- 63
            refine lw_pure rfl (val_indexAddr_slice (j) (j) rfl rfl Tryd.underlying60 Tryd.sizeOf34 (by omega) (by omega) (by omega)) rfl ?_   -- 64
            refine lw_pure rfl (val_move rfl) rfl ?_   -- 66
            refine lw_pure rfl (val_move rfl) rfl ?_   -- 67
            refine lw_pure rfl (val_indexAddr_slice (j) (j) rfl rfl Tryd.underlying60 Tryd.sizeOf34 (by omega) (by omega) (by omega)) rfl ?_   -- 68
            refine lw_held rfl (val_load rfl Tryd.isAgg34 (fun w' hm => Rd.get (p := a2) (k := j) (hra.rdAt hm (i := 1) rfl) (by omega) (by omega))) rfl ?_   -- 65
            refine lw_held rfl (val_load rfl Tryd.isAgg34 (fun w' hm => Rd.get (p := bs) (k := j) (Rd.blk (hm.at (i := 0) rfl)) (by omega) (by omega))) rfl ?_   -- 69
            refine lw_pure rfl ((val_neq_u64 rfl rfl).to (congrArg Value.bool (decide_eq_false (hne)))) rfl ?_   -- 70
            refine lw_nil (into ?_)
            refine sw_false rfl rfl ?_
            refine sw_skip (into ?_)
            refine sw_region ?_
            refine ow_val (val_move rfl) rfl ?_   -- 60
            refine ow_val (val_sub_int ((j : Int) - 1) rfl rfl rfl (by omega)) rfl ?_   -- 61
            refine ow_val (val_assign rfl) rfl ?_   -- 11
            exact ow_nil (fun w hm => ⟨j, ⟨by omega, by rw [List.drop_eq_getElem_cons (show j < a2.length by omega), List.drop_eq_getElem_cons (show j < bs.length by omega), hjd]; exact congrArg (· :: _) (by have h7 := Decidable.not_not.1 hne; rwa [List.getD_eq_getElem?_getD, List.getD_eq_getElem?_getD, List.getElem?_eq_getElem (show j < a2.length by omega), List.getElem?_eq_getElem (show j < bs.length by omega)] at h7)⟩, by omega, ⟨rfl, rfl, rfl, trivial⟩, hm⟩)
        · -- else
          obtain rfl : j0 = 0 := by omega
          refine sw_exit (into ?_)
          refine sw_seq ?_
          refine sw_region ?_
          refine ow_val (val_assign rfl) rfl ?_   -- 6
          refine ow_nil (into ?_)
          refine sw_ret (fun w hm => ?_)
          try dsimp only [thenP, blockP, Nat.beq, cond]
          exact ret_one _ rfl rfl ⟨by rw [aboveF, ← hav2, ← hbv, show a2 = bs from by simpa using hjd, decide_eq_false (Nat.lt_irrefl _)] <;> rfl, hm.forgetAll⟩

theorem root_any (p K : UInt64) (hK : K.toNat ≤ 3) (hp : p.toNat < 1000) (w : World) : Calls Tryd.prog 24 #[vU64 p, vU64 K] w fun e w' => ∃ v, e = .returned v ∧ v = vU64 (UInt64.ofNat (rootF p.toNat K.toNat)) ∧ Mem w [] [] w' := by
  refine calls_of_sw (vs := [vU64 p, vU64 K]) Tryd.func24 rfl Tryd.ntmps24 rfl (SW.begin ?_)
  refine sw_seq ?_
  refine sw_region ?_
  refine ow_val (val_assign rfl) rfl ?_   -- 4
  refine ow_nil (into ?_)
  refine sw_seq ?_
  refine sw_region ?_
  refine ow_val (val_assign rfl) rfl ?_   -- 5
  refine ow_val (val_assign rfl) rfl ?_   -- 6
  refine ow_nil (into ?_)
  refine sw_seq ?_
  refine sw_block ?_
  refine sw_loop (σ := UInt64 × UInt64 × Nat) (fun t => t.2.1.toNat ≤ 274877906944 ∧ t.1.toNat ≤ t.2.1.toNat ∧ t.2.1.toNat - t.1.toNat ≤ 2 ^ t.2.2 ∧ srch (fun x => aboveF x K.toNat p.toNat) t.2.2 t.1.toNat t.2.1.toNat = rootF p.toNat K.toNat) (fun t => [(6, vU64 t.2.1), (5, vU64 t.1), (0, vU64 p), (1, vU64 K)]) (fun _ => Mem w [] []) (fun t => t.2.1.toNat - t.1.toNat) (0, 274877906944, 38) ⟨by decide, by decide, by decide, rfl⟩ ⟨rfl, rfl, rfl, rfl, trivial⟩ (fun w hm => hm) ?_
  rintro ⟨lo, hi, s0⟩ ⟨hhi, hlh, hs, hR⟩
  simp only at hhi hlh hs hR ⊢
  refine sw_seq ?_
  refine sw_seq ?_
  refine sw_region ?_
  refine ow_val (val_move rfl) rfl ?_   -- 8
  refine ow_val (val_move rfl) rfl ?_   -- 9
  refine ow_val (val_sub_u64 rfl rfl) rfl ?_   -- 10
  refine ow_val (val_gtr_u64 rfl rfl) rfl ?_   -- 11
  refine ow_nil (into ?_)
  refine sw_if rfl (fun h2 => ?_) (fun h2 => ?_)
  · -- then
    have h1 : 1 < hi.toNat - lo.toNat := by have h9 := UInt64.lt_iff_toNat_lt.1 h2; rw [UInt64.toNat_sub_of_le _ _ (UInt64.le_iff_toNat_le.2 hlh)] at h9; exact h9
    obtain ⟨s, rfl⟩ : ∃ q, s0 = q + 1 := ⟨s0 - 1, by rcases Nat.eq_zero_or_pos s0 with h | h <;> first | omega | (subst h; simp at hs; omega)⟩
    rw [srch, if_pos h1] at hR
    have hp2 : 2 ^ (s + 1) = 2 * 2 ^ s := by rw [Nat.pow_succ, Nat.mul_comm]
    obtain ⟨mid, hmid⟩ : ∃ z, (lo + hi) / 2 = z := ⟨_, rfl⟩
    have hmn : mid.toNat = (lo.toNat + hi.toNat) / 2 := by rw [← hmid, UInt64.toNat_div, UInt64.toNat_add, Nat.mod_eq_of_lt (by omega)]; rfl
    rw [← hmn] at hR
    refine sw_skip (into ?_)
    refine sw_block ?_
    refine sw_seq ?_
    refine sw_region ?_
    refine ow_val (val_move rfl) rfl ?_   -- 12
    refine ow_val (val_move rfl) rfl ?_   -- 13
    refine ow_val (val_add_u64 rfl rfl) rfl ?_   -- 14
    refine ow_val ((val_quo_u64 rfl rfl (by decide)).to (v' := vU64 mid) (by rw [← hmid]; rfl)) rfl ?_   -- 15
    refine ow_val (val_assign rfl) rfl ?_   -- 7
    refine ow_nil (into ?_)
    refine sw_seq ?_
    refine sw_region ?_
    refine ow_val (val_move rfl) rfl ?_   -- 16
    refine ow_val (val_move rfl) rfl ?_   -- 17
    refine ow_val (val_move rfl) rfl ?_   -- 18
    refine ow_call_pure (v := .bool (aboveF mid.toNat K.toNat p.toNat)) (callsTo Tryd.func36 rfl (by kernel_rfl) rfl) rfl (fun w hm => above_any mid K p (by omega) hK hp w) ?_   -- 19
    refine ow_nil (into ?_)
    refine sw_cond rfl (fun hab => ?_) (fun hab => ?_)
    · -- then
      refine sw_region ?_
      refine ow_val (val_move rfl) rfl ?_   -- 20
      refine ow_val (val_assign rfl) rfl ?_   -- 6
      exact ow_nil (fun w hm => ⟨(lo, mid, s), ⟨by dsimp only; omega, by dsimp only; omega, by dsimp only; omega, by dsimp only; rwa [if_pos hab] at hR⟩, by dsimp only; omega, ⟨rfl, rfl, rfl, rfl, trivial⟩, hm.forgetAll⟩)
    · -- else
      refine sw_region ?_
      refine ow_val (val_move rfl) rfl ?_   -- 21
      refine ow_val (val_assign rfl) rfl ?_   -- 5
      exact ow_nil (fun w hm => ⟨(mid, hi, s), ⟨by dsimp only; omega, by dsimp only; omega, by dsimp only; omega, by dsimp only; rwa [if_neg (by rw [hab]; decide)] at hR⟩, by dsimp only; omega, ⟨rfl, rfl, rfl, rfl, trivial⟩, hm.forgetAll⟩)
  · -- else
    have h1 : ¬ 1 < hi.toNat - lo.toNat := fun h => h2 (UInt64.lt_iff_toNat_lt.2 (by rw [UInt64.toNat_sub_of_le _ _ (UInt64.le_iff_toNat_le.2 hlh)]; exact h))
    rw [srch_end h1] at hR
    refine sw_exit (into ?_)
    refine sw_seq ?_
    refine sw_region ?_
    refine ow_val (val_move rfl) rfl ?_   -- 22
    refine ow_val (val_assign rfl) rfl ?_   -- 4
    refine ow_nil (into ?_)
    exact sw_ret (fun w hm => ret_one _ rfl rfl ⟨by rw [← hR, UInt64.ofNat_toNat], hm⟩)

theorem prime_any (n : UInt64) (hn : n.toNat < 1000) (w : World) : Calls Tryd.prog 23 #[vU64 n] w fun e w' => ∃ v, e = .returned v ∧ v = .bool (primeB n.toNat) ∧ Mem w [] [] w' := by
  refine calls_of_sw (vs := [vU64 n]) Tryd.func23 rfl Tryd.ntmps23 rfl (SW.begin ?_)
  refine sw_seq ?_
  refine sw_region ?_
  refine ow_val (val_assign rfl) rfl ?_   -- 2
  refine ow_nil (into ?_)
  refine sw_seq ?_
  refine sw_seq ?_
  refine sw_region ?_
  refine ow_val (val_assign rfl) rfl ?_   -- 3
  refine ow_nil (into ?_)
  refine sw_block ?_
  refine sw_loop (σ := UInt64) (fun d => 2 ≤ d.toNat ∧ d.toNat ≤ 32 ∧ ∀ e, 2 ≤ e → e < d.toNat → n.toNat % e ≠ 0) (fun d => [(3, vU64 d), (0, vU64 n)]) (fun _ => Mem w [] []) (fun d => 32 - d.toNat) 2 ⟨by decide, by decide, fun e h1 h2 => absurd h2 (Nat.not_lt.2 h1)⟩ ⟨rfl, rfl, trivial⟩ (fun w hm => hm) ?_
  rintro d ⟨hd2, hd3, hdn⟩
  have hdd : (d * d).toNat = d.toNat * d.toNat := by rw [UInt64.toNat_mul, Nat.mod_eq_of_lt (by have := Nat.mul_le_mul hd3 hd3; omega)]
  refine sw_seq ?_
  refine sw_seq ?_
  refine sw_region ?_
  refine ow_val (val_move rfl) rfl ?_   -- 4
  refine ow_val (val_move rfl) rfl ?_   -- 5
  refine ow_val (val_mul_u64 rfl rfl) rfl ?_   -- 6
  refine ow_val (val_move rfl) rfl ?_   -- 7
  refine ow_val (val_leq_u64 rfl rfl) rfl ?_   -- 8
  refine ow_nil (into ?_)
  refine sw_if rfl (fun h2 => ?_) (fun h2 => ?_)
  · -- then
    have hle := UInt64.le_iff_toNat_le.1 h2
    rw [hdd] at hle
    have hd31 : d.toNat ≤ 31 := Nat.le_of_not_lt fun h => by have := Nat.mul_le_mul (show 32 ≤ d.toNat by omega) (show 32 ≤ d.toNat by omega); omega
    have hdz : d ≠ 0 := fun h => by rw [h] at hd2; exact absurd hd2 (by decide)
    have hd1 : (d + 1).toNat = d.toNat + 1 := by rw [UInt64.toNat_add, Nat.mod_eq_of_lt (by have : (1 : UInt64).toNat = 1 := rfl; omega)]; rfl
    have hmod : (n % d).toNat = n.toNat % d.toNat := UInt64.toNat_mod _ _
    refine sw_skip (into ?_)
    refine sw_seq ?_
    refine sw_block ?_
    refine sw_seq ?_
    refine sw_region ?_
    refine ow_val (val_move rfl) rfl ?_   -- 11
    refine ow_val (val_move rfl) rfl ?_   -- 12
    refine ow_val (val_rem_u64 rfl rfl hdz) rfl ?_   -- 13
    refine ow_val (val_eql_u64 rfl rfl) rfl ?_   -- 14
    refine ow_nil (into ?_)
    refine sw_if rfl (fun h4 => ?_) (fun h4 => ?_)
    · -- then
      refine sw_seq ?_
      refine sw_region ?_
      refine ow_val (val_assign rfl) rfl ?_   -- 2
      refine ow_nil (into ?_)
      refine sw_ret (fun w hm => ?_)
      try dsimp only [thenP, blockP, Nat.beq, cond]
      exact ret_one _ rfl rfl ⟨by rw [prime_no hd2 hle (by rw [← hmod, h4]; rfl)] <;> rfl, hm.forgetAll⟩
    · -- else
      refine sw_skip (into ?_)
      refine sw_region ?_
      refine ow_val (val_move rfl) rfl ?_   -- 9
      refine ow_val (val_add_u64 rfl rfl) rfl ?_   -- 10
      refine ow_val (val_assign rfl) rfl ?_   -- 3
      exact ow_nil (fun w hm => ⟨d + 1, ⟨by omega, by omega, fun e h5 h6 => prime_step hdn (fun h8 => h4 (UInt64.toNat.inj (by rw [hmod, h8]; rfl))) e h5 (by omega)⟩, by omega, ⟨rfl, rfl, trivial⟩, hm.forgetAll⟩)
  · -- else
    have hlt : n.toNat < d.toNat * d.toNat := by rw [← hdd]; exact Nat.lt_of_not_le fun h => h2 (UInt64.le_iff_toNat_le.2 h)
    refine sw_exit (into ?_)
    refine sw_seq ?_
    refine sw_region ?_
    refine ow_val (val_move rfl) rfl ?_   -- 15
    refine ow_val (val_gtr_u64 rfl rfl) rfl ?_   -- 16
    refine ow_val (val_assign rfl) rfl ?_   -- 2
    refine ow_nil (into ?_)
    exact sw_ret (fun w hm => ret_one _ rfl rfl ⟨by rw [prime_yes hdn hlt]; exact congrArg Value.bool (decide_eq_decide.2 UInt64.lt_iff_toNat_lt), hm.forgetAll⟩)

theorem refK_any (i : Nat) (hi : i < 64) (w : World) : Calls Tryd.prog 25 #[vInt (i : Int)] w fun e w' => ∃ v, e = .returned v ∧ v = vU32 (KT.getD i default) ∧ Mem w [] [] w' := by
  have hK64 : KT.length = 64 := rfl
  refine calls_of_sw (vs := [vInt (i : Int)]) Tryd.func25 rfl Tryd.ntmps25 rfl (SW.begin ?_)
  refine sw_seq ?_
  refine sw_region ?_
  refine ow_val (val_assign rfl) rfl ?_   -- 2
  refine ow_nil (into ?_)
  refine sw_seq ?_
  refine sw_seq ?_
  refine sw_region ?_
  refine ow_val (val_move rfl) rfl ?_   -- 4
  refine ow_val ((val_lss_int rfl rfl).to (congrArg Value.bool (decide_eq_false (by omega)))) rfl ?_   -- 5
  refine ow_val (val_move rfl) rfl ?_   -- 6
  refine ow_guard_yes rfl rfl rfl ?_
  refine ow_val (val_move rfl) rfl ?_   -- 7
  refine ow_guard_yes rfl rfl rfl ?_
  refine ow_val ((val_gtr_int rfl rfl).to (congrArg Value.bool (decide_eq_false (by omega)))) rfl ?_   -- 8
  refine ow_val (val_pick_false rfl rfl) rfl ?_   -- 9
  refine ow_nil (into ?_)
  refine sw_false rfl rfl ?_
  refine sw_skip (into ?_)
  refine sw_seq ?_
  refine sw_region ?_
  refine ow_call_pure (v := .agg (KT.map vU32).toArray) (callsTo Tryd.func37 rfl (by kernel_rfl) rfl) rfl (fun w hm => refwords_any w) ?_   -- 10
  refine ow_new (acts_alloc z54) rfl (fun b3 hb3 => ?_)   -- 3
  refine ow_do_eq (does_store_all 0 rfl rfl rfl (one_u32s _) Tryd.sizeOf54 rfl rfl) ?_
  refine ow_nil (into ?_)
  refine sw_seq ?_
  refine sw_region ?_
  refine ow_val (val_move rfl) rfl ?_   -- 11
  refine ow_val (val_indexAddr (i) (i) rfl rfl Tryd.underlying54 Tryd.sizeOf29 (by omega) (by omega) (by omega)) rfl ?_   -- 12
  refine ow_val (val_load_at 0 rfl rfl Tryd.isAgg29 (get_map _ _ _ (by rw [hK64]; omega))) rfl ?_   -- 13
  refine ow_val (val_assign rfl) rfl ?_   -- 2
  refine ow_nil (into ?_)
  exact sw_ret (fun w hm => ret_one _ rfl rfl ⟨rfl, hm.forgetAll⟩)

set_option maxRecDepth 10000 in
theorem shaConstants_any (w : World) (hK : KW w) : Calls Tryd.prog 6 #[] w fun e w' => ∃ v, e = .returned v ∧ v = .bool true ∧ Mem w [] [] w' := by
  have hH8 : H0.length = 8 := rfl
  refine calls_of_sw (vs := []) Tryd.func6 rfl Tryd.ntmps6 rfl (SW.begin ?_)
  refine sw_seq ?_
  refine sw_region ?_
  refine ow_val (val_assign rfl) rfl ?_   -- 0
  refine ow_nil (into ?_)
  refine sw_seq ?_
  refine sw_seq ?_
  refine sw_region ?_
  refine ow_call_pure (callsTo Tryd.func13 rfl (by kernel_rfl) rfl) rfl (fun w hm => awake_any w (hK.mem0 hm)) ?_   -- 5
  refine ow_val (val_not rfl) rfl ?_   -- 6
  refine ow_nil (into ?_)
  refine sw_false rfl rfl ?_
  refine sw_skip (into ?_)
  refine sw_seq ?_
  refine sw_region ?_
  refine ow_call_pure (v := .agg (H0.map vU32).toArray) (callsTo Tryd.func22 rfl (by kernel_rfl) rfl) rfl (fun w hm => refFirst_any w) ?_   -- 7
  refine ow_new (acts_alloc z30) rfl (fun b1 hb1 => ?_)   -- 1
  refine ow_do_eq (does_store_all 0 rfl rfl rfl (one_u32s _) Tryd.sizeOf30 rfl rfl) ?_
  refine ow_nil (into ?_)
  refine sw_seq ?_
  refine sw_region ?_
  refine ow_val (val_assign rfl) rfl ?_   -- 2
  refine ow_nil (into ?_)
  refine sw_seq ?_
  refine sw_seq ?_
  refine sw_region ?_
  refine ow_val (val_assign rfl) rfl ?_   -- 3
  refine ow_nil (into ?_)
  refine sw_block ?_
  refine sw_loop (σ := UInt64 × Nat) (fun t => 2 ≤ t.1.toNat ∧ t.1.toNat ≤ 312 ∧ t.2 = cntP t.1.toNat) (fun t => [(3, vU64 t.1), (2, vInt (t.2 : Int)), (1, .pointer (some ⟨b1, 0, none⟩))]) (fun _ => Mem w [] [some (b1, blk (H0.map vU32) 30)]) (fun t => 312 - t.1.toNat) (2, 0) ⟨by decide, by decide, by decide⟩ ⟨rfl, rfl, rfl, trivial⟩ (fun w hm => hm) ?_
  rintro ⟨q, i⟩ ⟨hq2, hq3, hqi⟩
  simp only at hq2 hq3 hqi ⊢
  refine sw_seq ?_
  refine sw_seq ?_
  refine sw_region ?_
  refine ow_val (val_move rfl) rfl ?_   -- 8
  refine ow_val (val_lss_int rfl rfl) rfl ?_   -- 9
  refine ow_nil (into ?_)
  refine sw_if rfl (fun h6 => ?_) (fun h6 => ?_)
  · -- then
    have hq312 : q.toNat < 312 := Nat.lt_of_not_le fun h => by rw [show q.toNat = 312 by omega, cnt_312] at hqi; omega
    have hq1 : (q + 1).toNat = q.toNat + 1 := by rw [UInt64.toNat_add, Nat.mod_eq_of_lt (by have : (1 : UInt64).toNat = 1 := rfl; omega)]; rfl
    have htab := tab_all hq2 hq312
    rw [tabOk, ← hqi] at htab
    refine sw_skip (into ?_)
    refine sw_seq ?_
    refine sw_block ?_
    refine sw_seq ?_
    refine sw_seq ?_
    rcases Bool.eq_false_or_eq_true (primeB q.toNat) with hpb | hpb
    · -- case
      rw [hpb] at htab
      simp only [Bool.not_true, Bool.false_or, Bool.and_eq_true, Bool.or_eq_true, decide_eq_true_eq] at htab
      obtain ⟨⟨hi64, ht3⟩, ht2⟩ := htab
      refine sw_region ?_
      refine ow_val (val_move rfl) rfl ?_   -- 12
      refine ow_call_pure (v := .bool true) (callsTo Tryd.func23 rfl (by kernel_rfl) rfl) rfl (fun w hm => (by have h := prime_any q (by omega) w; rw [hpb] at h; exact h)) ?_   -- 13
      refine ow_val (val_not rfl) rfl ?_   -- 14
      refine ow_nil (into ?_)
      refine sw_false rfl rfl ?_
      refine sw_skip (into ?_)
      refine sw_seq ?_
      refine sw_seq ?_
      by_cases hi8 : i < 8
      · -- yes
        refine sw_region_lex _ [] [(0, 0), (3, 0), (1, 2), (2, 0), (4, 2), (5, 0), (6, 0), (7, 0), (8, 0), (9, 0), (10, 0), (13, 0), (14, 0), (15, 1), (11, 2), (12, 0), (16, 0), (17, 0), (18, 0)] (by kernel_rfl) (by kernel_rfl) (fun _ _ _ h => h) (fun _ h => h) (fun _ h => h.drawn _) ?_
        refine lw_pure rfl (val_move rfl) rfl ?_   -- 15
        refine lw_pure rfl (val_move rfl) rfl ?_   -- 18
        refine lw_call_pure (v := vU64 (UInt64.ofNat (rootF q.toNat 3))) rfl (callsTo Tryd.func24 rfl (by kernel_rfl) rfl) rfl (fun w hm => root_any q 3 (by decide) (by omega) w) ?_   -- 16
        refine lw_pure rfl (val_conv_u64_u32 Tryd.underlying34 Tryd.underlying29 rfl) rfl ?_   -- 17
        refine lw_call_pure (v := vU32 (KT.getD i default)) rfl (callsTo Tryd.func25 rfl (by kernel_rfl) rfl) rfl (fun w hm => refK_any i hi64 w) ?_   -- 19
        refine lw_pure rfl ((val_neq_u32 rfl rfl).to (congrArg Value.bool (decide_eq_false ((fun h => h ht3))))) rfl ?_   -- 20
        refine lw_pure rfl (val_move rfl) rfl ?_   -- 21
        refine lwg_pure rfl (wg rfl rfl) (val_move rfl) rfl ?_   -- 22
        refine lwg_pure rfl (wg rfl rfl) ((val_lss_int rfl rfl).to (congrArg Value.bool (decide_eq_true (by omega)))) rfl ?_   -- 23
        refine lwg_pure rfl (wg rfl rfl) (val_move rfl) rfl ?_   -- 24
        refine lwg_pure rfl (wg rfl rfl) (val_move rfl) rfl ?_   -- 25
        refine lwg_pure rfl (wg rfl rfl) (val_move rfl) rfl ?_   -- 28
        refine lwg_pure rfl (wg rfl rfl) (val_indexAddr (i) (i) rfl rfl Tryd.underlying30 Tryd.sizeOf29 (by omega) (by omega) (by omega)) rfl ?_   -- 29
        refine lwg_held rfl (wg rfl rfl) (val_load_at 0 rfl rfl Tryd.isAgg29 (get_map _ _ _ (by rw [hH8]; omega))) rfl ?_   -- 30
        refine lwg_call_pure (v := vU64 (UInt64.ofNat (rootF q.toNat 2))) rfl (wg rfl rfl) (callsTo Tryd.func24 rfl (by kernel_rfl) rfl) rfl (fun w hm => root_any q 2 (by decide) (by omega) w) ?_   -- 26
        refine lwg_pure rfl (wg rfl rfl) (val_conv_u64_u32 Tryd.underlying34 Tryd.underlying29 rfl) rfl ?_   -- 27
        refine lwg_pure rfl (wg rfl rfl) ((val_neq_u32 rfl rfl).to (congrArg Value.bool (decide_eq_false ((fun h => h (ht2.resolve_left (by omega))))))) rfl ?_   -- 31
        refine lwg_pure rfl (wg rfl rfl) (val_pick_true rfl rfl) rfl ?_   -- 32
        refine lw_pure rfl (val_pick_false rfl rfl) rfl ?_   -- 33
        refine lw_nil (into ?_)
        refine sw_false rfl rfl ?_
        refine sw_skip (into ?_)
        refine sw_region ?_
        refine ow_val (val_move rfl) rfl ?_   -- 34
        refine ow_val (val_add_int ((i + 1 : Nat) : Int) rfl rfl (by omega) (by omega)) rfl ?_   -- 35
        refine ow_val (val_assign rfl) rfl ?_   -- 2
        refine ow_nil (into ?_)
        refine sw_region ?_
        refine ow_val (val_move rfl) rfl ?_   -- 10
        refine ow_val (val_add_u64 rfl rfl) rfl ?_   -- 11
        refine ow_val (val_assign rfl) rfl ?_   -- 3
        exact ow_nil (fun w hm => ⟨(q + 1, i + 1), ⟨by dsimp only; omega, by dsimp only; omega, by dsimp only; rw [hq1, cntP, if_pos hpb, hqi]⟩, by dsimp only; omega, ⟨rfl, rfl, rfl, trivial⟩, hm⟩)
      · -- no
        refine sw_region_lex _ [] [(0, 0), (3, 0), (1, 2), (2, 0), (4, 2), (5, 0), (6, 0), (7, 0), (8, 0), (9, 0), (10, 0), (11, 0), (12, 0), (13, 0), (14, 0), (15, 0), (16, 0), (17, 0), (18, 0)] (by kernel_rfl) (by kernel_rfl) (fun _ _ _ h => h) (fun _ h => h) (fun _ h => h.drawn _) ?_
        refine lw_pure rfl (val_move rfl) rfl ?_   -- 15
        refine lw_pure rfl (val_move rfl) rfl ?_   -- 18
        refine lw_call_pure (v := vU64 (UInt64.ofNat (rootF q.toNat 3))) rfl (callsTo Tryd.func24 rfl (by kernel_rfl) rfl) rfl (fun w hm => root_any q 3 (by decide) (by omega) w) ?_   -- 16
        refine lw_pure rfl (val_conv_u64_u32 Tryd.underlying34 Tryd.underlying29 rfl) rfl ?_   -- 17
        refine lw_call_pure (v := vU32 (KT.getD i default)) rfl (callsTo Tryd.func25 rfl (by kernel_rfl) rfl) rfl (fun w hm => refK_any i hi64 w) ?_   -- 19
        refine lw_pure rfl ((val_neq_u32 rfl rfl).to (congrArg Value.bool (decide_eq_false ((fun h => h ht3))))) rfl ?_   -- 20
        refine lw_pure rfl (val_move rfl) rfl ?_   -- 21
        refine lwg_pure rfl (wg rfl rfl) (val_move rfl) rfl ?_   -- 22
        refine lwg_pure rfl (wg rfl rfl) ((val_lss_int rfl rfl).to (congrArg Value.bool (decide_eq_false (by omega)))) rfl ?_   -- 23
        refine lwg_pure rfl (wg rfl rfl) (val_move rfl) rfl ?_   -- 24
        first | refine lwg_no rfl (ng1 rfl rfl) rfl ?_ | refine lwg_no rfl (ng2 rfl rfl) rfl ?_   -- 25
        first | refine lwg_no rfl (ng1 rfl rfl) rfl ?_ | refine lwg_no rfl (ng2 rfl rfl) rfl ?_   -- 26
        first | refine lwg_no rfl (ng1 rfl rfl) rfl ?_ | refine lwg_no rfl (ng2 rfl rfl) rfl ?_   -- 27
        first | refine lwg_no rfl (ng1 rfl rfl) rfl ?_ | refine lwg_no rfl (ng2 rfl rfl) rfl ?_   -- 28
        first | refine lwg_no rfl (ng1 rfl rfl) rfl ?_ | refine lwg_no rfl (ng2 rfl rfl) rfl ?_   -- 29
        first | refine lwg_no rfl (ng1 rfl rfl) rfl ?_ | refine lwg_no rfl (ng2 rfl rfl) rfl ?_   -- 30
        first | refine lwg_no rfl (ng1 rfl rfl) rfl ?_ | refine lwg_no rfl (ng2 rfl rfl) rfl ?_   -- 31
        refine lwg_pure rfl (wg rfl rfl) (val_pick_false rfl rfl) rfl ?_   -- 32
        refine lw_pure rfl (val_pick_false rfl rfl) rfl ?_   -- 33
        refine lw_nil (into ?_)
        refine sw_false rfl rfl ?_
        refine sw_skip (into ?_)
        refine sw_region ?_
        refine ow_val (val_move rfl) rfl ?_   -- 34
        refine ow_val (val_add_int ((i + 1 : Nat) : Int) rfl rfl (by omega) (by omega)) rfl ?_   -- 35
        refine ow_val (val_assign rfl) rfl ?_   -- 2
        refine ow_nil (into ?_)
        refine sw_region ?_
        refine ow_val (val_move rfl) rfl ?_   -- 10
        refine ow_val (val_add_u64 rfl rfl) rfl ?_   -- 11
        refine ow_val (val_assign rfl) rfl ?_   -- 3
        exact ow_nil (fun w hm => ⟨(q + 1, i + 1), ⟨by dsimp only; omega, by dsimp only; omega, by dsimp only; rw [hq1, cntP, if_pos hpb, hqi]⟩, by dsimp only; omega, ⟨rfl, rfl, rfl, trivial⟩, hm⟩)
    · -- case
      refine sw_region ?_
      refine ow_val (val_move rfl) rfl ?_   -- 12
      refine ow_call_pure (v := .bool false) (callsTo Tryd.func23 rfl (by kernel_rfl) rfl) rfl (fun w hm => (by have h := prime_any q (by omega) w; rw [hpb] at h; exact h)) ?_   -- 13
      refine ow_val (val_not rfl) rfl ?_   -- 14
      refine ow_nil (into ?_)
      refine sw_true rfl rfl ?_
      refine sw_exit (into ?_)
      refine sw_region ?_
      refine ow_val (val_move rfl) rfl ?_   -- 10
      refine ow_val (val_add_u64 rfl rfl) rfl ?_   -- 11
      refine ow_val (val_assign rfl) rfl ?_   -- 3
      exact ow_nil (fun w hm => ⟨(q + 1, i), ⟨by dsimp only; omega, by dsimp only; omega, by dsimp only; rw [hq1, cntP, if_neg (by rw [hpb]; decide), hqi] <;> rfl⟩, by dsimp only; omega, ⟨rfl, rfl, rfl, trivial⟩, hm⟩)
  · -- else
    refine sw_exit (into ?_)
    refine sw_seq ?_
    refine sw_region ?_
    refine ow_new (acts_alloc z31) rfl (fun b4 hb4 => ?_)   -- 4
    refine ow_nil (into ?_)
    refine sw_seq ?_
    refine sw_region_lex _ [] [(0, 1), (1, 1), (3, 1), (4, 1), (2, 2), (5, 2), (6, 0), (7, 0), (8, 2), (9, 2), (10, 0), (11, 0), (12, 0)] (by kernel_rfl) (by kernel_rfl) (fun _ _ _ h => h) (fun _ h => h) (fun _ h => h.drawn _) ?_
    refine lw_held rfl (val_load_all 1 rfl rfl Tryd.isAgg30 Tryd.sizeOf30 rfl) rfl ?_   -- 36
    refine lw_held rfl (val_load_all 0 rfl rfl Tryd.isAgg31 Tryd.sizeOf31 rfl) rfl ?_   -- 37
    refine lw_held rfl (val_load_all 1 rfl rfl Tryd.isAgg30 Tryd.sizeOf30 rfl) rfl ?_   -- 39
    refine lw_held rfl (val_load_all 0 rfl rfl Tryd.isAgg31 Tryd.sizeOf31 rfl) rfl ?_   -- 40
    refine lw_call_pure (v := .agg ((compress H0 (List.replicate 64 (0 : UInt8))).map vU32).toArray) rfl (callsTo Tryd.func17 rfl (by kernel_rfl) rfl) rfl (fun w hm => comp_any H0 (List.replicate 64 (0 : UInt8)) rfl rfl w (hK.mem0 hm)) ?_   -- 38
    refine lw_call_pure (v := .agg ((compress H0 (List.replicate 64 (0 : UInt8))).map vU32).toArray) rfl (callsTo Tryd.func18 rfl (by kernel_rfl) rfl) rfl (fun w hm => docCompress_any H0 (List.replicate 64 (0 : UInt8)) rfl rfl w) ?_   -- 41
    refine lw_pure rfl ((val_eql_u32s rfl rfl Tryd.eqGuardType30 Tryd.underlying30 Tryd.underlying29 Tryd.sizeOf29 Tryd.isAgg29 (by rw [compress_len] <;> rfl) (by rw [compress_len] <;> rfl)).to (congrArg Value.bool (show _ = true by simp))) rfl ?_   -- 42
    refine lw_pure rfl (val_move rfl) rfl ?_   -- 43
    refine lwg_call_pure (v := .agg ((shaOf []).map vU8).toArray) rfl (wg rfl rfl) (callsTo Tryd.func14 rfl (by kernel_rfl) rfl) rfl (fun w hm => sum256h_any none 0 0 [] rfl w (hK.mem0 hm) (Rd.nil _ _) (by decide) (by decide)) ?_   -- 44
    refine lwg_call_pure (v := .agg ((shaOf []).map vU8).toArray) rfl (wg rfl rfl) (callsTo Tryd.func16 rfl (by kernel_rfl) rfl) rfl (fun w hm => refSum_any none 0 0 [] rfl (by decide) (by decide) w (Rd.nil _ _)) ?_   -- 45
    refine lwg_pure rfl (wg rfl rfl) ((val_eql_u8s rfl rfl Tryd.eqGuardType24 Tryd.underlying24 Tryd.underlying5 Tryd.sizeOf5 Tryd.isAgg5 (hash_len _) (hash_len _)).to (congrArg Value.bool (show _ = true by simp))) rfl ?_   -- 46
    refine lw_pure rfl (val_pick_true rfl rfl) rfl ?_   -- 47
    refine lw_pure rfl (val_assign rfl) rfl ?_   -- 0
    refine lw_nil (into ?_)
    refine sw_ret (fun w hm => ?_)
    try dsimp only [thenP, blockP, Nat.beq, cond]
    exact ret_one _ rfl rfl ⟨rfl, hm.forgetAll⟩
end Go.Proofs.YtiagaoeaploijaaDoor
