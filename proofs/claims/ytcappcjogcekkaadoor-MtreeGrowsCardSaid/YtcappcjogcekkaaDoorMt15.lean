import Derived.Test.YtcappcjogcekkaaDoorMt9
import Derived.Test.YtcappcjogcekkaaDoorSxU
import Derived.Test.YtcappcjogcekkaaDoorProg
set_option linter.unusedVariables false
set_option linter.unusedSimpArgs false
namespace Go.Proofs.YtcappcjogcekkaaDoor
open Go.Sx Go.Ps
theorem acts_row {P : Program} {n : Nat} {F : Fr} {M : World → Prop} {op : Op} {ty E : TypeId} {size k k' idx : Nat} {xs xs' : List Value} {w0 : World} {olds : List Nat} {m : List Ent}
    (h : Acts P n F M op ty (fun _ u w' => ∃ e', RowE u E size k xs e' ∧ Mem w0 olds (upd m idx e') w')) (hk : k = k') (hx : xs = xs') : Acts P n F M op ty (fun _ u w' => ∃ e', RowE u E size k' xs' e' ∧ Mem w0 olds (upd m idx e') w') := by
  subst hk; subst hx; exact h
theorem one_dgs (l : List (List UInt8)) : ∀ u ∈ l.flatMap (fun d => d.map vU8), u.oneCell' = true := by
  intro u hu
  obtain ⟨d, _, hd⟩ := List.mem_flatMap.1 hu
  exact one_u8s _ u hd
theorem flatMap_size' {l : List (List UInt8)} {m : Nat} (hm : l.length = m) (h : ∀ d ∈ l, d.length = 32) : (l.flatMap fun d => d.map vU8).length = m * 32 := by
  rw [flatMap_size l (n := 32) (fun y hy => by rw [List.length_map]; exact h y hy), hm]
theorem both {P : List UInt8 → Prop} {l m : List (List UInt8)} (h1 : ∀ d ∈ l, P d) (h2 : ∀ d ∈ m, P d) : ∀ d ∈ l ++ m, P d := fun d hd => (List.mem_append.1 hd).elim (h1 d) (h2 d)
theorem iDg : (Tryd.prog.info? 43).map (fun i => (i.zero, i.size, i.bytes)) = some (some (.agg (zeros32.map vU8).toArray), 32, 32) := by kernel_rfl
theorem made_len (z : Array Value) (n : Nat) : (madeCells z n).toList.length = n := by simp [madeCells]
theorem rowMadeN {b n size : Nat} {T : TypeId} {z : Array Value} (h : n ≤ 9223372036854775807) : RowE (.slice (some ⟨b, 0, none⟩) 0 n) T size 0 [] (some (b, blk (madeCells z (n * size)).toList T)) :=
  ⟨(Nat.zero_mul _).symm, .inr ⟨b, n, (madeCells z (n * size)).toList, rfl, Nat.zero_le _, h, (by rw [List.nil_append]; exact made_len _ _), rfl⟩⟩
abbrev Grw := Int × Sl (List UInt8)
abbrev Book := Nat × Sl (List UInt8)
def gC (g : Grw) : List Value := [vInt g.1, g.2.v]
theorem one_g (g : Grw) : ∀ v ∈ gC g, v.oneCell' = true := by
  intro v hv; simp only [gC, List.mem_cons, List.not_mem_nil, or_false] at hv; rcases hv with rfl | rfl <;> rfl
structure DgL (w : World) (s : Sl (List UInt8)) : Prop where
  el : ∀ d ∈ s.xs, d.length = 32
  rd : Rd w s.a (s.xs.flatMap fun d => d.map vU8)
  le : s.xs.length ≤ s.c
  lt : s.xs.length < 4611686018427387904
/-- A tree and its book, on the blocks of a list. -/
structure GrowOk (tN tT : TypeId) (k : Nat) (T : List Ent) (x : Book) : Prop where
  t : TrOn tN tT k T x.1 x.2.xs
  r : ∀ w, Held T w → Rd w x.2.a (x.2.xs.flatMap fun d => d.map vU8)
  c : x.2.xs.length ≤ x.2.c
  n : x.2.xs.length ≤ 400
  d : ∀ y ∈ x.2.xs, y.length = 32
  f : ∀ y ∈ x.2.xs, fm (k : Int) y = true
theorem GrowOk.sub {tN tT : TypeId} {k : Nat} {T T' : List Ent} {x : Book} (h : GrowOk tN tT k T x) (hs : T.Sublist T') : GrowOk tN tT k T' x := ⟨h.t.sub hs, fun w hh => h.r w (hh.sub hs), h.c, h.n, h.d, h.f⟩
theorem grow_cases (g : Int) (ns : List Book) (l : List (List UInt8)) (P : Prop) : g < 0 ∨ (0 ≤ g ∧ (ns.length : Int) ≤ g) ∨
    (∃ f : Nat, g = (f : Int) ∧ f < ns.length ∧ 400 < (ns.getD f default).2.xs.length + l.length) ∨ (∃ f : Nat, g = (f : Int) ∧ f < ns.length ∧ (ns.getD f default).2.xs.length + l.length ≤ 400 ∧ 30 < ns.length) ∨
    (∃ f : Nat, g = (f : Int) ∧ f < ns.length ∧ (ns.getD f default).2.xs.length + l.length ≤ 400 ∧ ns.length ≤ 30 ∧ ¬ P) ∨ (∃ f : Nat, g = (f : Int) ∧ f < ns.length ∧ (ns.getD f default).2.xs.length + l.length ≤ 400 ∧ ns.length ≤ 30 ∧ P) := by
  rcases (show g < 0 ∨ 0 ≤ g by omega) with h | h
  · exact .inl h
  rcases (show g < ns.length ∨ (ns.length : Int) ≤ g by omega) with h2 | h2
  · obtain ⟨f, rfl⟩ : ∃ f : Nat, g = (f : Int) := ⟨g.toNat, by omega⟩
    have hf : f < ns.length := by omega
    rcases Nat.lt_or_ge 400 ((ns.getD f default).2.xs.length + l.length) with h3 | h3
    · exact .inr (.inr (.inl ⟨f, rfl, hf, h3⟩))
    rcases Nat.lt_or_ge 30 ns.length with h4 | h4
    · exact .inr (.inr (.inr (.inl ⟨f, rfl, hf, h3, h4⟩)))
    by_cases hp : P
    · exact .inr (.inr (.inr (.inr (.inr ⟨f, rfl, hf, h3, h4, hp⟩))))
    · exact .inr (.inr (.inr (.inr (.inl ⟨f, rfl, hf, h3, h4, hp⟩))))
  · exact .inr (.inl ⟨h, h2⟩)
theorem getD_appL {α : Type} [Inhabited α] {l m : List α} {i : Nat} (h : i < l.length) : (l ++ m).getD i default = l.getD i default := by
  rw [List.getD_eq_getElem?_getD, List.getD_eq_getElem?_getD, List.getElem?_append_left h]

theorem docapp_bad (k : Nat) (w : World) (a1 : Option Addr) (c1 : Nat) (l : List (List UInt8)) (hd1 : ∀ d ∈ l, d.length = 32) (hr1 : Rd w a1 (l.flatMap fun d => d.map vU8)) (hc1 : l.length ≤ c1) (a2 : Option Addr) (c2 : Nat) (ms : List (List UInt8)) (hd2 : ∀ d ∈ ms, d.length = 32) (hr2 : Rd w a2 (ms.flatMap fun d => d.map vU8)) (hc2 : ms.length ≤ c2) (hs1 : l.length < 1099511627776) (hs2 : ms.length < 4611686018427387904) (hbad : ¬ ∀ d ∈ ms, fm (k : Int) d = true) : Calls Tryd.prog 17 #[vInt (k : Int), .slice a1 l.length c1, .slice a2 ms.length c2] w fun e w' => ∃ v, e = .returned v ∧ v = .tuple #[.slice none 0 0, vInt ((3 : Nat) : Int)] ∧ Mem w [] [] w' := by
  refine calls_of_sw (vs := [vInt (k : Int), .slice a1 l.length c1, .slice a2 ms.length c2]) Tryd.func17 rfl Tryd.ntmps17 rfl (SW.begin ?_)
  refine sw_seq ?_
  refine sw_region ?_
  refine ow_val (val_assign rfl) rfl ?_   -- 6
  refine ow_val (val_assign rfl) rfl ?_   -- 7
  refine ow_nil (into ?_)
  refine sw_seq ?_
  refine sw_seq ?_
  refine sw_region ?_
  refine ow_val (val_move rfl) rfl ?_   -- 11
  refine ow_val (val_len rfl Tryd.underlying32) rfl ?_   -- 12
  refine ow_val (val_move rfl) rfl ?_   -- 13
  refine ow_nil (into ?_)
  refine sw_block ?_
  refine sw_loop (σ := Nat) (fun i => i ≤ ms.length ∧ ∀ d ∈ ms.take i, fm (k : Int) d = true) (fun i => [(13, vInt (i : Int)), (12, vInt (ms.length : Int)), (11, .slice a2 ms.length c2), (0, vInt (k : Int)), (1, .slice a1 l.length c1), (2, .slice a2 ms.length c2)]) (fun _ => Mem w [] []) (fun i => ms.length - i) 0 ⟨Nat.zero_le _, fun d hd => by simp at hd⟩ ⟨rfl, rfl, rfl, rfl, rfl, rfl, trivial⟩ (fun w hm => hm.forgetAll) ?_
  rintro i ⟨hi, hmf⟩
  refine sw_seq ?_
  refine sw_region ?_
  refine ow_val (val_lss_int rfl rfl) rfl ?_   -- 14
  refine ow_nil (into ?_)
  refine sw_seq ?_
  refine sw_if rfl (fun h0 => ?_) (fun h0 => ?_)
  · -- then
    obtain ⟨b2, o2, rfl⟩ := hr2.addr (by rw [flatMap_size' rfl hd2]; omega)
    refine sw_skip (into ?_)
    refine sw_seq ?_
    refine sw_block ?_
    refine sw_seq ?_
    refine sw_region ?_
    refine ow_val (val_indexAddr_slice (i) (o2 + i * 32) rfl rfl Tryd.underlying32 Tryd.sizeOf43 (by omega) (by omega) (by omega)) rfl ?_   -- 15
    refine ow_val (val_load_elem (cells := fun d => d.map vU8) (l := ms) (o := o2) (i := i) rfl Tryd.isAgg43 Tryd.sizeOf43 (fun x hx => by rw [List.length_map]; exact hd2 x hx) (by omega) (by omega) (fun w' hm => hr2.mem hm)) rfl ?_   -- 16
    refine ow_new (acts_alloc zD) rfl (fun b9 hb9 => ?_)   -- 9
    refine ow_do_eq (does_store_all 0 rfl rfl rfl (one_u8s _) Tryd.sizeOf43 (by show (List.map vU8 (ms.getD i default)).length = _; rw [List.length_map]; exact (hd2 _ (getD_mem (by omega)))) (by show (List.map vU8 zeros32).length = _; rw [List.length_map]; exact zeros32_len)) ?_
    refine ow_nil (into ?_)
    refine sw_seq ?_
    refine sw_region ?_
    refine ow_val (val_move rfl) rfl ?_   -- 17
    refine ow_val (val_load_all 0 rfl rfl Tryd.isAgg43 Tryd.sizeOf43 (by show (List.map vU8 (ms.getD i default)).length = _; rw [List.length_map]; exact (hd2 _ (getD_mem (by omega))))) rfl ?_   -- 18
    refine ow_call_pure (callsTo Tryd.func41 rfl (by kernel_rfl) rfl) rfl (fun w hm => docForm_any (k : Int) (ms.getD i default) (hd2 _ (getD_mem (by omega))) w) ?_   -- 19
    by_cases hf0 : fm (k : Int) (ms.getD i default) = false
    · -- yes
      refine ow_val ((val_not rfl).to (congrArg Value.bool (show (!_) = true by rw [hf0]; rfl))) rfl ?_   -- 20
      refine ow_nil (into ?_)
      refine sw_true rfl rfl ?_
      refine sw_seq ?_
      refine sw_region ?_
      refine ow_val (val_assign rfl) rfl ?_   -- 6
      refine ow_val (val_assign rfl) rfl ?_   -- 7
      refine ow_nil (into ?_)
      refine sw_ret (fun w hm => ?_)
      try dsimp only [thenP, blockP, Nat.beq, cond]
      exact ret_two _ _ rfl rfl rfl ⟨rfl, hm.forgetAll⟩
    · -- no
      refine ow_val ((val_not rfl).to (congrArg Value.bool (show (!_) = false by rw [(Bool.not_eq_false _).mp hf0]; rfl))) rfl ?_   -- 20
      refine ow_nil (into ?_)
      refine sw_false rfl rfl ?_
      refine sw_skip (into ?_)
      refine sw_region ?_
      refine ow_val (val_add_int ((i + 1 : Nat) : Int) rfl rfl (by omega) (by omega)) rfl ?_   -- 21
      refine ow_val (val_move rfl) rfl ?_   -- 13
      exact ow_nil (fun w hm => ⟨i + 1, ⟨by omega, fun d hd => by rw [List.take_succ_eq_append_getElem (by omega), List.mem_append] at hd; rcases hd with hd | hd; exact hmf d hd; rw [List.mem_singleton] at hd; subst hd; simpa [List.getD_eq_getElem?_getD, show i < ms.length by omega] using (Bool.not_eq_false _).mp hf0⟩, by omega, ⟨rfl, rfl, rfl, rfl, rfl, rfl, trivial⟩, hm.forgetAll⟩)
  · -- else
    obtain rfl : i = ms.length := by omega
    rw [List.take_length] at hmf
    exact absurd hmf hbad

theorem docapp_0 (k : Nat) (w : World) (a1 : Option Addr) (c1 : Nat) (l : List (List UInt8)) (hd1 : ∀ d ∈ l, d.length = 32) (hr1 : Rd w a1 (l.flatMap fun d => d.map vU8)) (hc1 : l.length ≤ c1) (a2 : Option Addr) (c2 : Nat) (ms : List (List UInt8)) (hd2 : ∀ d ∈ ms, d.length = 32) (hr2 : Rd w a2 (ms.flatMap fun d => d.map vU8)) (hc2 : ms.length ≤ c2) (hs1 : l.length < 1099511627776) (hs2 : ms.length < 4611686018427387904) (hbig : l.length + ms.length ≤ 1048576) (hall : ∀ d ∈ ms, fm (k : Int) d = true) : Calls Tryd.prog 17 #[vInt (k : Int), .slice a1 l.length c1, .slice a2 ms.length c2] w fun en w' => ∃ u, en = .returned u ∧ ∃ s e', u = .tuple #[s, vInt ((0 : Nat) : Int)] ∧ RowE s 43 32 (l.length + ms.length) ((l ++ ms).flatMap fun d => d.map vU8) e' ∧ Mem w [] [e'] w' := by
  obtain ⟨tiD, hDi, hDz, hDsz, hDby⟩ := info_parts iDg
  refine calls_of_sw (vs := [vInt (k : Int), .slice a1 l.length c1, .slice a2 ms.length c2]) Tryd.func17 rfl Tryd.ntmps17 rfl (SW.begin ?_)
  refine sw_seq ?_
  refine sw_region ?_
  refine ow_val (val_assign rfl) rfl ?_   -- 6
  refine ow_val (val_assign rfl) rfl ?_   -- 7
  refine ow_nil (into ?_)
  refine sw_seq ?_
  refine sw_seq ?_
  refine sw_region ?_
  refine ow_val (val_move rfl) rfl ?_   -- 11
  refine ow_val (val_len rfl Tryd.underlying32) rfl ?_   -- 12
  refine ow_val (val_move rfl) rfl ?_   -- 13
  refine ow_nil (into ?_)
  refine sw_block ?_
  refine sw_loop (σ := Nat) (fun i => i ≤ ms.length) (fun i => [(13, vInt (i : Int)), (12, vInt (ms.length : Int)), (11, .slice a2 ms.length c2), (0, vInt (k : Int)), (1, .slice a1 l.length c1), (2, .slice a2 ms.length c2)]) (fun _ => Mem w [] []) (fun i => ms.length - i) 0 (Nat.zero_le _) ⟨rfl, rfl, rfl, rfl, rfl, rfl, trivial⟩ (fun w hm => hm.forgetAll) ?_
  intro i hi
  refine sw_seq ?_
  refine sw_region ?_
  refine ow_val (val_lss_int rfl rfl) rfl ?_   -- 14
  refine ow_nil (into ?_)
  refine sw_seq ?_
  refine sw_if rfl (fun h0 => ?_) (fun h0 => ?_)
  · -- then
    obtain ⟨b2, o2, rfl⟩ := hr2.addr (by rw [flatMap_size' rfl hd2]; omega)
    refine sw_skip (into ?_)
    refine sw_seq ?_
    refine sw_block ?_
    refine sw_seq ?_
    refine sw_region ?_
    refine ow_val (val_indexAddr_slice (i) (o2 + i * 32) rfl rfl Tryd.underlying32 Tryd.sizeOf43 (by omega) (by omega) (by omega)) rfl ?_   -- 15
    refine ow_val (val_load_elem (cells := fun d => d.map vU8) (l := ms) (o := o2) (i := i) rfl Tryd.isAgg43 Tryd.sizeOf43 (fun x hx => by rw [List.length_map]; exact hd2 x hx) (by omega) (by omega) (fun w' hm => hr2.mem hm)) rfl ?_   -- 16
    refine ow_new (acts_alloc zD) rfl (fun b9 hb9 => ?_)   -- 9
    refine ow_do_eq (does_store_all 0 rfl rfl rfl (one_u8s _) Tryd.sizeOf43 (by show (List.map vU8 (ms.getD i default)).length = _; rw [List.length_map]; exact (hd2 _ (getD_mem (by omega)))) (by show (List.map vU8 zeros32).length = _; rw [List.length_map]; exact zeros32_len)) ?_
    refine ow_nil (into ?_)
    refine sw_seq ?_
    refine sw_region ?_
    refine ow_val (val_move rfl) rfl ?_   -- 17
    refine ow_val (val_load_all 0 rfl rfl Tryd.isAgg43 Tryd.sizeOf43 (by show (List.map vU8 (ms.getD i default)).length = _; rw [List.length_map]; exact (hd2 _ (getD_mem (by omega))))) rfl ?_   -- 18
    refine ow_call_pure (v := .bool true) (callsTo Tryd.func41 rfl (by kernel_rfl) rfl) rfl (fun w hm => (by have h := docForm_any (k : Int) (ms.getD i default) (hd2 _ (getD_mem (by omega))) w; rw [hall _ (getD_mem (by omega))] at h; exact h)) ?_   -- 19
    refine ow_val (val_not rfl) rfl ?_   -- 20
    refine ow_nil (into ?_)
    refine sw_false rfl rfl ?_
    refine sw_skip (into ?_)
    refine sw_region ?_
    refine ow_val (val_add_int ((i + 1 : Nat) : Int) rfl rfl (by omega) (by omega)) rfl ?_   -- 21
    refine ow_val (val_move rfl) rfl ?_   -- 13
    exact ow_nil (fun w hm => ⟨i + 1, by omega, by omega, ⟨rfl, rfl, rfl, rfl, rfl, rfl, trivial⟩, hm.forgetAll⟩)
  · -- else
    refine sw_exit (into ?_)
    refine sw_seq ?_
    refine sw_region ?_
    refine ow_val (val_move rfl) rfl ?_   -- 22
    refine ow_val (val_len rfl Tryd.underlying32) rfl ?_   -- 23
    refine ow_val (val_move rfl) rfl ?_   -- 24
    refine ow_val (val_len rfl Tryd.underlying32) rfl ?_   -- 25
    refine ow_val (val_add_int ((l.length + ms.length : Nat) : Int) rfl rfl (by omega) (by omega)) rfl ?_   -- 26
    refine ow_make (o := blk (madeCells (Value.agg (zeros32.map vU8).toArray).cells ((l.length + ms.length) * 32)).toList 43) (acts_make_to (vs := (madeCells (Value.agg (zeros32.map vU8).toArray).cells ((l.length + ms.length) * 32)).toList) 0 (l.length + ms.length) rfl rfl (by simp) (by simp) Tryd.underlying32 hDi hDz (by omega) (by rw [hDby]; omega) (by omega) (by rw [hDsz])) rfl (fun b27 hb27 => ?_)   -- 27
    refine ow_val (val_assign rfl) rfl ?_   -- 10
    refine ow_nil (into ?_)
    refine sw_seq ?_
    refine sw_region ?_
    refine ow_val (val_move rfl) rfl ?_   -- 28
    refine ow_val (val_move rfl) rfl ?_   -- 29
    refine ow_append' (k := l.length) (xs := l.flatMap fun d => d.map vU8) (acts_row (acts_append (size := 32) (bytes := 32) 0 rfl rfl rfl (rowMadeN (by omega)) rfl Tryd.underlying32 hDi hDz hDsz hDby rfl (by decide) (fun w hm => hr1.mem hm) (flatMap_size' rfl hd1) (one_dgs _) (by omega) (by omega)) (by omega) (by simp only [List.flatMap_append, List.nil_append])) rfl (fun a30 c30 e30 hr30' => ?_)   -- 30
    refine ow_val (val_assign rfl) rfl ?_   -- 10
    refine ow_nil (into ?_)
    refine sw_seq ?_
    refine sw_region ?_
    refine ow_val (val_move rfl) rfl ?_   -- 31
    refine ow_val (val_move rfl) rfl ?_   -- 32
    refine ow_append' (k := l.length + ms.length) (xs := (l ++ ms).flatMap fun d => d.map vU8) (acts_row (acts_append (size := 32) (bytes := 32) 0 rfl rfl rfl hr30' rfl Tryd.underlying32 hDi hDz hDsz hDby rfl (by decide) (fun w hm => hr2.mem hm) (flatMap_size' rfl hd2) (one_dgs _) (by omega) (by omega)) (by omega) (by simp only [List.flatMap_append, List.nil_append])) rfl (fun a33 c33 e33 hr33' => ?_)   -- 33
    refine ow_val (val_assign rfl) rfl ?_   -- 10
    refine ow_nil (into ?_)
    refine sw_seq ?_
    refine sw_region ?_
    refine ow_val (val_move rfl) rfl ?_   -- 34
    refine ow_val (val_assign rfl) rfl ?_   -- 6
    refine ow_val (val_assign rfl) rfl ?_   -- 7
    refine ow_nil (into ?_)
    exact sw_ret (fun w hm => ret_two _ _ rfl rfl rfl ⟨_, _, rfl, hr33', hm⟩)

theorem docapp_good (k : Nat) (w : World) (a1 : Option Addr) (c1 : Nat) (l : List (List UInt8)) (hd1 : ∀ d ∈ l, d.length = 32) (hr1 : Rd w a1 (l.flatMap fun d => d.map vU8)) (hc1 : l.length ≤ c1) (a2 : Option Addr) (c2 : Nat) (ms : List (List UInt8)) (hd2 : ∀ d ∈ ms, d.length = 32) (hr2 : Rd w a2 (ms.flatMap fun d => d.map vU8)) (hc2 : ms.length ≤ c2) (hs1 : l.length < 1099511627776) (hs2 : ms.length < 4611686018427387904) (hbig : l.length + ms.length ≤ 1048576) (hall : ∀ d ∈ ms, fm (k : Int) d = true) {L : List (List UInt8)} (hL : l ++ ms = L) : Calls Tryd.prog 17 #[vInt (k : Int), .slice a1 l.length c1, .slice a2 ms.length c2] w fun en w' => ∃ u, en = .returned u ∧ ∃ s e', u = .tuple #[s, vInt ((0 : Nat) : Int)] ∧ RowE s 43 32 L.length (L.flatMap fun d => d.map vU8) e' ∧ Mem w [] [e'] w' := by
  subst hL
  rw [List.length_append]
  exact docapp_0 k w a1 c1 l hd1 hr1 hc1 a2 c2 ms hd2 hr2 hc2 hs1 hs2 hbig hall

theorem append_bad_tr (k : Nat) (h1 : 1 ≤ k) (h2 : k ≤ 32) (w : World) (hK : KW w) (T : List Ent) (hh : Held T w) (b : Nat) (l : List (List UInt8)) (ht : TrOn 95 75 k T b l) (hdl : ∀ x ∈ l, x.length = 32) (hfl : ∀ x ∈ l, fm (k : Int) x = true) (a2 : Option Addr) (m c2 : Nat) (ms : List (List UInt8)) (hlm : ms.length = m) (hml : ∀ d ∈ ms, d.length = 32) (hmr : Rd w a2 (ms.flatMap fun d => d.map vU8)) (hmc : m ≤ c2) (hm63 : m < 9223372036854775808) (hbad : ¬ ∀ d ∈ ms, fm (k : Int) d = true) (hbig : l.length + m + 1 ≤ 1048576) : Calls Tryd.prog 16 #[vPtr b, .slice a2 m c2] w fun e w' => ∃ v, e = .returned v ∧ v = .tuple #[.pointer none, vInt ((3 : Nat) : Int)] ∧ Mem w [] [] w' := by
  subst hlm
  obtain ⟨ps, a, c, ht⟩ := ht
  exact append_bad k h1 h2 w hK b l ps a c (ht w hh) hdl hfl a2 c2 ms hml hmr hmc hm63 hbig hbad
theorem iTp : (Tryd.prog.info? 24).map (fun i => (i.zero, i.size, i.bytes)) = some (some (.pointer none), 1, 8) := by kernel_rfl
theorem iDss : (Tryd.prog.info? 32).map (fun i => (i.zero, i.size, i.bytes)) = some (some (.slice none 0 0), 1, 24) := by kernel_rfl
theorem zGr (w : World) : (zeroValue 34).run Tryd.prog w = .ok (.agg #[.int .i64 0, .slice none 0 0]) w := by kernel_rfl
theorem zTp (w : World) : (zeroValue 24).run Tryd.prog w = .ok (.pointer none) w := by kernel_rfl
theorem zDs (w : World) : (zeroValue 32).run Tryd.prog w = .ok (.slice none 0 0) w := by kernel_rfl

theorem grows_no (v0 : Int) (hwd : wd v0 = false) (w : World) (hK : KW w) (ax : Option Addr) (cx : Nat) (gs : List Grw) (hgr : Rd w ax (gs.flatMap gC)) (hgc : gs.length ≤ cx) (hgl : gs.length < 9223372036854775808) (hgo : ∀ g ∈ gs, DgL w g.2) : Calls Tryd.prog 3 #[vInt v0, .slice ax gs.length cx] w fun e w' => ∃ v, e = .returned v ∧ v = .bool true ∧ Mem w [] [] w' := by
  refine calls_of_sw (vs := [vInt v0, .slice ax gs.length cx]) Tryd.func3 rfl Tryd.ntmps3 rfl (SW.begin ?_)
  refine sw_seq ?_
  refine sw_region ?_
  refine ow_val (val_assign rfl) rfl ?_   -- 4
  refine ow_nil (into ?_)
  refine sw_seq ?_
  refine sw_seq ?_
  refine sw_region ?_
  refine ow_call_pure (v := .bool true) (callsTo Tryd.func12 rfl (by kernel_rfl) rfl) rfl (fun w hm => awake_any w (hK.mem0 hm)) ?_   -- 17
  refine ow_val (val_not rfl) rfl ?_   -- 18
  refine ow_nil (into ?_)
  refine sw_false rfl rfl ?_
  refine sw_skip (into ?_)
  refine sw_seq ?_
  refine sw_region ?_
  refine ow_val (val_move rfl) rfl ?_   -- 20
  refine ow_call_pure (v := .tuple #[.pointer none, vInt ((1 : Nat) : Int)]) (callsTo Tryd.func13 rfl (by kernel_rfl) rfl) rfl (fun w hm => new_no v0 hwd w) ?_   -- 21
  refine ow_val (val_move rfl) rfl ?_   -- 19
  refine ow_val (val_extract rfl rfl) rfl ?_   -- 22
  refine ow_val (val_extract rfl rfl) rfl ?_   -- 23
  refine ow_val (val_assign rfl) rfl ?_   -- 5
  refine ow_val (val_assign rfl) rfl ?_   -- 6
  refine ow_nil (into ?_)
  refine sw_seq ?_
  refine sw_seq ?_
  refine sw_region ?_
  refine ow_val (val_move rfl) rfl ?_   -- 24
  refine ow_call_pure (v := vInt ((1 : Nat) : Int)) (callsTo Tryd.func14 rfl (by kernel_rfl) rfl) rfl (fun w hm => rnew_no v0 hwd w) ?_   -- 25
  refine ow_val (val_assign rfl) rfl ?_   -- 7
  refine ow_nil (into ?_)
  refine sw_seq ?_
  refine sw_region ?_
  refine ow_val (val_move rfl) rfl ?_   -- 26
  refine ow_val ((val_neq_int rfl rfl).to (v' := .bool true) (congrArg Value.bool (decide_eq_true (by simp)))) rfl ?_   -- 27
  refine ow_nil (into ?_)
  refine sw_true rfl rfl ?_
  refine sw_seq ?_
  refine sw_region ?_
  refine ow_val (val_move rfl) rfl ?_   -- 28
  refine ow_val (val_move rfl) rfl ?_   -- 29
  refine ow_val ((val_eql_int rfl rfl).to (v' := .bool true) (congrArg Value.bool (decide_eq_true rfl))) rfl ?_   -- 30
  refine ow_val (val_move rfl) rfl ?_   -- 31
  refine ow_guard_yes rfl rfl rfl ?_
  refine ow_val (val_move rfl) rfl ?_   -- 32
  refine ow_guard_yes rfl rfl rfl ?_
  refine ow_val (val_eql_nilptr Tryd.underlying24 rfl rfl) rfl ?_   -- 33
  refine ow_val (val_pick_true rfl rfl) rfl ?_   -- 34
  refine ow_val (val_assign rfl) rfl ?_   -- 4
  refine ow_nil (into ?_)
  refine sw_ret (fun w hm => ?_)
  try dsimp only [thenP, blockP, Nat.beq, cond]
  exact ret_one _ rfl rfl ⟨rfl, hm.forgetAll⟩

theorem grows_main (k : Nat) (h1 : 1 ≤ k) (h2 : k ≤ 32) (w : World) (hK : KW w) (ax : Option Addr) (cx : Nat) (gs : List Grw) (hgr : Rd w ax (gs.flatMap gC)) (hgc : gs.length ≤ cx) (hgl : gs.length < 9223372036854775808) (hgo : ∀ g ∈ gs, DgL w g.2) : Calls Tryd.prog 3 #[vInt (k : Int), .slice ax gs.length cx] w fun e w' => ∃ v, e = .returned v ∧ v = .bool true ∧ Mem w [] [] w' := by
  obtain ⟨tiT, hTi, hTz, hTsz, hTby⟩ := info_parts iTp
  obtain ⟨tiS, hSi, hSz, hSsz, hSby⟩ := info_parts iDss
  have hwd : wd (k : Int) = true := wd_iff.2 (by omega)
  have hn0 : ∀ d ∈ ([] : List (List UInt8)), d.length = 32 := fun _ h => by cases h
  have hn1 : ∀ d ∈ ([] : List (List UInt8)), fm (k : Int) d = true := fun _ h => by cases h
  have hnn : ([] : List (List UInt8)).length = 0 := rfl
  refine calls_of_sw (vs := [vInt (k : Int), .slice ax gs.length cx]) Tryd.func3 rfl Tryd.ntmps3 rfl (SW.begin ?_)
  refine sw_seq ?_
  refine sw_region ?_
  refine ow_val (val_assign rfl) rfl ?_   -- 4
  refine ow_nil (into ?_)
  refine sw_seq ?_
  refine sw_seq ?_
  refine sw_region ?_
  refine ow_call_pure (v := .bool true) (callsTo Tryd.func12 rfl (by kernel_rfl) rfl) rfl (fun w hm => awake_any w (hK.mem0 hm)) ?_   -- 17
  refine ow_val (val_not rfl) rfl ?_   -- 18
  refine ow_nil (into ?_)
  refine sw_false rfl rfl ?_
  refine sw_skip (into ?_)
  refine sw_seq ?_
  refine sw_region ?_
  refine ow_val (val_move rfl) rfl ?_   -- 20
  refine ow_call_tail (σ := Nat × List Ent) (fun q9 => .tuple #[vPtr q9.1, vInt ((0 : Nat) : Int)]) (fun q9 => q9.2) (fun q9 => TrOn 95 75 k q9.2 q9.1 []) (callsTo Tryd.func13 rfl (by kernel_rfl) rfl) rfl (fun w hm => new_tr k h1 h2 w) ?_   -- 21
  rintro ⟨b21, es21⟩ htr21
  simp only at htr21 ⊢
  refine ow_val (val_move rfl) rfl ?_   -- 19
  refine ow_val (val_extract rfl rfl) rfl ?_   -- 22
  refine ow_val (val_extract rfl rfl) rfl ?_   -- 23
  refine ow_val (val_assign rfl) rfl ?_   -- 5
  refine ow_val (val_assign rfl) rfl ?_   -- 6
  refine ow_nil (into ?_)
  refine sw_seq ?_
  refine sw_seq ?_
  refine sw_region ?_
  refine ow_val (val_move rfl) rfl ?_   -- 24
  refine ow_call_pure (v := vInt ((0 : Nat) : Int)) (callsTo Tryd.func14 rfl (by kernel_rfl) rfl) rfl (fun w hm => rnew_yes _ hwd w) ?_   -- 25
  refine ow_val (val_assign rfl) rfl ?_   -- 7
  refine ow_nil (into ?_)
  refine sw_seq ?_
  refine sw_region ?_
  refine ow_val (val_move rfl) rfl ?_   -- 26
  refine ow_val ((val_neq_int rfl rfl).to (v' := .bool false) (congrArg Value.bool (decide_eq_false (fun h => h (by simp))))) rfl ?_   -- 27
  refine ow_nil (into ?_)
  refine sw_false rfl rfl ?_
  refine sw_skip (into ?_)
  refine sw_seq ?_
  refine sw_seq ?_
  refine sw_region ?_
  refine ow_val (val_move rfl) rfl ?_   -- 35
  refine ow_val ((val_neq_int rfl rfl).to (v' := .bool false) (congrArg Value.bool (decide_eq_false (fun h => h (by simp))))) rfl ?_   -- 36
  refine ow_val (val_move rfl) rfl ?_   -- 37
  refine ow_guard_yes rfl rfl rfl ?_
  refine ow_val (val_move rfl) rfl ?_   -- 38
  refine ow_guard_yes rfl rfl rfl ?_
  refine ow_val (val_move rfl) rfl ?_   -- 39
  refine ow_guard_yes rfl rfl rfl ?_
  refine ow_call_pure (v := .bool true) (callsTo Tryd.func15 rfl (by kernel_rfl) rfl) rfl (fun w hm => reads_any k h1 h2 w (hK.mem0 hm) b21 [] (htr21.is (hm.heldSub (List.Sublist.refl _))) (by omega) none 0 0 rfl (fun _ h => by cases h) (fun _ h => by cases h) (Rd.nil _ _) (Nat.le_refl _) (by decide)) ?_   -- 40
  refine ow_guard_yes rfl rfl rfl ?_
  refine ow_val (val_not rfl) rfl ?_   -- 41
  refine ow_val (val_pick_false rfl rfl) rfl ?_   -- 42
  refine ow_nil (into ?_)
  refine sw_false rfl rfl ?_
  refine sw_skip (into ?_)
  refine sw_seq ?_
  refine sw_region ?_
  refine ow_val (val_move rfl) rfl ?_   -- 43
  refine ow_make (acts_buildSlice (cs := [vPtr b21]) Tryd.underlying30 Tryd.sizeOf24 zTp rfl rfl (by kernel_rfl)) rfl (fun b44 hb44 => ?_)   -- 44
  refine ow_val (val_assign rfl) rfl ?_   -- 8
  refine ow_nil (into ?_)
  refine sw_seq ?_
  refine sw_region ?_
  refine ow_make (acts_buildSlice (cs := [.slice none 0 0]) Tryd.underlying31 Tryd.sizeOf32 zDs rfl rfl (by kernel_rfl)) rfl (fun b45 hb45 => ?_)   -- 45
  refine ow_val (val_assign rfl) rfl ?_   -- 9
  refine ow_nil (into ?_)
  refine sw_seq ?_
  refine sw_seq ?_
  refine sw_region ?_
  refine ow_val (val_move rfl) rfl ?_   -- 46
  refine ow_val (val_len rfl Tryd.underlying22) rfl ?_   -- 47
  refine ow_val (val_move rfl) rfl ?_   -- 48
  refine ow_nil (into ?_)
  refine sw_block ?_
  refine sw_loop (σ := Nat × List Book × Option Addr × Nat × Ent × Option Addr × Nat × Ent × List Ent) (fun t => t.1 ≤ gs.length ∧ 1 ≤ t.2.1.length ∧ t.2.1.length ≤ 31 ∧ RowE (.slice t.2.2.1 t.2.1.length t.2.2.2.1) 24 1 t.2.1.length (t.2.1.map (fun x : Book => vPtr x.1)) t.2.2.2.2.1 ∧ RowE (.slice t.2.2.2.2.2.1 t.2.1.length t.2.2.2.2.2.2.1) 32 1 t.2.1.length (t.2.1.map (fun x : Book => x.2.v)) t.2.2.2.2.2.2.2.1 ∧ ∀ x ∈ t.2.1, GrowOk 95 75 k t.2.2.2.2.2.2.2.2 x) (fun t => [(48, vInt (t.1 : Int)), (47, vInt (gs.length : Int)), (46, .slice ax gs.length cx), (8, .slice t.2.2.1 t.2.1.length t.2.2.2.1), (9, .slice t.2.2.2.2.2.1 t.2.1.length t.2.2.2.2.2.2.1), (0, vInt (k : Int))]) (fun t => Mem w [] (t.2.2.2.2.1 :: t.2.2.2.2.2.2.2.1 :: t.2.2.2.2.2.2.2.2)) (fun t => gs.length - t.1) (0, [(b21, ⟨none, 0, []⟩)], some ⟨b44, 0, none⟩, 1, _, some ⟨b45, 0, none⟩, 1, _, es21) ⟨Nat.zero_le _, (Nat.le_refl 1), (show 1 ≤ 31 by decide), (RowE.full (n := 1) (size := 1) rfl (by decide)), (RowE.full (n := 1) (size := 1) rfl (by decide)), fun x hx => by rw [List.mem_singleton.1 hx]; exact ⟨htr21, fun _ _ => Rd.nil _ _, Nat.le_refl _, Nat.zero_le _, (fun _ h => by cases h), (fun _ h => by cases h)⟩⟩ ⟨rfl, rfl, rfl, rfl, rfl, rfl, trivial⟩ (fun w hm => hm.perm (.swap _ _ _)) ?_
  rintro ⟨j, ns, a8, c8, et, a9, c9, eb, T⟩ ⟨hj, hn1, hn31, hrt, hrb, hns⟩
  simp only at hj hn1 hn31 hrt hrb hns ⊢
  obtain ⟨b8, o8, rfl⟩ := rowAddr hrt (by omega)
  obtain ⟨b9, o9, rfl⟩ := rowAddr hrb (by omega)
  have hct := hrt.le
  have hcb := hrb.le
  refine sw_seq ?_
  refine sw_region ?_
  refine ow_val (val_lss_int rfl rfl) rfl ?_   -- 49
  refine ow_nil (into ?_)
  refine sw_seq ?_
  refine sw_if rfl (fun h0 => ?_) (fun h0 => ?_)
  · -- then
    obtain ⟨bg, og, rfl⟩ := hgr.addr (by rw [flatMap_size gs (n := 2) (fun x _ => rfl)]; omega)
    obtain ⟨⟨g1, gl⟩, hg⟩ : ∃ z, gs.getD j default = z := ⟨_, rfl⟩
    have hgd : DgL w gl := by have h9 := hgo _ (getD_mem (l := gs) (i := j) (by omega)); rw [hg] at h9; exact h9
    have hgle := hgd.le
    have hglt := hgd.lt
    have hged := hgd.el
    refine sw_skip (into ?_)
    refine sw_seq ?_
    refine sw_block ?_
    refine sw_seq ?_
    rcases grow_cases g1 ns gl.xs (∀ d ∈ gl.xs, fm (k : Int) d = true) with h | ⟨h0', h⟩ | ⟨f, rfl, hf, h4⟩ | ⟨f, rfl, hf, h4, h30⟩ | ⟨f, rfl, hf, h4, h30, hgb⟩ | ⟨f, rfl, hf, h4, h30, hgf⟩
    · -- case
      skip
      refine sw_region ?_
      refine ow_val (val_indexAddr_slice j (og + j * 2) rfl rfl Tryd.underlying22 Tryd.sizeOf34 (by omega) (by omega) (by omega)) rfl ?_   -- 50
      refine ow_val ((val_load_elem (cells := gC) (l := gs) (o := og) (i := j) rfl Tryd.isAgg34 Tryd.sizeOf34 (fun x _ => rfl) (by omega) (by omega) (fun w' hm => hgr.mem hm)).to (v' := .agg ([vInt g1, .slice gl.a gl.xs.length gl.c] : List Value).toArray) (by rw [hg]; rfl)) rfl ?_   -- 51
      refine ow_new (acts_alloc zGr) rfl (fun b11 hb11 => ?_)   -- 11
      refine ow_do_eq (does_store_all 0 rfl rfl rfl (one_g (g1, gl)) Tryd.sizeOf34 rfl rfl) ?_
      refine ow_nil (into ?_)
      refine sw_seq ?_
      refine sw_seq ?_
      refine sw_region_lex _ [] [(0, 0), (1, 1), (2, 0), (3, 0), (4, 0), (5, 0), (6, 0), (7, 0), (8, 0), (9, 0), (10, 0), (11, 0), (12, 0), (13, 0), (14, 0), (15, 0), (16, 0), (17, 0), (18, 0), (19, 0), (20, 0), (21, 0), (22, 0), (23, 0), (24, 0), (25, 0), (26, 0), (27, 0)] (by kernel_rfl) (by kernel_rfl) (fun _ _ _ h => h) (fun _ h => h) (fun _ h => h.drawn _) ?_
      refine lw_pure rfl (val_fieldAddr (m := 0) (e := 0) rfl Tryd.underlying34 rfl rfl Tryd.sizeOf3 rfl) rfl ?_   -- 52
      refine lw_held rfl (val_load_at 0 rfl rfl Tryd.isAgg3 rfl) rfl ?_   -- 53
      refine lw_pure rfl ((val_lss_int rfl rfl).to (congrArg Value.bool (decide_eq_true (by omega)))) rfl ?_   -- 54
      refine lw_pure rfl (val_move rfl) rfl ?_   -- 55
      first | refine lwg_no rfl (ng1 rfl rfl) rfl ?_ | refine lwg_no rfl (ng2 rfl rfl) rfl ?_   -- 56
      first | refine lwg_no rfl (ng1 rfl rfl) rfl ?_ | refine lwg_no rfl (ng2 rfl rfl) rfl ?_   -- 57
      first | refine lwg_no rfl (ng1 rfl rfl) rfl ?_ | refine lwg_no rfl (ng2 rfl rfl) rfl ?_   -- 58
      first | refine lwg_no rfl (ng1 rfl rfl) rfl ?_ | refine lwg_no rfl (ng2 rfl rfl) rfl ?_   -- 59
      first | refine lwg_no rfl (ng1 rfl rfl) rfl ?_ | refine lwg_no rfl (ng2 rfl rfl) rfl ?_   -- 60
      refine lw_pure rfl (val_pick_true rfl rfl) rfl ?_   -- 61
      refine lw_pure rfl (val_move rfl) rfl ?_   -- 62
      first | refine lwg_no rfl (ng1 rfl rfl) rfl ?_ | refine lwg_no rfl (ng2 rfl rfl) rfl ?_   -- 63
      first | refine lwg_no rfl (ng1 rfl rfl) rfl ?_ | refine lwg_no rfl (ng2 rfl rfl) rfl ?_   -- 64
      first | refine lwg_no rfl (ng1 rfl rfl) rfl ?_ | refine lwg_no rfl (ng2 rfl rfl) rfl ?_   -- 65
      first | refine lwg_no rfl (ng1 rfl rfl) rfl ?_ | refine lwg_no rfl (ng2 rfl rfl) rfl ?_   -- 66
      first | refine lwg_no rfl (ng1 rfl rfl) rfl ?_ | refine lwg_no rfl (ng2 rfl rfl) rfl ?_   -- 67
      first | refine lwg_no rfl (ng1 rfl rfl) rfl ?_ | refine lwg_no rfl (ng2 rfl rfl) rfl ?_   -- 68
      first | refine lwg_no rfl (ng1 rfl rfl) rfl ?_ | refine lwg_no rfl (ng2 rfl rfl) rfl ?_   -- 69
      first | refine lwg_no rfl (ng1 rfl rfl) rfl ?_ | refine lwg_no rfl (ng2 rfl rfl) rfl ?_   -- 70
      first | refine lwg_no rfl (ng1 rfl rfl) rfl ?_ | refine lwg_no rfl (ng2 rfl rfl) rfl ?_   -- 71
      first | refine lwg_no rfl (ng1 rfl rfl) rfl ?_ | refine lwg_no rfl (ng2 rfl rfl) rfl ?_   -- 72
      first | refine lwg_no rfl (ng1 rfl rfl) rfl ?_ | refine lwg_no rfl (ng2 rfl rfl) rfl ?_   -- 73
      refine lw_pure rfl (val_pick_true rfl rfl) rfl ?_   -- 74
      refine lw_pure rfl (val_move rfl) rfl ?_   -- 75
      first | refine lwg_no rfl (ng1 rfl rfl) rfl ?_ | refine lwg_no rfl (ng2 rfl rfl) rfl ?_   -- 76
      first | refine lwg_no rfl (ng1 rfl rfl) rfl ?_ | refine lwg_no rfl (ng2 rfl rfl) rfl ?_   -- 77
      first | refine lwg_no rfl (ng1 rfl rfl) rfl ?_ | refine lwg_no rfl (ng2 rfl rfl) rfl ?_   -- 78
      refine lw_pure rfl (val_pick_true rfl rfl) rfl ?_   -- 79
      refine lw_nil (into ?_)
      refine sw_true rfl rfl ?_
      refine sw_exit (into ?_)
      refine sw_region ?_
      refine ow_val (val_add_int ((j + 1 : Nat) : Int) rfl rfl (by omega) (by omega)) rfl ?_   -- 136
      refine ow_val (val_move rfl) rfl ?_   -- 48
      exact ow_nil (fun w hm => ⟨(j + 1, ns, _, c8, et, _, c9, eb, T), ⟨by dsimp only; omega, hn1, hn31, hrt, hrb, hns⟩, by dsimp only; omega, ⟨rfl, rfl, rfl, rfl, rfl, rfl, trivial⟩, hm.only (.cons _ (.cons_cons _ (.cons_cons _ (List.Sublist.refl _))))⟩)
    · -- case
      skip
      refine sw_region ?_
      refine ow_val (val_indexAddr_slice j (og + j * 2) rfl rfl Tryd.underlying22 Tryd.sizeOf34 (by omega) (by omega) (by omega)) rfl ?_   -- 50
      refine ow_val ((val_load_elem (cells := gC) (l := gs) (o := og) (i := j) rfl Tryd.isAgg34 Tryd.sizeOf34 (fun x _ => rfl) (by omega) (by omega) (fun w' hm => hgr.mem hm)).to (v' := .agg ([vInt g1, .slice gl.a gl.xs.length gl.c] : List Value).toArray) (by rw [hg]; rfl)) rfl ?_   -- 51
      refine ow_new (acts_alloc zGr) rfl (fun b11 hb11 => ?_)   -- 11
      refine ow_do_eq (does_store_all 0 rfl rfl rfl (one_g (g1, gl)) Tryd.sizeOf34 rfl rfl) ?_
      refine ow_nil (into ?_)
      refine sw_seq ?_
      refine sw_seq ?_
      refine sw_region_lex _ [] [(0, 0), (1, 1), (2, 0), (3, 0), (4, 0), (6, 0), (7, 0), (5, 1), (8, 0), (9, 0), (10, 0), (11, 0), (12, 0), (13, 0), (14, 0), (15, 0), (16, 0), (17, 0), (18, 0), (19, 0), (20, 0), (21, 0), (22, 0), (23, 0), (24, 0), (25, 0), (26, 0), (27, 0)] (by kernel_rfl) (by kernel_rfl) (fun _ _ _ h => h) (fun _ h => h) (fun _ h => h.drawn _) ?_
      refine lw_pure rfl (val_fieldAddr (m := 0) (e := 0) rfl Tryd.underlying34 rfl rfl Tryd.sizeOf3 rfl) rfl ?_   -- 52
      refine lw_held rfl (val_load_at 0 rfl rfl Tryd.isAgg3 rfl) rfl ?_   -- 53
      refine lw_pure rfl ((val_lss_int rfl rfl).to (congrArg Value.bool (decide_eq_false (by omega)))) rfl ?_   -- 54
      refine lw_pure rfl (val_move rfl) rfl ?_   -- 55
      refine lwg_pure rfl (wg rfl rfl) (val_fieldAddr (m := 0) (e := 0) rfl Tryd.underlying34 rfl rfl Tryd.sizeOf3 rfl) rfl ?_   -- 56
      refine lwg_pure rfl (wg rfl rfl) (val_move rfl) rfl ?_   -- 58
      refine lwg_pure rfl (wg rfl rfl) (val_len rfl Tryd.underlying30) rfl ?_   -- 59
      refine lwg_held rfl (wg rfl rfl) (val_load_at 0 rfl rfl Tryd.isAgg3 rfl) rfl ?_   -- 57
      refine lwg_pure rfl (wg rfl rfl) ((val_geq_int rfl rfl).to (congrArg Value.bool (decide_eq_true (by omega)))) rfl ?_   -- 60
      refine lw_pure rfl (val_pick_false rfl rfl) rfl ?_   -- 61
      refine lw_pure rfl (val_move rfl) rfl ?_   -- 62
      first | refine lwg_no rfl (ng1 rfl rfl) rfl ?_ | refine lwg_no rfl (ng2 rfl rfl) rfl ?_   -- 63
      first | refine lwg_no rfl (ng1 rfl rfl) rfl ?_ | refine lwg_no rfl (ng2 rfl rfl) rfl ?_   -- 64
      first | refine lwg_no rfl (ng1 rfl rfl) rfl ?_ | refine lwg_no rfl (ng2 rfl rfl) rfl ?_   -- 65
      first | refine lwg_no rfl (ng1 rfl rfl) rfl ?_ | refine lwg_no rfl (ng2 rfl rfl) rfl ?_   -- 66
      first | refine lwg_no rfl (ng1 rfl rfl) rfl ?_ | refine lwg_no rfl (ng2 rfl rfl) rfl ?_   -- 67
      first | refine lwg_no rfl (ng1 rfl rfl) rfl ?_ | refine lwg_no rfl (ng2 rfl rfl) rfl ?_   -- 68
      first | refine lwg_no rfl (ng1 rfl rfl) rfl ?_ | refine lwg_no rfl (ng2 rfl rfl) rfl ?_   -- 69
      first | refine lwg_no rfl (ng1 rfl rfl) rfl ?_ | refine lwg_no rfl (ng2 rfl rfl) rfl ?_   -- 70
      first | refine lwg_no rfl (ng1 rfl rfl) rfl ?_ | refine lwg_no rfl (ng2 rfl rfl) rfl ?_   -- 71
      first | refine lwg_no rfl (ng1 rfl rfl) rfl ?_ | refine lwg_no rfl (ng2 rfl rfl) rfl ?_   -- 72
      first | refine lwg_no rfl (ng1 rfl rfl) rfl ?_ | refine lwg_no rfl (ng2 rfl rfl) rfl ?_   -- 73
      refine lw_pure rfl (val_pick_true rfl rfl) rfl ?_   -- 74
      refine lw_pure rfl (val_move rfl) rfl ?_   -- 75
      first | refine lwg_no rfl (ng1 rfl rfl) rfl ?_ | refine lwg_no rfl (ng2 rfl rfl) rfl ?_   -- 76
      first | refine lwg_no rfl (ng1 rfl rfl) rfl ?_ | refine lwg_no rfl (ng2 rfl rfl) rfl ?_   -- 77
      first | refine lwg_no rfl (ng1 rfl rfl) rfl ?_ | refine lwg_no rfl (ng2 rfl rfl) rfl ?_   -- 78
      refine lw_pure rfl (val_pick_true rfl rfl) rfl ?_   -- 79
      refine lw_nil (into ?_)
      refine sw_true rfl rfl ?_
      refine sw_exit (into ?_)
      refine sw_region ?_
      refine ow_val (val_add_int ((j + 1 : Nat) : Int) rfl rfl (by omega) (by omega)) rfl ?_   -- 136
      refine ow_val (val_move rfl) rfl ?_   -- 48
      exact ow_nil (fun w hm => ⟨(j + 1, ns, _, c8, et, _, c9, eb, T), ⟨by dsimp only; omega, hn1, hn31, hrt, hrb, hns⟩, by dsimp only; omega, ⟨rfl, rfl, rfl, rfl, rfl, rfl, trivial⟩, hm.only (.cons _ (.cons_cons _ (.cons_cons _ (List.Sublist.refl _))))⟩)
    · -- case
      obtain ⟨X, hX⟩ : ∃ z, ns.getD f default = z := ⟨_, rfl⟩
      rw [hX] at h4
      have hXo := hns X (by rw [← hX]; exact getD_mem hf)
      have hXd := hXo.d
      have hXf := hXo.f
      have hXn := hXo.n
      refine sw_region ?_
      refine ow_val (val_indexAddr_slice j (og + j * 2) rfl rfl Tryd.underlying22 Tryd.sizeOf34 (by omega) (by omega) (by omega)) rfl ?_   -- 50
      refine ow_val ((val_load_elem (cells := gC) (l := gs) (o := og) (i := j) rfl Tryd.isAgg34 Tryd.sizeOf34 (fun x _ => rfl) (by omega) (by omega) (fun w' hm => hgr.mem hm)).to (v' := .agg ([vInt (f : Int), .slice gl.a gl.xs.length gl.c] : List Value).toArray) (by rw [hg]; rfl)) rfl ?_   -- 51
      refine ow_new (acts_alloc zGr) rfl (fun b11 hb11 => ?_)   -- 11
      refine ow_do_eq (does_store_all 0 rfl rfl rfl (one_g (((f : Nat) : Int), gl)) Tryd.sizeOf34 rfl rfl) ?_
      refine ow_nil (into ?_)
      refine sw_seq ?_
      refine sw_seq ?_
      refine sw_region_lex _ [] [(0, 0), (1, 1), (2, 0), (3, 0), (4, 0), (6, 0), (7, 0), (5, 1), (8, 0), (9, 0), (10, 0), (11, 0), (12, 0), (17, 0), (13, 1), (14, 0), (15, 1), (16, 0), (18, 1), (19, 0), (20, 0), (21, 0), (22, 0), (23, 0), (24, 0), (25, 0), (26, 0), (27, 0)] (by kernel_rfl) (by kernel_rfl) (fun _ _ _ h => h) (fun _ h => h) (fun _ h => h.drawn _) ?_
      refine lw_pure rfl (val_fieldAddr (m := 0) (e := 0) rfl Tryd.underlying34 rfl rfl Tryd.sizeOf3 rfl) rfl ?_   -- 52
      refine lw_held rfl (val_load_at 0 rfl rfl Tryd.isAgg3 rfl) rfl ?_   -- 53
      refine lw_pure rfl ((val_lss_int rfl rfl).to (congrArg Value.bool (decide_eq_false (by omega)))) rfl ?_   -- 54
      refine lw_pure rfl (val_move rfl) rfl ?_   -- 55
      refine lwg_pure rfl (wg rfl rfl) (val_fieldAddr (m := 0) (e := 0) rfl Tryd.underlying34 rfl rfl Tryd.sizeOf3 rfl) rfl ?_   -- 56
      refine lwg_pure rfl (wg rfl rfl) (val_move rfl) rfl ?_   -- 58
      refine lwg_pure rfl (wg rfl rfl) (val_len rfl Tryd.underlying30) rfl ?_   -- 59
      refine lwg_held rfl (wg rfl rfl) (val_load_at 0 rfl rfl Tryd.isAgg3 rfl) rfl ?_   -- 57
      refine lwg_pure rfl (wg rfl rfl) ((val_geq_int rfl rfl).to (congrArg Value.bool (decide_eq_false (by omega)))) rfl ?_   -- 60
      refine lw_pure rfl (val_pick_false rfl rfl) rfl ?_   -- 61
      refine lw_pure rfl (val_move rfl) rfl ?_   -- 62
      refine lwg_pure rfl (wg rfl rfl) (val_move rfl) rfl ?_   -- 63
      refine lwg_pure rfl (wg rfl rfl) (val_fieldAddr (m := 0) (e := 0) rfl Tryd.underlying34 rfl rfl Tryd.sizeOf3 rfl) rfl ?_   -- 64
      refine lwg_pure rfl (wg rfl rfl) (val_fieldAddr (m := 0) (e := 1) rfl Tryd.underlying34 rfl rfl Tryd.sizeOf32 rfl) rfl ?_   -- 69
      refine lwg_held rfl (wg rfl rfl) (val_load_at 0 rfl rfl Tryd.isAgg3 rfl) rfl ?_   -- 65
      refine lwg_pure rfl (wg rfl rfl) (val_indexAddr_slice (f) (o9 + f) rfl rfl Tryd.underlying31 Tryd.sizeOf32 (by omega) (by omega) (by omega)) rfl ?_   -- 66
      refine lwg_held rfl (wg rfl rfl) ((val_load (v := (ns.getD f default).2.v) rfl Tryd.isAgg32 (fun w' hm => Rd.get (V := (fun x : Book => x.2.v)) (p := ns) (k := f) (hrb.rdAt hm (i := 2) rfl) (by omega) (by omega))).to (v' := .slice X.2.a X.2.xs.length X.2.c) (by rw [hX]; rfl)) rfl ?_   -- 67
      refine lwg_pure rfl (wg rfl rfl) (val_len rfl Tryd.underlying32) rfl ?_   -- 68
      refine lwg_held rfl (wg rfl rfl) (val_load_at 0 rfl rfl Tryd.isAgg32 rfl) rfl ?_   -- 70
      refine lwg_pure rfl (wg rfl rfl) (val_len rfl Tryd.underlying32) rfl ?_   -- 71
      refine lwg_pure rfl (wg rfl rfl) (val_add_int ((X.2.xs.length + gl.xs.length : Nat) : Int) rfl rfl (by omega) (by omega)) rfl ?_   -- 72
      refine lwg_pure rfl (wg rfl rfl) ((val_gtr_int rfl rfl).to (congrArg Value.bool (decide_eq_true (by omega)))) rfl ?_   -- 73
      refine lw_pure rfl (val_pick_false rfl rfl) rfl ?_   -- 74
      refine lw_pure rfl (val_move rfl) rfl ?_   -- 75
      first | refine lwg_no rfl (ng1 rfl rfl) rfl ?_ | refine lwg_no rfl (ng2 rfl rfl) rfl ?_   -- 76
      first | refine lwg_no rfl (ng1 rfl rfl) rfl ?_ | refine lwg_no rfl (ng2 rfl rfl) rfl ?_   -- 77
      first | refine lwg_no rfl (ng1 rfl rfl) rfl ?_ | refine lwg_no rfl (ng2 rfl rfl) rfl ?_   -- 78
      refine lw_pure rfl (val_pick_true rfl rfl) rfl ?_   -- 79
      refine lw_nil (into ?_)
      refine sw_true rfl rfl ?_
      refine sw_exit (into ?_)
      refine sw_region ?_
      refine ow_val (val_add_int ((j + 1 : Nat) : Int) rfl rfl (by omega) (by omega)) rfl ?_   -- 136
      refine ow_val (val_move rfl) rfl ?_   -- 48
      exact ow_nil (fun w hm => ⟨(j + 1, ns, _, c8, et, _, c9, eb, T), ⟨by dsimp only; omega, hn1, hn31, hrt, hrb, hns⟩, by dsimp only; omega, ⟨rfl, rfl, rfl, rfl, rfl, rfl, trivial⟩, hm.only (.cons _ (.cons_cons _ (.cons_cons _ (List.Sublist.refl _))))⟩)
    · -- case
      obtain ⟨X, hX⟩ : ∃ z, ns.getD f default = z := ⟨_, rfl⟩
      rw [hX] at h4
      have hXo := hns X (by rw [← hX]; exact getD_mem hf)
      have hXd := hXo.d
      have hXf := hXo.f
      have hXn := hXo.n
      refine sw_region ?_
      refine ow_val (val_indexAddr_slice j (og + j * 2) rfl rfl Tryd.underlying22 Tryd.sizeOf34 (by omega) (by omega) (by omega)) rfl ?_   -- 50
      refine ow_val ((val_load_elem (cells := gC) (l := gs) (o := og) (i := j) rfl Tryd.isAgg34 Tryd.sizeOf34 (fun x _ => rfl) (by omega) (by omega) (fun w' hm => hgr.mem hm)).to (v' := .agg ([vInt (f : Int), .slice gl.a gl.xs.length gl.c] : List Value).toArray) (by rw [hg]; rfl)) rfl ?_   -- 51
      refine ow_new (acts_alloc zGr) rfl (fun b11 hb11 => ?_)   -- 11
      refine ow_do_eq (does_store_all 0 rfl rfl rfl (one_g (((f : Nat) : Int), gl)) Tryd.sizeOf34 rfl rfl) ?_
      refine ow_nil (into ?_)
      refine sw_seq ?_
      refine sw_seq ?_
      refine sw_region_lex _ [] [(0, 0), (1, 1), (2, 0), (3, 0), (4, 0), (6, 0), (7, 0), (5, 1), (8, 0), (9, 0), (10, 0), (11, 0), (12, 0), (17, 0), (13, 1), (14, 0), (15, 1), (16, 0), (18, 1), (19, 0), (20, 0), (21, 0), (22, 0), (23, 0), (24, 0), (25, 0), (26, 0), (27, 0)] (by kernel_rfl) (by kernel_rfl) (fun _ _ _ h => h) (fun _ h => h) (fun _ h => h.drawn _) ?_
      refine lw_pure rfl (val_fieldAddr (m := 0) (e := 0) rfl Tryd.underlying34 rfl rfl Tryd.sizeOf3 rfl) rfl ?_   -- 52
      refine lw_held rfl (val_load_at 0 rfl rfl Tryd.isAgg3 rfl) rfl ?_   -- 53
      refine lw_pure rfl ((val_lss_int rfl rfl).to (congrArg Value.bool (decide_eq_false (by omega)))) rfl ?_   -- 54
      refine lw_pure rfl (val_move rfl) rfl ?_   -- 55
      refine lwg_pure rfl (wg rfl rfl) (val_fieldAddr (m := 0) (e := 0) rfl Tryd.underlying34 rfl rfl Tryd.sizeOf3 rfl) rfl ?_   -- 56
      refine lwg_pure rfl (wg rfl rfl) (val_move rfl) rfl ?_   -- 58
      refine lwg_pure rfl (wg rfl rfl) (val_len rfl Tryd.underlying30) rfl ?_   -- 59
      refine lwg_held rfl (wg rfl rfl) (val_load_at 0 rfl rfl Tryd.isAgg3 rfl) rfl ?_   -- 57
      refine lwg_pure rfl (wg rfl rfl) ((val_geq_int rfl rfl).to (congrArg Value.bool (decide_eq_false (by omega)))) rfl ?_   -- 60
      refine lw_pure rfl (val_pick_false rfl rfl) rfl ?_   -- 61
      refine lw_pure rfl (val_move rfl) rfl ?_   -- 62
      refine lwg_pure rfl (wg rfl rfl) (val_move rfl) rfl ?_   -- 63
      refine lwg_pure rfl (wg rfl rfl) (val_fieldAddr (m := 0) (e := 0) rfl Tryd.underlying34 rfl rfl Tryd.sizeOf3 rfl) rfl ?_   -- 64
      refine lwg_pure rfl (wg rfl rfl) (val_fieldAddr (m := 0) (e := 1) rfl Tryd.underlying34 rfl rfl Tryd.sizeOf32 rfl) rfl ?_   -- 69
      refine lwg_held rfl (wg rfl rfl) (val_load_at 0 rfl rfl Tryd.isAgg3 rfl) rfl ?_   -- 65
      refine lwg_pure rfl (wg rfl rfl) (val_indexAddr_slice (f) (o9 + f) rfl rfl Tryd.underlying31 Tryd.sizeOf32 (by omega) (by omega) (by omega)) rfl ?_   -- 66
      refine lwg_held rfl (wg rfl rfl) ((val_load (v := (ns.getD f default).2.v) rfl Tryd.isAgg32 (fun w' hm => Rd.get (V := (fun x : Book => x.2.v)) (p := ns) (k := f) (hrb.rdAt hm (i := 2) rfl) (by omega) (by omega))).to (v' := .slice X.2.a X.2.xs.length X.2.c) (by rw [hX]; rfl)) rfl ?_   -- 67
      refine lwg_pure rfl (wg rfl rfl) (val_len rfl Tryd.underlying32) rfl ?_   -- 68
      refine lwg_held rfl (wg rfl rfl) (val_load_at 0 rfl rfl Tryd.isAgg32 rfl) rfl ?_   -- 70
      refine lwg_pure rfl (wg rfl rfl) (val_len rfl Tryd.underlying32) rfl ?_   -- 71
      refine lwg_pure rfl (wg rfl rfl) (val_add_int ((X.2.xs.length + gl.xs.length : Nat) : Int) rfl rfl (by omega) (by omega)) rfl ?_   -- 72
      refine lwg_pure rfl (wg rfl rfl) ((val_gtr_int rfl rfl).to (congrArg Value.bool (decide_eq_false (by omega)))) rfl ?_   -- 73
      refine lw_pure rfl (val_pick_false rfl rfl) rfl ?_   -- 74
      refine lw_pure rfl (val_move rfl) rfl ?_   -- 75
      refine lwg_pure rfl (wg rfl rfl) (val_move rfl) rfl ?_   -- 76
      refine lwg_pure rfl (wg rfl rfl) (val_len rfl Tryd.underlying30) rfl ?_   -- 77
      refine lwg_pure rfl (wg rfl rfl) ((val_gtr_int rfl rfl).to (congrArg Value.bool (decide_eq_true (by omega)))) rfl ?_   -- 78
      refine lw_pure rfl (val_pick_false rfl rfl) rfl ?_   -- 79
      refine lw_nil (into ?_)
      refine sw_true rfl rfl ?_
      refine sw_exit (into ?_)
      refine sw_region ?_
      refine ow_val (val_add_int ((j + 1 : Nat) : Int) rfl rfl (by omega) (by omega)) rfl ?_   -- 136
      refine ow_val (val_move rfl) rfl ?_   -- 48
      exact ow_nil (fun w hm => ⟨(j + 1, ns, _, c8, et, _, c9, eb, T), ⟨by dsimp only; omega, hn1, hn31, hrt, hrb, hns⟩, by dsimp only; omega, ⟨rfl, rfl, rfl, rfl, rfl, rfl, trivial⟩, hm.only (.cons _ (.cons_cons _ (.cons_cons _ (List.Sublist.refl _))))⟩)
    · -- case
      obtain ⟨X, hX⟩ : ∃ z, ns.getD f default = z := ⟨_, rfl⟩
      rw [hX] at h4
      have hXo := hns X (by rw [← hX]; exact getD_mem hf)
      have hXd := hXo.d
      have hXf := hXo.f
      have hXn := hXo.n
      refine sw_region ?_
      refine ow_val (val_indexAddr_slice j (og + j * 2) rfl rfl Tryd.underlying22 Tryd.sizeOf34 (by omega) (by omega) (by omega)) rfl ?_   -- 50
      refine ow_val ((val_load_elem (cells := gC) (l := gs) (o := og) (i := j) rfl Tryd.isAgg34 Tryd.sizeOf34 (fun x _ => rfl) (by omega) (by omega) (fun w' hm => hgr.mem hm)).to (v' := .agg ([vInt (f : Int), .slice gl.a gl.xs.length gl.c] : List Value).toArray) (by rw [hg]; rfl)) rfl ?_   -- 51
      refine ow_new (acts_alloc zGr) rfl (fun b11 hb11 => ?_)   -- 11
      refine ow_do_eq (does_store_all 0 rfl rfl rfl (one_g (((f : Nat) : Int), gl)) Tryd.sizeOf34 rfl rfl) ?_
      refine ow_nil (into ?_)
      refine sw_seq ?_
      refine sw_seq ?_
      refine sw_region_lex _ [] [(0, 0), (1, 1), (2, 0), (3, 0), (4, 0), (6, 0), (7, 0), (5, 1), (8, 0), (9, 0), (10, 0), (11, 0), (12, 0), (17, 0), (13, 1), (14, 0), (15, 1), (16, 0), (18, 1), (19, 0), (20, 0), (21, 0), (22, 0), (23, 0), (24, 0), (25, 0), (26, 0), (27, 0)] (by kernel_rfl) (by kernel_rfl) (fun _ _ _ h => h) (fun _ h => h) (fun _ h => h.drawn _) ?_
      refine lw_pure rfl (val_fieldAddr (m := 0) (e := 0) rfl Tryd.underlying34 rfl rfl Tryd.sizeOf3 rfl) rfl ?_   -- 52
      refine lw_held rfl (val_load_at 0 rfl rfl Tryd.isAgg3 rfl) rfl ?_   -- 53
      refine lw_pure rfl ((val_lss_int rfl rfl).to (congrArg Value.bool (decide_eq_false (by omega)))) rfl ?_   -- 54
      refine lw_pure rfl (val_move rfl) rfl ?_   -- 55
      refine lwg_pure rfl (wg rfl rfl) (val_fieldAddr (m := 0) (e := 0) rfl Tryd.underlying34 rfl rfl Tryd.sizeOf3 rfl) rfl ?_   -- 56
      refine lwg_pure rfl (wg rfl rfl) (val_move rfl) rfl ?_   -- 58
      refine lwg_pure rfl (wg rfl rfl) (val_len rfl Tryd.underlying30) rfl ?_   -- 59
      refine lwg_held rfl (wg rfl rfl) (val_load_at 0 rfl rfl Tryd.isAgg3 rfl) rfl ?_   -- 57
      refine lwg_pure rfl (wg rfl rfl) ((val_geq_int rfl rfl).to (congrArg Value.bool (decide_eq_false (by omega)))) rfl ?_   -- 60
      refine lw_pure rfl (val_pick_false rfl rfl) rfl ?_   -- 61
      refine lw_pure rfl (val_move rfl) rfl ?_   -- 62
      refine lwg_pure rfl (wg rfl rfl) (val_move rfl) rfl ?_   -- 63
      refine lwg_pure rfl (wg rfl rfl) (val_fieldAddr (m := 0) (e := 0) rfl Tryd.underlying34 rfl rfl Tryd.sizeOf3 rfl) rfl ?_   -- 64
      refine lwg_pure rfl (wg rfl rfl) (val_fieldAddr (m := 0) (e := 1) rfl Tryd.underlying34 rfl rfl Tryd.sizeOf32 rfl) rfl ?_   -- 69
      refine lwg_held rfl (wg rfl rfl) (val_load_at 0 rfl rfl Tryd.isAgg3 rfl) rfl ?_   -- 65
      refine lwg_pure rfl (wg rfl rfl) (val_indexAddr_slice (f) (o9 + f) rfl rfl Tryd.underlying31 Tryd.sizeOf32 (by omega) (by omega) (by omega)) rfl ?_   -- 66
      refine lwg_held rfl (wg rfl rfl) ((val_load (v := (ns.getD f default).2.v) rfl Tryd.isAgg32 (fun w' hm => Rd.get (V := (fun x : Book => x.2.v)) (p := ns) (k := f) (hrb.rdAt hm (i := 2) rfl) (by omega) (by omega))).to (v' := .slice X.2.a X.2.xs.length X.2.c) (by rw [hX]; rfl)) rfl ?_   -- 67
      refine lwg_pure rfl (wg rfl rfl) (val_len rfl Tryd.underlying32) rfl ?_   -- 68
      refine lwg_held rfl (wg rfl rfl) (val_load_at 0 rfl rfl Tryd.isAgg32 rfl) rfl ?_   -- 70
      refine lwg_pure rfl (wg rfl rfl) (val_len rfl Tryd.underlying32) rfl ?_   -- 71
      refine lwg_pure rfl (wg rfl rfl) (val_add_int ((X.2.xs.length + gl.xs.length : Nat) : Int) rfl rfl (by omega) (by omega)) rfl ?_   -- 72
      refine lwg_pure rfl (wg rfl rfl) ((val_gtr_int rfl rfl).to (congrArg Value.bool (decide_eq_false (by omega)))) rfl ?_   -- 73
      refine lw_pure rfl (val_pick_false rfl rfl) rfl ?_   -- 74
      refine lw_pure rfl (val_move rfl) rfl ?_   -- 75
      refine lwg_pure rfl (wg rfl rfl) (val_move rfl) rfl ?_   -- 76
      refine lwg_pure rfl (wg rfl rfl) (val_len rfl Tryd.underlying30) rfl ?_   -- 77
      refine lwg_pure rfl (wg rfl rfl) ((val_gtr_int rfl rfl).to (congrArg Value.bool (decide_eq_false (by omega)))) rfl ?_   -- 78
      refine lw_pure rfl (val_pick_false rfl rfl) rfl ?_   -- 79
      refine lw_nil (into ?_)
      refine sw_false rfl rfl ?_
      refine sw_skip (into ?_)
      refine sw_seq ?_
      refine sw_region_lex _ [7] [(0, 0), (1, 0), (5, 0), (2, 1), (3, 0), (4, 1), (6, 1), (7, 2), (8, 0), (9, 0), (10, 0), (11, 0), (12, 0)] (by kernel_rfl) (by kernel_rfl) (fun _ _ _ h => h) (fun _ h => h) (fun _ h => h.drawn _) ?_
      refine lw_pure rfl (val_move rfl) rfl ?_   -- 81
      refine lw_pure rfl (val_fieldAddr (m := 0) (e := 0) rfl Tryd.underlying34 rfl rfl Tryd.sizeOf3 rfl) rfl ?_   -- 82
      refine lw_pure rfl (val_fieldAddr (m := 0) (e := 1) rfl Tryd.underlying34 rfl rfl Tryd.sizeOf32 rfl) rfl ?_   -- 86
      refine lw_held rfl (val_load_at 0 rfl rfl Tryd.isAgg3 rfl) rfl ?_   -- 83
      refine lw_pure rfl (val_indexAddr_slice (f) (o8 + f) rfl rfl Tryd.underlying30 Tryd.sizeOf24 (by omega) (by omega) (by omega)) rfl ?_   -- 84
      refine lw_held rfl ((val_load (v := vPtr (ns.getD f default).1) rfl Tryd.isAgg24 (fun w' hm => Rd.get (V := (fun x : Book => vPtr x.1)) (p := ns) (k := f) (hrt.rdAt hm (i := 1) rfl) (by omega) (by omega))).to (v' := vPtr X.1) (by rw [hX])) rfl ?_   -- 85
      refine lw_held rfl (val_load_at 0 rfl rfl Tryd.isAgg32 rfl) rfl ?_   -- 87
      refine lw_call_pure (v := .tuple #[.pointer none, vInt ((3 : Nat) : Int)]) rfl (callsTo Tryd.func16 rfl (by kernel_rfl) rfl) rfl (fun w hm => append_bad_tr k h1 h2 w (hK.mem0 hm) T (hm.heldSub (.cons _ (.cons _ (.cons _ (List.Sublist.refl _))))) X.1 X.2.xs hXo.t (by assumption) (by assumption) gl.a gl.xs.length gl.c gl.xs rfl hgd.el (hgd.rd.mem hm) hgd.le (by omega) hgb (by omega)) ?_   -- 88
      refine lw_pure rfl (val_move rfl) rfl ?_   -- 80
      refine lw_pure rfl (val_extract rfl rfl) rfl ?_   -- 89
      refine lw_pure rfl (val_extract rfl rfl) rfl ?_   -- 90
      refine lw_pure rfl (val_assign rfl) rfl ?_   -- 12
      refine lw_pure rfl (val_assign rfl) rfl ?_   -- 13
      refine lw_nil (into ?_)
      refine sw_seq ?_
      refine sw_region_lex _ [8] [(0, 0), (1, 0), (2, 0), (6, 0), (3, 1), (4, 0), (5, 1), (7, 1), (8, 2), (9, 0), (10, 0), (11, 0), (12, 0), (13, 0)] (by kernel_rfl) (by kernel_rfl) (fun _ _ _ h => h) (fun _ h => h) (fun _ h => h.drawn _) ?_
      refine lw_pure rfl (val_move rfl) rfl ?_   -- 92
      refine lw_pure rfl (val_move rfl) rfl ?_   -- 93
      refine lw_pure rfl (val_fieldAddr (m := 0) (e := 0) rfl Tryd.underlying34 rfl rfl Tryd.sizeOf3 rfl) rfl ?_   -- 94
      refine lw_pure rfl (val_fieldAddr (m := 0) (e := 1) rfl Tryd.underlying34 rfl rfl Tryd.sizeOf32 rfl) rfl ?_   -- 98
      refine lw_held rfl (val_load_at 0 rfl rfl Tryd.isAgg3 rfl) rfl ?_   -- 95
      refine lw_pure rfl (val_indexAddr_slice (f) (o9 + f) rfl rfl Tryd.underlying31 Tryd.sizeOf32 (by omega) (by omega) (by omega)) rfl ?_   -- 96
      refine lw_held rfl ((val_load (v := (ns.getD f default).2.v) rfl Tryd.isAgg32 (fun w' hm => Rd.get (V := (fun x : Book => x.2.v)) (p := ns) (k := f) (hrb.rdAt hm (i := 2) rfl) (by omega) (by omega))).to (v' := .slice X.2.a X.2.xs.length X.2.c) (by rw [hX]; rfl)) rfl ?_   -- 97
      refine lw_held rfl (val_load_at 0 rfl rfl Tryd.isAgg32 rfl) rfl ?_   -- 99
      refine lw_call_pure (v := .tuple #[.slice none 0 0, vInt ((3 : Nat) : Int)]) rfl (callsTo Tryd.func17 rfl (by kernel_rfl) rfl) rfl (fun w hm => docapp_bad k w X.2.a X.2.c X.2.xs hXd (hXo.r _ (hm.heldSub (.cons _ (.cons _ (.cons _ (List.Sublist.refl _)))))) hXo.c gl.a gl.c gl.xs hgd.el (hgd.rd.mem hm) hgd.le (by omega) (by omega) hgb) ?_   -- 100
      refine lw_pure rfl (val_move rfl) rfl ?_   -- 91
      refine lw_pure rfl (val_extract rfl rfl) rfl ?_   -- 101
      refine lw_pure rfl (val_extract rfl rfl) rfl ?_   -- 102
      refine lw_pure rfl (val_assign rfl) rfl ?_   -- 14
      refine lw_pure rfl (val_assign rfl) rfl ?_   -- 15
      refine lw_nil (into ?_)
      refine sw_seq ?_
      refine sw_seq ?_
      refine sw_region ?_
      refine ow_val (val_move rfl) rfl ?_   -- 103
      refine ow_val (val_move rfl) rfl ?_   -- 104
      refine ow_val ((val_neq_int rfl rfl).to (v' := .bool false) (congrArg Value.bool (decide_eq_false (fun h => h rfl)))) rfl ?_   -- 105
      refine ow_val (val_move rfl) rfl ?_   -- 106
      refine ow_guard_yes rfl rfl rfl ?_
      refine ow_val (val_move rfl) rfl ?_   -- 107
      refine ow_guard_yes rfl rfl rfl ?_
      refine ow_val (val_eql_nilptr Tryd.underlying24 rfl rfl) rfl ?_   -- 108
      refine ow_guard_yes rfl rfl rfl ?_
      refine ow_val (val_move rfl) rfl ?_   -- 109
      refine ow_guard_yes rfl rfl rfl ?_
      refine ow_val ((val_neq_int rfl rfl).to (v' := .bool true) (congrArg Value.bool (decide_eq_true (by simp)))) rfl ?_   -- 110
      refine ow_guard_yes rfl rfl rfl ?_
      refine ow_val (val_neq_bool Tryd.underlying4 rfl rfl) rfl ?_   -- 111
      refine ow_val (val_pick_false rfl rfl) rfl ?_   -- 112
      refine ow_nil (into ?_)
      refine sw_false rfl rfl ?_
      refine sw_skip (into ?_)
      refine sw_seq ?_
      refine sw_seq ?_
      refine sw_region ?_
      refine ow_val (val_move rfl) rfl ?_   -- 113
      refine ow_val ((val_eql_int rfl rfl).to (v' := .bool false) (congrArg Value.bool (decide_eq_false (by simp)))) rfl ?_   -- 114
      refine ow_nil (into ?_)
      refine sw_false rfl rfl ?_
      refine sw_skip (into ?_)
      refine sw_seq ?_
      refine sw_region_lex _ [] [(0, 0), (1, 0), (5, 0), (6, 0), (7, 0), (2, 1), (3, 0), (4, 1), (8, 1), (9, 0), (10, 1), (11, 2), (12, 0)] (by kernel_rfl) (by kernel_rfl) (fun _ _ _ h => h) (fun _ h => h) (fun _ h => h.drawn _) ?_
      refine lw_pure rfl (val_move rfl) rfl ?_   -- 123
      refine lw_pure rfl (val_fieldAddr (m := 0) (e := 0) rfl Tryd.underlying34 rfl rfl Tryd.sizeOf3 rfl) rfl ?_   -- 124
      refine lw_pure rfl (val_move rfl) rfl ?_   -- 128
      refine lw_pure rfl (val_move rfl) rfl ?_   -- 129
      refine lw_pure rfl (val_fieldAddr (m := 0) (e := 0) rfl Tryd.underlying34 rfl rfl Tryd.sizeOf3 rfl) rfl ?_   -- 130
      refine lw_held rfl (val_load_at 0 rfl rfl Tryd.isAgg3 rfl) rfl ?_   -- 125
      refine lw_pure rfl (val_indexAddr_slice (f) (o8 + f) rfl rfl Tryd.underlying30 Tryd.sizeOf24 (by omega) (by omega) (by omega)) rfl ?_   -- 126
      refine lw_held rfl ((val_load (v := vPtr (ns.getD f default).1) rfl Tryd.isAgg24 (fun w' hm => Rd.get (V := (fun x : Book => vPtr x.1)) (p := ns) (k := f) (hrt.rdAt hm (i := 1) rfl) (by omega) (by omega))).to (v' := vPtr X.1) (by rw [hX])) rfl ?_   -- 127
      refine lw_held rfl (val_load_at 0 rfl rfl Tryd.isAgg3 rfl) rfl ?_   -- 131
      refine lw_pure rfl (val_indexAddr_slice (f) (o9 + f) rfl rfl Tryd.underlying31 Tryd.sizeOf32 (by omega) (by omega) (by omega)) rfl ?_   -- 132
      refine lw_held rfl ((val_load (v := (ns.getD f default).2.v) rfl Tryd.isAgg32 (fun w' hm => Rd.get (V := (fun x : Book => x.2.v)) (p := ns) (k := f) (hrb.rdAt hm (i := 2) rfl) (by omega) (by omega))).to (v' := .slice X.2.a X.2.xs.length X.2.c) (by rw [hX]; rfl)) rfl ?_   -- 133
      refine lw_call_pure (v := .bool true) rfl (callsTo Tryd.func15 rfl (by kernel_rfl) rfl) rfl (fun w hm => reads_any k h1 h2 w (hK.mem0 hm) X.1 X.2.xs (hXo.t.is (hm.heldSub (.cons _ (.cons _ (.cons _ (List.Sublist.refl _)))))) (by omega) X.2.a X.2.xs.length X.2.c rfl hXd hXf (hXo.r _ (hm.heldSub (.cons _ (.cons _ (.cons _ (List.Sublist.refl _)))))) hXo.c (by omega)) ?_   -- 134
      refine lw_pure rfl (val_not rfl) rfl ?_   -- 135
      refine lw_nil (into ?_)
      refine sw_false rfl rfl ?_
      refine sw_skip (into ?_)
      refine sw_region ?_
      refine ow_val (val_add_int ((j + 1 : Nat) : Int) rfl rfl (by omega) (by omega)) rfl ?_   -- 136
      refine ow_val (val_move rfl) rfl ?_   -- 48
      exact ow_nil (fun w hm => ⟨(j + 1, ns, _, c8, et, _, c9, eb, T), ⟨by dsimp only; omega, hn1, hn31, hrt, hrb, hns⟩, by dsimp only; omega, ⟨rfl, rfl, rfl, rfl, rfl, rfl, trivial⟩, hm.only (.cons _ (.cons_cons _ (.cons_cons _ (List.Sublist.refl _))))⟩)
    · -- case
      obtain ⟨X, hX⟩ : ∃ z, ns.getD f default = z := ⟨_, rfl⟩
      rw [hX] at h4
      have hXo := hns X (by rw [← hX]; exact getD_mem hf)
      have hXd := hXo.d
      have hXf := hXo.f
      have hXn := hXo.n
      obtain ⟨L2, hL2⟩ : ∃ z, X.2.xs ++ gl.xs = z := ⟨_, rfl⟩
      have hL2n : L2.length = X.2.xs.length + gl.xs.length := by rw [← hL2, List.length_append]
      have hL2d : ∀ d ∈ L2, d.length = 32 := by rw [← hL2]; exact both hXd hgd.el
      have hL2f : ∀ d ∈ L2, fm (k : Int) d = true := by rw [← hL2]; exact both hXf hgf
      refine sw_region ?_
      refine ow_val (val_indexAddr_slice j (og + j * 2) rfl rfl Tryd.underlying22 Tryd.sizeOf34 (by omega) (by omega) (by omega)) rfl ?_   -- 50
      refine ow_val ((val_load_elem (cells := gC) (l := gs) (o := og) (i := j) rfl Tryd.isAgg34 Tryd.sizeOf34 (fun x _ => rfl) (by omega) (by omega) (fun w' hm => hgr.mem hm)).to (v' := .agg ([vInt (f : Int), .slice gl.a gl.xs.length gl.c] : List Value).toArray) (by rw [hg]; rfl)) rfl ?_   -- 51
      refine ow_new (acts_alloc zGr) rfl (fun b11 hb11 => ?_)   -- 11
      refine ow_do_eq (does_store_all 0 rfl rfl rfl (one_g (((f : Nat) : Int), gl)) Tryd.sizeOf34 rfl rfl) ?_
      refine ow_nil (into ?_)
      refine sw_seq ?_
      refine sw_seq ?_
      refine sw_region_lex _ [] [(0, 0), (1, 1), (2, 0), (3, 0), (4, 0), (6, 0), (7, 0), (5, 1), (8, 0), (9, 0), (10, 0), (11, 0), (12, 0), (17, 0), (13, 1), (14, 0), (15, 1), (16, 0), (18, 1), (19, 0), (20, 0), (21, 0), (22, 0), (23, 0), (24, 0), (25, 0), (26, 0), (27, 0)] (by kernel_rfl) (by kernel_rfl) (fun _ _ _ h => h) (fun _ h => h) (fun _ h => h.drawn _) ?_
      refine lw_pure rfl (val_fieldAddr (m := 0) (e := 0) rfl Tryd.underlying34 rfl rfl Tryd.sizeOf3 rfl) rfl ?_   -- 52
      refine lw_held rfl (val_load_at 0 rfl rfl Tryd.isAgg3 rfl) rfl ?_   -- 53
      refine lw_pure rfl ((val_lss_int rfl rfl).to (congrArg Value.bool (decide_eq_false (by omega)))) rfl ?_   -- 54
      refine lw_pure rfl (val_move rfl) rfl ?_   -- 55
      refine lwg_pure rfl (wg rfl rfl) (val_fieldAddr (m := 0) (e := 0) rfl Tryd.underlying34 rfl rfl Tryd.sizeOf3 rfl) rfl ?_   -- 56
      refine lwg_pure rfl (wg rfl rfl) (val_move rfl) rfl ?_   -- 58
      refine lwg_pure rfl (wg rfl rfl) (val_len rfl Tryd.underlying30) rfl ?_   -- 59
      refine lwg_held rfl (wg rfl rfl) (val_load_at 0 rfl rfl Tryd.isAgg3 rfl) rfl ?_   -- 57
      refine lwg_pure rfl (wg rfl rfl) ((val_geq_int rfl rfl).to (congrArg Value.bool (decide_eq_false (by omega)))) rfl ?_   -- 60
      refine lw_pure rfl (val_pick_false rfl rfl) rfl ?_   -- 61
      refine lw_pure rfl (val_move rfl) rfl ?_   -- 62
      refine lwg_pure rfl (wg rfl rfl) (val_move rfl) rfl ?_   -- 63
      refine lwg_pure rfl (wg rfl rfl) (val_fieldAddr (m := 0) (e := 0) rfl Tryd.underlying34 rfl rfl Tryd.sizeOf3 rfl) rfl ?_   -- 64
      refine lwg_pure rfl (wg rfl rfl) (val_fieldAddr (m := 0) (e := 1) rfl Tryd.underlying34 rfl rfl Tryd.sizeOf32 rfl) rfl ?_   -- 69
      refine lwg_held rfl (wg rfl rfl) (val_load_at 0 rfl rfl Tryd.isAgg3 rfl) rfl ?_   -- 65
      refine lwg_pure rfl (wg rfl rfl) (val_indexAddr_slice (f) (o9 + f) rfl rfl Tryd.underlying31 Tryd.sizeOf32 (by omega) (by omega) (by omega)) rfl ?_   -- 66
      refine lwg_held rfl (wg rfl rfl) ((val_load (v := (ns.getD f default).2.v) rfl Tryd.isAgg32 (fun w' hm => Rd.get (V := (fun x : Book => x.2.v)) (p := ns) (k := f) (hrb.rdAt hm (i := 2) rfl) (by omega) (by omega))).to (v' := .slice X.2.a X.2.xs.length X.2.c) (by rw [hX]; rfl)) rfl ?_   -- 67
      refine lwg_pure rfl (wg rfl rfl) (val_len rfl Tryd.underlying32) rfl ?_   -- 68
      refine lwg_held rfl (wg rfl rfl) (val_load_at 0 rfl rfl Tryd.isAgg32 rfl) rfl ?_   -- 70
      refine lwg_pure rfl (wg rfl rfl) (val_len rfl Tryd.underlying32) rfl ?_   -- 71
      refine lwg_pure rfl (wg rfl rfl) (val_add_int ((X.2.xs.length + gl.xs.length : Nat) : Int) rfl rfl (by omega) (by omega)) rfl ?_   -- 72
      refine lwg_pure rfl (wg rfl rfl) ((val_gtr_int rfl rfl).to (congrArg Value.bool (decide_eq_false (by omega)))) rfl ?_   -- 73
      refine lw_pure rfl (val_pick_false rfl rfl) rfl ?_   -- 74
      refine lw_pure rfl (val_move rfl) rfl ?_   -- 75
      refine lwg_pure rfl (wg rfl rfl) (val_move rfl) rfl ?_   -- 76
      refine lwg_pure rfl (wg rfl rfl) (val_len rfl Tryd.underlying30) rfl ?_   -- 77
      refine lwg_pure rfl (wg rfl rfl) ((val_gtr_int rfl rfl).to (congrArg Value.bool (decide_eq_false (by omega)))) rfl ?_   -- 78
      refine lw_pure rfl (val_pick_false rfl rfl) rfl ?_   -- 79
      refine lw_nil (into ?_)
      refine sw_false rfl rfl ?_
      refine sw_skip (into ?_)
      refine sw_seq ?_
      refine sw_region_lex _ [7] [(0, 0), (1, 0), (5, 0), (2, 1), (3, 0), (4, 1), (6, 1), (7, 2), (8, 0), (9, 0), (10, 0), (11, 0), (12, 0)] (by kernel_rfl) (by kernel_rfl) (fun _ _ _ h => h) (fun _ h => h) (fun _ h => h.drawn _) ?_
      refine lw_pure rfl (val_move rfl) rfl ?_   -- 81
      refine lw_pure rfl (val_fieldAddr (m := 0) (e := 0) rfl Tryd.underlying34 rfl rfl Tryd.sizeOf3 rfl) rfl ?_   -- 82
      refine lw_pure rfl (val_fieldAddr (m := 0) (e := 1) rfl Tryd.underlying34 rfl rfl Tryd.sizeOf32 rfl) rfl ?_   -- 86
      refine lw_held rfl (val_load_at 0 rfl rfl Tryd.isAgg3 rfl) rfl ?_   -- 83
      refine lw_pure rfl (val_indexAddr_slice (f) (o8 + f) rfl rfl Tryd.underlying30 Tryd.sizeOf24 (by omega) (by omega) (by omega)) rfl ?_   -- 84
      refine lw_held rfl ((val_load (v := vPtr (ns.getD f default).1) rfl Tryd.isAgg24 (fun w' hm => Rd.get (V := (fun x : Book => vPtr x.1)) (p := ns) (k := f) (hrt.rdAt hm (i := 1) rfl) (by omega) (by omega))).to (v' := vPtr X.1) (by rw [hX])) rfl ?_   -- 85
      refine lw_held rfl (val_load_at 0 rfl rfl Tryd.isAgg32 rfl) rfl ?_   -- 87
      refine lw_call_tail (σ := Nat × List Ent) (fun q9 => .tuple #[vPtr q9.1, vInt ((0 : Nat) : Int)]) (fun q9 => q9.2) (fun q9 => TrOn 95 75 k (T ++ q9.2) q9.1 L2) rfl (callsTo Tryd.func16 rfl (by kernel_rfl) rfl) rfl (fun w hm => (append_tr k h1 h2 w (hK.mem0 hm) T (hm.heldSub (.cons _ (.cons _ (.cons _ (List.Sublist.refl _))))) X.1 X.2.xs hXo.t (by assumption) (by assumption) gl.a gl.xs.length gl.c gl.xs rfl hgd.el (hgd.rd.mem hm) hgd.le (by omega) hgf (by omega)).mono fun _ _ ⟨u, he, q9, hu, hi, hm'⟩ => ⟨u, he, q9, hu, hi.cast hL2, hm'⟩) (fun h => nomatch h) ?_   -- 88
      rintro ⟨b88, es88⟩ htr88
      simp only at htr88 ⊢
      have hXo2 := hXo.sub (T' := T ++ es88) (List.sublist_append_left _ _)
      refine lw_pure rfl (val_move rfl) rfl ?_   -- 80
      refine lw_pure rfl (val_extract rfl rfl) rfl ?_   -- 89
      refine lw_pure rfl (val_extract rfl rfl) rfl ?_   -- 90
      refine lw_pure rfl (val_assign rfl) rfl ?_   -- 12
      refine lw_pure rfl (val_assign rfl) rfl ?_   -- 13
      refine lw_nil (into ?_)
      refine sw_seq ?_
      refine sw_region_lex _ [8] [(0, 0), (1, 0), (2, 0), (6, 0), (3, 1), (4, 0), (5, 1), (7, 1), (8, 2), (9, 0), (10, 0), (11, 0), (12, 0), (13, 0)] (by kernel_rfl) (by kernel_rfl) (fun _ _ _ h => h) (fun _ h => h) (fun _ h => h.drawn _) ?_
      refine lw_pure rfl (val_move rfl) rfl ?_   -- 92
      refine lw_pure rfl (val_move rfl) rfl ?_   -- 93
      refine lw_pure rfl (val_fieldAddr (m := 0) (e := 0) rfl Tryd.underlying34 rfl rfl Tryd.sizeOf3 rfl) rfl ?_   -- 94
      refine lw_pure rfl (val_fieldAddr (m := 0) (e := 1) rfl Tryd.underlying34 rfl rfl Tryd.sizeOf32 rfl) rfl ?_   -- 98
      refine lw_held rfl (val_load_at 0 rfl rfl Tryd.isAgg3 rfl) rfl ?_   -- 95
      refine lw_pure rfl (val_indexAddr_slice (f) (o9 + f) rfl rfl Tryd.underlying31 Tryd.sizeOf32 (by omega) (by omega) (by omega)) rfl ?_   -- 96
      refine lw_held rfl ((val_load (v := (ns.getD f default).2.v) rfl Tryd.isAgg32 (fun w' hm => Rd.get (V := (fun x : Book => x.2.v)) (p := ns) (k := f) (hrb.rdAt hm (i := 2) rfl) (by omega) (by omega))).to (v' := .slice X.2.a X.2.xs.length X.2.c) (by rw [hX]; rfl)) rfl ?_   -- 97
      refine lw_held rfl (val_load_at 0 rfl rfl Tryd.isAgg32 rfl) rfl ?_   -- 99
      refine lw_call_row2 (E := 43) (size := 32) (k := L2.length) (xs := L2.flatMap fun d => d.map vU8) (x := vInt ((0 : Nat) : Int)) rfl (callsTo Tryd.func17 rfl (by kernel_rfl) rfl) rfl (fun w hm => docapp_good k w X.2.a X.2.c X.2.xs hXd (hXo2.r _ (hm.heldSub (.cons _ (.cons _ (.cons _ (List.Sublist.refl _)))))) hXo.c gl.a gl.c gl.xs hgd.el (hgd.rd.mem hm) hgd.le (by omega) (by omega) (by omega) hgf hL2) (fun h => nomatch h) (fun a100 c100 e100 hr100 => ?_)   -- 100
      refine lw_pure rfl (val_move rfl) rfl ?_   -- 91
      refine lw_pure rfl (val_extract rfl rfl) rfl ?_   -- 101
      refine lw_pure rfl (val_extract rfl rfl) rfl ?_   -- 102
      refine lw_pure rfl (val_assign rfl) rfl ?_   -- 14
      refine lw_pure rfl (val_assign rfl) rfl ?_   -- 15
      refine lw_nil (into ?_)
      refine sw_seq ?_
      refine sw_seq ?_
      refine sw_region ?_
      refine ow_val (val_move rfl) rfl ?_   -- 103
      refine ow_val (val_move rfl) rfl ?_   -- 104
      refine ow_val ((val_neq_int rfl rfl).to (v' := .bool false) (congrArg Value.bool (decide_eq_false (fun h => h rfl)))) rfl ?_   -- 105
      refine ow_val (val_move rfl) rfl ?_   -- 106
      refine ow_guard_yes rfl rfl rfl ?_
      refine ow_val (val_move rfl) rfl ?_   -- 107
      refine ow_guard_yes rfl rfl rfl ?_
      refine ow_val (val_eql_nilptr Tryd.underlying24 rfl rfl) rfl ?_   -- 108
      refine ow_guard_yes rfl rfl rfl ?_
      refine ow_val (val_move rfl) rfl ?_   -- 109
      refine ow_guard_yes rfl rfl rfl ?_
      refine ow_val ((val_neq_int rfl rfl).to (v' := .bool false) (congrArg Value.bool (decide_eq_false (fun h => h (by simp))))) rfl ?_   -- 110
      refine ow_guard_yes rfl rfl rfl ?_
      refine ow_val (val_neq_bool Tryd.underlying4 rfl rfl) rfl ?_   -- 111
      refine ow_val (val_pick_false rfl rfl) rfl ?_   -- 112
      refine ow_nil (into ?_)
      refine sw_false rfl rfl ?_
      refine sw_skip (into ?_)
      refine sw_seq ?_
      refine sw_seq ?_
      refine sw_region ?_
      refine ow_val (val_move rfl) rfl ?_   -- 113
      refine ow_val ((val_eql_int rfl rfl).to (v' := .bool true) (congrArg Value.bool (decide_eq_true (by simp)))) rfl ?_   -- 114
      refine ow_nil (into ?_)
      refine sw_true rfl rfl ?_
      refine sw_region ?_
      refine ow_val (val_move rfl) rfl ?_   -- 115
      refine ow_val (val_move rfl) rfl ?_   -- 116
      refine ow_make (acts_buildSlice (cs := [vPtr b88]) Tryd.underlying30 Tryd.sizeOf24 zTp rfl rfl (by kernel_rfl)) rfl (fun b117 hb117 => ?_)   -- 117
      have hNS : (ns ++ [(b88, (⟨a100, c100, L2⟩ : Sl (List UInt8)))]).length = ns.length + 1 := by rw [List.length_append]; rfl
      refine ow_append' (k := (ns ++ [(b88, (⟨a100, c100, L2⟩ : Sl (List UInt8)))]).length) (xs := (ns ++ [(b88, (⟨a100, c100, L2⟩ : Sl (List UInt8)))]).map (fun x : Book => vPtr x.1)) (acts_row (acts_append (size := 1) (bytes := 8) 3 rfl rfl rfl hrt rfl Tryd.underlying30 hTi hTz hTsz hTby rfl (by decide) (ys := [vPtr b88]) (fun w hm => Rd.blk (hm.at (i := 0) rfl)) rfl (fun u hu => by rw [List.mem_singleton.1 hu]; rfl) (by omega) (by omega)) (by rw [List.length_append]; rfl) (by rw [List.map_append]; rfl)) rfl (fun a118 c118 e118 hr118 => ?_)   -- 118
      obtain ⟨b118, o118, rfl⟩ := rowAddr hr118 (by omega)
      refine ow_val (val_move rfl) rfl ?_   -- 119
      refine ow_val (val_move rfl) rfl ?_   -- 120
      refine ow_make (acts_buildSlice (cs := [.slice a100 L2.length c100]) Tryd.underlying31 Tryd.sizeOf32 zDs rfl rfl (by kernel_rfl)) rfl (fun b121 hb121 => ?_)   -- 121
      refine ow_append' (k := (ns ++ [(b88, (⟨a100, c100, L2⟩ : Sl (List UInt8)))]).length) (xs := (ns ++ [(b88, (⟨a100, c100, L2⟩ : Sl (List UInt8)))]).map (fun x : Book => x.2.v)) (acts_row (acts_append (size := 1) (bytes := 24) 5 rfl rfl rfl hrb rfl Tryd.underlying31 hSi hSz hSsz hSby rfl (by decide) (ys := [.slice a100 L2.length c100]) (fun w hm => Rd.blk (hm.at (i := 0) rfl)) rfl (fun u hu => by rw [List.mem_singleton.1 hu]; rfl) (by omega) (by omega)) (by rw [List.length_append]; rfl) (by rw [List.map_append]; rfl)) rfl (fun a122 c122 e122 hr122 => ?_)   -- 122
      obtain ⟨b122, o122, rfl⟩ := rowAddr hr122 (by omega)
      refine ow_val (val_assign rfl) rfl ?_   -- 8
      refine ow_val (val_assign rfl) rfl ?_   -- 9
      refine ow_nil (into ?_)
      refine sw_seq ?_
      refine sw_region_lex _ [] [(0, 0), (1, 0), (5, 0), (6, 0), (7, 0), (2, 1), (3, 0), (4, 1), (8, 1), (9, 0), (10, 1), (11, 2), (12, 0)] (by kernel_rfl) (by kernel_rfl) (fun _ _ _ h => h) (fun _ h => h) (fun _ h => h.drawn _) ?_
      refine lw_pure rfl (val_move rfl) rfl ?_   -- 123
      refine lw_pure rfl (val_fieldAddr (m := 0) (e := 0) rfl Tryd.underlying34 rfl rfl Tryd.sizeOf3 rfl) rfl ?_   -- 124
      refine lw_pure rfl (val_move rfl) rfl ?_   -- 128
      refine lw_pure rfl (val_move rfl) rfl ?_   -- 129
      refine lw_pure rfl (val_fieldAddr (m := 0) (e := 0) rfl Tryd.underlying34 rfl rfl Tryd.sizeOf3 rfl) rfl ?_   -- 130
      refine lw_held rfl (val_load_at 3 rfl rfl Tryd.isAgg3 rfl) rfl ?_   -- 125
      refine lw_pure rfl (val_indexAddr_slice (f) (o118 + f) rfl rfl Tryd.underlying30 Tryd.sizeOf24 (by omega) (by omega) (by omega)) rfl ?_   -- 126
      refine lw_held rfl ((val_load (v := vPtr ((ns ++ [(b88, (⟨a100, c100, L2⟩ : Sl (List UInt8)))]).getD f default).1) rfl Tryd.isAgg24 (fun w' hm => Rd.get (V := (fun x : Book => vPtr x.1)) (p := (ns ++ [(b88, (⟨a100, c100, L2⟩ : Sl (List UInt8)))])) (k := f) (hr118.rdAt hm (i := 4) rfl) (by omega) (by omega))).to (v' := vPtr X.1) (by rw [getD_appL hf, hX])) rfl ?_   -- 127
      refine lw_held rfl (val_load_at 3 rfl rfl Tryd.isAgg3 rfl) rfl ?_   -- 131
      refine lw_pure rfl (val_indexAddr_slice (f) (o122 + f) rfl rfl Tryd.underlying31 Tryd.sizeOf32 (by omega) (by omega) (by omega)) rfl ?_   -- 132
      refine lw_held rfl ((val_load (v := ((ns ++ [(b88, (⟨a100, c100, L2⟩ : Sl (List UInt8)))]).getD f default).2.v) rfl Tryd.isAgg32 (fun w' hm => Rd.get (V := (fun x : Book => x.2.v)) (p := (ns ++ [(b88, (⟨a100, c100, L2⟩ : Sl (List UInt8)))])) (k := f) (hr122.rdAt hm (i := 5) rfl) (by omega) (by omega))).to (v' := .slice X.2.a X.2.xs.length X.2.c) (by rw [getD_appL hf, hX]; rfl)) rfl ?_   -- 133
      refine lw_call_pure (v := .bool true) rfl (callsTo Tryd.func15 rfl (by kernel_rfl) rfl) rfl (fun w hm => reads_any k h1 h2 w (hK.mem0 hm) X.1 X.2.xs (hXo2.t.is (hm.heldSub (.cons _ (.cons _ (.cons _ (.cons _ (.cons _ (.cons _ (List.Sublist.refl _))))))))) (by omega) X.2.a X.2.xs.length X.2.c rfl hXd hXf (hXo2.r _ (hm.heldSub (.cons _ (.cons _ (.cons _ (.cons _ (.cons _ (.cons _ (List.Sublist.refl _))))))))) hXo.c (by omega)) ?_   -- 134
      refine lw_pure rfl (val_not rfl) rfl ?_   -- 135
      refine lw_nil (into ?_)
      refine sw_false rfl rfl ?_
      refine sw_skip (into ?_)
      refine sw_region ?_
      refine ow_val (val_add_int ((j + 1 : Nat) : Int) rfl rfl (by omega) (by omega)) rfl ?_   -- 136
      refine ow_val (val_move rfl) rfl ?_   -- 48
      exact ow_nil (fun w hm => ⟨(j + 1, (ns ++ [(b88, (⟨a100, c100, L2⟩ : Sl (List UInt8)))]), _, c118, e118, _, c122, e122, (e100 :: (T ++ es88))), ⟨by dsimp only; omega, by dsimp only; omega, by dsimp only; omega, hr118, hr122, fun x hx => (List.mem_append.1 hx).elim (fun h => (hns x h).sub (.cons _ (List.sublist_append_left _ _))) (fun h => by rw [List.mem_singleton.1 h]; exact ⟨htr88.sub (.cons _ (List.Sublist.refl _)), fun w hh => hr100.held (hh.sub (.cons_cons _ (List.nil_sublist _))), hr100.le, by dsimp only; omega, hL2d, hL2f⟩)⟩, by dsimp only; omega, ⟨rfl, rfl, rfl, rfl, rfl, rfl, trivial⟩, ((hm.only (.cons _ (.cons _ (.cons_cons _ (.cons _ (.cons_cons _ (.cons_cons _ (List.Sublist.refl _)))))))).perm (.swap _ _ _)).perm (.cons _ (.swap _ _ _))⟩)
  · -- else
    refine sw_exit (into ?_)
    refine sw_seq ?_
    refine sw_seq ?_
    refine sw_region ?_
    refine ow_val (val_move rfl) rfl ?_   -- 137
    refine ow_val (val_len rfl Tryd.underlying30) rfl ?_   -- 138
    refine ow_val (val_move rfl) rfl ?_   -- 139
    refine ow_nil (into ?_)
    refine sw_block ?_
    refine sw_loop (σ := Nat) (fun i => i ≤ ns.length) (fun i => [(139, vInt (i : Int)), (138, vInt (ns.length : Int)), (8, .slice (some ⟨b8, o8, none⟩) ns.length c8), (9, .slice (some ⟨b9, o9, none⟩) ns.length c9), (0, vInt (k : Int))]) (fun _ => Mem w [] (et :: eb :: T)) (fun i => ns.length - i) 0 (Nat.zero_le _) ⟨rfl, rfl, rfl, rfl, rfl, trivial⟩ (fun w hm => hm) ?_
    intro i hi
    refine sw_seq ?_
    refine sw_region ?_
    refine ow_val (val_lss_int rfl rfl) rfl ?_   -- 140
    refine ow_nil (into ?_)
    refine sw_seq ?_
    refine sw_if rfl (fun h0c => ?_) (fun h0c => ?_)
    · -- then
      obtain ⟨X, hX⟩ : ∃ z, ns.getD i default = z := ⟨_, rfl⟩
      have hXo := hns X (by rw [← hX]; exact getD_mem (by omega))
      have hXd := hXo.d
      have hXf := hXo.f
      have hXn := hXo.n
      refine sw_skip (into ?_)
      refine sw_seq ?_
      refine sw_block ?_
      refine sw_seq ?_
      refine sw_region ?_
      refine ow_val (val_move rfl) rfl ?_   -- 141
      refine ow_val (val_assign rfl) rfl ?_   -- 16
      refine ow_nil (into ?_)
      refine sw_seq ?_
      refine sw_region_lex _ [] [(0, 0), (1, 0), (2, 0), (4, 0), (5, 0), (6, 0), (7, 0), (3, 1), (8, 1), (9, 2), (10, 0)] (by kernel_rfl) (by kernel_rfl) (fun _ _ _ h => h) (fun _ h => h) (fun _ h => h.drawn _) ?_
      refine lw_pure rfl (val_move rfl) rfl ?_   -- 142
      refine lw_pure rfl (val_move rfl) rfl ?_   -- 143
      refine lw_pure rfl (val_indexAddr_slice (i) (o8 + i) rfl rfl Tryd.underlying30 Tryd.sizeOf24 (by omega) (by omega) (by omega)) rfl ?_   -- 144
      refine lw_pure rfl (val_move rfl) rfl ?_   -- 146
      refine lw_pure rfl (val_move rfl) rfl ?_   -- 147
      refine lw_pure rfl (val_move rfl) rfl ?_   -- 148
      refine lw_pure rfl (val_indexAddr_slice (i) (o9 + i) rfl rfl Tryd.underlying31 Tryd.sizeOf32 (by omega) (by omega) (by omega)) rfl ?_   -- 149
      refine lw_held rfl ((val_load (v := vPtr (ns.getD i default).1) rfl Tryd.isAgg24 (fun w' hm => Rd.get (V := (fun x : Book => vPtr x.1)) (p := ns) (k := i) (hrt.rdAt hm (i := 0) rfl) (by omega) (by omega))).to (v' := vPtr X.1) (by rw [hX])) rfl ?_   -- 145
      refine lw_held rfl ((val_load (v := (ns.getD i default).2.v) rfl Tryd.isAgg32 (fun w' hm => Rd.get (V := (fun x : Book => x.2.v)) (p := ns) (k := i) (hrb.rdAt hm (i := 1) rfl) (by omega) (by omega))).to (v' := .slice X.2.a X.2.xs.length X.2.c) (by rw [hX]; rfl)) rfl ?_   -- 150
      refine lw_call_pure (v := .bool true) rfl (callsTo Tryd.func15 rfl (by kernel_rfl) rfl) rfl (fun w hm => reads_any k h1 h2 w (hK.mem0 hm) X.1 X.2.xs (hXo.t.is (hm.heldSub (.cons _ (.cons _ (List.Sublist.refl _))))) (by omega) X.2.a X.2.xs.length X.2.c rfl hXd hXf (hXo.r _ (hm.heldSub (.cons _ (.cons _ (List.Sublist.refl _))))) hXo.c (by omega)) ?_   -- 151
      refine lw_pure rfl (val_not rfl) rfl ?_   -- 152
      refine lw_nil (into ?_)
      refine sw_false rfl rfl ?_
      refine sw_skip (into ?_)
      refine sw_region ?_
      refine ow_val (val_add_int ((i + 1 : Nat) : Int) rfl rfl (by omega) (by omega)) rfl ?_   -- 153
      refine ow_val (val_move rfl) rfl ?_   -- 139
      exact ow_nil (fun w hm => ⟨i + 1, by omega, by omega, ⟨rfl, rfl, rfl, rfl, rfl, trivial⟩, hm.only (.cons_cons _ (.cons_cons _ (List.Sublist.refl _)))⟩)
    · -- else
      refine sw_exit (into ?_)
      refine sw_seq ?_
      refine sw_region ?_
      refine ow_val (val_assign rfl) rfl ?_   -- 4
      refine ow_nil (into ?_)
      refine sw_ret (fun w hm => ?_)
      try dsimp only [thenP, blockP, Nat.beq, cond]
      exact ret_one _ rfl rfl ⟨rfl, hm.forgetAll⟩

theorem mtreeGrows_any (v0 : Int) (w : World) (hK : KW w) (ax : Option Addr) (cx : Nat) (gs : List Grw) (hgr : Rd w ax (gs.flatMap gC)) (hgc : gs.length ≤ cx) (hgl : gs.length < 9223372036854775808) (hgo : ∀ g ∈ gs, DgL w g.2) : Calls Tryd.prog 3 #[vInt v0, .slice ax gs.length cx] w fun e w' => ∃ v, e = .returned v ∧ v = .bool true ∧ Mem w [] [] w' := by
  cases hwd : wd v0 with
  | false => exact grows_no v0 hwd w hK ax cx gs hgr hgc hgl hgo
  | true =>
    have h9 := wd_iff.1 hwd
    obtain ⟨k, rfl⟩ : ∃ k : Nat, v0 = (k : Int) := ⟨v0.toNat, by omega⟩
    exact grows_main k (by omega) (by omega) w hK ax cx gs hgr hgc hgl hgo
end Go.Proofs.YtcappcjogcekkaaDoor
