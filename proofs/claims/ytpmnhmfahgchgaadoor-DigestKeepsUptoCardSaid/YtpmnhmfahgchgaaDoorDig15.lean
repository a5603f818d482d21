import Derived.Test.YtpmnhmfahgchgaaDoorDig12
import Derived.Test.YtpmnhmfahgchgaaDoorDig7
import Derived.Test.YtpmnhmfahgchgaaDoorProg
set_option linter.unusedVariables false
set_option linter.unusedSimpArgs false
namespace Go.Proofs.YtpmnhmfahgchgaaDoor
open Go.Sx Go.Ps
theorem room_any (w : World) (b4 : Nat) (af : Option Addr) (cf : Nat) (Fs : List (Sl UInt8)) (ef : Ent) (hrow : RowE (.slice af Fs.length cf) 25 1 Fs.length (Fs.map Sl.v) ef) (s : Sl UInt8) (hs : SlOk w s) (hb : s.xs.length ≤ 1048576) (hFn : Fs.length ≤ 4194304) (hne : 0 < (s.xs.map vU8).length → ∀ b o, s.a = some ⟨b, o, none⟩ → b ∉ (keys [some (b4, blk [.slice af Fs.length cf] 32), ef])) (hm0 : Mem w (keys [some (b4, blk [.slice af Fs.length cf] 32), ef]) [some (b4, blk [.slice af Fs.length cf] 32), ef] w) : Calls Tryd.prog 72 #[.slice s.a s.xs.length s.c, .pointer (some ⟨b4, 0, none⟩)] w fun en w' => ∃ u, en = .returned u ∧ ∃ t : Option Addr × Nat × Ent × Option Addr × Nat × Ent, u = .slice t.1 s.xs.length t.2.1 ∧ (RowE (.slice t.1 (s.xs.length + 40) t.2.1) 5 1 (s.xs.length + 40) ((s.xs ++ rm).map vU8) t.2.2.1 ∧ RowE (.slice t.2.2.2.1 (Fs ++ [(⟨t.1, t.2.1, s.xs ++ rm⟩ : Sl UInt8)]).length t.2.2.2.2.1) 25 1 (Fs ++ [(⟨t.1, t.2.1, s.xs ++ rm⟩ : Sl UInt8)]).length ((Fs ++ [(⟨t.1, t.2.1, s.xs ++ rm⟩ : Sl UInt8)]).map Sl.v) t.2.2.2.2.2) ∧ Mem w (keys [some (b4, blk [.slice af Fs.length cf] 32), ef]) [some (b4, blk [.slice t.2.2.2.1 (Fs ++ [(⟨t.1, t.2.1, s.xs ++ rm⟩ : Sl UInt8)]).length t.2.2.2.2.1] 32), t.2.2.2.2.2, t.2.2.1] w' := by
  obtain ⟨tiS, hSi, hSz, hSsz, hSby⟩ := info_parts isl
  refine calls_of_sw (vs := [.slice s.a s.xs.length s.c, .pointer (some ⟨b4, 0, none⟩)]) Tryd.func72 rfl Tryd.ntmps72 rfl (SW.beginM hm0 ?_)
  refine sw_seq ?_
  refine sw_region ?_
  refine ow_val (val_assign rfl) rfl ?_   -- 3
  refine ow_nil (into ?_)
  refine sw_seq ?_
  refine sw_region ?_
  refine ow_val (val_move rfl) rfl ?_   -- 7
  refine ow_call_tail (σ := Option Addr × Nat × Ent) (fun t => .tuple #[.slice t.1 s.xs.length t.2.1, .slice t.1 (s.xs.length + 40) t.2.1]) (fun t => [t.2.2]) (fun t => RowE (.slice t.1 (s.xs.length + 40) t.2.1) 5 1 (s.xs.length + 40) ((s.xs ++ rm).map vU8) t.2.2) (callsTo Tryd.func73 rfl (by kernel_rfl) rfl) rfl (fun w hm => spare_any w s.a s.c s.xs (hs.1.memO hm hne) (by omega)) ?_
  rintro ⟨a8, c8, e8⟩ hr8
  simp only at hr8 ⊢
  refine ow_mem (M' := Mem w (keys [some (b4, blk [.slice af Fs.length cf] 32), ef]) [some (b4, blk [.slice af Fs.length cf] 32), ef, e8]) (fun w hm => hm) ?_
  refine ow_val (val_move rfl) rfl ?_   -- 6
  refine ow_val (val_extract rfl rfl) rfl ?_   -- 9
  refine ow_val (val_extract rfl rfl) rfl ?_   -- 10
  refine ow_val (val_assign rfl) rfl ?_   -- 4
  refine ow_val (val_assign rfl) rfl ?_   -- 5
  refine ow_nil (into ?_)
  refine sw_seq ?_
  refine sw_region ?_
  refine ow_val (val_load_at 0 rfl rfl Tryd.isAgg32 rfl) rfl ?_   -- 11
  refine ow_val (val_move rfl) rfl ?_   -- 12
  refine ow_make (acts_buildSlice (cs := [.slice a8 (s.xs.length + 40) c8]) Tryd.underlying32 Tryd.sizeOf25 Tryd.zeroValue25 rfl rfl (by kernel_rfl)) rfl (fun b13 hb13 => ?_)   -- 13
  refine ow_append' (k := Fs.length + 1) (acts_append (size := 1) (bytes := 24) 2 rfl rfl rfl hrow rfl Tryd.underlying32 hSi hSz hSsz hSby rfl (by decide) (fun w hm => Rd.blk (hm.at (i := 0) rfl)) rfl (fun u hu => by rw [List.mem_singleton.1 hu]; rfl) (by omega) (by omega)) rfl (fun a14 c14 e14 hr14 => ?_)   -- 14
  refine ow_do (does_store 1 rfl rfl rfl rfl Tryd.sizeOf32 Nat.zero_lt_one) (fun _ _ => ?_)
  refine ow_nil (into ?_)
  refine sw_seq ?_
  refine sw_region ?_
  refine ow_val (val_move rfl) rfl ?_   -- 15
  refine ow_val (val_assign rfl) rfl ?_   -- 3
  refine ow_nil (into ?_)
  have hfv : Sl.v (⟨a8, c8, s.xs ++ rm⟩ : Sl UInt8) = .slice a8 (s.xs.length + 40) c8 := by rw [Sl.v, List.length_append, rm_len]
  have hrF : RowE (.slice a14 (Fs ++ [(⟨a8, c8, s.xs ++ rm⟩ : Sl UInt8)]).length c14) 25 1 (Fs ++ [(⟨a8, c8, s.xs ++ rm⟩ : Sl UInt8)]).length ((Fs ++ [(⟨a8, c8, s.xs ++ rm⟩ : Sl UInt8)]).map Sl.v) e14 := hr14.cong (by rw [List.length_append]; rfl) (by rw [List.length_append]; rfl) (by rw [List.map_append, List.map_cons, hfv]; rfl)
  exact sw_ret (fun w hm => ret_one _ rfl rfl ⟨(a8, c8, e8, a14, c14, e14), rfl, ⟨hr8, hrF⟩, by dsimp only; rw [List.length_append]; exact hm.only (.cons _ (List.Sublist.refl _))⟩)

theorem iPr : (Tryd.prog.info? 101).map (fun i => (i.zero, i.size, i.bytes)) = some (some (.agg #[.slice none 0 0, .slice none 0 0]), 2, 48) := by kernel_rfl
theorem iDg : (Tryd.prog.info? 27).map (fun i => (i.zero, i.size, i.bytes)) = some (some (.agg (zeros32.map vU8).toArray), 32, 32) := by kernel_rfl

theorem one_dgs (l : List (List UInt8)) : ∀ u ∈ l.flatMap (fun d => d.map vU8), u.oneCell' = true := by
  intro u hu
  obtain ⟨d, _, hu⟩ := List.mem_flatMap.1 hu
  exact one_u8s d u hu

theorem spares_any (w : World) (o : Cop) (ho : o.ok w) (hty : ∀ s ∈ lsO o, s.xs.length ≤ 1048576) (hn : o.pairs.xs.length ≤ 1048576) (hkn : o.kids.xs.length ≤ 1048576) : Calls Tryd.prog 33 #[.agg o.cells.toArray] w fun en w' => ∃ u, en = .returned u ∧ ∃ t : Sl UInt8 × Sl (Sl UInt8 × Sl UInt8) × Sl (List UInt8) × (Option Addr × Nat × Ent) × List (Sl UInt8) × Ent × Ent × List Ent, u = .tuple #[.agg (qOf o t.1 t.2.1 t.2.2.1).cells.toArray, .slice t.2.2.2.1.1 t.2.2.2.2.1.length t.2.2.2.1.2.1] ∧ (SpI 5 o o.pairs.xs.length t.2.2.2.2.1 t.2.2.2.2.2.2.2 t.1 t.2.1.xs ∧ t.2.2.1.xs = o.kids.xs ∧ RowE (.slice t.2.2.2.1.1 t.2.2.2.2.1.length t.2.2.2.1.2.1) 25 1 t.2.2.2.2.1.length (t.2.2.2.2.1.map Sl.v) t.2.2.2.1.2.2 ∧ RowE (.slice t.2.1.a t.2.1.xs.length t.2.1.c) 101 2 t.2.1.xs.length (t.2.1.xs.flatMap fun x => [x.1.v, x.2.v]) t.2.2.2.2.2.1 ∧ RowE (.slice t.2.2.1.a t.2.2.1.xs.length t.2.2.1.c) 27 32 t.2.2.1.xs.length (t.2.2.1.xs.flatMap fun d => d.map vU8) t.2.2.2.2.2.2.1) ∧ Mem w [] (t.2.2.2.1.2.2 :: t.2.2.2.2.2.1 :: t.2.2.2.2.2.2.1 :: t.2.2.2.2.2.2.2) w' := by
  obtain ⟨tiP, hPi, hPz, hPsz, hPby⟩ := info_parts iPr
  obtain ⟨tiD, hDi, hDz, hDsz, hDby⟩ := info_parts iDg
  refine calls_of_sw (vs := [.agg o.cells.toArray]) Tryd.func33 rfl Tryd.ntmps33 rfl (SW.begin ?_)
  refine sw_seq ?_
  refine sw_region ?_
  refine ow_new (acts_box rfl) rfl (fun b1 hb1 => ?_)   -- 1
  refine ow_new (acts_alloc zOp) rfl (fun b2 hb2 => ?_)   -- 2
  refine ow_val (val_assign rfl) rfl ?_   -- 3
  refine ow_nil (into ?_)
  refine sw_seq ?_
  refine sw_region ?_
  refine ow_new (acts_alloc Tryd.zeroValue32) rfl (fun b4 hb4 => ?_)   -- 4
  refine ow_nil (into ?_)
  refine sw_seq ?_
  refine sw_region ?_
  refine ow_val (val_makeFunc (vs := #[.pointer (some ⟨b4, 0, none⟩)]) (fun a hf => by have h := evs_eval (xs := [.tmp 4]) (vs := [.pointer (some ⟨b4, 0, none⟩)]) hf rfl; simpa using h)) rfl ?_   -- 9
  refine ow_val (val_assign rfl) rfl ?_   -- 5
  refine ow_nil (into ?_)
  refine sw_seq ?_
  refine sw_region ?_
  refine ow_val (val_move rfl) rfl ?_   -- 10
  refine ow_val (val_fieldAddr (m := 0) (e := 2) rfl Tryd.underlying50 rfl rfl Tryd.sizeOf25 rfl) rfl ?_   -- 11
  refine ow_val (val_load_at 2 rfl rfl Tryd.isAgg25 rfl) rfl ?_   -- 12
  refine ow_mem (M' := Mem w [] ([some (b4, blk [.slice none ([] : List (Sl UInt8)).length 0] 32), none] ++ [some (b2, blk Cop.zero.cells 50), some (b1, blk o.cells 50)])) (fun w hm => hm.place.perm (.swap _ _ _)) ?_
  refine ow_call_frame (σ := Option Addr × Nat × Ent × Option Addr × Nat × Ent) (fun t => .slice t.1 o.P.xs.length t.2.1) (fun t => [some (b4, blk [.slice t.2.2.2.1 (([] : List (Sl UInt8)) ++ [(⟨t.1, t.2.1, o.P.xs ++ rm⟩ : Sl UInt8)]).length t.2.2.2.2.1] 32), t.2.2.2.2.2, t.2.2.1]) (fun t => (RowE (.slice t.1 (o.P.xs.length + 40) t.2.1) 5 1 (o.P.xs.length + 40) ((o.P.xs ++ rm).map vU8) t.2.2.1 ∧ RowE (.slice t.2.2.2.1 (([] : List (Sl UInt8)) ++ [(⟨t.1, t.2.1, o.P.xs ++ rm⟩ : Sl UInt8)]).length t.2.2.2.2.1) 25 1 (([] : List (Sl UInt8)) ++ [(⟨t.1, t.2.1, o.P.xs ++ rm⟩ : Sl UInt8)]).length ((([] : List (Sl UInt8)) ++ [(⟨t.1, t.2.1, o.P.xs ++ rm⟩ : Sl UInt8)]).map Sl.v) t.2.2.2.2.2)) [some (b4, blk [.slice none ([] : List (Sl UInt8)).length 0] 32), none] [some (b2, blk Cop.zero.cells 50), some (b1, blk o.cells 50)] (callsToVal (cap := [.pointer (some ⟨b4, 0, none⟩)]) rfl Tryd.func72 rfl (by kernel_rfl) rfl) rfl (fun w hm hm1 => room_any w b4 none 0 ([] : List (Sl UInt8)) none (RowE.nil _ _) o.P (ho.p.mem hm) (hty _ (.head _)) (by simp) (hm.argFree ho.p.1) hm1) ?_
  rintro ⟨a13, c13, e0, af0, cf0, ef0⟩ ⟨hs0, hf0⟩
  simp only at hs0 hf0 ⊢
  refine ow_mem (M' := Mem w [] [some (b4, blk [.slice af0 1 cf0] 32), ef0, e0, some (b2, blk Cop.zero.cells 50), some (b1, blk o.cells 50)]) (fun w hm => hm) ?_
  refine ow_val (val_fieldAddr (m := 0) (e := 2) rfl Tryd.underlying50 rfl rfl Tryd.sizeOf25 rfl) rfl ?_   -- 14
  refine ow_do (does_store 4 rfl rfl rfl rfl Tryd.sizeOf25 (by rw [Cop.cells_len ho]; decide)) (fun _ _ => ?_)
  refine ow_nil (into ?_)
  refine sw_seq ?_
  refine sw_region ?_
  refine ow_val (val_assign rfl) rfl ?_   -- 6
  refine ow_nil (into ?_)
  refine sw_seq ?_
  refine sw_seq ?_
  refine sw_region ?_
  refine ow_val (val_fieldAddr (m := 0) (e := 67) rfl Tryd.underlying50 rfl rfl Tryd.sizeOf43 rfl) rfl ?_   -- 15
  refine ow_val (val_load_at 4 rfl rfl Tryd.isAgg43 (by rw [List.getElem?_set_ne (by decide)]; exact Cop.c67 ho)) rfl ?_   -- 16
  refine ow_val (val_len rfl Tryd.underlying43) rfl ?_   -- 17
  refine ow_val (val_move rfl) rfl ?_   -- 18
  refine ow_nil (into ?_)
  refine sw_block ?_
  refine sw_loop (σ := Nat × (Option Addr × Nat × Ent) × List (Sl UInt8) × List Ent × (Option Addr × Nat × Ent) × List (Sl UInt8 × Sl UInt8)) (fun t => t.1 ≤ o.pairs.xs.length ∧ SpI 5 o t.1 t.2.2.1 t.2.2.2.1 (⟨a13, c13, o.P.xs⟩ : Sl UInt8) t.2.2.2.2.2 ∧ RowE (.slice t.2.1.1 t.2.2.1.length t.2.1.2.1) 25 1 t.2.2.1.length (t.2.2.1.map Sl.v) t.2.1.2.2 ∧ RowE (.slice t.2.2.2.2.1.1 t.2.2.2.2.2.length t.2.2.2.2.1.2.1) 101 2 t.2.2.2.2.2.length (t.2.2.2.2.2.flatMap fun x => [x.1.v, x.2.v]) t.2.2.2.2.1.2.2) (fun t => [(18, vInt (t.1 : Int)), (17, vInt (o.pairs.xs.length : Int)), (16, o.pairs.v), (6, .slice t.2.2.2.2.1.1 t.2.2.2.2.2.length t.2.2.2.2.1.2.1), (5, .func (.func 72) #[] #[.pointer (some ⟨b4, 0, none⟩)]), (4, .pointer (some ⟨b4, 0, none⟩)), (2, .pointer (some ⟨b2, 0, none⟩)), (1, .pointer (some ⟨b1, 0, none⟩))]) (fun t => Mem w [] (some (b4, blk [.slice t.2.1.1 t.2.2.1.length t.2.1.2.1] 32) :: t.2.1.2.2 :: t.2.2.2.2.1.2.2 :: some (b2, blk Cop.zero.cells 50) :: some (b1, blk (o.cells.set 2 (.slice a13 o.P.xs.length c13)) 50) :: t.2.2.2.1)) (fun t => o.pairs.xs.length - t.1) (0, (af0, cf0, ef0), [⟨a13, c13, o.P.xs ++ rm⟩], [e0], (none, 0, none), []) ⟨Nat.zero_le _, SpI.start hs0, hf0, RowE.nil _ _⟩ ⟨rfl, rfl, rfl, rfl, rfl, rfl, rfl, rfl, trivial⟩ (fun w hm => hm.initSp) ?_
  rintro ⟨i, ⟨af, cf, ef⟩, Fs, es, ⟨ap, cp, ep⟩, ps⟩ ⟨hi, hsp, hrf, hrp⟩
  simp only at hi hsp hrf hrp ⊢
  refine sw_seq ?_
  refine sw_region ?_
  refine ow_val (val_lss_int rfl rfl) rfl ?_   -- 19
  refine ow_nil (into ?_)
  refine sw_seq ?_
  refine sw_if rfl (fun h6 => ?_) (fun h6 => ?_)
  · -- then
    obtain ⟨ba, oa, hba⟩ := ho.pr.addr (by rw [flatMap_size o.pairs.xs (n := 2) (fun _ _ => rfl)]; omega)
    have hkv : o.pairs.v = .slice (some ⟨ba, oa, none⟩) o.pairs.xs.length o.pairs.c := by rw [Sl.v, hba]
    rw [hkv]
    have hrb : Rd w (some ⟨ba, oa, none⟩) (o.pairs.xs.flatMap fun x => [x.1.v, x.2.v]) := hba ▸ ho.pr
    obtain ⟨⟨k1, v1⟩, hx1⟩ : ∃ z, o.pairs.xs.getD i default = z := ⟨_, rfl⟩
    have hmx := getD_mem (l := o.pairs.xs) (i := i) (by omega)
    have hE := ho.pe _ hmx
    have hlk := hty _ (List.mem_cons_of_mem _ (List.mem_flatMap.2 ⟨_, hmx, List.mem_cons_self⟩))
    have hlv := hty _ (List.mem_cons_of_mem _ (List.mem_flatMap.2 ⟨_, hmx, List.mem_cons_of_mem _ List.mem_cons_self⟩))
    rw [hx1] at hE hlk hlv
    simp only at hE hlk hlv
    have hfl := hsp.len
    have hpl := hsp.1
    refine sw_skip (into ?_)
    refine sw_seq ?_
    refine sw_block ?_
    refine sw_seq ?_
    refine sw_region ?_
    refine ow_val (val_indexAddr_slice i (oa + i * 2) rfl rfl Tryd.underlying43 Tryd.sizeOf101 (by omega) (by omega) (by omega)) rfl ?_   -- 20
    refine ow_val ((val_load_elem (cells := fun x : Sl UInt8 × Sl UInt8 => [x.1.v, x.2.v]) (l := o.pairs.xs) (o := oa) (i := i) rfl Tryd.isAgg101 Tryd.sizeOf101 (fun _ _ => rfl) (by omega) (by omega) (fun w' hm => hrb.mem hm)).to (v' := .agg #[k1.v, v1.v]) (by rw [hx1])) rfl ?_   -- 21
    refine ow_new (acts_alloc zPr) rfl (fun b8 hb8 => ?_)   -- 8
    refine ow_do_eq (does_store_all 0 rfl rfl rfl (fun v hv => by rcases List.mem_cons.1 hv with rfl | hv <;> first | rfl | (rw [List.mem_singleton.1 hv]; rfl)) Tryd.sizeOf101 rfl rfl) ?_
    refine ow_nil (into ?_)
    refine sw_region_tree (Mem w [] [some (b8, blk [k1.v, v1.v] 101)]) [] (.one 0 0 (.one 1 0 (.one 2 0 (.one 5 0 (.one 6 0 (.one 3 1 (.one 7 1 (.one 4 2 (.one 8 2 (.one 9 0 (.one 10 2 (.one 11 2 (.one 12 0 .done))))))))))))) (by kernel_rfl) (by kernel_rfl) (fun _ _ _ h => h) (fun _ h => h.only (.cons_cons _ (List.nil_sublist _))) (fun _ h => h.drawn _) ?_
    refine lt_pure rfl trivial (val_move rfl) rfl ?_   -- 22
    refine lt_pure rfl trivial (val_move rfl) rfl ?_   -- 23
    refine lt_pure rfl trivial (val_fieldAddr (m := 0) (e := 0) rfl Tryd.underlying101 rfl rfl Tryd.sizeOf25 rfl) rfl ?_   -- 24
    refine lt_pure rfl trivial (val_move rfl) rfl ?_   -- 27
    refine lt_pure rfl trivial (val_fieldAddr (m := 0) (e := 1) rfl Tryd.underlying101 rfl rfl Tryd.sizeOf25 rfl) rfl ?_   -- 28
    refine lt_held rfl trivial (val_load_at 0 rfl rfl Tryd.isAgg25 rfl) rfl ?_   -- 25
    refine lt_held rfl trivial (val_load_at 0 rfl rfl Tryd.isAgg25 rfl) rfl ?_   -- 29
    refine lt_mem (M' := Mem w [] ([some (b4, blk [.slice af Fs.length cf] 32), ef] ++ (some (b8, blk [k1.v, v1.v] 101) :: ep :: some (b2, blk Cop.zero.cells 50) :: some (b1, blk (o.cells.set 2 (.slice a13 o.P.xs.length c13)) 50) :: es))) (fun w hm => hm.perm (List.perm_middle (l₁ := [_, ef]))) ?_
    refine lt_call_frame (σ := Option Addr × Nat × Ent × Option Addr × Nat × Ent) (fun t => .slice t.1 k1.xs.length t.2.1) (fun t => [some (b4, blk [.slice t.2.2.2.1 (Fs ++ [(⟨t.1, t.2.1, k1.xs ++ rm⟩ : Sl UInt8)]).length t.2.2.2.2.1] 32), t.2.2.2.2.2, t.2.2.1]) (fun t => (RowE (.slice t.1 (k1.xs.length + 40) t.2.1) 5 1 (k1.xs.length + 40) ((k1.xs ++ rm).map vU8) t.2.2.1 ∧ RowE (.slice t.2.2.2.1 (Fs ++ [(⟨t.1, t.2.1, k1.xs ++ rm⟩ : Sl UInt8)]).length t.2.2.2.2.1) 25 1 (Fs ++ [(⟨t.1, t.2.1, k1.xs ++ rm⟩ : Sl UInt8)]).length ((Fs ++ [(⟨t.1, t.2.1, k1.xs ++ rm⟩ : Sl UInt8)]).map Sl.v) t.2.2.2.2.2)) [some (b4, blk [.slice af Fs.length cf] 32), ef] (some (b8, blk [k1.v, v1.v] 101) :: ep :: some (b2, blk Cop.zero.cells 50) :: some (b1, blk (o.cells.set 2 (.slice a13 o.P.xs.length c13)) 50) :: es) rfl trivial (callsToVal (cap := [.pointer (some ⟨b4, 0, none⟩)]) rfl Tryd.func72 rfl (by kernel_rfl) rfl) rfl (fun w hm hm1 => room_any w b4 af cf Fs ef hrf k1 (hE.1.mem hm) hlk (by omega) (hm.argFree hE.1.1) hm1) (fun _ _ _ h => h.only (.cons _ (.cons _ (.cons _ (.cons_cons _ (List.nil_sublist _)))))) ?_
    rintro ⟨a26, c26, e26, af26, cf26, ef26⟩ ⟨hs26, hf26⟩
    simp only at hs26 hf26 ⊢
    refine lt_mem (M' := Mem w [] (some (b4, blk [.slice af26 (Fs ++ [(⟨a26, c26, k1.xs ++ rm⟩ : Sl UInt8)]).length cf26] 32) :: ef26 :: e26 :: (some (b8, blk [k1.v, v1.v] 101) :: ep :: some (b2, blk Cop.zero.cells 50) :: some (b1, blk (o.cells.set 2 (.slice a13 o.P.xs.length c13)) 50) :: es))) (fun w hm => hm) ?_
    refine lt_mem (M' := Mem w [] ([some (b4, blk [.slice af26 (Fs ++ [(⟨a26, c26, k1.xs ++ rm⟩ : Sl UInt8)]).length cf26] 32), ef26] ++ (e26 :: (some (b8, blk [k1.v, v1.v] 101) :: ep :: some (b2, blk Cop.zero.cells 50) :: some (b1, blk (o.cells.set 2 (.slice a13 o.P.xs.length c13)) 50) :: es)))) (fun w hm => hm) ?_
    refine lt_call_frame (σ := Option Addr × Nat × Ent × Option Addr × Nat × Ent) (fun t => .slice t.1 v1.xs.length t.2.1) (fun t => [some (b4, blk [.slice t.2.2.2.1 ((Fs ++ [(⟨a26, c26, k1.xs ++ rm⟩ : Sl UInt8)]) ++ [(⟨t.1, t.2.1, v1.xs ++ rm⟩ : Sl UInt8)]).length t.2.2.2.2.1] 32), t.2.2.2.2.2, t.2.2.1]) (fun t => (RowE (.slice t.1 (v1.xs.length + 40) t.2.1) 5 1 (v1.xs.length + 40) ((v1.xs ++ rm).map vU8) t.2.2.1 ∧ RowE (.slice t.2.2.2.1 ((Fs ++ [(⟨a26, c26, k1.xs ++ rm⟩ : Sl UInt8)]) ++ [(⟨t.1, t.2.1, v1.xs ++ rm⟩ : Sl UInt8)]).length t.2.2.2.2.1) 25 1 ((Fs ++ [(⟨a26, c26, k1.xs ++ rm⟩ : Sl UInt8)]) ++ [(⟨t.1, t.2.1, v1.xs ++ rm⟩ : Sl UInt8)]).length (((Fs ++ [(⟨a26, c26, k1.xs ++ rm⟩ : Sl UInt8)]) ++ [(⟨t.1, t.2.1, v1.xs ++ rm⟩ : Sl UInt8)]).map Sl.v) t.2.2.2.2.2)) [some (b4, blk [.slice af26 (Fs ++ [(⟨a26, c26, k1.xs ++ rm⟩ : Sl UInt8)]).length cf26] 32), ef26] (e26 :: (some (b8, blk [k1.v, v1.v] 101) :: ep :: some (b2, blk Cop.zero.cells 50) :: some (b1, blk (o.cells.set 2 (.slice a13 o.P.xs.length c13)) 50) :: es)) rfl trivial (callsToVal (cap := [.pointer (some ⟨b4, 0, none⟩)]) rfl Tryd.func72 rfl (by kernel_rfl) rfl) rfl (fun w hm hm1 => room_any w b4 af26 cf26 (Fs ++ [(⟨a26, c26, k1.xs ++ rm⟩ : Sl UInt8)]) ef26 hf26 v1 (hE.2.mem hm) hlv (by simp only [List.length_append, List.length_cons, List.length_nil]; omega) (hm.argFree hE.2.1) hm1) (fun _ _ _ h => h.only (.cons _ (.cons _ (.cons _ (.cons _ (.cons_cons _ (List.nil_sublist _))))))) ?_
    rintro ⟨a30, c30, e30, af30, cf30, ef30⟩ ⟨hs30, hf30⟩
    simp only at hs30 hf30 ⊢
    refine lt_mem (M' := Mem w [] (some (b4, blk [.slice af30 ((Fs ++ [(⟨a26, c26, k1.xs ++ rm⟩ : Sl UInt8)]) ++ [(⟨a30, c30, v1.xs ++ rm⟩ : Sl UInt8)]).length cf30] 32) :: ef30 :: e30 :: (e26 :: (some (b8, blk [k1.v, v1.v] 101) :: ep :: some (b2, blk Cop.zero.cells 50) :: some (b1, blk (o.cells.set 2 (.slice a13 o.P.xs.length c13)) 50) :: es)))) (fun w hm => hm) ?_
    refine lt_pure rfl trivial (val_build' (cs := [.slice a26 k1.xs.length c26, .slice a30 v1.xs.length c30]) rfl (by kernel_rfl)) rfl ?_   -- 31
    refine lt_make (fun b => .slice (some ⟨b, 0, none⟩) 1 1) rfl trivial (acts_buildSlice (cs := [.slice a26 k1.xs.length c26, .slice a30 v1.xs.length c30]) Tryd.underlying43 Tryd.sizeOf101 zPr rfl rfl (by kernel_rfl)) rfl (fun _ _ _ h => h.only (.cons _ (.cons _ (.cons _ (.cons _ (.cons _ (.cons_cons _ (List.nil_sublist _)))))))) (fun b32 hb32 => ?_)   -- 32
    refine lt_append (k := ps.length + 1) rfl trivial (acts_append (size := 2) (bytes := 48) 6 rfl rfl rfl hrp rfl Tryd.underlying43 hPi hPz hPsz hPby rfl (by decide) (fun w hm => Rd.blk (hm.at (i := 0) rfl)) rfl (fun u hu => by rcases List.mem_cons.1 hu with rfl | hu <;> first | rfl | (rw [List.mem_singleton.1 hu]; rfl)) (by omega) (by omega)) rfl (fun _ _ _ h => h.only (.cons _ (.cons _ (.cons _ (.cons _ (.cons _ (.cons_cons _ (List.nil_sublist _)))))))) (fun a33 c33 e33 hr33 => ?_)   -- 33
    refine lt_pure rfl trivial (val_assign rfl) rfl ?_   -- 6
    refine lt_done (into ?_)
    refine sw_region ?_
    refine ow_val (val_add_int ((i + 1 : Nat) : Int) rfl rfl (by omega) (by omega)) rfl ?_   -- 34
    refine ow_val (val_move rfl) rfl ?_   -- 18
    exact ow_nil (fun w hm => ⟨(i + 1, (af30, cf30, ef30), ((Fs ++ [(⟨a26, c26, k1.xs ++ rm⟩ : Sl UInt8)]) ++ [(⟨a30, c30, v1.xs ++ rm⟩ : Sl UInt8)]), es ++ [e26, e30], (a33, c33, e33), (ps ++ [((⟨a26, c26, k1.xs⟩ : Sl UInt8), (⟨a30, c30, v1.xs⟩ : Sl UInt8))])), ⟨by dsimp only; omega, hsp.step (by omega) hx1 hs26 hs30, hf30, by dsimp only; rw [List.length_append]; exact hr33.cong rfl rfl (by rw [List.flatMap_append]; rfl)⟩, by dsimp only; omega, ⟨rfl, rfl, by first | rfl | (rw [hkv]; rfl), by dsimp only; rw [List.length_append] <;> rfl, rfl, rfl, rfl, rfl, trivial⟩, Mem.two3 (H := [e33, some (b2, blk Cop.zero.cells 50), some (b1, blk (o.cells.set 2 (.slice a13 o.P.xs.length c13)) 50)]) (hm.only (.cons _ (.cons_cons _ (.cons_cons _ (.cons_cons _ (.cons_cons _ (.cons _ (.cons_cons _ (.cons_cons _ (.cons_cons _ (List.Sublist.refl _)))))))))))⟩)
  · -- else
    obtain rfl : i = o.pairs.xs.length := by omega
    refine sw_exit (into ?_)
    refine sw_seq ?_
    refine sw_region ?_
    refine ow_val (val_move rfl) rfl ?_   -- 35
    refine ow_val (val_fieldAddr (m := 0) (e := 67) rfl Tryd.underlying50 rfl rfl Tryd.sizeOf43 rfl) rfl ?_   -- 36
    refine ow_do (does_store 4 rfl rfl rfl rfl Tryd.sizeOf43 (by rw [List.length_set]; rw [Cop.cells_len ho]; decide)) (fun _ _ => ?_)
    refine ow_nil (into ?_)
    refine sw_seq ?_
    refine sw_region ?_
    refine ow_make (acts_buildSlice (cs := [].flatten) Tryd.underlying45 Tryd.sizeOf27 zD rfl rfl (fill_aggs [] (by decide) rfl (fun _ h => by cases h))) rfl (fun b37 hb37 => ?_)   -- 37
    refine ow_val (val_fieldAddr (m := 0) (e := 69) rfl Tryd.underlying50 rfl rfl Tryd.sizeOf45 rfl) rfl ?_   -- 38
    refine ow_val (val_load_at 5 rfl rfl Tryd.isAgg45 (by rw [List.getElem?_set_ne (by decide), List.getElem?_set_ne (by decide)]; exact Cop.c69 ho)) rfl ?_   -- 39
    refine ow_append' (k := 0 + o.kids.xs.length) (acts_append (size := 32) (bytes := 32) 0 rfl rfl rfl (RowE.full (n := 0) (size := 32) rfl (by decide)) rfl Tryd.underlying45 hDi hDz hDsz hDby rfl (by decide) (fun w hm => ho.kr.mem hm) (flatMap_size o.kids.xs (fun x hx => by rw [List.length_map]; exact ho.ke x hx)) (one_dgs _) (by omega) (by omega)) rfl (fun a40 c40 e40 hr40 => ?_)   -- 40
    rw [Nat.zero_add] at hr40 ⊢
    have hr40' : RowE (.slice a40 o.kids.xs.length c40) 27 32 o.kids.xs.length (o.kids.xs.flatMap fun d => d.map vU8) e40 := hr40
    refine ow_val (val_fieldAddr (m := 0) (e := 69) rfl Tryd.underlying50 rfl rfl Tryd.sizeOf45 rfl) rfl ?_   -- 41
    refine ow_do (does_store 5 rfl rfl rfl rfl Tryd.sizeOf45 (by rw [List.length_set, List.length_set, Cop.cells_len ho]; decide)) (fun _ _ => ?_)
    have hQ : (((o.cells.set 2 (.slice a13 o.P.xs.length c13)).set 67 (.slice ap ps.length cp)).set 69 (.slice a40 o.kids.xs.length c40)) = (qOf o (⟨a13, c13, o.P.xs⟩ : Sl UInt8) (⟨ap, cp, ps⟩ : Sl (Sl UInt8 × Sl UInt8)) (⟨a40, c40, o.kids.xs⟩ : Sl (List UInt8))).cells := by
      have h1 : ((o.cells.set 2 (.slice a13 o.P.xs.length c13)).set 67 (.slice ap ps.length cp)) = (qOf o (⟨a13, c13, o.P.xs⟩ : Sl UInt8) (⟨ap, cp, ps⟩ : Sl (Sl UInt8 × Sl UInt8)) o.kids).cells := qOf_pairs ho.ll ho.rl ⟨a13, c13, o.P.xs⟩ ⟨ap, cp, ps⟩ o.kids
      rw [h1]; exact qOf_kids ho.ll ho.rl _ _ ⟨a40, c40, o.kids.xs⟩
    have hQl : (qOf o (⟨a13, c13, o.P.xs⟩ : Sl UInt8) (⟨ap, cp, ps⟩ : Sl (Sl UInt8 × Sl UInt8)) (⟨a40, c40, o.kids.xs⟩ : Sl (List UInt8))).cells.length = 135 := by rw [← hQ, List.length_set, List.length_set, List.length_set, Cop.cells_len ho]
    refine ow_nil (into ?_)
    refine sw_seq ?_
    refine sw_region_tree (Mem w [] [some (b4, blk [.slice af Fs.length cf] 32), some (b1, blk (((o.cells.set 2 (.slice a13 o.P.xs.length c13)).set 67 (.slice ap ps.length cp)).set 69 (.slice a40 o.kids.xs.length c40)) 50)]) [] (.one 0 1 (.one 1 1 (.one 2 2 (.one 3 0 .done)))) (by kernel_rfl) (by kernel_rfl) (fun _ _ _ h => h) (fun _ h => h.only (.cons _ (.cons_cons _ (.cons _ (.cons _ (.cons _ (.cons_cons _ (List.nil_sublist _)))))))) (fun _ h => h.drawn _) ?_
    refine lt_held rfl trivial ((val_load_all 1 rfl rfl Tryd.isAgg50 Tryd.sizeOf50 (by rw [hQ]; exact hQl)).to (v' := .agg (qOf o (⟨a13, c13, o.P.xs⟩ : Sl UInt8) (⟨ap, cp, ps⟩ : Sl (Sl UInt8 × Sl UInt8)) (⟨a40, c40, o.kids.xs⟩ : Sl (List UInt8))).cells.toArray) (by rw [hQ])) rfl ?_   -- 42
    refine lt_held rfl trivial (val_load_at 0 rfl rfl Tryd.isAgg32 rfl) rfl ?_   -- 43
    refine lt_do rfl trivial (does_store_all 4 rfl rfl rfl (Cop.one (o := (qOf o (⟨a13, c13, o.P.xs⟩ : Sl UInt8) (⟨ap, cp, ps⟩ : Sl (Sl UInt8 × Sl UInt8)) (⟨a40, c40, o.kids.xs⟩ : Sl (List UInt8))))) Tryd.sizeOf50 hQl rfl) (fun _ _ _ _ h => h.only (.cons _ (.cons_cons _ (.cons _ (.cons _ (.cons _ (.cons_cons _ (List.nil_sublist _)))))))) (fun _ _ => ?_)
    refine lt_pure rfl trivial (val_assign rfl) rfl ?_   -- 3
    refine lt_done (into ?_)
    exact sw_ret (fun w hm => ret_cell_two 4 rfl rfl rfl hm rfl Tryd.isAgg50 Tryd.sizeOf50 hQl ⟨(⟨a13, c13, o.P.xs⟩, ⟨ap, cp, ps⟩, ⟨a40, c40, o.kids.xs⟩, (af, cf, ef), Fs, ep, e40, es), rfl, ⟨hsp, rfl, hrf, hrp, hr40'⟩, (hm.only (.cons_cons _ (.cons _ (.cons_cons _ (.cons_cons _ (.cons _ (.cons _ (List.Sublist.refl _)))))))).perm (List.perm_middle (l₁ := [ef, ep]))⟩)
end Go.Proofs.YtpmnhmfahgchgaaDoor
