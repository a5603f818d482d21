/- A PLAY OF THE BATON: what the row rests on. -/
import Derived.Test.YtjiajflhfnmkmaaPg
import Derived.Test.YtjiajflhfnmkmaaPj
set_option linter.unusedVariables false
set_option linter.unusedSimpArgs false
set_option linter.unusedSectionVars false
section
namespace Go.Sx
variable [Gnd]
open Go.Conc Go.Proofs
instance : Ord 3 := ⟨rfl⟩
instance : Ord 4 := ⟨rfl⟩
instance : Ord 5 := ⟨rfl⟩
instance : Ord 22 := ⟨rfl⟩
instance : IsSl Try.prog 22 := ⟨_, Try.underlying22⟩
instance : OrdSl Try.prog 22 := OrdSl.mk' Try.underlying22 rfl
instance : Ord 23 := ⟨rfl⟩
instance : IsSl Try.prog 23 := ⟨_, Try.underlying23⟩
instance : OrdSl Try.prog 23 := OrdSl.mk' Try.underlying23 rfl
instance : Ord 24 := ⟨rfl⟩
instance : Ord 27 := ⟨rfl⟩
instance : Ord 28 := ⟨rfl⟩
instance : IsSl Try.prog 28 := ⟨_, Try.underlying28⟩
instance : OrdSl Try.prog 28 := OrdSl.mk' Try.underlying28 rfl
instance : Ord 31 := ⟨rfl⟩
instance : IsSl Try.prog 31 := ⟨_, Try.underlying31⟩
instance : OrdSl Try.prog 31 := OrdSl.mk' Try.underlying31 rfl
instance : Ord 32 := ⟨rfl⟩
instance : IsSl Try.prog 32 := ⟨_, Try.underlying32⟩
instance : OrdSl Try.prog 32 := OrdSl.mk' Try.underlying32 rfl
instance : Ord 33 := ⟨rfl⟩
instance : IsSl Try.prog 33 := ⟨_, Try.underlying33⟩
instance : OrdSl Try.prog 33 := OrdSl.mk' Try.underlying33 rfl
instance : Ord 35 := ⟨rfl⟩
instance : Ord 40 := ⟨rfl⟩
instance : Ord 43 := ⟨rfl⟩
instance : Ord 44 := ⟨rfl⟩
instance : Ord 45 := ⟨rfl⟩
instance : Ord 46 := ⟨rfl⟩
instance : Ord 49 := ⟨rfl⟩
instance : IsSl Try.prog 49 := ⟨_, Try.underlying49⟩
instance : OrdSl Try.prog 49 := OrdSl.mk' Try.underlying49 rfl
instance : Ord 53 := ⟨rfl⟩
instance : Ord 56 := ⟨rfl⟩
instance : Ord 58 := ⟨rfl⟩
instance : IsSl Try.prog 58 := ⟨_, Try.underlying58⟩
instance : OrdSl Try.prog 58 := OrdSl.mk' Try.underlying58 rfl
instance : Ord 61 := ⟨rfl⟩
instance : Ord 63 := ⟨rfl⟩
instance : IsSl Try.prog 63 := ⟨_, Try.underlying63⟩
instance : OrdSl Try.prog 63 := OrdSl.mk' Try.underlying63 rfl
instance : Ord 64 := ⟨rfl⟩
instance : Ord 66 := ⟨rfl⟩
instance : Ord 68 := ⟨rfl⟩
instance : Ord 70 := ⟨rfl⟩
instance : Ord 81 := ⟨rfl⟩
instance : IsSl Try.prog 81 := ⟨_, Try.underlying81⟩
instance : Ord 83 := ⟨rfl⟩
instance : Ord 88 := ⟨rfl⟩
instance : Ord 95 := ⟨rfl⟩
instance : OkF Try.prog 35 0 := OkF.of Try.underlying35 rfl rfl Try.sizeOf22
instance : OkF Try.prog 35 1 := OkF.of Try.underlying35 rfl rfl Try.sizeOf23
instance : OkF Try.prog 35 2 := OkF.of Try.underlying35 rfl rfl Try.sizeOf31
instance : OkF Try.prog 35 3 := OkF.of Try.underlying35 rfl rfl Try.sizeOf31
instance : OkF Try.prog 35 4 := OkF.of Try.underlying35 rfl rfl Try.sizeOf32
instance : OkF Try.prog 35 5 := OkF.of Try.underlying35 rfl rfl Try.sizeOf33
instance : OkF Try.prog 40 0 := OkF.of Try.underlying40 rfl rfl Try.sizeOf22
instance : OkF Try.prog 40 1 := OkF.of Try.underlying40 rfl rfl Try.sizeOf32
instance : OkF Try.prog 40 2 := OkF.of Try.underlying40 rfl rfl Try.sizeOf23
instance : OkF Try.prog 43 0 := OkF.of Try.underlying43 rfl rfl Try.sizeOf3
instance : OkF Try.prog 43 1 := OkF.of Try.underlying43 rfl rfl Try.sizeOf4
instance : OkF Try.prog 56 0 := OkF.of Try.underlying56 rfl rfl Try.sizeOf3
instance : OkF Try.prog 56 1 := OkF.of Try.underlying56 rfl rfl Try.sizeOf3
instance : OkF Try.prog 61 0 := OkF.of Try.underlying61 rfl rfl Try.sizeOf3
instance : OkF Try.prog 61 1 := OkF.of Try.underlying61 rfl rfl Try.sizeOf3
instance : OkF Try.prog 66 0 := OkF.of Try.underlying66 rfl rfl Try.sizeOf3
instance : OkF Try.prog 66 1 := OkF.of Try.underlying66 rfl rfl Try.sizeOf4
instance : OkF Try.prog 70 0 := OkF.of Try.underlying70 rfl rfl Try.sizeOf4
instance : OkF Try.prog 70 1 := OkF.of Try.underlying70 rfl rfl Try.sizeOf4
instance : FnOk Try.prog 3 := ⟨_, Try.func3, rfl, by decide⟩
instance : FnOk Try.prog 4 := ⟨_, Try.func4, rfl, by decide⟩
instance : FnOk Try.prog 5 := ⟨_, Try.func5, rfl, by decide⟩
instance : FnOk Try.prog 6 := ⟨_, Try.func6, rfl, by decide⟩
instance : FnOk Try.prog 7 := ⟨_, Try.func7, rfl, by decide⟩
instance : FnOk Try.prog 8 := ⟨_, Try.func8, rfl, by decide⟩
instance : FnOk Try.prog 9 := ⟨_, Try.func9, rfl, by decide⟩
instance : FnOk Try.prog 10 := ⟨_, Try.func10, rfl, by decide⟩
instance : FnOk Try.prog 11 := ⟨_, Try.func11, rfl, by decide⟩
instance : FnOk Try.prog 12 := ⟨_, Try.func12, rfl, by decide⟩
instance : FnOk Try.prog 13 := ⟨_, Try.func13, rfl, by decide⟩
instance : FnOk Try.prog 14 := ⟨_, Try.func14, rfl, by decide⟩
instance : FnOk Try.prog 15 := ⟨_, Try.func15, rfl, by decide⟩
instance : FnOk Try.prog 16 := ⟨_, Try.func16, rfl, by decide⟩
instance : FnOk Try.prog 17 := ⟨_, Try.func17, rfl, by decide⟩
instance : FnOk Try.prog 18 := ⟨_, Try.func18, rfl, by decide⟩
instance : FnOk Try.prog 19 := ⟨_, Try.func19, rfl, by decide⟩
instance : FnOk Try.prog 20 := ⟨_, Try.func20, rfl, by decide⟩
instance : FnOk Try.prog 21 := ⟨_, Try.func21, rfl, by decide⟩
instance : FnOk Try.prog 22 := ⟨_, Try.func22, rfl, by decide⟩
instance : FnOk Try.prog 23 := ⟨_, Try.func23, rfl, by decide⟩
instance : FnOk Try.prog 24 := ⟨_, Try.func24, rfl, by decide⟩
instance : FnOk Try.prog 25 := ⟨_, Try.func25, rfl, by decide⟩
instance : FnOk Try.prog 26 := ⟨_, Try.func26, rfl, by decide⟩
instance : FnOk Try.prog 27 := ⟨_, Try.func27, rfl, by decide⟩
instance : FnOk Try.prog 28 := ⟨_, Try.func28, rfl, by decide⟩
instance : FnOk Try.prog 30 := ⟨_, Try.func30, rfl, by decide⟩
instance : FnOk Try.prog 31 := ⟨_, Try.func31, rfl, by decide⟩
instance : FnOk Try.prog 32 := ⟨_, Try.func32, rfl, by decide⟩
instance : FnOk Try.prog 34 := ⟨_, Try.func34, rfl, by decide⟩
instance : FnOk Try.prog 35 := ⟨_, Try.func35, rfl, by decide⟩
instance : FnOk Try.prog 36 := ⟨_, Try.func36, rfl, by decide⟩
instance : FnOk Try.prog 37 := ⟨_, Try.func37, rfl, by decide⟩
instance : FnOk Try.prog 38 := ⟨_, Try.func38, rfl, by decide⟩
instance : FnOk Try.prog 39 := ⟨_, Try.func39, rfl, by decide⟩
instance : FnOk Try.prog 54 := ⟨_, Try.func54, rfl, by decide⟩
instance : FnOk Try.prog 60 := ⟨_, Try.func60, rfl, by decide⟩
instance : FnOk Try.prog 61 := ⟨_, Try.func61, rfl, by decide⟩
instance : FnOk Try.prog 62 := ⟨_, Try.func62, rfl, by decide⟩
instance : FnOk Try.prog 63 := ⟨_, Try.func63, rfl, by decide⟩
instance : FnOk Try.prog 64 := ⟨_, Try.func64, rfl, by decide⟩
instance : FnOk Try.prog 65 := ⟨_, Try.func65, rfl, by decide⟩
instance : FnOk Try.prog 66 := ⟨_, Try.func66, rfl, by decide⟩
instance : FnOk Try.prog 67 := ⟨_, Try.func67, rfl, by decide⟩
end Go.Sx
end
section
namespace Go.Sx
variable [Gnd]
section
variable {P : Program} [C : Co P] {n : Nat} {F : Fr} {S : World → Prop} {ty : TypeId} {w0 : World} {olds : List Nat} {l : List Ent}
omit C in
theorem does_store_to {T U : TypeId} {x y : Operand} {b k : Nat} {v : Value} {xs : List Value} (xs' : List Value) (i : Nat) (hx : ev F x = some (.pointer (some ⟨b, k, none⟩))) (hy : ev F y = some v)
    (hp : pick l i = some (b, blk xs U)) (h1 : v.oneCell' = true) (hS : ∀ w, (sizeOf T).run P w = .ok 1 w) (hk : k < xs.length) (he : xs.set k v = xs') :
    Does P n F (Mem w0 olds l) (.store T x y) ty (fun _ w' => Mem w0 olds (upd l i (some (b, blk xs' U))) w') := by
  subst he; exact does_store i hx hy hp h1 hS hk
omit C in
theorem does_store_agg_to {T U : TypeId} {x y : Operand} {b o m : Nat} {cs xs : List Value} (xs' : List Value) (i : Nat) (hx : ev F x = some (.pointer (some ⟨b, o, none⟩))) (hy : ev F y = some (.agg cs.toArray))
    (hp : pick l i = some (b, blk xs U)) (h1 : ∀ v ∈ cs, v.oneCell' = true) (hS : ∀ w, (sizeOf T).run P w = .ok m w) (hl : cs.length = m) (hk : o + m ≤ xs.length) (he : xs.take o ++ cs ++ xs.drop (o + m) = xs') :
    Does P n F (Mem w0 olds l) (.store T x y) ty (fun _ w' => Mem w0 olds (upd l i (some (b, blk xs' U))) w') := by
  subst he; exact does_store_agg i hx hy hp h1 hS hl hk
omit C in
/-- A whole block written over. -/
theorem does_store_all {T U : TypeId} {x y : Operand} {b m : Nat} {cs xs : List Value} (i : Nat) (hx : ev F x = some (.pointer (some ⟨b, 0, none⟩))) (hy : ev F y = some (.agg cs.toArray))
    (hp : pick l i = some (b, blk xs U)) (h1 : ∀ v ∈ cs, v.oneCell' = true) (hS : ∀ w, (sizeOf T).run P w = .ok m w) (hl : cs.length = m) (hk : xs.length = m) :
    Does P n F (Mem w0 olds l) (.store T x y) ty (fun _ w' => Mem w0 olds (upd l i (some (b, blk cs U))) w') :=
  does_store_agg_to cs i hx hy hp h1 hS hl (by omega) (by simp [List.drop_eq_nil_of_le (Nat.le_of_eq hk)])
theorem ow_do_eq {ops : Array Oper} {op : Op} {ps : String} {af : Array Edge} {rest : List Oper} {M M' : World → Prop} {Q : Po}
    (hv : Does P n F M op ty (fun _ w' => M' w'))
    (h : OW P n ops rest F M' Q) [hM' : Stb M] (hT : Tame P n F op ty := by infer_instance) : OW P n ops (⟨none, op, ty, ps, af, none⟩ :: rest) F M Q := ow_do (hT := hT) hv (fun _ _ => h)
/-- An append to a row of its own. -/
theorem ow_append {ops : Array Oper} {t : Nat} {op : Op} {ps : String} {af : Array Edge} {rest : List Oper} {M : World → Prop} {Q : Po} {E : TypeId} {size k idx : Nat} {xs : List Value}
    (hv : Acts P n F M op ty (fun _ u w' => ∃ e', RowE u E size k xs e' ∧ Mem w0 olds (upd l idx e') w')) (ht : Nat.blt t n = true)
    (h : ∀ u e', RowE u E size k xs e' → OW P n ops rest ((t, u) :: F) (Mem w0 olds (upd l idx e')) Q) [hM' : Stb M] (hT : Tame P n F op ty := by infer_instance) : OW P n ops (⟨some t, op, ty, ps, af, none⟩ :: rest) F M Q := by
  refine ow_act (hT := hT) hv ht (fun w u hm => ?_)
  rintro a₁ w₁ hf ⟨w', ⟨e', hr, hm'⟩, hr_⟩
  exact h u e' hr a₁ w₁ hf ⟨w', hm', hr_⟩
omit C in
/-- A cut behind the k-th element. -/
theorem val_slice_lo {T E : TypeId} {x y : Operand} {b o len cap m : Nat} {kl : IntKind} {i : Int} (k : Nat) (hx : ev F x = some (.slice (some ⟨b, o, none⟩) len cap)) (hy : ev F y = some (.int kl i)) (hT : P.underlying T = some (.slice E)) (hS : ∀ w, (sizeOf E).run P w = .ok m w)
    (hi : i = (k : Int)) (hk : k ≤ len) (hc : len ≤ cap) : Val P n F S (.slice T x (some y) none none) ty (.slice (some ⟨b, if cap = k then o else o + k * m, none⟩) (len - k) (cap - k)) := by
  subst hi
  refine val_slice (lk := kl) (hk := .i64) (some k) none _ hx hT hS (fun s hs => by simp [ev_eval hs hy]) (fun s hs => rfl) ⟨hk, hc⟩ ?_
  simp only [Option.getD_some, Option.getD_none]
  split <;> simp [add_none]
omit C in
theorem val_slice_hi {T E : TypeId} {x y : Operand} {a : Option Addr} {len cap m : Nat} {kl : IntKind} {i : Int} (k : Nat) (hx : ev F x = some (.slice a len cap)) (hy : ev F y = some (.int kl i)) (hT : P.underlying T = some (.slice E)) (hS : ∀ w, (sizeOf E).run P w = .ok m w)
    (hi : i = (k : Int)) (hk : k ≤ cap) : Val P n F S (.slice T x none (some y) none) ty (.slice a k cap) := by
  subst hi
  refine val_slice (lk := .i64) (hk := kl) none (some k) _ hx hT hS (fun s hs => rfl) (fun s hs => by simp [ev_eval hs hy]) ⟨Nat.zero_le _, hk⟩ ?_
  simp only [Option.getD_some, Option.getD_none, Nat.sub_zero, Nat.zero_mul]
  split
  · rfl
  · cases a with
    | none => rfl
    | some ad => simp [Addr.add]
omit C in
/-- What is left behind a cut. -/
theorem Rd.drop {w : World} {b o : Nat} {xs : List Value} (h : Rd w (some ⟨b, o, none⟩) xs) {k m c len : Nat} (hl : xs.length = len * m) (hk : k ≤ len) (hc : len ≤ c) : Rd w (some ⟨b, if c = k then o else o + k * m, none⟩) (xs.drop (k * m)) := by
  split
  · rename_i e
    have : k = len := by omega
    subst this
    rw [List.drop_eq_nil_of_le (by omega)]; exact Rd.nil _ _
  · exact h.sub (k * m) (by rw [List.take_of_length_le (Nat.le_refl _)])
omit C in
/-- The bytes of a block are read. -/
theorem Rd.blk {w : World} {b : Nat} {xs : List Value} {T : TypeId} (h : w.heap[b]? = some (blk xs T)) : Rd w (some ⟨b, 0, none⟩) xs := fun j x hj => ⟨b, 0, rfl, by rw [Nat.zero_add, cell_of_blk h]; exact hj⟩
end
end Go.Sx
end
section
namespace Go.Bt
variable [Gnd]
open Go.Conc Go.ConcN Go.RowKit Go.Proofs
open Go.Sx (Rly RV pz pzo pz_heap spec isWg Gud Co Lf Stb Fits Pt ReI ev ev_eval CallI callI_of_pt pt_seq pt_region pt_regionEnd pt_val pt_false pt_true pt_skip pt_ret pt_do val_move val_assign val_load val_nilCheck val_fieldAddr tame_nilCheck Mem blk res_slot)
open Go.ConcN (sumTo upd sumTo_upd upd_ne upd_same sumTo_congr)
noncomputable def c32a : Code := match Try.f32.body with
  | some (.seq _ (.seq _ (.seq _ (.seq c _)))) => c
  | _ => .skip
noncomputable def ops32 : Array Oper := match c32a with
  | .region _ l _ => l
  | _ => #[]
noncomputable def ops32a : Array Oper := match Try.f32.body with
  | some (.seq _ (.seq _ (.seq (.region _ l _) _))) => l
  | _ => #[]
noncomputable def rest32 : Code := match Try.f32.body with
  | some (.seq _ (.seq _ (.seq _ (.seq _ c)))) => c
  | _ => .skip
/-- At its receive. -/
noncomputable def lrec (b : Frame) (a : Act) (cs : List Frame) : Goroutine := G (b.at a [.inRegion ops32 [7, 8, 9], .code rest32]) cs
set_option maxRecDepth 100000 in
set_option maxHeartbeats 1000000 in
theorem let_sits {b : Frame} {cs : List Frame} {F : Go.Sx.Fr} {a : Act} {e : Ent} {ops : Array Oper} (hb : b.kind ≠ .early) (hf : Fits 33 F a) (h0 : Go.Sx.look F 0 = some (vPtr e.A)) :
    ∃ a', Fits 33 ((24, vCh e.bk) :: (23, .pointer (some ⟨e.T, 1, none⟩)) :: (22, vPtr e.T) :: (21, vPtr e.T) :: (20, .pointer (some ⟨e.A, 0, none⟩)) :: (19, vPtr e.A) :: (18, vPtr e.A) :: F) a' ∧ Sits Try.prog true (StC (Lb e)) (StL (Lb e)) (e.A + e.T + 1) (Seat.one e.bk (vWord false false) false (· = lrec b a' cs)) 11 (G (b.at a [.inRegion ops [], .code (.seq c32a rest32)]) cs) := by
  have hA : (cA e 0, vPtr e.T) ∈ Lb e := List.mem_cons_self ..
  have hT : (cT e 1, vCh e.bk) ∈ Lb e := List.mem_cons_of_mem _ (List.mem_cons_self ..)
  generalize h1 : a.put (some 18) (vPtr e.A) = a1
  generalize h2 : a1.put (some 19) (vPtr e.A) = a2
  generalize h3 : a2.put (some 20) (.pointer (some ⟨e.A, 0, none⟩)) = a3
  generalize h4 : a3.put (some 21) (vPtr e.T) = a4
  generalize h5 : a4.put (some 22) (vPtr e.T) = a5
  generalize h6 : a5.put (some 23) (.pointer (some ⟨e.T, 1, none⟩)) = a6
  generalize h7 : a6.put (some 24) (vCh e.bk) = a7
  have e0 : a.eval (.tmp 0) = vPtr e.A := ev_eval hf (x := .tmp 0) h0
  have f1 := hf.put (t := 18) rfl (vPtr e.A); rw [h1] at f1
  have f2 := f1.put (t := 19) rfl (vPtr e.A); rw [h2] at f2
  have f3 := f2.put (t := 20) rfl (.pointer (some ⟨e.A, 0, none⟩)); rw [h3] at f3
  have f4 := f3.put (t := 21) rfl (vPtr e.T); rw [h4] at f4
  have f5 := f4.put (t := 22) rfl (vPtr e.T); rw [h5] at f5
  have f6 := f5.put (t := 23) rfl (.pointer (some ⟨e.T, 1, none⟩)); rw [h6] at f6
  have f7 := f6.put (t := 24) rfl (vCh e.bk); rw [h7] at f7
  refine ⟨a7, f7, .inl ⟨10, default, rfl, ?_⟩⟩
  refine goes_ctl' rfl (fun _ => stepG_region_end) fun w => ?_
  refine goes_ctl' rfl (fun _ => stepG_seq) fun w => ?_
  refine goes_ctl' rfl (fun _ => stepG_region) fun w => ?_
  refine goes_v (v := vPtr e.A) (es := #[]) rfl rfl hb (fun w _ => (rt_move (x := .tmp 0) w).trans (by rw [e0])) (fun _ h => by simp at h) fun w => ?_
  show Goes _ _ _ _ _ _ (G (b.at (a.put (some 18) (vPtr e.A)) _) cs) w
  rw [h1]
  refine goes_v (v := vPtr e.A) (es := #[]) rfl rfl hb (fun w _ => rt_nil (x := .tmp 18) (ev_eval f1 rfl) w) (fun _ h => by simp at h) fun w => ?_
  show Goes _ _ _ _ _ _ (G (b.at (a1.put (some 19) (vPtr e.A)) _) cs) w
  rw [h2]
  refine goes_v (v := .pointer (some ⟨e.A, 0, none⟩)) (es := #[]) rfl rfl hb (fun w _ => rt_field (x := .tmp 19) (f := 0) (e := 0) (ev_eval f2 rfl) Try.underlying85 rfl rfl Try.sizeOf44 rfl w) (fun _ h => by simp at h) fun w => ?_
  show Goes _ _ _ _ _ _ (G (b.at (a2.put (some 20) (.pointer (some ⟨e.A, 0, none⟩))) _) cs) w
  rw [h3]
  refine goes_v (v := vPtr e.T) (es := #[⟨.cell (cA e 0), false, false⟩]) rfl rfl hb (fun w hk => rt_load (x := .tmp 20) (ad := cA e 0) (ev_eval f3 rfl) Try.isAgg44 (hk _ hA)) (fun ev h => by
    simp only [List.mem_toArray, List.mem_cons, List.not_mem_nil, or_false] at h
    subst h; exact evC_read _ ⟨_, hA, rfl⟩ (by simp only [cA]; omega)) fun w => ?_
  show Goes _ _ _ _ _ _ (G (b.at (a3.put (some 21) (vPtr e.T)) _) cs) w
  rw [h4]
  refine goes_v (v := vPtr e.T) (es := #[]) rfl rfl hb (fun w _ => rt_nil (x := .tmp 21) (ev_eval f4 rfl) w) (fun _ h => by simp at h) fun w => ?_
  show Goes _ _ _ _ _ _ (G (b.at (a4.put (some 22) (vPtr e.T)) _) cs) w
  rw [h5]
  refine goes_v (v := .pointer (some ⟨e.T, 1, none⟩)) (es := #[]) rfl rfl hb (fun w _ => rt_field (x := .tmp 22) (f := 1) (e := 1) (ev_eval f5 rfl) Try.underlying48 rfl rfl Try.sizeOf46 rfl w) (fun _ h => by simp at h) fun w => ?_
  show Goes _ _ _ _ _ _ (G (b.at (a5.put (some 23) (.pointer (some ⟨e.T, 1, none⟩))) _) cs) w
  rw [h6]
  refine goes_v (v := vCh e.bk) (es := #[⟨.cell (cT e 1), false, false⟩]) rfl rfl hb (fun w hk => rt_load (x := .tmp 23) (ad := cT e 1) (ev_eval f6 rfl) Try.isAgg46 (hk _ hT)) (fun ev h => by
    simp only [List.mem_toArray, List.mem_cons, List.not_mem_nil, or_false] at h
    subst h; exact evC_read _ ⟨_, hT, rfl⟩ (by simp only [cT]; omega)) fun w => ?_
  show Goes _ _ _ _ _ _ (G (b.at (a6.put (some 24) (vCh e.bk)) _) cs) w
  rw [h7]
  refine Goes.stop (fun w₁ h₁ => ⟨_, atIn_of (s := Seat.one e.bk (vWord false false) false (· = lrec b a7 cs)) rfl rfl hb (fun w => ?_) (fun w => ?_) rfl⟩)
  · have e1 := ev_eval f7 (x := .tmp 24) rfl
    show (execOp a7.eval ⟨some 25, .recv 46 (.tmp 24) false, 70, _, _, none⟩).run _ _ = _
    simp only [execOp, e1]
    simp [go_sem, Go.run_underlying Try.underlying46, Try.zeroValue70, Seat.one, rcase, vWord, vCh]
  · have e1 := ev_eval f7 (x := .tmp 24) rfl
    show (execOp a7.eval ⟨some 25, .recv 46 (.tmp 24) false, 70, _, _, none⟩).events _ _ _ = _
    simp only [execOp, e1]
    simp [go_sem, Go.run_underlying Try.underlying46, Try.zeroValue70]
/-- Behind a let. -/
def CS.let' (s : CS) (i : Nat) (pk : Int) (o : Bool) (roles : Nat → Role) (v : World) : CS := { s.after i pk o roles v with oc := upd s.oc i o }
def ownL (e : Ent) (b : Nat) : Prop := ownE e b ∨ b = e.A
def LetT (s : CS) (i : Nat) (e : Ent) (pk : Int) (v : World) (r : Go.Ending) (x' : Option CS) (u : World) : Prop := match r with
  | .returned r => ∃ (m o : Bool) (roles : Nat → Role) (v3 : World), r = .bool m ∧ x' = some (s.let' i pk o roles v3) ∧ (s.let' i pk o roles v3).Wf ∧ KO (s.let' i pk o roles v3) u ∧ KW s.c (ownL e) v u ∧ (pk ≠ -1 → m = s.c.moved s.k ∧ o = s.c.over i (s.k + 1)) ∧ (pk = -1 → o = true)
  | _ => False
theorem wf_oc {s : CS} (h : s.Wf) (oc : Nat → Bool) : ({ s with oc := oc } : CS).Wf := ⟨h.base, h.dist, h.self, h.role, h.rest, h.last, h.pend⟩
theorem ko_oc {s : CS} {v : World} (h : KO s v) (oc : Nat → Bool) : KO ({ s with oc := oc } : CS) v := ⟨h.kept, h.sh, h.foot, h.size⟩
section
variable {s : CS} {Post : Value → World → Prop}
theorem KW.pz_set (hc : s.c.Ok) {own : Nat → Prop} {w : World} (hv : s.c.Rt (pz w)) {ad : Addr} {val : Value} {cs : Array Value} {ty : TypeId} (hb : w.heap[ad.block]? = some (.cells cs ty)) (hs : Go.Sx.ord ty = false) (h8 : (ty == 80) = false) (hsp : spS (.cells cs ty) = true ∨ (cty2 (.cells cs ty) = true ∧ s.c.n0 ≤ ad.block)) (ho : own ad.block) :
    KW s.c own (pz w) (pz (w.setCell ad val)) ∧ OrdK s.c.n0 (pz w) (pz (w.setCell ad val)) := by
  have hk : ∀ (b : Nat) (o : Obj), (pz w).heap[b]? = some o → b ≠ ad.block → (pz (w.setCell ad val)).heap[b]? = some o := fun b o hb hne => by
    rw [pz_heap] at hb ⊢
    rw [set_ne hne]; exact hb
  have h0 : (pz w).heap[ad.block]? = some (pzo (.cells cs ty)) := by rw [pz_heap, hb]; rfl
  have hsp : spS (pzo (.cells cs ty)) = true ∨ (pzo (.cells cs ty)).isChan = true ∨ (cty2 (pzo (.cells cs ty)) = true ∧ s.c.n0 ≤ ad.block) := by
    rcases hsp with h | h
    · exact .inl (by simpa [pzo, hs, h8, spS] using h)
    · exact .inr (.inr ⟨by simpa [pzo, hs, h8, cty2] using h.1, h.2⟩)
  exact ⟨KW.of_one hc hv ho h0 hsp rfl rfl rfl (by rw [Go.Sx.pz_size, Go.Sx.pz_size]; simp [World.setCell]) hk, OrdK.of_one h0 hsp hk⟩
theorem KO.kw (hc : s.c.Ok) {own : Nat → Prop} {v u : World} (h : KO s v) (hk : KW s.c own v u) (ho : OrdK s.c.n0 v u) : KO s u := by
  have hkept : Kept s.c v u := ⟨hk.tape, hk.os, hk.output, hk.size, fun b o hb h1 h2 h3 _ => ho b o hb (spS_of_spec h1) h2 (.inl (cty2_of h1 h3)), hk.grow, hk.rt⟩
  exact ⟨fun i e he hov => (h.kept i e he hov).trans hkept, hc.sh _ _ _ h.sh ho, fun b hb => h.foot b ((hc.foot _ _ hk.rt.1 ho b).2 hb), fun hs => Nat.le_trans (h.size hs) hk.size⟩
set_option maxRecDepth 100000 in
set_option maxHeartbeats 4000000 in
/-- ████ LET, OF AN ACTOR THAT IS NOT OVER. ████ -/
theorem let_callI (hc : s.c.Ok) (hW : s.Wf) {i : Nat} {e : Ent} (hi : s.ents[i]? = some e) (hov : s.ov i = false) (hoc : s.oc i = false) {pk : Int} (hpk : pk = -1 ∨ (pk = s.k ∧ s.k < s.c.K ∧ s.c.who s.k = i ∧ s.c.over i s.k = false)) (hset : s.setup = false) {v : World} (hKO : KO s v) :
    CallI (coPlay Post) 32 #[vPtr e.A, vI pk] (some s) v (LetT s i e pk v) := by
  refine callI_of_pt (vs := [vPtr e.A, vI pk]) Try.func32 rfl rfl fun cf cs h1 h2 => ?_
  refine Pt.imp (M' := fun u => RV v u) (fun u hu => hu ▸ RV.refl _) (pt_know ?_)
  have hact : ∀ {w : World} {k : Nat} {x : Value}, (RV v w ∧ CV s w) → #[vPtr e.T, s.fv i, .bool (s.oc i)][k]? = some x → w.cell? ⟨e.A, k, none⟩ = some x := fun h hx => by
    unfold World.cell?; rw [h.2.act i e hi]; exact hx
  have htur : ∀ {w : World}, (RV v w ∧ CV s w) → w.cell? ⟨e.T, 0, none⟩ = some (vCh e.gr) := fun {w} h => by
    obtain ⟨y, hy⟩ := h.2.turn i e hi
    unfold World.cell?; rw [show w.heap[e.T]? = _ from hy]; rfl
  refine pt_seq (pt_region ?_)
  refine pt_val (by decide) rfl (val_assign (v := .bool false) rfl) rfl ?_
  refine pt_regionEnd (pt_seq (pt_seq (pt_region ?_)))
  refine pt_val (by decide) rfl (val_move (v := vPtr e.A) rfl) rfl ?_
  refine pt_val (by decide) rfl (val_nilCheck (a := ⟨e.A, 0, none⟩) rfl) rfl ?_ (tame_nilCheck rfl)
  refine pt_val (by decide) rfl (val_fieldAddr (b := e.A) (o := 0) (e := 2) rfl Try.underlying85 rfl rfl Try.sizeOf4 rfl) rfl ?_
  refine pt_val (by decide) rfl (val_load rfl Try.isAgg4 (v := .bool false) (fun w h => hact h (by rw [hoc]; rfl))) rfl ?_
  refine pt_regionEnd (pt_false rfl (pt_skip (pt_seq (pt_region ?_))))
  refine pt_val (by decide) rfl (val_move (v := vPtr e.A) rfl) rfl ?_
  refine pt_val (by decide) rfl (val_nilCheck (a := ⟨e.A, 0, none⟩) rfl) rfl ?_ (tame_nilCheck rfl)
  refine pt_val (by decide) rfl (val_fieldAddr (b := e.A) (o := 0) (e := 0) rfl Try.underlying85 rfl rfl Try.sizeOf44 rfl) rfl ?_
  refine pt_val (by decide) rfl (val_load rfl Try.isAgg44 (v := vPtr e.T) (fun w h => hact h rfl)) rfl ?_
  refine pt_val (by decide) rfl (val_nilCheck (a := ⟨e.T, 0, none⟩) rfl) rfl ?_ (tame_nilCheck rfl)
  refine pt_val (by decide) rfl (val_fieldAddr (b := e.T) (o := 0) (e := 0) rfl Try.underlying48 rfl rfl Try.sizeOf45 rfl) rfl ?_
  refine pt_val (by decide) rfl (val_load rfl Try.isAgg45 (v := vCh e.gr) (fun w h => htur h)) rfl ?_
  refine pt_val (by decide) rfl (val_move (v := vI pk) rfl) rfl ?_
  intro a w hf hm
  have hKO' : KO s (pz w) := (let ⟨v', hv', hr⟩ := hm; hKO.rv hc (hv'.1.trans hr))
  obtain ⟨a', hf', hsit⟩ := let_sits (b := Go.Sx.fr0 32) (cs := cf :: cs) (ops := ops32a) (e := e) (by decide) hf rfl
  have hsend : ∀ w₁, Rly w w₁ → CInv s w₁ → stepG Try.prog true (G ((Go.Sx.fr0 32).at a (.inRegion ops32a [8] :: .code (.seq c32a rest32) :: [])) (cf :: cs)) w₁ = .comm (G ((Go.Sx.fr0 32).at a (.inRegion ops32a [8] :: .code (.seq c32a rest32) :: [])) (cf :: cs)) #[scase e.gr (vI pk) (.tuple #[])] true .send w₁ #[] ∧ Gud w₁ w₁ #[] := fun w₁ _ _ => by
    refine ⟨?_, Gud.refl _⟩
    have e1 := ev_eval hf (x := .tmp 16) (v := vCh e.gr) rfl
    have e2 := ev_eval hf (x := .tmp 17) (v := vI pk) rfl
    rw [Go.Conc.stepG_comm (cases := #[scase e.gr (vI pk) (.tuple #[])]) (blocking := true) (shape := .send) (w' := w₁) (o := ⟨none, .send (.tmp 16) (.tmp 17), _, _, _, none⟩) rfl rfl (by decide) (by simp only [execOp, e1, e2]; rfl), listed_none rfl]
  have hserved : Go.Conc.served (G ((Go.Sx.fr0 32).at a (.inRegion ops32a [8] :: .code (.seq c32a rest32) :: [])) (cf :: cs)) undef = G ((Go.Sx.fr0 32).at a (.inRegion ops32a [] :: .code (.seq c32a rest32) :: [])) (cf :: cs) := by
    rw [served_fr, Frame.finish_at]; rfl
  refine ReC.pass hc hW hi hov hpk rfl (es := fun _ => #[]) hsend ⟨11, _, by rw [hserved]; exact hsit⟩ hKO' hset fun m o roles' v3 u hW' hKO2 hI hKW hp1 hp2 => ?_
  have hserved2 : Go.Conc.served (lrec (Go.Sx.fr0 32) a' (cf :: cs)) (recvd false (vWord m o) true) = G ((Go.Sx.fr0 32).at (a'.put (some 25) (vWord m o)) [.inRegion ops32 [8, 9], .code rest32]) (cf :: cs) := by
    unfold lrec
    rw [served_fr, Frame.finish_at]; rfl
  rw [hserved2]
  have hf2 := hf'.put (t := 25) rfl (vWord m o)
  have hKW2 : KW s.c (ownL e) v (pz u) := let ⟨v', hv', hr⟩ := hm; (KW.of_rv hc (hc.rt _ _ hKO.sh) (hv'.1.trans hr)).trans (hKW.weaken fun b hb => .inl hb)
  refine (?_ : Pt (coPlay Post) 33 (Go.Sx.fr0 32) (cf :: cs) (some (s.after i pk o roles' v3)) [.inRegion ops32 [8, 9], .code rest32] _ (Mem (pz u) [] [])) _ u hf2 ⟨_, Mem.refl _, RV.refl _⟩
  refine pt_new (by decide) rfl (Go.Sx.acts_alloc Try.zeroValue70) rfl fun bt hbt => ?_
  refine pt_do (by decide) rfl (Go.Sx.does_store_all 0 (cs := [.bool m, .bool o]) rfl rfl rfl (by intro x hx; simp only [List.mem_cons, List.not_mem_nil, or_false] at hx; rcases hx with rfl | rfl <;> rfl) Try.sizeOf70 rfl rfl) fun w hw => ?_
  refine pt_regionEnd ?_
  show Pt (coPlay Post) 33 _ _ _ [.code (.seq (.region 5 _ false) _)] _ (Mem (pz u) [] [some (bt, blk [.bool m, .bool o] 70)])
  refine pt_seq (pt_region ?_)
  refine pt_val (by decide) rfl (val_move (v := vPtr e.A) rfl) rfl ?_
  refine pt_val (by decide) rfl (val_fieldAddr (b := bt) (o := 0) (e := 1) rfl Try.underlying70 rfl rfl Try.sizeOf4 rfl) rfl ?_
  refine pt_val (by decide) rfl (Go.Sx.val_load_at (v := .bool o) 0 rfl rfl Try.isAgg4 rfl) rfl ?_
  refine pt_val (by decide) rfl (val_nilCheck (a := ⟨e.A, 0, none⟩) rfl) rfl ?_ (tame_nilCheck rfl)
  refine pt_val (by decide) rfl (val_fieldAddr (b := e.A) (o := 0) (e := 2) rfl Try.underlying85 rfl rfl Try.sizeOf4 rfl) rfl ?_
  -- the actor is over, or not
  have hArow : ∀ w, CInv (s.after i pk o roles' v3) w → w.heap[e.A]? = some (.cells #[vPtr e.T, s.fv i, .bool (s.oc i)] 85) := fun w h => h.act i e hi
  haveI : Stb (fun z => (z.heap[bt]? = some (blk [.bool m, .bool o] 70) ∧ KO (s.let' i pk o roles' v3) z) ∧ KW s.c (ownL e) v z) := ⟨fun {z z'} h hr => ⟨⟨hr.heap _ _ h.1.1, KO.rv (s := s.let' i pk o roles' v3) hc h.1.2 hr⟩, h.2.trans (KW.of_rv hc h.2.rt.2 hr)⟩⟩
  refine pt_store_x (s' := s.let' i pk o roles' v3) (M' := fun z => (z.heap[bt]? = some (blk [.bool m, .bool o] 70) ∧ KO (s.let' i pk o roles' v3) z) ∧ KW s.c (ownL e) v z) ⟨rfl, rfl, rfl, rfl, rfl, rfl, rfl⟩ (ad := cA e 2) (.inl ⟨e, List.mem_of_getElem? hi, .inr rfl⟩) rfl (by decide) rfl rfl rfl rfl Try.sizeOf4 (fun w h => ⟨_, _, hArow w h, rfl, by simp [cA]⟩) (fun w h => ?_) (fun w h hM => ?_) ?_
  · -- the sealed blocks
    have hA := hArow w h
    have key : ∀ b', b' ≠ e.A → (w.setCell (cA e 2) (.bool o)).heap[b']? = w.heap[b']? := fun b' hne => set_ne (show b' ≠ (cA e 2).block from hne)
    refine ⟨fun i' e' he' => ?_, fun i' e' he' => ?_, fun hh => ?_, fun x hx => ?_, fun e' he' => ?_, ks_ne h.ks (by simp [World.setCell]) (h.elo e (List.mem_of_getElem? hi)).1 (fun b' hne => key b' hne), h.elo, h.rlo⟩
    · by_cases hii : i' = i
      · subst hii
        have he'' : s.ents[i']? = some e' := he'
        rw [hi] at he''; obtain rfl := Option.some.inj he''
        show (w.setCell (cA e 2) (.bool o)).heap[(cA e 2).block]? = some (.cells #[vPtr e.T, s.fv i', .bool (upd s.oc i' o i')] 85)
        rw [heap_set hA rfl, upd_same]; rfl
      · have hne := (hW.dist i' i e' e he' hi hii).1
        rw [key _ hne]
        show w.heap[e'.A]? = some (.cells #[vPtr e'.T, s.fv i', .bool (upd s.oc i o i')] 85)
        rw [upd_ne _ _ hii]; exact h.act i' e' he'
    · obtain ⟨y, hy⟩ := h.turn i' e' he'
      refine ⟨y, ?_⟩
      unfold TR at hy ⊢
      rw [key _ fun e0 => ?_]
      · exact hy
      · rw [e0, hA, Option.some.injEq] at hy; simp at hy
    · have hr : w.heap[s.Rw]? = some (.cells s.row 82) := h.row hh
      show (w.setCell (cA e 2) (.bool o)).heap[s.Rw]? = some (.cells s.row 82)
      rw [key _ fun e0 => ?_]
      · exact hr
      · rw [e0, hA, Option.some.injEq] at hr; simp at hr
    · have hx : x ∈ s.pend := hx
      rw [hW.pend hset] at hx; cases hx
    · have := h.low e' he'
      simpa [World.setCell] using this
  · -- the ordinary ones
    obtain ⟨kw, ok⟩ := KW.pz_set (s := s) (val := .bool o) hc (own := (· = e.A)) (hc.rtk _ _ hKW2.rt.2 (OrdK.of_rv (Mem.rv hM))) (ad := cA e 2) (hArow w h) rfl rfl (.inl rfl) rfl
    have hu : RV (pz u) (pz w) := Mem.rv hM
    refine ⟨⟨?_, ?_⟩, ?_⟩
    · have hb := hM.own bt _ (List.mem_cons_self ..)
      rw [pz_heap] at hb ⊢
      rw [set_ne]
      · exact hb
      · intro e0
        have e0 : bt = e.A := e0
        rw [e0, hArow w h] at hb
        simp [pzo, Go.Sx.ord, blk] at hb
    · exact ko_oc (KO.kw (s := s.after i pk o roles' v3) hc (KO.rv (s := s.after i pk o roles' v3) hc hKO2 hu) kw ok) _
    · exact (hKW2.trans (KW.of_rv hc hKW2.rt.2 hu)).trans (kw.weaken fun b hb => .inr hb)
  · refine pt_regionEnd (pt_seq (pt_region ?_))
    refine pt_val (by decide) rfl (val_fieldAddr (b := bt) (o := 0) (e := 0) rfl Try.underlying70 rfl rfl Try.sizeOf4 rfl) rfl ?_
    refine pt_val (by decide) rfl (val_load (a := ⟨bt, 0, none⟩) (v := .bool m) rfl Try.isAgg4 (fun w h => by rw [Go.Sx.cell_of_blk h.1.1]; rfl)) rfl ?_
    refine pt_val (by decide) rfl (val_assign (v := .bool m) rfl) rfl ?_
    refine pt_regionEnd ?_
    refine pt_ret (fn := Try.f32) (v := .bool m) Try.func32 rfl (fun a hf => res_slot rfl rfl hf) fun w hw => h1 _ (some (s.let' i pk o roles' v3)) w (hw.mono fun z hz => ?_)
    exact ⟨m, o, roles', v3, rfl, rfl, wf_oc hW' _, hz.1.2, hz.2, hp1, fun h => (hp2 h).2⟩
end
end Go.Bt
end
section
namespace Go.Sx
variable [Gnd]
section
variable {P : Program} [C : Co P] {n : Nat} {F : Fr} {S : World → Prop} {ty : TypeId} {w0 : World} {olds : List Nat} {m : List Ent}
/-- The guard is met. -/
def WG (l : List Oper) (F : Fr) : Option (Nat × Bool) → Prop
  | none => True
  | some (j, b) => ∃ t, ((nth l j).bind (·.dst)) = some t ∧ look F t = some (.bool b)
/-- The guard is not met, or its operation was passed over. -/
def NG (l : List Oper) (F : Fr) : Option (Nat × Bool) → Prop
  | none => False
  | some (j, b) => ∃ t, ((nth l j).bind (·.dst)) = some t ∧ (look F t = some (.bool (!b)) ∨ look F t = some undef)
omit C in
theorem WG.wanted {l : List Oper} {o : Oper} {a : Act} (h : WG l F o.guard) (hf : Fits n F a) : Region.wanted o (yielded l.toArray a.tmps) = true := by
  unfold Region.wanted
  cases hg : o.guard with
  | none => rfl
  | some x =>
    obtain ⟨j, b⟩ := x
    rw [hg] at h
    obtain ⟨t, hd, hy⟩ := h
    simp only [yielded, ← nth_eq, hd, Option.bind_some, hf.has t _ hy]
    cases b <;> rfl
omit C in
theorem NG.wanted {l : List Oper} {o : Oper} {a : Act} (h : NG l F o.guard) (hf : Fits n F a) : Region.wanted o (yielded l.toArray a.tmps) = false := by
  unfold Region.wanted
  cases hg : o.guard with
  | none => rw [hg] at h; cases h
  | some x =>
    obtain ⟨j, b⟩ := x
    rw [hg] at h
    obtain ⟨t, hd, hy | hy⟩ := h
    · simp only [yielded, ← nth_eq, hd, Option.bind_some, hf.has t _ hy]
      cases b <;> rfl
    · simp only [yielded, ← nth_eq, hd, Option.bind_some, hf.has t _ hy, undef]
      cases b <;> rfl
omit C in
theorem ng1 {l : List Oper} {j t : Nat} {b : Bool} (hd : ((nth l j).bind (·.dst)) = some t) (hy : look F t = some (.bool (!b))) : NG l F (some (j, b)) := ⟨t, hd, .inl hy⟩
omit C in
theorem wg {l : List Oper} {j t : Nat} {b : Bool} (hd : ((nth l j).bind (·.dst)) = some t) (hy : look F t = some (.bool b)) : WG l F (some (j, b)) := ⟨t, hd, hy⟩
section
variable {l : List Oper} {late : List Nat} {listed : Array Bool} {M : World → Prop} {Q : Po} {r : List (Nat × Nat)} {i : Nat} {op : Op} {ps : String} {af : Array Edge} {g : Option (Nat × Bool)}
theorem lwg_pure {t : Nat} {v : Value} (ho : nth l i = some ⟨some t, op, ty, ps, af, g⟩) (hg : WG l F g) (hv : Val P n F (fun _ => True) op ty v) (ht : Nat.blt t n = true)
    (h : LW P n l S late r (listed.setIfInBounds i true) ((t, v) :: F) M Q) (hT : Tame P n F op ty := by infer_instance) : LW P n l S late ((i, 0) :: r) listed F M Q :=
  fun a w hf hm => ⟨_, v, (nth_eq l i).symm.trans ho, .inl ⟨WG.wanted (o := ⟨some t, op, ty, ps, af, g⟩) hg hf, hT.tame a hf _ _ _ _, fun w _ => hv a w hf trivial _ _ _ _⟩, h _ w (hf.put ht v) hm⟩
theorem lwg_held {t : Nat} {v : Value} (ho : nth l i = some ⟨some t, op, ty, ps, af, g⟩) (hg : WG l F g) (hv : Val P n F S op ty v) (ht : Nat.blt t n = true)
    (h : LW P n l S late r (listed.setIfInBounds i true) ((t, v) :: F) M Q) (hT : Tame P n F op ty := by infer_instance) : LW P n l S late ((i, 1) :: r) listed F M Q :=
  fun a w hf hm => ⟨_, v, (nth_eq l i).symm.trans ho, .inl ⟨WG.wanted (o := ⟨some t, op, ty, ps, af, g⟩) hg hf, hT.tame a hf _ _ _ _, fun w hw => hv a w hf hw _ _ _ _⟩, h _ w (hf.put ht v) hm⟩
theorem lwg_no {t : Nat} (ho : nth l i = some ⟨some t, op, ty, ps, af, g⟩) (hg : NG l F g) (ht : Nat.blt t n = true)
    (h : LW P n l S late r (listed.setIfInBounds i true) ((t, undef) :: F) M Q) : LW P n l S late ((i, 0) :: r) listed F M Q :=
  fun a w hf hm => ⟨_, undef, (nth_eq l i).symm.trans ho, .inr ⟨NG.wanted (o := ⟨some t, op, ty, ps, af, g⟩) hg hf, rfl⟩, h _ w (hf.put ht undef) hm⟩
theorem wpOpX_wanted {o : Oper} {ops : Array Oper} {Q : Exit → Act → World → Prop} {K : Act → World → Prop} {a : Act} {w : World} (ho : ops[i]? = some o) (hg : Region.wanted o (yielded ops a.tmps) = true) (h : o.wpX P a w K Q) :
    wpOpX P ops Q i K a w := by
  unfold wpOpX
  simp only [ho, hg, if_true]
  exact h
theorem lwg_call {t : Nat} {f : FuncId} {args : Array Value} (R : World → Value → World → Prop) (ho : nth l i = some ⟨some t, op, ty, ps, af, g⟩) (hg : WG l F g) (hv : CallsTo P n F M op ty f args) (ht : Nat.blt t n = true)
    (hc : ∀ w, M w → CallV P f args w fun e w' => ∃ v, e = .returned v ∧ R w v w')
    (hS : clean late (listed.setIfInBounds i true) = true → ∀ w v w', M w → R w v w' → S w')
    (h : ∀ w v, M w → LW P n l S late r (listed.setIfInBounds i true) ((t, v) :: F) (R w v) Q) [hM' : Stb M] (hT : Tame P n F op ty := by infer_instance) (hS' : Stb S := by infer_instance) : LW P n l S late ((i, 2) :: r) listed F M Q := by
  intro a w hf hm
  refine wpOpX_wanted ((nth_eq l i).symm.trans ho) (WG.wanted hg hf) (opX_call hv hT hc hf hm fun u x w' hu hl => ?_)
  exact ⟨fun hc => (let ⟨v', h1, h2⟩ := hl; hS'.stb (hS hc u x v' hu h1) h2), h u x hu _ w' (hf.put ht _) hl⟩
theorem lwg_call_pure {t : Nat} {f : FuncId} {args : Array Value} {v : Value}
    (ho : nth l i = some ⟨some t, op, ty, ps, af, g⟩) (hg : WG l F g) (hv : CallsTo P n F (Mem w0 olds m) op ty f args) (ht : Nat.blt t n = true)
    (hc : ∀ w, Mem w0 olds m w → CallV P f args w fun e w' => ∃ u, e = .returned u ∧ u = v ∧ Mem w [] [] w')
    (h : LW P n l (Mem w0 olds m) late r (listed.setIfInBounds i true) ((t, v) :: F) (Mem w0 olds m) Q) (hT : Tame P n F op ty := by infer_instance) : LW P n l (Mem w0 olds m) late ((i, 2) :: r) listed F (Mem w0 olds m) Q :=
  lwg_call (hT := hT) (fun _ u w' => u = v ∧ Mem w0 olds m w') ho hg hv ht (fun _ hm => (hc _ hm).mono fun _ _ ⟨u, he, hu, hm'⟩ => ⟨u, he, hu, hm.call0 hm'⟩) (fun _ _ _ _ _ hr => hr.2)
    (fun _ u hm a w' hf ⟨u_, ⟨hu, hm'⟩, hr_⟩ => by subst hu; exact h a w' hf ⟨u_, hm', hr_⟩)
end
omit C in
/-- A row's slice. -/
theorem RowE.slice {v : Value} {T : TypeId} {size k : Nat} {xs : List Value} {e : Ent} (h : RowE v T size k xs e) : ∃ a c, v = .slice a k c ∧ k ≤ c := by
  obtain ⟨_, ⟨rfl, rfl, rfl⟩ | ⟨b, cap, rest, rfl, hc, _⟩⟩ := h
  · exact ⟨none, 0, rfl, Nat.le_refl _⟩
  · exact ⟨_, cap, rfl, hc⟩
omit C in
theorem RowE.le {a : Option Addr} {c k size : Nat} {T : TypeId} {xs : List Value} {e : Ent} (h : RowE (.slice a k c) T size k xs e) : k ≤ c := by
  obtain ⟨a', c', e', hc⟩ := h.slice
  simp only [Value.slice.injEq] at e'
  omega
theorem ow_append' {ops : Array Oper} {t : Nat} {op : Op} {ps : String} {af : Array Edge} {rest : List Oper} {M : World → Prop} {Q : Po} {E : TypeId} {size k idx : Nat} {xs : List Value}
    (hv : Acts P n F M op ty (fun _ u w' => ∃ e', RowE u E size k xs e' ∧ Mem w0 olds (upd m idx e') w')) (ht : Nat.blt t n = true)
    (h : ∀ a c e', RowE (.slice a k c) E size k xs e' → OW P n ops rest ((t, .slice a k c) :: F) (Mem w0 olds (upd m idx e')) Q) [hM' : Stb M] (hT : Tame P n F op ty := by infer_instance) : OW P n ops (⟨some t, op, ty, ps, af, none⟩ :: rest) F M Q :=
  ow_append (hT := hT) hv ht fun u e' hr => by
    obtain ⟨a, c, rfl, _⟩ := hr.slice
    exact h a c e' hr
end
end Go.Sx
end
section
namespace Go.Sx
variable [Gnd]
end Go.Sx
end
section
namespace Go.Sx
variable [Gnd]
open Go.Conc Go.Proofs
section
variable [C : Co Try.prog]
noncomputable def r31_3 : Code := match Try.f31.body with
  | some (.seq _ (.seq _ (.seq _ (.seq c _)))) => c
  | _ => .skip
set_option maxRecDepth 100000 in
set_option maxHeartbeats 1000000 in
/-- A move is noted. -/
theorem note_move {w0 : World} {olds : List Nat} {tm : Nat} {mv : Value} {xs : List Value} {k : Nat} {er : Ent} {a : Int} {m : Bool} {F : Fr} (h3 : look F 3 = some (.pointer (some ⟨tm, 0, none⟩))) (h6 : look F 6 = some (vInt a)) (h7 : look F 7 = some (.bool m))
    (hr : RowE mv 43 2 k xs er) (hk : k + 1 ≤ 8796093022208) : SW Try.prog 29 r31_3 F (Mem w0 olds [some (tm, blk [mv] 28), er]) (fun ex F' w => ex = .normal ∧ look F' 7 = some (.bool m) ∧ ∃ mv' er', RowE mv' 43 2 (k + 1) (xs ++ [vInt a, .bool m]) er' ∧ Mem w0 olds [some (tm, blk [mv'] 28), er'] w) := by
  obtain ⟨ti, hi, hz, hsz, hby⟩ : ∃ i, Try.prog.info? 43 = some i ∧ i.zero = some (.agg #[vInt 0, .bool false]) ∧ i.size = 2 ∧ i.bytes = 16 := ⟨_, rfl, rfl, rfl, rfl⟩
  obtain ⟨av, cv, rfl, hkc⟩ := hr.slice
  show SW Try.prog 29 (Code.region 3 _ false) _ _ _
  refine sw_region ?_
  refine ow_val (val_load_at (v := .slice av k cv) 0 (by exact h3) rfl Try.isAgg28 rfl) rfl ?_
  refine ow_val (val_move (v := vInt a) (by exact h6)) rfl ?_
  refine ow_val (val_move (v := .bool m) (by exact h7)) rfl ?_
  refine ow_val (val_build' (parts := _) (vs := [(0, vInt a), (1, .bool m)]) (cs := [vInt a, .bool m]) rfl (by kernel_rfl)) rfl ?_
  refine ow_make (acts_buildSlice (cs := [vInt a, .bool m]) Try.underlying28 Try.sizeOf43 Try.zeroValue43 rfl rfl (by kernel_rfl)) rfl (fun bb hbb => ?_)
  refine ow_append' (k := k + 1) (acts_append (size := 2) (bytes := 16) (ys := [vInt a, .bool m]) 2 rfl rfl rfl hr rfl Try.underlying28 hi hz hsz hby rfl (by decide) (fun w hm => Rd.own hm (i := 0) rfl rfl) rfl (by intro u hu; simp only [List.mem_cons, List.not_mem_nil, or_false] at hu; rcases hu with rfl | rfl <;> rfl) (by omega) (by omega)) rfl (fun a5 c5 e5 hr5 => ?_)
  refine ow_do_eq (does_store_to [.slice a5 (k + 1) c5] 1 (by exact h3) rfl rfl rfl Try.sizeOf28 Nat.zero_lt_one rfl) ?_
  exact ow_nil fun w hw => ⟨rfl, by exact h7, _, e5, hr5, hw.forget⟩
end
end Go.Sx
namespace Go.Bt
variable [Gnd]
open Go.Conc Go.ConcN Go.RowKit Go.Proofs
open Go.Sx (Rly RV pz pzo pz_heap spec isWg Gud Co Lf Stb Fits Pt PtD ReI ev ev_eval CallI callI_of_pt pt_seq pt_region pt_regionEnd pt_val pt_false pt_true pt_skip pt_ret pt_do pt_call pt_draw pt_sw lz_val val_move val_assign val_load val_nilCheck val_fieldAddr tame_nilCheck Mem blk res_slot RowE callsTo vInt tame_int val_rem_int val_add_int val_indexAddr_slice val_len)
open Go.ConcN (sumTo upd sumTo_upd upd_ne upd_same sumTo_congr)
/-- What turns within a play. -/
def CS.turn (s : CS) (roles : Nat → Role) (k : Nat) (last : Nat → Int × World) (ov oc : Nat → Bool) : CS := { s with roles := roles, k := k, last := last, ov := ov, oc := oc }
/-- A play's phase of picks. -/
structure PI (s : CS) : Prop where
  wf : s.Wf
  setup : s.setup = false
  over : ∀ i, i < s.ents.length → s.ov i = s.c.over i s.k ∧ s.oc i = s.ov i
/-- The blocks that a play's machine turns. -/
def ownP (s : CS) (b : Nat) : Prop := ∃ e ∈ s.ents, ownL e b
/-- What a pick leaves. -/
structure Pick1 (s s' : CS) (v u : World) : Prop where
  eq : ∃ roles last ov oc, s' = s.turn roles (s.k + 1) last ov oc
  pi : PI s'
  ko : KO s' u
  kw : KW s.c (ownP s) v u
theorem over_ne {c : Cl} (hc : c.Ok) {i k : Nat} (h : c.who k ≠ i) : c.over i (k + 1) = c.over i k := by
  cases h1 : decide (c.over i (k + 1) = c.over i k) with
  | true => exact of_decide_eq_true h1
  | false => exact absurd (hc.overS i k (of_decide_eq_false h1)).1 h
theorem over_keep {c : Cl} (hc : c.Ok) {i k : Nat} (h : c.over i k = true) : c.over i (k + 1) = true := by
  cases h1 : c.over i (k + 1) with
  | true => rfl
  | false =>
    have := (hc.overS i k (by rw [h1, h]; simp)).2
    rw [h] at this; cases this
section
variable {s : CS} {Post : Value → World → Prop}
theorem ReC.alike {s' : CS} (hal : Alike s s') (hI : ∀ w, CInv s w → CInv s' w) {g : Goroutine} {w : World} (h : ReC s' Post g w) : ReC s Post g w := fun w₁ h₁ hi => hal.core (h w₁ h₁ (hI w₁ hi))
set_option maxRecDepth 100000 in
set_option maxHeartbeats 2000000 in
/-- let, of an actor that is over. -/
theorem let_over {i : Nat} {e : Ent} (hi : s.ents[i]? = some e) (hoc : s.oc i = true) {pk : Int} {v : World} : CallI (coPlay Post) 32 #[vPtr e.A, vI pk] (some s) v (fun r x' u => r = .returned (.bool false) ∧ x' = some s ∧ RV v u) := by
  refine callI_of_pt (vs := [vPtr e.A, vI pk]) Try.func32 rfl rfl fun cf cs h1 h2 => ?_
  refine Pt.imp (M' := fun u => RV v u) (fun u hu => hu ▸ RV.refl _) (pt_know ?_)
  have hact : ∀ {w : World} {k : Nat} {x : Value}, (RV v w ∧ CV s w) → #[vPtr e.T, s.fv i, .bool (s.oc i)][k]? = some x → w.cell? ⟨e.A, k, none⟩ = some x := fun h hx => by
    unfold World.cell?; rw [h.2.act i e hi]; exact hx
  refine pt_seq (pt_region ?_)
  refine pt_val (by decide) rfl (val_assign (v := .bool false) rfl) rfl ?_
  refine pt_regionEnd (pt_seq (pt_seq (pt_region ?_)))
  refine pt_val (by decide) rfl (val_move (v := vPtr e.A) rfl) rfl ?_
  refine pt_val (by decide) rfl (val_nilCheck (a := ⟨e.A, 0, none⟩) rfl) rfl ?_ (tame_nilCheck rfl)
  refine pt_val (by decide) rfl (val_fieldAddr (b := e.A) (o := 0) (e := 2) rfl Try.underlying85 rfl rfl Try.sizeOf4 rfl) rfl ?_
  refine pt_val (by decide) rfl (val_load rfl Try.isAgg4 (v := .bool true) (fun w h => hact h (by rw [hoc]; rfl))) rfl ?_
  refine pt_regionEnd (pt_true rfl (pt_seq (pt_region ?_)))
  refine pt_val (by decide) rfl (val_assign (v := .bool false) rfl) rfl ?_
  refine pt_regionEnd ?_
  exact pt_ret (fn := Try.f32) (v := .bool false) Try.func32 rfl (fun a hf => res_slot rfl rfl hf) fun w hw => h1 _ _ w (hw.mono fun u hu => ⟨rfl, rfl, hu.1⟩)
/-- let, of whoever is picked. -/
theorem let_pick (hc : s.c.Ok) (hP : PI s) {i : Nat} {e : Ent} (hi : s.ents[i]? = some e) (hk : s.k < s.c.K) (hw : s.c.who s.k = i) {v : World} (hKO : KO s v) :
    CallI (coPlay Post) 32 #[vPtr e.A, vI s.k] (some s) v (fun r x' u => r = .returned (.bool (s.c.moved s.k)) ∧ ∃ s', x' = some s' ∧ Pick1 s s' v u) := by
  have hlt : i < s.ents.length := (List.getElem?_eq_some_iff.1 hi).1
  obtain ⟨ho1, ho2⟩ := hP.over i hlt
  cases hov : s.ov i with
  | false =>
    have h := let_callI (Post := Post) hc hP.wf hi hov (ho2.trans hov) (pk := (s.k : Int)) (.inr ⟨rfl, hk, hw, ho1 ▸ hov⟩) hP.setup hKO
    refine h.mono fun r x' u hT => ?_
    cases r with
    | returned r =>
      obtain ⟨m, o, roles, v3, rfl, rfl, hW', hKO', hKW, hmo, _⟩ := hT
      obtain ⟨rfl, rfl⟩ := hmo (by omega)
      refine ⟨rfl, _, rfl, ⟨roles, upd s.last i ((s.k : Int), v3), upd s.ov i (s.c.over i (s.k + 1)), upd s.oc i (s.c.over i (s.k + 1)), ?_⟩, ⟨hW', hP.setup, fun j hj => ?_⟩, hKO', hKW.weaken fun b hb => ⟨e, List.mem_of_getElem? hi, hb⟩⟩
      · simp only [CS.let', CS.after, CS.turn]
        rw [if_neg (by omega)]
      · show upd s.ov i _ j = s.c.over j (if (s.k : Int) = -1 then s.k else s.k + 1) ∧ upd s.oc i _ j = upd s.ov i _ j
        rw [if_neg (by omega)]
        by_cases hji : j = i
        · subst hji; rw [upd_same, upd_same]; exact ⟨rfl, rfl⟩
        · rw [upd_ne _ _ hji, upd_ne _ _ hji, over_ne hc (by rw [hw]; exact fun h => hji h.symm)]
          exact hP.over j hj
    | _ => exact hT.elim
  | true =>
    have h := let_over (s := s) (Post := Post) (pk := (s.k : Int)) (v := v) hi (ho2.trans hov)
    have hover : s.c.over (s.c.who s.k) s.k = true := by rw [hw, ← ho1]; exact hov
    intro w hrv cf cs h1 h2
    refine h w hrv cf cs (fun r x' u hl => ?_) (fun ch x' u hl => ?_)
    · obtain ⟨z, ⟨hr, rfl, hz⟩, hr2⟩ := hl
      cases hr
      show ReC s Post (G (cf.finish (.bool false)) cs) u
      refine ReC.alike (s := s) (s' := s.turn s.roles (s.k + 1) s.last s.ov s.oc) ⟨rfl, rfl, rfl, rfl, rfl, rfl, rfl⟩ (fun w h => h.same rfl rfl rfl rfl rfl rfl rfl) ?_
      refine h1 (.bool false) (some _) u ⟨z, ⟨by rw [hc.mvd _ hover], _, rfl, ⟨s.roles, s.last, s.ov, s.oc, rfl⟩, ⟨⟨hP.wf.base, hP.wf.dist, hP.wf.self, hP.wf.role, hP.wf.rest, fun j e' he' ho' => ?_, hP.wf.pend⟩, hP.setup, fun j hj => ?_⟩, ?_, KW.of_rv hc (hc.rt _ _ hKO.sh) hz⟩, hr2⟩
      · obtain ⟨g1, g2⟩ := hP.wf.last j e' he' ho'
        have hji : j ≠ i := fun h => by subst h; replace ho' : s.ov j = false := ho'; rw [hov] at ho'; cases ho'
        refine ⟨by show (s.last j).1 < ((s.k + 1 : Nat) : Int); omega, fun m h3 h4 => ?_⟩
        have h4 : m < s.k + 1 := h4
        by_cases hm : m = s.k
        · subst hm; show s.c.who s.k ≠ j; rw [hw]; exact fun h => hji h.symm
        · exact g2 m h3 (by omega)
      · show s.ov j = s.c.over j (s.k + 1) ∧ s.oc j = s.ov j
        have := hP.over j hj
        by_cases hji : j = i
        · subst hji
          rw [hw] at hover
          rw [hov, over_keep hc hover]
          exact ⟨rfl, ho2.trans hov⟩
        · rw [over_ne hc (by rw [hw]; exact fun h => hji h.symm)]; exact this
      · have := hKO.rv hc hz
        exact ⟨this.kept, hc.skip _ _ hover this.sh, this.foot, this.size⟩
    · obtain ⟨z, ⟨hr, _⟩, _⟩ := hl
      cases hr
end
end Go.Bt
end
section
namespace Go.Bt
variable [Gnd]
open Go.Conc Go.ConcN Go.RowKit Go.Proofs
open Go.Sx (Rly RV pz pzo pz_heap spec isWg Gud Co Lf Stb Fits Pt PtD ReI ev ev_eval CallI callI_of_pt pt_seq pt_region pt_regionEnd pt_val pt_false pt_true pt_skip pt_ret pt_do pt_call pt_draw pt_sw lz_val val_move val_assign val_load val_nilCheck val_fieldAddr tame_nilCheck Mem blk res_slot RowE callsTo vInt tame_int val_rem_int val_add_int val_indexAddr_slice val_len)
open Go.ConcN (sumTo upd sumTo_upd upd_ne upd_same sumTo_congr)
/-- What the play's frame keeps: the places of n, of the actors' slice, of the moves. -/
structure PV where
  u0 : World
  tn : Nat
  ta : Nat
  tm : Nat
  n : Nat
/-- What goroutine 0 knows in a play's phase of picks. -/
structure PM (s : CS) (p : PV) (mv : Value) (xs : List Value) (cnt : Nat) (er : Go.Sx.Ent) (v : World) : Prop where
  ko : KO s v
  tape : v.tape = p.u0.tape
  os : v.os = p.u0.os
  output : v.output = p.u0.output
  size : p.u0.heap.size ≤ v.heap.size
  keep : ∀ b, b < p.u0.heap.size → b ∉ s.olds → v.heap[b]? = p.u0.heap[b]?
  hn : v.heap[p.tn]? = some (blk [vInt p.n] 3)
  ha : v.heap[p.ta]? = some (blk [.slice (some ⟨s.Rw, 0, none⟩) p.n p.n] 81)
  hm : v.heap[p.tm]? = some (blk [mv] 28)
  row : RowE mv 43 2 cnt xs er
  her : ∀ b o, er = some (b, o) → v.heap[b]? = some o ∧ s.N ≤ b
/-- What is settled of a play. -/
structure PF (s : CS) (p : PV) : Prop where
  ok : s.c.Ok
  c0 : s.c.n0 ≤ p.u0.heap.size
  olds : ∀ b ∈ s.olds, b < p.u0.heap.size
  tn : p.u0.heap.size ≤ p.tn ∧ p.tn < s.N
  ta : p.u0.heap.size ≤ p.ta ∧ p.ta < s.N
  tm : p.u0.heap.size ≤ p.tm ∧ p.tm < s.N
  own : ∀ b, ownP s b → p.u0.heap.size ≤ b ∧ b < s.N ∧ b ≠ p.tn ∧ b ≠ p.ta ∧ b ≠ p.tm
  n0 : 0 < p.n
  n1 : p.n ≤ 1000
  len : s.ents.length = p.n
  hasRow : s.hasRow = true
  rows : s.row = (s.ents.map fun e => vPtr e.A).toArray
section
variable {s s' : CS} {p : PV} {mv : Value} {xs : List Value} {cnt : Nat} {er : Go.Sx.Ent} {v u : World}
theorem row_blk (hr : RowE mv 43 2 cnt xs er) {b : Nat} {o : Obj} (he : er = some (b, o)) : ∃ cells, o = blk cells 43 := by
  subst he
  rcases hr.2 with ⟨_, _, h⟩ | ⟨b', cap, rest, _, _, _, _, h⟩
  · cases h
  · cases h; exact ⟨_, rfl⟩
theorem PM.nofoot (h : PM s p mv xs cnt er v) (hF : PF s p) : (¬ s.c.foot v p.tn) ∧ (¬ s.c.foot v p.ta) ∧ (¬ s.c.foot v p.tm) ∧ (∀ b o, er = some (b, o) → ¬ s.c.foot v b) ∧ (∀ b, b < p.u0.heap.size → b ∉ s.olds → ¬ s.c.foot v b) := by
  have h1 : ∀ b, p.u0.heap.size ≤ b → b < s.N → ¬ s.c.foot v b := fun b hb hN hf => by
    rcases h.ko.foot b hf with h2 | ⟨_, h2⟩
    · have := hF.olds b h2; omega
    · omega
  have h2 : ∀ b o, v.heap[b]? = some o → cty o = true → ¬ s.c.foot v b := fun b o hb hc hf => by
    obtain ⟨o', g1, _, _, g2⟩ := hF.ok.fsh _ _ h.ko.sh b hf
    rw [hb] at g1; obtain rfl := Option.some.inj g1
    rw [hc] at g2; cases g2
  refine ⟨h1 _ hF.tn.1 hF.tn.2, h1 _ hF.ta.1 hF.ta.2, h1 _ hF.tm.1 hF.tm.2, fun b o he => ?_, fun b hb ho hf => ?_⟩
  · obtain ⟨cells, rfl⟩ := row_blk h.row he
    exact h2 b _ (h.her b _ he).1 rfl
  · rcases h.ko.foot b hf with h3 | ⟨hs, h3⟩
    · exact ho h3
    · have := hF.tn; omega
theorem PM.pick (h : PM s p mv xs cnt er v) (hF : PF s p) (hP : Pick1 s s' v u) : PM s' p mv xs cnt er u := by
  obtain ⟨f1, f2, f3, f4, f5⟩ := h.nofoot hF
  obtain ⟨⟨roles, last, ov, oc, rfl⟩, hpi, hko, kw⟩ := hP
  have no : ∀ b, b = p.tn ∨ b = p.ta ∨ b = p.tm → ¬ ownP s b := fun b hb ho => by
    obtain ⟨_, _, h1, h2, h3⟩ := hF.own b ho
    rcases hb with hb | hb | hb
    · exact h1 hb
    · exact h2 hb
    · exact h3 hb
  refine ⟨hko, kw.tape.trans h.tape, kw.os.trans h.os, kw.output.trans h.output, Nat.le_trans h.size kw.size, fun b hb ho => ?_, kw.keep _ _ h.hn f1 (no _ (.inl rfl)), kw.keep _ _ h.ha f2 (no _ (.inr (.inl rfl))), kw.keep _ _ h.hm f3 (no _ (.inr (.inr rfl))), h.row, fun b o he => ?_⟩
  · have hb' : b < v.heap.size := Nat.lt_of_lt_of_le hb h.size
    have e1 := h.keep b hb ho
    have e2 : v.heap[b]? = some v.heap[b] := Array.getElem?_eq_getElem hb'
    rw [kw.keep _ _ e2 (f5 b hb ho) (fun hw => by have := (hF.own b hw).1; omega), ← e2]; exact e1
  · obtain ⟨g1, g2⟩ := h.her b o he
    exact ⟨kw.keep _ _ g1 (f4 b o he) (fun hw => by have := (hF.own b hw).2.1; omega), g2⟩
theorem PF.turn (h : PF s p) (roles : Nat → Role) (k : Nat) (last : Nat → Int × World) (ov oc : Nat → Bool) : PF (s.turn roles k last ov oc) p :=
  ⟨h.ok, h.c0, h.olds, h.tn, h.ta, h.tm, h.own, h.n0, h.n1, h.len, h.hasRow, h.rows⟩
theorem PM.rv (h : PM s p mv xs cnt er v) (hF : PF s p) (hr : RV v u) : PM s p mv xs cnt er u :=
  ⟨h.ko.rv hF.ok hr, hr.tape.trans h.tape, hr.os.trans h.os, hr.output.trans h.output, Nat.le_trans h.size hr.size, fun b hb ho => by
    have hb' : b < v.heap.size := Nat.lt_of_lt_of_le hb h.size
    have e2 : v.heap[b]? = some v.heap[b] := Array.getElem?_eq_getElem hb'
    rw [hr.heap _ _ e2, ← e2]; exact h.keep b hb ho, hr.heap _ _ h.hn, hr.heap _ _ h.ha, hr.heap _ _ h.hm, h.row, fun b o he => ⟨hr.heap _ _ (h.her b o he).1, (h.her b o he).2⟩⟩
/-- The frame for noting a move. -/
theorem PM.mem (h : PM s p mv xs cnt er v) : Mem v (Go.Sx.keys [some (p.tm, blk [mv] 28), er]) [some (p.tm, blk [mv] 28), er] v := by
  refine ⟨rfl, rfl, rfl, Nat.le_refl _, fun _ _ _ => rfl, fun b o hb => ?_, ?_, fun b hb => .inr hb⟩
  · simp only [List.mem_cons, List.not_mem_nil, or_false] at hb
    rcases hb with hb | hb
    · cases hb; exact h.hm
    · exact (h.her b o hb.symm).1
  · cases er with
    | none => simp [Go.Sx.keys]
    | some x =>
      obtain ⟨b, o⟩ := x
      obtain ⟨cells, rfl⟩ := row_blk h.row rfl
      have h1 := (h.her b _ rfl).1
      simp only [Go.Sx.keys, List.filterMap_cons, Option.map_some, List.filterMap_nil, List.nodup_cons, List.mem_cons, List.not_mem_nil, or_false, not_false_eq_true, List.nodup_nil, and_true]
      intro e0
      rw [← e0, h.hm, Option.some.injEq] at h1
      simp [blk] at h1
theorem PM.noted (h : PM s p mv xs cnt er v) (hF : PF s p) (hset : s.setup = false) {mv' : Value} {xs' : List Value} {cnt' : Nat} {er' : Go.Sx.Ent} (hr : RowE mv' 43 2 cnt' xs' er') (hm : Mem v (Go.Sx.keys [some (p.tm, blk [mv] 28), er]) [some (p.tm, blk [mv'] 28), er'] u) : PM s p mv' xs' cnt' er' u := by
  have hkeys : ∀ b, b ∈ Go.Sx.keys [some (p.tm, blk [mv] 28), er] → ∃ o, v.heap[b]? = some o ∧ cty o = true ∧ (b = p.tm ∨ s.N ≤ b) := fun b hb => by
    obtain ⟨o, ho⟩ := Go.Sx.keys_mem hb
    simp only [List.mem_cons, List.not_mem_nil, or_false] at ho
    rcases ho with ho | ho
    · cases ho; exact ⟨_, h.hm, rfl, .inl rfl⟩
    · obtain ⟨cells, rfl⟩ := row_blk h.row ho.symm
      obtain ⟨g1, g2⟩ := h.her b _ ho.symm
      exact ⟨_, g1, rfl, .inr g2⟩
  have stay : ∀ b o, v.heap[b]? = some o → b ∉ Go.Sx.keys [some (p.tm, blk [mv] 28), er] → u.heap[b]? = some o := fun b o hb hk => by
    rw [hm.keep b (Array.getElem?_eq_some_iff.1 hb).1 hk, hb]
  have ok : OrdK s.c.n0 v u := fun b o hb _ _ hc => stay b o hb fun hk => by
    obtain ⟨o', g1, g2, g3⟩ := hkeys b hk
    rw [hb] at g1; obtain rfl := Option.some.inj g1
    rcases hc with hc | hc
    · rw [cty2_cty g2] at hc; cases hc
    · have h1 := hF.c0
      have h2 := hF.tm
      rcases g3 with g3 | g3 <;> omega
  have kw : KW s.c (fun b => b ∈ Go.Sx.keys [some (p.tm, blk [mv] 28), er]) v u :=
    ⟨hm.tape, hm.os, hm.output, hm.size, fun b o hb _ hk => stay b o hb hk, fun b hb => .inl ((hF.ok.foot _ _ (hF.ok.rt _ _ h.ko.sh) ok b).2 hb), hF.ok.rt _ _ h.ko.sh, hF.ok.rtk _ _ (hF.ok.rt _ _ h.ko.sh) ok⟩
  have nk : ∀ b o, v.heap[b]? = some o → cty o = false → b ∉ Go.Sx.keys [some (p.tm, blk [mv] 28), er] := fun b o hb hc hk => by
    obtain ⟨o', g1, g2, _⟩ := hkeys b hk
    rw [hb] at g1; obtain rfl := Option.some.inj g1
    rw [hc] at g2; cases g2
  refine ⟨h.ko.kw hF.ok kw ok, hm.tape.trans h.tape, hm.os.trans h.os, hm.output.trans h.output, Nat.le_trans h.size hm.size, fun b hb ho => ?_, stay _ _ h.hn (nk _ _ h.hn rfl), stay _ _ h.ha (nk _ _ h.ha rfl), hm.own _ _ (List.mem_cons_self ..), hr, fun b o he => ?_⟩
  · have hb' : b < v.heap.size := Nat.lt_of_lt_of_le hb h.size
    have e2 : v.heap[b]? = some v.heap[b] := Array.getElem?_eq_getElem hb'
    rw [stay _ _ e2 fun hk => ?_, ← e2]
    · exact h.keep b hb ho
    · obtain ⟨_, _, _, hc⟩ := hkeys b hk
      have h1 := hF.tm
      rcases hc with hc | hc
      · omega
      · omega
  · subst he
    have hmem : some (b, o) ∈ [some (p.tm, blk [mv'] 28), some (b, o)] := by simp
    refine ⟨hm.own b o hmem, ?_⟩
    rcases hm.fresh b (Go.Sx.mem_keys hmem) with h1 | h1
    · exact Nat.le_trans (h.ko.size hset) h1
    · obtain ⟨_, _, _, hc⟩ := hkeys b h1
      rcases hc with hc | hc
      · have hnd := hm.nodup
        subst hc
        simp [Go.Sx.keys] at hnd
      · exact hc
theorem tmod_pick (q : Int) {n : Nat} (hn : 0 < n) : (Int.tmod (Int.tmod q n + n) n) = q % n := by
  have hn' : (0 : Int) < n := by omega
  have h1 : Int.tmod q n < n := Int.tmod_lt_of_pos q hn'
  have h2 : -(n : Int) < Int.tmod q n := by
    have := Int.lt_tmod_of_pos q hn'
    exact this
  rw [Int.tmod_eq_emod_of_nonneg (by omega), Int.add_emod_right]
  have h3 : q = n * Int.tdiv q n + Int.tmod q n := (Int.mul_tdiv_add_tmod q n).symm
  have h4 : q % n = (Int.tmod q n + n * Int.tdiv q n) % n := by rw [Int.add_comm, ← h3]
  rw [h4, Int.add_mul_emod_self_left]
variable {Post : Value → World → Prop}
set_option maxRecDepth 100000 in
set_option maxHeartbeats 4000000 in
/-- ████ A PICK. ████ -/
theorem pick_callI (hF : PF s p) (hP : PI s) (hk : s.k < s.c.K) (hb : s.k + 1 ≤ 8796093022208) {q : Int} (hw : s.c.who s.k = (q % (p.n : Int)).toNat) (hM : PM s p mv xs s.k er v) :
    CallI (coPlay Post) 31 #[vI q, vPtr p.tn, vPtr p.ta, vPtr p.tm] (some s) v (fun r x' u => r = .returned (.bool (s.c.moved s.k)) ∧ ∃ s' mv' er', x' = some s' ∧ (∃ roles last ov oc, s' = s.turn roles (s.k + 1) last ov oc) ∧ PI s' ∧ PM s' p mv' (xs ++ [vI (s.c.who s.k), .bool (s.c.moved s.k)]) (s.k + 1) er' u) := by
  have hn0 := hF.n0
  have hn1 := hF.n1
  generalize hi : (q % (p.n : Int)).toNat = i at hw
  have hq0 : 0 ≤ q % (p.n : Int) := Int.emod_nonneg q (by omega)
  have hq1 : q % (p.n : Int) < p.n := Int.emod_lt_of_pos q (by omega)
  have hii : (q % (p.n : Int)) = (i : Int) := by omega
  have hilt : i < s.ents.length := by rw [hF.len]; omega
  have he : s.ents[i]? = some s.ents[i] := List.getElem?_eq_getElem hilt
  generalize s.ents[i] = e at he
  obtain ⟨av, cv, rfl, hkc⟩ := hM.row.slice
  refine callI_of_pt (vs := [vI q, vPtr p.tn, vPtr p.ta, vPtr p.tm]) Try.func31 rfl rfl fun cf cs h1 h2 => ?_
  refine Pt.imp (M' := fun u => RV v u) (fun u hu => hu ▸ RV.refl _) ?_
  refine pt_seq (pt_region ?_)
  refine pt_val (by decide) rfl (val_assign (v := .bool false) rfl) rfl ?_
  refine pt_regionEnd (pt_seq ?_)
  have hcn : ∀ {w : World}, RV v w → w.cell? ⟨p.tn, 0, none⟩ = some (vInt p.n) := fun hr => by rw [Go.Sx.cell_of_blk (hr.heap _ _ hM.hn)]; rfl
  have hr1 : Int.tmod q p.n < p.n := Int.tmod_lt_of_pos q (by omega)
  have hr2 : -(p.n : Int) < Int.tmod q p.n := Int.lt_tmod_of_pos q (by omega)
  refine pt_draw (S := fun u => RV v u) 7 [0, 1, 2, 3, 4, 5, 6] [] (by kernel_rfl) (by decide) (by kernel_rfl) (by kernel_rfl) (by kernel_rfl) (fun t => (Go.Sx.go_forced (L := 7) (by kernel_rfl)).trans (congrArg (7 :: ·) Go.Sx.go_end)) (by kernel_rfl) (fun _ h => h) ?_
  refine lz_val rfl (val_move (v := vI q) rfl) rfl ?_
  refine lz_val rfl (val_load rfl Try.isAgg3 (v := vInt p.n) (fun w h => hcn h)) rfl ?_
  refine lz_val rfl (val_rem_int (a := q) (b := p.n) rfl rfl (by omega)) rfl ?_ (tame_int rfl rfl)
  refine lz_val rfl (val_load rfl Try.isAgg3 (v := vInt p.n) (fun w h => hcn h)) rfl ?_
  refine lz_val rfl (val_add_int (a := Int.tmod q p.n) (b := p.n) _ rfl rfl rfl (by omega)) rfl ?_ (tame_int rfl rfl)
  refine lz_val rfl (val_load rfl Try.isAgg3 (v := vInt p.n) (fun w h => hcn h)) rfl ?_
  refine lz_val (v := vInt i) rfl (by have h := val_rem_int (P := Try.prog) (n := 29) (S := fun u => RV v u) (ty := 3) (T := 3) (V := 3) (x := .tmp 12) (y := .tmp 13) (F := (13, vInt p.n) :: (12, vInt (Int.tmod q p.n + p.n)) :: (11, vInt p.n) :: (10, vInt (Int.tmod q p.n)) :: (9, vInt p.n) :: (8, vI q) :: (5, .bool false) :: Go.Sx.slots 0 [vI q, vPtr p.tn, vPtr p.ta, vPtr p.tm]) (a := Int.tmod q p.n + p.n) (b := p.n) rfl rfl (by omega); rw [tmod_pick q hn0, hii] at h; exact h) rfl ?_ (tame_int rfl rfl)
  show Pt _ _ _ _ _ _ _ _
  refine pt_val (by decide) rfl (val_assign (v := vInt i) rfl) rfl ?_
  refine pt_regionEnd (pt_seq (pt_know ?_))
  -- the actor is let go on
  have hca : ∀ {w : World}, (RV v w ∧ CV s w) → w.cell? ⟨p.ta, 0, none⟩ = some (.slice (some ⟨s.Rw, 0, none⟩) p.n p.n) := fun h => by rw [Go.Sx.cell_of_blk (h.1.heap _ _ hM.ha)]; rfl
  have hcm : ∀ {w : World}, (RV v w ∧ CV s w) → w.cell? ⟨p.tm, 0, none⟩ = some (.slice av s.k cv) := fun h => by rw [Go.Sx.cell_of_blk (h.1.heap _ _ hM.hm)]; rfl
  have hcr : ∀ {w : World}, (RV v w ∧ CV s w) → w.cell? ⟨s.Rw, i, none⟩ = some (vPtr e.A) := fun {w} h => by
    unfold World.cell?
    rw [h.2.row hF.hasRow]
    show s.row[i]? = _
    rw [hF.rows]
    simp [he]
  refine pt_draw (S := fun u => RV v u ∧ CV s u) 6 [0, 1, 2, 3, 4, 5] [7] (by kernel_rfl) (by decide) (by kernel_rfl) (by kernel_rfl) (by kernel_rfl) (fun t => (Go.Sx.go_forced (L := 6) (by kernel_rfl)).trans (congrArg (6 :: ·) ((Go.Sx.go_forced (L := 7) (by kernel_rfl)).trans (congrArg (7 :: ·) Go.Sx.go_end)))) (by kernel_rfl) (fun _ h => h) ?_
  refine lz_val rfl (val_load rfl Try.isAgg81 (v := .slice (some ⟨s.Rw, 0, none⟩) p.n p.n) (fun w h => hca h)) rfl ?_
  refine lz_val rfl (val_move (v := vInt i) rfl) rfl ?_
  refine lz_val rfl (val_indexAddr_slice (m := 1) i i rfl rfl Try.underlying81 Try.sizeOf82 rfl (by omega) (by omega)) rfl ?_
  refine lz_val rfl (val_load rfl Try.isAgg82 (v := vPtr e.A) (fun w h => hcr h)) rfl ?_
  refine lz_val rfl (val_load rfl Try.isAgg28 (v := .slice av s.k cv) (fun w h => hcm h)) rfl ?_
  refine lz_val rfl (val_len rfl Try.underlying28) rfl ?_
  show Pt _ _ _ _ _ _ _ _
  refine pt_call (T := fun w r x' u => r = .returned (.bool (s.c.moved s.k)) ∧ ∃ s', x' = some s' ∧ Pick1 s s' w u) (by decide) rfl (callsTo (xs := [.tmp 18, .tmp 20]) (vs := [vPtr e.A, vI s.k]) Try.func32 rfl (by decide) rfl) (by infer_instance) (fun w hw' => let_pick hF.ok hP he hk hw (hM.ko.rv hF.ok hw'.1)) (fun t' ht => by cases ht; rfl) (fun w r x' hw' => ?_) (fun w ch x' hw' a w' hf hl => ?_)
  · refine Pt.world fun u hu => ?_
    obtain ⟨hr, s', rfl, hpk⟩ := hu
    cases hr
    have hMw : PM s p (.slice av s.k cv) xs s.k er w := hM.rv hF hw'.1
    obtain ⟨roles, last, ov, oc, hs'⟩ := hpk.eq
    have hF' : PF s' p := by rw [hs']; exact hF.turn _ _ _ _ _
    have hMu : PM s' p (.slice av s.k cv) xs s.k er u := hMw.pick hF hpk
    refine Pt.imp (M' := fun z => RV u z) (fun z hz => hz ▸ RV.refl _) ?_
    refine pt_val (by decide) rfl (val_assign (v := .bool (s.c.moved s.k)) rfl) rfl ?_
    refine pt_regionEnd (pt_seq ?_)
    refine Pt.world fun z hz => ?_
    have hMz := hMu.rv hF' hz
    refine Pt.imp (M' := Mem z (Go.Sx.keys [some (p.tm, blk [.slice av s.k cv] 28), er]) [some (p.tm, blk [.slice av s.k cv] 28), er]) (fun y hy => hy ▸ hMz.mem) ?_
    refine pt_sw (Q := fun ex F' y => ex = .normal ∧ Go.Sx.look F' 7 = some (.bool (s.c.moved s.k)) ∧ ∃ mv' er', RowE mv' 43 2 (s.k + 1) (xs ++ [vInt i, .bool (s.c.moved s.k)]) er' ∧ Mem z (Go.Sx.keys [some (p.tm, blk [.slice av s.k cv] 28), er]) [some (p.tm, blk [mv'] 28), er'] y) (by decide) (Go.Sx.note_move (C := coPlay Post (some s')) rfl rfl rfl hMz.row hb) (fun F' y hq => ?_) (fun ex F' y hne hq => hne hq.1)
    obtain ⟨-, h7, mv', er', hr', hm'⟩ := hq
    have hMy := hMz.noted hF' hpk.pi.setup hr' hm'
    refine Pt.imp (M' := fun z => RV y z) (fun z hz => hz ▸ RV.refl _) ?_
    refine pt_seq (pt_region ?_)
    refine pt_val (by decide) rfl (val_move (v := .bool (s.c.moved s.k)) (by exact h7)) rfl ?_
    refine pt_val (by decide) rfl (val_assign (v := .bool (s.c.moved s.k)) rfl) rfl ?_
    refine pt_regionEnd ?_
    refine pt_ret (fn := Try.f31) (v := .bool (s.c.moved s.k)) Try.func31 rfl (fun a hf => res_slot rfl rfl hf) fun w2 hw2 => h1 _ _ w2 (hw2.mono fun q hq => ⟨rfl, s', mv', er', rfl, ⟨roles, last, ov, oc, hs'⟩, hpk.pi, ?_⟩)
    rw [hw]; exact hMy.rv hF' hq
  · obtain ⟨z, ⟨hr, _⟩, _⟩ := hl
    cases hr
end
end Go.Bt
end
