/- A PLAY OF THE BATON: what the row rests on. -/
import Derived.Test.YtjiajflhfnmkmaaPm
import Derived.Test.YtjiajflhfnmkmaaPk
import Derived.WalkKit
import Derived.ProofKit
import Derived.OpenShut
import Derived.Carry
import Derived.Deep.DeepHandedRow
import Derived.SizedLaws
set_option linter.unusedVariables false
set_option linter.unusedSimpArgs false
set_option linter.unusedSectionVars false
section
namespace Go.Sx
variable [Gnd]
section
variable {P : Program} {X : Type} {R : X → Co P} {n : Nat} {b : Frame} {cs : List Frame} {x : X} {k : List Item} {F : Fr} {M : World → Prop}
/-- An open region: whatever order is drawn. -/
theorem pt_open {id : Nat} {l : List Oper} (hm : P.follows .mixedOrders = true)
    (h : ∀ t, Pt R n b cs x (.inRegion l.toArray (Region.linearise.go .any l.toArray l.length t (Array.replicate l.length false) []) :: k) F M) : Pt R n b cs x (.code (.region id l.toArray true) :: k) F M := by
  intro a w hf hw
  letI := R x
  refine (R x).step rfl fun w₁ h₁ => ?_
  obtain ⟨t, w', e, hw'⟩ := stepG_draw (P := P) (main := (R x).main) (id := id) (ops := l.toArray) (b := b) (a := a) (k := k) (cs := cs) (w := w₁) hm
  have hr : Rly w₁ w' := by rcases hw' with rfl | rfl; exact Rly.refl _; exact Rly.at _ _
  refine ⟨_, _, _, e, ?_, ?_⟩
  · rcases hw' with rfl | rfl
    · exact (R x).good (Gud.refl _)
    · exact (R x).good (Gud.at _ _)
  · exact h t a w' hf (hw.rely (h₁.trans hr))
theorem go_two {ops : Array Oper} {fuel t i j : Nat} {listed : Array Bool} (h : Region.ready .any ops listed = [i, j]) :
    (∃ t', Region.linearise.go .any ops (fuel + 1) t listed [] = i :: Region.linearise.go .any ops fuel t' (listed.setIfInBounds i true) []) ∨ (∃ t', Region.linearise.go .any ops (fuel + 1) t listed [] = j :: Region.linearise.go .any ops fuel t' (listed.setIfInBounds j true) []) := by
  have hm : t % 2 = 0 ∨ t % 2 = 1 := by omega
  simp only [Region.linearise.go]
  have hc : ∀ (y : List Nat → Prop), y (match (Region.ready .any ops listed)[t % (Region.ready .any ops listed).length]? with
      | some i => Region.linearise.go .any ops fuel (t / (Region.ready .any ops listed).length) (listed.setIfInBounds i true) [i]
      | none => [].reverse) → y (match (Region.ready .any ops listed)[t % (Region.ready .any ops listed).length]? with
      | some i => Region.linearise.go .any ops fuel (t / (Region.ready .any ops listed).length) (listed.setIfInBounds i true) [i]
      | none => [].reverse) := fun _ h => h
  change (∃ t', (match (Region.ready .any ops listed)[t % (Region.ready .any ops listed).length]? with
      | some i => Region.linearise.go .any ops fuel (t / (Region.ready .any ops listed).length) (listed.setIfInBounds i true) [i]
      | none => [].reverse) = _) ∨ (∃ t', (match (Region.ready .any ops listed)[t % (Region.ready .any ops listed).length]? with
      | some i => Region.linearise.go .any ops fuel (t / (Region.ready .any ops listed).length) (listed.setIfInBounds i true) [i]
      | none => [].reverse) = _)
  rw [h]
  rcases hm with hm | hm
  · refine .inl ⟨t / 2, ?_⟩
    simp only [List.length_cons, List.length_nil, Nat.zero_add, Nat.reduceAdd, hm, List.getElem?_cons_zero]
    rw [linearise_go_acc, List.reverse_singleton, List.singleton_append]
  · refine .inr ⟨t / 2, ?_⟩
    simp only [List.length_cons, List.length_nil, Nat.zero_add, Nat.reduceAdd, hm, List.getElem?_cons_succ, List.getElem?_cons_zero]
    rw [linearise_go_acc, List.reverse_singleton, List.singleton_append]
end
end Go.Sx
namespace Go.Bt
variable [Gnd]
open Go.Conc Go.ConcN Go.RowKit Go.Proofs
open Go.Sx (Rly RV pz pzo pz_heap spec isWg Gud Co Lf Stb Fits Pt PtD ReI ev ev_eval CallI callI_of_pt pt_seq pt_block pt_inBlock pt_exit pt_region pt_regionEnd pt_val pt_if pt_false pt_true pt_skip pt_ret pt_do pt_call pt_draw pt_sw pt_loop_inv lz_val val_move val_assign val_load val_nilCheck val_fieldAddr tame_nilCheck Mem blk res_slot RowE callsTo vInt tame_int val_rem_int val_add_int val_lss_int val_indexAddr_slice val_len val_makeFunc acts_alloc does_store_to val_build' pt_open go_two go_forced go_end)
open Go.ConcN (sumTo upd sumTo_upd upd_ne upd_same sumTo_congr)
/-- What goroutine 0 knows in a round of hires. -/
structure HM (s : CS) (u0 : World) (l : List Go.Sx.Ent) (L : Nat) (z : World) : Prop where
  mem : Mem u0 [] l z
  ko : KO s z
  sz : L ≤ z.heap.size
section
variable {s : CS} {Post : Value → World → Prop} {u0 : World} {l : List Go.Sx.Ent} {L : Nat}
theorem HM.stb (hc : s.c.Ok) : Stb (HM s u0 l L) := ⟨fun h hr => ⟨h.mem.grow hr, h.ko.rv hc hr, Nat.le_trans h.sz hr.size⟩⟩
theorem e_le (s : CS) : s.e ≤ s.ents.length + s.ex := by
  unfold CS.e
  have : ∀ m, (sumTo m fun i => bn (s.ov i)) ≤ m := by
    intro m
    induction m with
    | zero => exact Nat.le_refl _
    | succ m ih =>
      show (sumTo m fun i => bn (s.ov i)) + bn (s.ov m) ≤ m + 1
      have : bn (s.ov m) ≤ 1 := by unfold bn; split <;> omega
      omega
  have := this s.ents.length
  omega
/-- The row's cell turns. -/
theorem CInv.row_set {w : World} {i : Nat} {val : Value} (h : CInv s w) (hh : s.hasRow = true) (hp : ∀ x ∈ s.pend, x.1 ≠ s.Rw) : CInv { s with row := s.row.setIfInBounds i val } (w.setCell ⟨s.Rw, i, none⟩ val) := by
  have hR := h.row hh
  have ne : ∀ (b : Nat) (cs : Array Value) (ty : TypeId) (fz : Nat × Nat), w.heap[b]? = some (.cells cs ty fz) → (ty == 82) = false → b ≠ s.Rw := fun b cs ty fz hb hty e => by
    subst e
    rw [hR] at hb
    cases hb
    cases hty
  refine ⟨fun i e he => ?_, fun i e he => ?_, fun _ => ?_, fun x hx => ?_, fun e he => ?_, ks_ne h.ks (by simp [World.setCell]) (h.rlo hh) (fun b hb => set_ne (show b ≠ (⟨s.Rw, i, none⟩ : Addr).block from hb)), h.elo, fun _ => h.rlo hh⟩
  · rw [set_ne (ne _ _ _ _ (h.act i e he) rfl)]; exact h.act i e he
  · obtain ⟨y, hy⟩ := h.turn i e he
    refine ⟨y, ?_⟩
    show (w.setCell _ _).heap[e.T]? = _
    rw [set_ne (ne _ _ _ _ hy rfl)]; exact hy
  · have := heap_setCell_same w s.Rw i s.row 82 val hR
    exact this
  · obtain ⟨g1, g2⟩ := h.pend x hx
    rw [set_ne (hp x hx)]; exact ⟨g1, g2⟩
  · have := h.low e he
    simpa [World.setCell] using this
theorem HM.set (hc : s.c.Ok) (hcc : s.c.n0 ≤ u0.heap.size) {w : World} {Rw i : Nat} {row : Array Value} {val : Value} (hR : w.heap[Rw]? = some (.cells row 82)) (hRu : u0.heap.size ≤ Rw) (hl : ∀ b o, some (b, o) ∈ l → ∃ xs T, o = blk xs T ∧ (T == 82) = false) (h : HM s u0 l L (pz w)) : HM s u0 l L (pz (w.setCell ⟨Rw, i, none⟩ val)) := by
  have hk : ∀ b, b ≠ Rw → (pz (w.setCell ⟨Rw, i, none⟩ val)).heap[b]? = (pz w).heap[b]? := fun b hb => by
    rw [pz_heap, pz_heap, set_ne hb]
  have hsz : (pz (w.setCell ⟨Rw, i, none⟩ val)).heap.size = (pz w).heap.size := by
    rw [Go.Sx.pz_size, Go.Sx.pz_size]; simp [World.setCell]
  have hRz : (pz w).heap[Rw]? = some (pzo (.cells row 82)) := by rw [pz_heap, hR]; rfl
  refine ⟨⟨h.mem.os, h.mem.tape, h.mem.output, by rw [hsz]; exact h.mem.size, fun k hk1 hk2 => ?_, fun b o hb => ?_, h.mem.nodup, h.mem.fresh⟩, ?_, by rw [hsz]; exact h.sz⟩
  · rw [hk k (by omega)]; exact h.mem.keep k hk1 hk2
  · rw [hk b fun e => ?_]
    · exact h.mem.own b o hb
    · subst e
      have h1 := h.mem.own b o hb
      obtain ⟨xs, T, rfl, hT⟩ := hl b o hb
      rw [hRz, Option.some.injEq] at h1
      have h2 : (82 : Nat) = T := by
        have e1 : pzo (.cells row 82) = .cells row 82 (0, row.size) := rfl
        rw [e1] at h1
        simp only [blk, Obj.cells.injEq] at h1
        exact h1.2.1
      subst h2
      cases hT
  · obtain ⟨kw, ok⟩ := KW.pz_set hc (own := fun b => b = Rw) (hc.rt _ _ h.ko.sh) (ad := ⟨Rw, i, none⟩) (val := val) hR rfl rfl (.inr ⟨rfl, Nat.le_trans hcc hRu⟩) rfl
    exact h.ko.kw hc kw ok
def cB : Code → Code
  | .block _ c => c
  | .loop c => c
  | _ => .skip
def cO : Code → List Oper
  | .region _ ⟨l⟩ _ => l
  | _ => []
/-- The hire's loop; a round; behind the turn's making. -/
noncomputable def c22h : Code := cL (cR (cR (cR (cR c22))))
noncomputable def c22b : Code := cB (cL (cR (cR (cB (cB (cR c22h))))))
noncomputable def c22g : Code := cR (cR c22b)
noncomputable def r22_8 : List Oper := cO (cL (cR c22b))
/-- The row while actors are hired. -/
def hrow (ents : List Ent) (n : Nat) : Array Value := (ents.map (fun e : Ent => vPtr e.A) ++ List.replicate (n - ents.length) (Value.pointer none) : List Value).toArray
theorem hrow_succ {ents : List Ent} {n : Nat} {e : Ent} (h : ents.length < n) : (hrow ents n).setIfInBounds ents.length (vPtr e.A) = hrow (ents ++ [e]) n := by
  unfold hrow
  rw [List.setIfInBounds_toArray]
  congr 1
  rw [List.set_append_right _ _ (by simp)]
  simp only [List.length_map, Nat.sub_self, List.map_append, List.map_cons, List.map_nil, List.append_assoc, List.length_append, List.length_cons, List.length_nil]
  congr 1
  obtain ⟨m, hm⟩ : ∃ m, n - ents.length = m + 1 := ⟨n - ents.length - 1, by omega⟩
  rw [hm, show n - (ents.length + (0 + 1)) = m by omega]
  rfl
/-- What stays while actors are hired. -/
structure Stay (s s' : CS) : Prop where
  c : s'.c = s.c
  Wg : s'.Wg = s.Wg
  Rw : s'.Rw = s.Rw
  olds : s'.olds = s.olds
  ba : s'.ba = s.ba
theorem Stay.refl (s : CS) : Stay s s := ⟨rfl, rfl, rfl, rfl, rfl⟩
theorem Stay.trans {a b d : CS} (h : Stay a b) (k : Stay b d) : Stay a d := ⟨k.c.trans h.c, k.Wg.trans h.Wg, k.Rw.trans h.Rw, k.olds.trans h.olds, k.ba.trans h.ba⟩
/-- The frame at a round's head. -/
abbrev HH (s : CS) (tn ta n i cap len : Nat) (pa : Option Addr) (calm : Bool) : Go.Sx.Fr := [(34, vInt n), (35, vInt i), (2, .slice pa len cap), (3, .bool calm), (4, vPtr tn), (5, vPtr s.ba), (9, wgP s.Wg), (10, vPtr ta)]
/-- The blocks that are its own. -/
abbrev HL (s : CS) (tn ta n : Nat) (f : FuncId) (first cp : Array Value) : List Go.Sx.Ent := [some (ta, blk [.slice (some ⟨s.Rw, 0, none⟩) n n] 81), some (s.ba, blk [.func (.func f) first cp] 53), some (tn, blk [vInt n] 3)]
theorem HL.ty {tn ta n : Nat} {f : FuncId} {first cp : Array Value} : ∀ b o, some (b, o) ∈ HL s tn ta n f first cp → ∃ xs T, o = blk xs T ∧ (T == 82) = false := fun b o h => by
  simp only [List.mem_cons, List.not_mem_nil, or_false] at h
  rcases h with h | h | h <;> cases h <;> exact ⟨_, _, rfl, rfl⟩
theorem nofoot_of {ba : Nat} {z : World} (hset : s.setup = true) (hol : ∀ b ∈ s.olds, b < u0.heap.size) (h : KO s z) (hb : u0.heap.size ≤ ba) : ¬ s.c.foot z ba := fun hf => by
  rcases h.foot ba hf with h2 | ⟨h2, _⟩
  · have := hol ba h2; omega
  · rw [hset] at h2; cases h2
set_option maxRecDepth 100000 in
set_option maxHeartbeats 8000000 in
/-- Behind the channels. -/
theorem hire_rest {tn ta n i gr bk bi cap len : Nat} {f : FuncId} {first cp : Array Value} {pa : Option Addr} {calm : Bool} {pd : List (Nat × Obj)} (hH : HS s u0 tn ta L n) (hi : s.ents.length = i) (hin : i < n) (hcn : s.c.n = n) (hrw : s.row = hrow s.ents n) (hRu : u0.heap.size ≤ s.Rw) (hRL : s.Rw < L) (hA : ActOk s.Wg s.c f first cp)
    (hgr : (gr, .chan 0 #[] false 0 0 false) ∈ pd) (hbk : (bk, .chan 0 #[] false 0 0 false) ∈ pd) (hne : gr ≠ bk) (hpd : ∀ x ∈ pd, L ≤ x.1) (hdist : ∀ e ∈ s.ents, e.gr ≠ gr ∧ e.bk ≠ bk ∧ e.gr ≠ bk ∧ gr ≠ e.bk)
    {cs : List Frame} {kk : List Item} {F : Go.Sx.Fr} (hF : Go.Sx.Sub ((38, vCh gr) :: (39, vCh bk) :: (11, vPtr bi) :: HH s tn ta n i cap len pa calm) F)
    (hk : ∀ s', Stay s s' → HS s' u0 tn ta L n → s'.ents.length = i + 1 → s'.row = hrow s'.ents n → Pt (coPlay Post) 92 (Go.Sx.fr0 22) cs (some s') kk (HH s tn ta n i cap len pa calm) (HM s' u0 (HL s tn ta n f first cp) L)) :
    Pt (coPlay Post) 92 (Go.Sx.fr0 22) cs (some { s with pend := pd }) (.inRegion r22_8.toArray [2, 3, 4] :: .code c22g :: kk) F (HM s u0 (some (bi, blk [vInt i] 3) :: HL s tn ta n f first cp) L) := by
  have hc := hH.ok
  haveI : Stb (HM s u0 (some (bi, blk [vInt i] 3) :: HL s tn ta n f first cp) L) := HM.stb hc
  refine Pt.weaken hF (fun _ h => h) ?_
  refine pt_val (by decide) rfl (val_build' (parts := _) (vs := [(0, vCh gr), (1, vCh bk)]) (cs := [vCh gr, vCh bk, vI 0]) rfl (by kernel_rfl)) rfl ?_
  refine pt_make (obj := .cells #[vCh gr, vCh bk, vI 0] 48) (val := vPtr) ⟨rfl, .inl rfl⟩ (by decide) rfl rfl (fun a w hf => box_runT (v := .agg #[vCh gr, vCh bk, vI 0]) (ev_eval hf rfl) w) fun T hT => ?_
  refine Pt.imp (M' := HM s u0 (some (bi, blk [vInt i] 3) :: HL s tn ta n f first cp) L) (fun _ h => h.1) ?_
  refine pt_val (by decide) rfl (val_assign (v := vPtr T) rfl) rfl ?_
  refine pt_regionEnd (pt_seq (pt_region ?_))
  have hta : ∀ {w : World}, HM s u0 (some (bi, blk [vInt i] 3) :: HL s tn ta n f first cp) L w → w.cell? ⟨ta, 0, none⟩ = some (.slice (some ⟨s.Rw, 0, none⟩) n n) := fun {w} h => by
    rw [Go.Sx.cell_of_blk (h.mem.own _ _ (List.mem_cons_of_mem _ (List.mem_cons_self ..)))]; rfl
  have hbi : ∀ {w : World}, HM s u0 (some (bi, blk [vInt i] 3) :: HL s tn ta n f first cp) L w → w.cell? ⟨bi, 0, none⟩ = some (vInt i) := fun {w} h => by
    rw [Go.Sx.cell_of_blk (h.mem.own _ _ (List.mem_cons_self ..))]; rfl
  refine pt_val (by decide) rfl (val_load rfl Try.isAgg81 (v := .slice (some ⟨s.Rw, 0, none⟩) n n) (fun w h => hta h)) rfl ?_
  refine pt_val (by decide) rfl (val_load rfl Try.isAgg3 (v := vInt i) (fun w h => hbi h)) rfl ?_
  refine pt_val (by decide) rfl (val_move (v := vPtr T) rfl) rfl ?_
  refine pt_val (by decide) rfl (val_makeFunc (vs := #[vPtr s.ba, vPtr bi]) (fun a hf => ?_)) rfl ?_
  · simp only [List.map_toArray, List.map_cons, List.map_nil]
    rw [ev_eval hf (x := .tmp 5) (v := vPtr s.ba) rfl, ev_eval hf (x := .tmp 11) (v := vPtr bi) rfl]
  refine pt_val (by decide) rfl (val_build' (parts := _) (vs := [(0, vPtr T), (1, .func (.func 28) #[] #[vPtr s.ba, vPtr bi])]) (cs := [vPtr T, .func (.func 28) #[] #[vPtr s.ba, vPtr bi], .bool false]) rfl (by kernel_rfl)) rfl ?_
  refine pt_make (obj := .cells #[vPtr T, .func (.func 28) #[] #[vPtr s.ba, vPtr bi], .bool false] 85) (val := vPtr) ⟨rfl, .inl rfl⟩ (by decide) rfl rfl (fun a w hf => box_runT (v := .agg #[vPtr T, .func (.func 28) #[] #[vPtr s.ba, vPtr bi], .bool false]) (ev_eval hf rfl) w) fun A hA1 => ?_
  refine Pt.imp (M' := HM s u0 (some (bi, blk [vInt i] 3) :: HL s tn ta n f first cp) L) (fun _ h => h.1) ?_
  refine pt_val (by decide) rfl (val_indexAddr_slice (m := 1) i i rfl rfl Try.underlying81 Try.sizeOf82 rfl (by omega) (by omega)) rfl ?_
  have hLT : L ≤ T := by obtain ⟨v, hv, rfl⟩ := hT.world; exact hv.sz
  have hLA : L ≤ A := by obtain ⟨v, hv, rfl⟩ := hA1.world; exact hv.sz
  have hpne : ∀ x ∈ (A, Obj.cells #[vPtr T, .func (.func 28) #[] #[vPtr s.ba, vPtr bi], .bool false] 85) :: (T, Obj.cells #[vCh gr, vCh bk, vI 0] 48) :: pd, x.1 ≠ s.Rw := fun x hx => by
    rcases List.mem_cons.1 hx with rfl | hx
    · simp only; omega
    · rcases List.mem_cons.1 hx with rfl | hx
      · simp only; omega
      · have := hpd x hx; omega
  generalize hpd2 : (A, Obj.cells #[vPtr T, .func (.func 28) #[] #[vPtr s.ba, vPtr bi], .bool false] 85) :: (T, Obj.cells #[vCh gr, vCh bk, vI 0] 48) :: pd = pd2 at hpne
  have hmemA : (A, Obj.cells #[vPtr T, .func (.func 28) #[] #[vPtr s.ba, vPtr bi], .bool false] 85) ∈ pd2 := by rw [← hpd2]; exact List.mem_cons_self ..
  have hmemT : (T, Obj.cells #[vCh gr, vCh bk, vI 0] 48) ∈ pd2 := by rw [← hpd2]; exact List.mem_cons_of_mem _ (List.mem_cons_self ..)
  have hmem : ∀ x ∈ pd, x ∈ pd2 := fun x hx => by rw [← hpd2]; exact List.mem_cons_of_mem _ (List.mem_cons_of_mem _ hx)
  have hrsz : i < s.row.size := by rw [hrw]; simp [hrow]; omega
  refine Pt.imp (M' := HM s u0 (some (bi, blk [vInt i] 3) :: HL s tn ta n f first cp) L) (fun _ h => h) ?_
  refine pt_store_x (s := { s with pend := pd2 }) (s' := { s with pend := pd2, row := s.row.setIfInBounds i (vPtr A) }) (M' := HM s u0 (some (bi, blk [vInt i] 3) :: HL s tn ta n f first cp) L) ⟨rfl, rfl, rfl, rfl, rfl, rfl, rfl⟩ (ad := ⟨s.Rw, i, none⟩) (.inr ⟨hH.hasRow, i, rfl⟩) rfl (by decide) rfl rfl rfl rfl Try.sizeOf82 (fun w hI => ⟨_, _, hI.row hH.hasRow, rfl, hrsz⟩) (fun w hI => hI.row_set hH.hasRow hpne) (fun w hI hm => hm.set hc hH.c0 (hI.row hH.hasRow) hRu fun b o hb => ?_) ?_
  · rcases List.mem_cons.1 hb with hb | hb
    · cases hb; exact ⟨_, _, rfl, rfl⟩
    · exact HL.ty _ _ hb
  have hW1 : ({ s with pend := pd2, row := s.row.setIfInBounds i (vPtr A) } : CS).Wf := ⟨hH.wf.base, hH.wf.dist, hH.wf.self, hH.wf.role, hH.wf.rest, hH.wf.last, fun h => by have h : s.setup = false := h; rw [hH.setup] at h; cases h⟩
  refine pt_regionEnd (pt_seq (pt_region ?_))
  refine pt_add (s := { s with pend := pd2, row := s.row.setIfInBounds i (vPtr A) }) (x := .tmp 9) (y := .const (.int .i64 1)) hW1 (fun j hj => (hH.ov j hj).1) (by
    have := e_le { s with pend := pd2, row := s.row.setIfInBounds i (vPtr A) }
    have h1 : ({ s with pend := pd2, row := s.row.setIfInBounds i (vPtr A) } : CS).ents.length = i := hi
    have h2 : ({ s with pend := pd2, row := s.row.setIfInBounds i (vPtr A) } : CS).ex = 0 := hH.ex
    have := hH.n1
    omega) (by decide) rfl rfl rfl rfl ?_
  refine pt_regionEnd (pt_region ?_)
  generalize hs3 : ({ s with pend := pd2, row := s.row.setIfInBounds i (vPtr A), ex := s.ex + 1 } : CS) = s3
  have g_c : s3.c = s.c := by rw [← hs3]
  have g_Wg : s3.Wg = s.Wg := by rw [← hs3]
  have g_Rw : s3.Rw = s.Rw := by rw [← hs3]
  have g_ba : s3.ba = s.ba := by rw [← hs3]
  have g_ents : s3.ents = s.ents := by rw [← hs3]
  have g_row : s3.row = s.row.setIfInBounds i (vPtr A) := by rw [← hs3]
  have g_hr : s3.hasRow = true := by rw [← hs3]; exact hH.hasRow
  have g_set : s3.setup = true := by rw [← hs3]; exact hH.setup
  have g_ex : s3.ex = 1 := by rw [← hs3]; show s.ex + 1 = 1; rw [hH.ex]
  have g_k : s3.k = 0 := by rw [← hs3]; exact hH.k
  have g_pend : s3.pend = pd2 := by rw [← hs3]
  have g_olds : s3.olds = s.olds := by rw [← hs3]
  have g_ov : s3.ov = s.ov := by rw [← hs3]
  have g_oc : s3.oc = s.oc := by rw [← hs3]
  have g_last : s3.last = s.last := by rw [← hs3]
  have hW3 : s3.Wf := by rw [← hs3]; exact ⟨hW1.base, hW1.dist, hW1.self, hW1.role, hW1.rest, hW1.last, hW1.pend⟩
  clear hs3
  refine pt_know ?_
  have hcr : ∀ {w : World}, (HM s u0 (some (bi, blk [vInt i] 3) :: HL s tn ta n f first cp) L w ∧ CV s3 w) → w.cell? ⟨s.Rw, i, none⟩ = some (vPtr A) := fun {w} h => by
    unfold World.cell?
    have h3 := h.2.row g_hr
    rw [g_Rw] at h3
    rw [h3]
    show s3.row[i]? = _
    rw [g_row, Array.getElem?_setIfInBounds_self, if_pos hrsz]
  refine pt_val (by decide) rfl (val_load rfl Try.isAgg81 (v := .slice (some ⟨s.Rw, 0, none⟩) n n) (fun w h => hta h.1)) rfl ?_
  refine pt_val (by decide) rfl (val_load rfl Try.isAgg3 (v := vInt i) (fun w h => hbi h.1)) rfl ?_
  refine pt_val (by decide) rfl (val_indexAddr_slice (m := 1) i i rfl rfl Try.underlying81 Try.sizeOf82 rfl (by omega) (by omega)) rfl ?_
  refine pt_val (by decide) rfl (val_load rfl Try.isAgg82 (v := vPtr A) (fun w h => hcr h)) rfl ?_
  refine Pt.imp (M' := HM s u0 (some (bi, blk [vInt i] 3) :: HL s tn ta n f first cp) L) (fun _ h => h.1) ?_
  have hN : NewE s3 ⟨A, T, gr, bk⟩ bi := by
    refine ⟨by rw [g_pend, g_ba]; exact hmemA, by rw [g_pend]; exact hmemT, by rw [g_pend]; exact hmem _ hgr, by rw [g_pend]; exact hmem _ hbk, hne, fun e' he' => ?_⟩
    rw [g_ents] at he'
    obtain ⟨d1, d2, d3, d4⟩ := hdist e' he'
    have a1 := (hT.ents e' he').2.1
    have a2 := (hA1.ents e' he').1
    exact ⟨by show e'.A ≠ A; omega, by show e'.T ≠ T; omega, d1, d2, d3, d4⟩
  refine pt_go (s := s3) (e := ⟨A, T, gr, bk⟩) (bi := bi) (f := f) (first := first) (cap := cp) (x := .tmp 53) (y := .tmp 9) (by rw [g_c]; exact hc) hW3 g_set g_ex g_k hN (by rw [g_ents, g_c, hi, hcn]; exact hin) (by rw [g_Wg, g_c]; exact hA) (fun v hv => ?_) (by decide) rfl rfl (by rw [g_Wg]; rfl) fun v hv => ?_
  · have hb1 : u0.heap.size ≤ s.ba := by
      rcases hv.mem.fresh s.ba (Go.Sx.mem_keys (o := blk [.func (.func f) first cp] 53) (by simp)) with h | h
      · exact h
      · cases h
    have hb2 : u0.heap.size ≤ bi := by
      rcases hv.mem.fresh bi (Go.Sx.mem_keys (o := blk [vInt i] 3) (List.mem_cons_self ..)) with h | h
      · exact h
      · cases h
    rw [g_ba, g_ents, g_c, hi]
    exact ⟨hv.mem.own _ _ (List.mem_cons_of_mem _ (List.mem_cons_of_mem _ (List.mem_cons_self ..))), hv.mem.own _ _ (List.mem_cons_self ..), nofoot_of hH.setup hH.olds hv.ko hb1, nofoot_of hH.setup hH.olds hv.ko hb2⟩
  · refine pt_regionEnd (Pt.weaken ?_ (fun u hu => ?_) (hk (s3.hire ⟨A, T, gr, bk⟩ bi v) ⟨g_c, g_Wg, g_Rw, g_olds, g_ba⟩ ⟨by rw [show (s3.hire _ bi v).c = s3.c from rfl, g_c]; exact hc, hire_wf hW3 g_set hN g_k, g_set, rfl, g_k, rfl, fun j hj => ?_, by rw [show (s3.hire ⟨A, T, gr, bk⟩ bi v).olds = s3.olds from rfl, g_olds]; exact hH.olds, fun e' he' => ?_, hH.tn, hH.ta, hH.n0, hH.n1, g_hr, by rw [show (s3.hire ⟨A, T, gr, bk⟩ bi v).c = s3.c from rfl, g_c]; exact hH.c0⟩ ?_ ?_))
    · exact ⟨rfl, rfl, rfl, rfl, rfl, rfl, rfl, rfl, trivial⟩
    · obtain ⟨hu1, hu2⟩ := hu
      refine ⟨hu1.mem.forget, ⟨fun j e' he' hov => ?_, ?_, fun b hb => ?_, fun h => ?_⟩, hu1.sz⟩
      · rw [show (s3.hire ⟨A, T, gr, bk⟩ bi v).c = s3.c from rfl, g_c]
        show Kept s.c (upd s3.last s3.ents.length (-1, v) j).2 u
        rcases get_hire he' with ⟨h1, h2⟩ | ⟨h1, rfl⟩
        · rw [upd_ne _ _ (by omega), g_last]
          rw [g_ents] at h2 h1
          exact hu1.ko.kept j e' h2 (hH.ov j h1).1
        · rw [h1, upd_same]
          exact Kept.of_rv hc (hc.rt _ _ hv.ko.sh) hu2
      · show s3.c.Sh s3.k u
        rw [g_c, g_k, ← hH.k]; exact hu1.ko.sh
      · have hb : s3.c.foot u b := hb
        rw [g_c] at hb
        rcases hu1.ko.foot b hb with h | ⟨h, _⟩
        · exact .inl (by show b ∈ s3.olds; rw [g_olds]; exact h)
        · rw [hH.setup] at h; cases h
      · have h : s3.setup = false := h
        rw [g_set] at h; cases h
    · show upd s3.ov s3.ents.length false j = false ∧ upd s3.oc s3.ents.length false j = false
      by_cases hj' : j = s3.ents.length
      · subst hj'; rw [upd_same, upd_same]; exact ⟨rfl, rfl⟩
      · rw [upd_ne _ _ hj', upd_ne _ _ hj', g_ov, g_oc]
        have hj : j < (s3.ents ++ [_]).length := hj
        rw [List.length_append, List.length_singleton] at hj
        exact hH.ov j (by rw [← g_ents]; omega)
    · have he' : e' ∈ s3.ents ++ [⟨A, T, gr, bk⟩] := he'
      rcases List.mem_append.1 he' with h | h
      · rw [g_ents] at h; exact hH.lo e' h
      · obtain rfl := List.mem_singleton.1 h
        exact ⟨hLA, hLT, hpd _ hgr, hpd _ hbk⟩
    · show (s3.ents ++ [_]).length = i + 1
      rw [List.length_append, g_ents, hi]; rfl
    · show s3.row = hrow (s3.ents ++ [⟨A, T, gr, bk⟩]) n
      rw [g_row, hrw, g_ents, ← hrow_succ (by omega), hi]
end
end Go.Bt
end
section
namespace Go.Bt
variable [Gnd]
open Go.Conc Go.ConcN Go.RowKit Go.Proofs
open Go.Sx (Rly RV pz pzo pz_heap spec isWg Gud Co Lf Stb Fits Pt PtD ReI ev ev_eval CallI callI_of_pt pt_seq pt_block pt_inBlock pt_exit pt_region pt_regionEnd pt_val pt_if pt_false pt_true pt_skip pt_ret pt_do pt_call pt_draw pt_sw pt_loop_inv lz_val val_move val_assign val_load val_nilCheck val_fieldAddr tame_nilCheck Mem blk res_slot RowE callsTo vInt tame_int val_rem_int val_add_int val_lss_int val_indexAddr_slice val_len val_makeFunc acts_alloc does_store_to val_build' pt_open go_two go_forced go_end)
open Go.ConcN (sumTo upd sumTo_upd upd_ne upd_same sumTo_congr)
theorem order8 (t : Nat) : Region.linearise.go .any r22_8.toArray r22_8.length t (Array.replicate r22_8.length false) [] = [0, 1, 2, 3, 4] ∨ Region.linearise.go .any r22_8.toArray r22_8.length t (Array.replicate r22_8.length false) [] = [1, 0, 2, 3, 4] := by
  have hl : r22_8.length = 5 := by kernel_rfl
  rw [hl]
  rcases go_two (fuel := 4) (t := t) (i := 0) (j := 1) (listed := Array.replicate 5 false) (ops := r22_8.toArray) (by kernel_rfl) with ⟨t', h⟩ | ⟨t', h⟩
  · refine .inl (h.trans (congrArg (0 :: ·) ?_))
    refine (go_forced (L := 1) (by kernel_rfl)).trans (congrArg (1 :: ·) ?_)
    refine (go_forced (L := 2) (by kernel_rfl)).trans (congrArg (2 :: ·) ?_)
    refine (go_forced (L := 3) (by kernel_rfl)).trans (congrArg (3 :: ·) ?_)
    exact (go_forced (L := 4) (by kernel_rfl)).trans (congrArg (4 :: ·) go_end)
  · refine .inr (h.trans (congrArg (1 :: ·) ?_))
    refine (go_forced (L := 0) (by kernel_rfl)).trans (congrArg (0 :: ·) ?_)
    refine (go_forced (L := 2) (by kernel_rfl)).trans (congrArg (2 :: ·) ?_)
    refine (go_forced (L := 3) (by kernel_rfl)).trans (congrArg (3 :: ·) ?_)
    exact (go_forced (L := 4) (by kernel_rfl)).trans (congrArg (4 :: ·) go_end)
section
variable {s : CS} {Post : Value → World → Prop} {u0 : World} {l : List Go.Sx.Ent} {L : Nat}
set_option maxRecDepth 100000 in
set_option maxHeartbeats 8000000 in
/-- A round of hires. -/
theorem hire_round {tn ta n i cap len : Nat} {f : FuncId} {first cp : Array Value} {pa : Option Addr} {calm : Bool} (hH : HS s u0 tn ta L n) (hi : s.ents.length = i) (hin : i < n) (hcn : s.c.n = n) (hrw : s.row = hrow s.ents n) (hRu : u0.heap.size ≤ s.Rw) (hRL : s.Rw < L) (hA : ActOk s.Wg s.c f first cp)
    {cs : List Frame} {kk : List Item}
    (hk : ∀ s', Stay s s' → HS s' u0 tn ta L n → s'.ents.length = i + 1 → s'.row = hrow s'.ents n → Pt (coPlay Post) 92 (Go.Sx.fr0 22) cs (some s') kk (HH s tn ta n i cap len pa calm) (HM s' u0 (HL s tn ta n f first cp) L)) :
    Pt (coPlay Post) 92 (Go.Sx.fr0 22) cs (some s) (.code c22b :: kk) (HH s tn ta n i cap len pa calm) (HM s u0 (HL s tn ta n f first cp) L) := by
  have hc := hH.ok
  refine Pt.world fun z hz => ?_
  refine Pt.imp (M' := Mem z [] []) (fun w hw => hw ▸ Mem.refl z) ?_
  refine pt_seq (pt_region ?_)
  refine pt_val (by decide) rfl (val_move (v := vInt i) rfl) rfl ?_
  refine pt_new (by decide) rfl (acts_alloc Try.zeroValue3) rfl fun bi hbi => ?_
  refine pt_do (by decide) rfl (does_store_to (l := [some (bi, blk [vInt 0] 3)]) [vInt i] 0 rfl rfl rfl rfl Try.sizeOf3 Nat.zero_lt_one rfl) (fun _ _ => ?_)
  refine pt_regionEnd ?_
  haveI : Stb (HM s u0 (some (bi, blk [vInt i] 3) :: HL s tn ta n f first cp) L) := HM.stb hc
  refine Pt.imp (M' := HM s u0 (some (bi, blk [vInt i] 3) :: HL s tn ta n f first cp) L) (fun w hw => ⟨hz.mem.call hw, hz.ko.rv hc (Mem.rv hw), Nat.le_trans hz.sz hw.size⟩) ?_
  refine pt_seq (pt_open (by kernel_rfl) fun t => ?_)
  show Pt _ _ _ _ _ (.inRegion r22_8.toArray (Region.linearise.go .any r22_8.toArray r22_8.length t (Array.replicate r22_8.length false) []) :: .code c22g :: kk) _ _
  rcases order8 t with ho | ho
  · rw [ho]
    refine pt_make (obj := .chan 0 #[] false 0 0 false) (val := vCh) ⟨rfl, .inr rfl⟩ (by decide) rfl rfl (fun a w hf => chan45 w) fun gr hg => ?_
    refine Pt.imp (M' := HM s u0 (some (bi, blk [vInt i] 3) :: HL s tn ta n f first cp) L) (fun _ h => h.1) ?_
    refine pt_make (obj := .chan 0 #[] false 0 0 false) (val := vCh) ⟨rfl, .inr rfl⟩ (by decide) rfl rfl (fun a w hf => chan46 w) fun bk hb => ?_
    refine Pt.imp (M' := HM s u0 (some (bi, blk [vInt i] 3) :: HL s tn ta n f first cp) L) (fun _ h => h.1) ?_
    have h1 := hb.pend _ (List.mem_cons_self ..)
    simp only at h1
    have hLg : L ≤ gr := by obtain ⟨v, hv, rfl⟩ := hg.world; exact hv.sz
    have hLb : L ≤ bk := by obtain ⟨v, hv, rfl⟩ := hb.world; exact hv.sz
    refine hire_rest (pd := (bk, .chan 0 #[] false 0 0 false) :: (gr, .chan 0 #[] false 0 0 false) :: s.pend) hH hi hin hcn hrw hRu hRL hA (List.mem_cons_of_mem _ (List.mem_cons_self ..)) (List.mem_cons_self ..) (by omega) (fun x hx => ?_) (fun e he => ?_) ?_ hk
    · rw [hH.pend] at hx
      simp only [List.mem_cons, List.not_mem_nil, or_false] at hx
      rcases hx with rfl | rfl
      · exact hLb
      · exact hLg
    · have g1 := hg.ents e he
      have g2 := hb.ents e he
      exact ⟨by omega, by omega, by omega, by omega⟩
    · exact ⟨rfl, rfl, rfl, rfl, rfl, rfl, rfl, rfl, rfl, rfl, rfl, trivial⟩
  · rw [ho]
    refine pt_make (obj := .chan 0 #[] false 0 0 false) (val := vCh) ⟨rfl, .inr rfl⟩ (by decide) rfl rfl (fun a w hf => chan46 w) fun bk hb => ?_
    refine Pt.imp (M' := HM s u0 (some (bi, blk [vInt i] 3) :: HL s tn ta n f first cp) L) (fun _ h => h.1) ?_
    refine pt_make (obj := .chan 0 #[] false 0 0 false) (val := vCh) ⟨rfl, .inr rfl⟩ (by decide) rfl rfl (fun a w hf => chan45 w) fun gr hg => ?_
    refine Pt.imp (M' := HM s u0 (some (bi, blk [vInt i] 3) :: HL s tn ta n f first cp) L) (fun _ h => h.1) ?_
    have h1 := hg.pend _ (List.mem_cons_self ..)
    simp only at h1
    have hLg : L ≤ gr := by obtain ⟨v, hv, rfl⟩ := hg.world; exact hv.sz
    have hLb : L ≤ bk := by obtain ⟨v, hv, rfl⟩ := hb.world; exact hv.sz
    refine hire_rest (pd := (gr, .chan 0 #[] false 0 0 false) :: (bk, .chan 0 #[] false 0 0 false) :: s.pend) hH hi hin hcn hrw hRu hRL hA (List.mem_cons_self ..) (List.mem_cons_of_mem _ (List.mem_cons_self ..)) (by omega) (fun x hx => ?_) (fun e he => ?_) ?_ hk
    · rw [hH.pend] at hx
      simp only [List.mem_cons, List.not_mem_nil, or_false] at hx
      rcases hx with rfl | rfl
      · exact hLg
      · exact hLb
    · have g1 := hg.ents e he
      have g2 := hb.ents e he
      exact ⟨by omega, by omega, by omega, by omega⟩
    · exact ⟨rfl, rfl, rfl, rfl, rfl, rfl, rfl, rfl, rfl, rfl, rfl, trivial⟩
end
end Go.Bt
end
section
namespace Go.Bt
variable [Gnd]
open Go.Conc Go.ConcN Go.RowKit Go.Proofs
open Go.Sx (Rly RV pz pzo pz_heap spec isWg Gud Co Lf Stb Fits Pt PtD ReI ev ev_eval CallI callI_of_pt pt_seq pt_block pt_inBlock pt_exit pt_region pt_regionEnd pt_val pt_if pt_false pt_true pt_skip pt_ret pt_do pt_call pt_draw pt_sw pt_loop_inv lz_val val_move val_assign val_load val_nilCheck val_fieldAddr tame_nilCheck Mem blk res_slot RowE callsTo vInt tame_int val_rem_int val_add_int val_lss_int val_indexAddr_slice val_len val_makeFunc acts_alloc acts_box does_store_to val_build' pt_open go_two go_forced go_end ow_val ow_nil ow_guard_yes ow_guard_no SW sw_region val_pick val_gtr_int tame_func)
open Go.ConcN (sumTo upd sumTo_upd upd_ne upd_same sumTo_congr)
section
variable {s : CS} {Post : Value → World → Prop} {u0 : World} {l : List Go.Sx.Ent} {L : Nat}
/-- i actors are hired. -/
structure HX (s : CS) (u0 : World) (tn ta L n : Nat) (x : Nat × CS) : Prop where
  stay : Stay s x.2
  hs : HS x.2 u0 tn ta L n
  len : x.2.ents.length = x.1
  row : x.2.row = hrow x.2.ents n
  le : x.1 ≤ n
set_option maxRecDepth 100000 in
set_option maxHeartbeats 8000000 in
/-- ████ THE LOOP OF HIRES, AND ALL BEHIND. ████ -/
theorem play_hire {tn ta n cap J : Nat} {qs : List Int} {f : FuncId} {first cp : Array Value} {pa : Option Addr} {calm : Bool} (hH : HS s u0 tn ta L n) (hi : s.ents.length = 0) (hcn : s.c.n = n) (hrw : s.row = hrow s.ents n) (hRu : u0.heap.size ≤ s.Rw) (hRL : s.Rw < L) (hA : ActOk s.Wg s.c f first cp)
    (hPA : PA s.c n qs calm J) (hQ : QL u0 s.olds qs pa) {cf : Frame} {cs : List Frame}
    (h1 : ∀ s' tm mv er w, s'.c = s.c → s'.olds = s.olds → Lf (PlayZ s' ⟨u0, tn, ta, tm, n⟩ mv er) w → ReI (coPlay Post) none (G (cf.finish mv) cs) w) :
    Pt (coPlay Post) 92 (Go.Sx.fr0 22) (cf :: cs) (some s) [.code (cR (cR (cR (cR c22))))] [(2, .slice pa qs.length cap), (3, .bool calm), (4, vPtr tn), (5, vPtr s.ba), (9, wgP s.Wg), (10, vPtr ta)] (HM s u0 (HL s tn ta n f first cp) L) := by
  have hc := hH.ok
  haveI : Stb (HM s u0 (HL s tn ta n f first cp) L) := HM.stb hc
  refine pt_seq (pt_seq (pt_region ?_))
  have hta : ∀ {w : World}, HM s u0 (HL s tn ta n f first cp) L w → w.cell? ⟨ta, 0, none⟩ = some (.slice (some ⟨s.Rw, 0, none⟩) n n) := fun {w} h => by
    rw [Go.Sx.cell_of_blk (h.mem.own _ _ (List.mem_cons_self ..))]; rfl
  refine pt_val (by decide) rfl (val_load rfl Try.isAgg81 (v := .slice (some ⟨s.Rw, 0, none⟩) n n) (fun w h => hta h)) rfl ?_
  refine pt_val (by decide) rfl (val_len (len := n) rfl Try.underlying81) rfl ?_
  refine pt_val (by decide) rfl (val_move (v := vInt (0 : Nat)) rfl) rfl ?_
  refine pt_regionEnd (pt_block ?_)
  refine pt_loop_inv (HX s u0 tn ta L n) (fun x => HH s tn ta n x.1 cap qs.length pa calm) (fun x => some x.2) (fun x => HM x.2 u0 (HL s tn ta n f first cp) L) (fun x => n - x.1) (0, s) ⟨.refl s, hH, hi, hrw, Nat.zero_le _⟩ ⟨rfl, rfl, rfl, rfl, rfl, rfl, rfl, rfl, trivial⟩ rfl (fun _ h => h) ?_
  rintro ⟨i, t⟩ ⟨hst, hHt, hlen, hrow', hle⟩ hloop
  simp only at hst hHt hlen hrow' hle
  have eHH : ∀ j, HH s tn ta n j cap qs.length pa calm = HH t tn ta n j cap qs.length pa calm := fun j => by simp only [HH, hst.ba, hst.Wg]
  have eHL : HL s tn ta n f first cp = HL t tn ta n f first cp := by simp only [HL, hst.Rw, hst.ba]
  have hct := hHt.ok
  haveI : Stb (HM t u0 (HL s tn ta n f first cp) L) := HM.stb hct
  refine pt_seq (pt_region ?_)
  refine pt_val (by decide) rfl (val_lss_int (a := (i : Int)) (b := (n : Int)) rfl rfl) rfl ?_ (tame_int rfl rfl)
  refine pt_regionEnd (pt_seq (pt_if rfl (fun hlt => ?_) (fun hge => ?_)))
  · refine pt_skip (pt_seq (pt_block ?_))
    refine Pt.weaken (F' := HH t tn ta n i cap qs.length pa calm) (M' := HM t u0 (HL t tn ta n f first cp) L) ?_ (fun _ h => eHL ▸ h) ?_
    · simp only [HH, ← hst.ba, ← hst.Wg]
      rw [hst.ba, hst.Wg]
      exact ⟨rfl, rfl, rfl, rfl, rfl, rfl, rfl, rfl, trivial⟩
    refine hire_round hHt hlen (by omega) (by rw [hst.c]; exact hcn) hrow' (by rw [hst.Rw]; exact hRu) (by rw [hst.Rw]; exact hRL) (by rw [hst.Wg, hst.c]; exact hA) fun s' hst' hH' hlen' hrow'' => ?_
    refine pt_inBlock (pt_region ?_)
    haveI : Stb (HM s' u0 (HL t tn ta n f first cp) L) := HM.stb hH'.ok
    refine pt_val (by decide) rfl (val_add_int (a := (i : Int)) (b := 1) _ rfl rfl rfl (by have := hH.n1; omega)) rfl ?_ (tame_int rfl rfl)
    refine pt_val (by decide) rfl (val_move (v := vInt (i + 1 : Nat)) rfl) rfl ?_
    refine pt_regionEnd (Pt.weaken ?_ (fun _ h => by rw [← eHL] at h; exact h) (hloop (i + 1, s') ⟨hst.trans hst', hH', hlen', hrow'', by omega⟩ (by simp only; omega)))
    simp only [HH, hst.ba, hst.Wg]
    exact ⟨rfl, rfl, rfl, rfl, rfl, rfl, rfl, rfl, trivial⟩
  · have hin : i = n := by omega
    subst hin
    refine pt_exit rfl ?_
    refine Pt.weaken ?_ (fun _ h => h) (play_moves (s := t) (M := HM t u0 (HL s tn ta i f first cp) L) (pa := pa) (cap := cap) (qs := qs) (calm := calm) hHt hlen (by rw [hrow']; simp [hrow, hlen]) (fun z hz => ⟨hz.ko, Mem.rv hz.mem, hz.mem.own _ _ (by simp), by rw [hst.Rw]; exact hz.mem.own _ _ (List.mem_cons_self ..)⟩) (by rw [hst.c]; exact hPA) (by rw [hst.olds]; exact hQ) fun s' tm mv er w e1 e2 hw => h1 s' tm mv er w (e1.trans hst.c) (e2.trans hst.olds) hw)
    rw [hst.Wg]
    exact ⟨rfl, rfl, rfl, rfl, rfl, trivial⟩
/-- The row of actors is goroutine 0's. -/
theorem pt_row {n : Nat} {b : Frame} {cs : List Frame} {F : Go.Sx.Fr} {M : World → Prop} {it : List Item} [hS : Stb M] {Rw : Nat} {row : Array Value} (hents : s.ents = []) (hroles : ∀ i, s.roles i = .quit) (hp : s.pend = [(Rw, .cells row 82)])
    (h : Pt (coPlay Post) n b cs (some { s with hasRow := true, Rw := Rw, row := row, pend := [] }) it F M) : Pt (coPlay Post) n b cs (some s) it F M := by
  intro a w hf hm w₁ h₁ hI gs sl T q role Shun hSh hsm C hsz ha
  have gR := (hI.pend (Rw, .cells row 82) (by rw [hp]; exact List.mem_cons_self ..)).1
  simp only at gR
  have hq : ∀ i, (role i).st = [] := fun i => by
    have h1 := hsm i
    rw [hroles i] at h1
    generalize hr : role i = r at h1
    cases h1
    rfl
  have C' := C.param (Ch' := ({ s with hasRow := true, Rw := Rw, row := row, pend := [] } : CS).Ch) (X' := ({ s with hasRow := true, Rw := Rw, row := row, pend := [] } : CS).X) (fun c h => h) (fun c h => .inl h) (fun i x hx _ => by rw [hq i] at hx; cases hx) (fun ad hX => by
    rcases hX with ⟨e, he, _⟩ | ⟨_, kk, rfl⟩
    · have he : e ∈ s.ents := he
      rw [hents] at he; cases he
    · exact (Array.getElem?_eq_some_iff.1 gR).1)
  refine h a w hf hm w₁ h₁ ⟨fun i e he => ?_, fun i e he => ?_, fun _ => gR, fun x hx => (by cases hx), fun e he => ?_, hI.ks, fun e he => ?_, fun _ => (hI.pend (Rw, .cells row 82) (by rw [hp]; exact List.mem_cons_self ..)).2.2.2⟩ gs sl T q role Shun hSh hsm C' hsz ha
  rotate_right
  · have he : e ∈ s.ents := he
    rw [hents] at he; cases he
  · have he : s.ents[i]? = some e := he
    rw [hents] at he; cases he
  · have he : s.ents[i]? = some e := he
    rw [hents] at he; cases he
  · have he : e ∈ s.ents := he
    rw [hents] at he; cases he
/-- What a play leaves to its caller. -/
structure PlayR (c : Cl) (u0 : World) (olds : List Nat) (mv : Value) (u : World) : Prop where
  tape : u.tape = u0.tape
  os : u.os = u0.os
  output : u.output = u0.output
  size : u0.heap.size ≤ u.heap.size
  keep : ∀ b, b < u0.heap.size → b ∉ olds → u.heap[b]? = u0.heap[b]?
  row : ∃ er, RowE mv 43 2 c.K (movs c c.K) er ∧ ∀ b o, er = some (b, o) → u.heap[b]? = some o ∧ u0.heap.size ≤ b
  sh : c.Sh c.K u
set_option maxRecDepth 100000 in
set_option maxHeartbeats 4000000 in
theorem sw_guards {C : Co Try.prog} {n tn ba : Nat} {f : FuncId} {first cp : Array Value} {F : Go.Sx.Fr} {l : List Go.Sx.Ent} (hn0 : 0 < n) (hn1 : n ≤ 1000) (h4 : Go.Sx.look F 4 = some (vPtr tn)) (h5 : Go.Sx.look F 5 = some (vPtr ba)) (hl1 : some (tn, blk [vInt n] 3) ∈ l) (hl2 : some (ba, blk [.func (.func f) first cp] 53) ∈ l) :
    @SW _ Try.prog C 92 (cL (cL (cR c22))) F (Mem u0 [] l) (fun ex F' w => ex = .normal ∧ Go.Sx.look F' 30 = some (.bool false) ∧ (∀ t v, t < 21 → Go.Sx.look F t = some v → Go.Sx.look F' t = some v) ∧ Mem u0 [] l w) := by
  have hcn : ∀ {w : World}, Mem u0 [] l w → w.cell? ⟨tn, 0, none⟩ = some (vInt n) := fun h => by rw [Go.Sx.cell_of_blk (h.own _ _ hl1)]; rfl
  have hcf : ∀ {w : World}, Mem u0 [] l w → w.cell? ⟨ba, 0, none⟩ = some (.func (.func f) first cp) := fun h => by rw [Go.Sx.cell_of_blk (h.own _ _ hl2)]; rfl
  have e1 : decide ((n : Int) < 1) = false := by simp; omega
  have e2 : decide ((n : Int) > 1000) = false := by simp; omega
  show @SW _ Try.prog C 92 (Code.region 1 _ false) _ _ _
  refine sw_region ?_
  refine ow_val (val_load (by exact h4) Try.isAgg3 (v := vInt n) (fun w h => hcn h)) rfl ?_
  refine ow_val (val_lss_int (a := (n : Int)) (b := 1) rfl rfl) rfl ?_ (tame_int rfl rfl)
  rw [e1]
  refine ow_val (val_move (v := .bool false) rfl) rfl ?_
  refine ow_guard_yes (t := 23) rfl rfl rfl (ow_val (val_load (by exact h4) Try.isAgg3 (v := vInt n) (fun w h => hcn h)) rfl ?_)
  refine ow_guard_yes (t := 23) rfl rfl rfl (ow_val (val_gtr_int (a := (n : Int)) (b := 1000) rfl rfl) rfl ?_ (tame_int rfl rfl))
  rw [e2]
  refine ow_val (Go.Sx.val_pick_false (v := .bool false) rfl rfl) rfl ?_
  refine ow_val (val_move (v := .bool false) rfl) rfl ?_
  refine ow_guard_yes (t := 27) rfl rfl rfl (ow_val (val_load (by exact h5) Try.isAgg53 (v := .func (.func f) first cp) (fun w h => hcf h)) rfl ?_)
  refine ow_guard_yes (t := 27) rfl rfl rfl (ow_val (val_eql_func Try.underlying53 rfl rfl) rfl ?_ (tame_func rfl (.inr ⟨_, _, _, rfl⟩) rfl (.inl rfl)))
  refine ow_val (Go.Sx.val_pick_false (v := .bool false) rfl rfl) rfl ?_
  refine ow_nil fun w hw => ⟨rfl, rfl, fun t v ht hl => ?_, hw⟩
  simp only [Go.Sx.look]
  have : ∀ m, 21 ≤ m → Nat.beq m t = false := fun m hm => by
    cases h : Nat.beq m t with
    | false => rfl
    | true => have := Nat.eq_of_beq_eq_true h; omega
  simp only [this 30 (by omega), this 29 (by omega), this 28 (by omega), this 27 (by omega), this 26 (by omega), this 25 (by omega), this 24 (by omega), this 23 (by omega), this 22 (by omega), this 21 (by omega), cond_false]
  exact hl
set_option maxRecDepth 100000 in
set_option maxHeartbeats 8000000 in
/-- ████ PLAY. ████ -/
theorem play_callI {c : Cl} (hc : c.Ok) (hcc : c.n0 ≤ u0.heap.size) {n cap J : Nat} {olds : List Nat} {qs : List Int} {f : FuncId} {first cp : Array Value} {pa : Option Addr} {calm : Bool} (hn0 : 0 < n) (hn1 : n ≤ 1000) (hcn : c.n = n) (hA : ∀ Wg, ActOk Wg c f first cp)
    (hPA : PA c n qs calm J) (hSh : c.Sh 0 u0) (hfoot : ∀ b, c.foot u0 b → b ∈ olds) (holds : ∀ b ∈ olds, b < u0.heap.size) (hQ : QL u0 olds qs pa) :
    CallI (coPlay Post) 22 #[vInt n, .func (.func f) first cp, .slice pa qs.length cap, .bool calm] none u0 (fun r x' u => ∃ mv, r = .returned mv ∧ x' = none ∧ PlayR c u0 olds mv u) := by
  refine callI_of_pt (vs := [vInt n, .func (.func f) first cp, .slice pa qs.length cap, .bool calm]) Try.func22 rfl rfl fun cf cs h1 h2 => ?_
  refine Pt.imp (M' := Mem u0 [] []) (fun w hw => hw ▸ Mem.refl u0) ?_
  refine pt_seq (pt_region ?_)
  refine pt_new (by decide) rfl (acts_box (v := vInt n) rfl) rfl fun tn htn => ?_
  refine pt_new (by decide) rfl (acts_box (v := .func (.func f) first cp) rfl) rfl fun ba hba => ?_
  refine pt_val (by decide) rfl (val_assign (v := .slice none 0 0) rfl) rfl ?_
  refine pt_regionEnd (pt_seq (pt_seq ?_))
  refine pt_sw (by decide) (sw_guards (C := coPlay Post none) (n := n) (tn := tn) (ba := ba) (f := f) (first := first) (cp := cp) (l := [some (ba, blk [.func (.func f) first cp] 53), some (tn, blk [vInt n] 3)]) hn0 hn1 rfl rfl (by simp) (by simp)) (fun F' y hq => ?_) (fun ex F' y hne hq => hne hq.1)
  obtain ⟨-, h30, hkeep, hy⟩ := hq
  refine Pt.imp (M' := Mem u0 [] [some (ba, blk [.func (.func f) first cp] 53), some (tn, blk [vInt n] 3)]) (fun w hw => hw ▸ hy) ?_
  refine pt_false h30 (pt_skip ?_)
  refine Pt.weaken (F' := [(2, .slice pa qs.length cap), (3, .bool calm), (4, vPtr tn), (5, vPtr ba)]) ⟨hkeep 2 _ (by decide) rfl, hkeep 3 _ (by decide) rfl, hkeep 4 _ (by decide) rfl, hkeep 5 _ (by decide) rfl, trivial⟩ (fun _ h => h) ?_
  refine pt_seq (pt_region ?_)
  refine pt_begin c olds ba (by decide) rfl rfl fun Wg base hbase hWg hwl => ?_
  refine pt_regionEnd (pt_seq (pt_region ?_))
  have hcn4 : ∀ {w : World}, Mem u0 [] [some (ba, blk [.func (.func f) first cp] 53), some (tn, blk [vInt n] 3)] w → w.cell? ⟨tn, 0, none⟩ = some (vInt n) := fun h => by rw [Go.Sx.cell_of_blk (h.own _ _ (List.mem_cons_of_mem _ (List.mem_cons_self ..)))]; rfl
  refine pt_val (by decide) rfl (val_load rfl Try.isAgg3 (v := vInt n) (fun w h => hcn4 h)) rfl ?_
  refine pt_make (obj := .cells (Array.replicate n (.pointer none)) 82) (val := fun b => .slice (some ⟨b, 0, none⟩) n n) ⟨rfl, .inl rfl⟩ (by decide) rfl rfl (fun a w hf => slice81 hn1 (ev_eval hf rfl) w) fun Rw hRw => ?_
  refine Pt.imp (M' := Mem u0 [] [some (ba, blk [.func (.func f) first cp] 53), some (tn, blk [vInt n] 3)]) (fun _ h => h.1) ?_
  refine pt_new (by decide) rfl (acts_alloc Try.zeroValue81) rfl fun ta hta => ?_
  refine pt_do (by decide) rfl (does_store_to (l := [some (ta, blk [.slice none 0 0] 81), some (ba, blk [.func (.func f) first cp] 53), some (tn, blk [vInt n] 3)]) [.slice (some ⟨Rw, 0, none⟩) n n] 0 rfl rfl rfl rfl Try.sizeOf81 Nat.zero_lt_one rfl) (fun _ _ => ?_)
  refine pt_regionEnd ?_
  refine Pt.imp (M' := Mem u0 [] [some (ta, blk [.slice (some ⟨Rw, 0, none⟩) n n] 81), some (ba, blk [.func (.func f) first cp] 53), some (tn, blk [vInt n] 3)]) (fun _ h => h) ?_
  refine pt_row (Rw := Rw) (row := Array.replicate n (.pointer none)) rfl (fun _ => rfl) rfl (pt_know (Pt.world fun z hz => ?_))
  obtain ⟨hz, hcv⟩ := hz
  have hRz : Rw < z.heap.size := (Array.getElem?_eq_some_iff.1 (hcv.row rfl)).1
  generalize hs : ({ CS.zero c olds ba Wg base hwl with hasRow := true, Rw := Rw, row := Array.replicate n (.pointer none), pend := [] } : CS) = s at *
  have hRu : u0.heap.size ≤ Rw := by obtain ⟨v, hv, rfl⟩ := hRw.world; exact hv.size
  have hlt : ∀ b o, some (b, o) ∈ [some (ta, blk [.slice (some ⟨Rw, 0, none⟩) n n] 81), some (ba, blk [.func (.func f) first cp] 53), some (tn, blk [vInt n] 3)] → u0.heap.size ≤ b ∧ b < z.heap.size := fun b o hb => by
    refine ⟨?_, hz.lt (Go.Sx.mem_keys hb)⟩
    rcases hz.fresh b (Go.Sx.mem_keys hb) with h | h
    · exact h
    · cases h
  have htn2 := hlt tn (blk [vInt n] 3) (by simp)
  have hta2 := hlt ta _ (List.mem_cons_self ..)
  have hKO : KO s z := by
    rw [← hs]
    refine ⟨fun i e he => (by cases he), hc.sh _ _ _ hSh (OrdK.of_rv (Mem.rv hz)), fun b hb => .inl (hfoot b ((hc.foot _ _ (hc.rt _ _ hSh) (OrdK.of_rv (Mem.rv hz)) b).2 hb)), fun h => by cases h⟩
  have hHS : HS s u0 tn ta z.heap.size n := by
    rw [← hs]
    exact ⟨hc, ⟨hbase, fun i j e e' h => (by cases h), fun i e h => (by cases h), fun i e h => (by cases h), fun j _ => rfl, fun i e h => (by cases h), fun h => (by cases h)⟩, rfl, rfl, rfl, rfl, fun i hi => (by cases hi), holds, fun e he => (by cases he), htn2, hta2, hn0, hn1, rfl, hcc⟩
  refine Pt.weaken ?_ (fun w hw => ?_) (play_hire (s := s) (u0 := u0) (L := z.heap.size) (tn := tn) (ta := ta) (n := n) (cap := cap) (J := J) (qs := qs) (f := f) (first := first) (cp := cp) (pa := pa) (calm := calm) hHS (by rw [← hs]; rfl) (by rw [← hs]; exact hcn) (by rw [← hs]; simp [hrow, CS.zero]) (by rw [← hs]; exact hRu) (by rw [← hs]; exact hRz) (by rw [← hs]; exact hA Wg) (by rw [← hs]; exact hPA) (by rw [← hs]; exact hQ) fun s' tm mv er w e1 e2 hw => h1 mv none w (hw.mono fun u hu => ⟨mv, rfl, rfl, ?_⟩))
  · rw [← hs]
    exact ⟨rfl, rfl, rfl, rfl, rfl, rfl, trivial⟩
  · rw [hw]
    refine ⟨?_, hKO, Nat.le_refl _⟩
    rw [← hs]; exact hz
  · obtain ⟨t, ⟨roles, last, ov, oc, rfl⟩, hM, hN⟩ := hu
    have ec : s'.c = c := by rw [e1, ← hs]; rfl
    have eo : s'.olds = olds := by rw [e2, ← hs]; rfl
    rw [ec] at hM
    refine ⟨hM.tape, hM.os, hM.output, hM.size, fun b hb ho => hM.keep b hb (by show b ∉ s'.olds; rw [eo]; exact ho), ⟨er, hM.row, fun b o he => ⟨(hM.her b o he).1, ?_⟩⟩, ?_⟩
    · exact Nat.le_trans hN (hM.her b o he).2
    · have := hM.ko.sh
      have e3 : (s'.turn roles c.K last ov oc).c.Sh (s'.turn roles c.K last ov oc).k u = c.Sh c.K u := by
        show s'.c.Sh c.K u = _
        rw [ec]
      rw [← e3]; exact this
end
end Go.Bt
end
section
namespace Go.Bt
/-- An instruction: its kind, its number. -/
abbrev Ins := Int × Int
/-- The board, and at which pick each note was written. -/
structure Bd where
  notes : List (Int × Int)
  pks : List Int
/-- An actor: its place, whether it waits, whether it is over. -/
structure Ac where
  pl : Int
  waits : Bool
  over : Bool
structure Mac where
  acs : List Ac
  bd : Bd
  moves : List (Int × Bool)
def Bd.note (B : Bd) (a x k : Int) : Bd := ⟨B.notes ++ [(a, x)], B.pks ++ [k]⟩
def stands (l : List (Int × Int)) (v : Int) : Bool := l.any fun x => x.2 == v
inductive Ans where
  | no | yes | broken
  deriving DecidableEq
/-- What ready answers, and what it leaves. -/
def rdyA (a k : Int) (o : Ins) (B : Bd) : Ans :=
  if o.1 = 3 then (if o.2 ≤ (B.notes.length : Int) then .yes else .no)
  else if o.1 = 4 then (if stands B.notes o.2 = true then .yes else .no)
  else if o.1 = 5 then .yes
  else if o.1 = 8 then .broken
  else if o.1 = 10 then (if o.2 ≤ k then .yes else .no)
  else .no
def rdyB (a k : Int) (o : Ins) (B : Bd) : Bd := if o.1 = 10 then B.note a k k else B
def isUntil (d : Int) : Bool := (decide (3 ≤ d) && decide (d ≤ 6)) || d == 8 || d == 10
/-- From its place on. -/
def runL (a k : Int) : List Ins → Nat → Bd → Ac × Bd
  | [], j, B => (⟨j, false, true⟩, B)
  | o :: r, j, B =>
    if o.1 = 1 then runL a k r (j + 1) (B.note a o.2 k)
    else if o.1 = 9 then runL a k r (j + 1) (B.note a k k)
    else if o.1 = 2 then (⟨j + 1, false, false⟩, B)
    else if isUntil o.1 = true then
      match rdyA a k o B with
      | .no => (⟨j, true, false⟩, rdyB a k o B)
      | .broken => (⟨j, false, true⟩, rdyB a k o B)
      | .yes => runL a k r (j + 1) (rdyB a k o B)
    else if o.1 = 7 ∨ o.1 = 11 then (⟨j, false, true⟩, B)
    else runL a k r (j + 1) B
/-- One pick of one actor. -/
def acPick (a k : Int) (p : List Ins) (c : Ac) (B : Bd) : Ac × Bd × Bool :=
  if c.over = true then (c, B, false)
  else if c.pl < 0 then let r := runL a k p 0 B; (r.1, r.2, true)
  else if c.waits = true then
    match p[c.pl.toNat]? with
    | none => (c, B, false)
    | some o =>
      match rdyA a k o B with
      | .no => (c, rdyB a k o B, false)
      | .broken => (⟨c.pl, true, true⟩, rdyB a k o B, true)
      | .yes => let r := runL a k (p.drop (c.pl.toNat + 1)) (c.pl.toNat + 1) (rdyB a k o B); (r.1, r.2, true)
  else let r := runL a k (p.drop c.pl.toNat) c.pl.toNat B; (r.1, r.2, true)
def Mac.pick (ps : List (List Ins)) (m : Mac) (a : Nat) : Mac :=
  match m.acs[a]? with
  | none => m
  | some c =>
    let r := acPick a m.moves.length (ps.getD a []) c m.bd
    ⟨m.acs.set a r.1, r.2.1, m.moves ++ [((a : Int), r.2.2)]⟩
def mac0 (n : Nat) : Mac := ⟨List.replicate n ⟨-1, false, false⟩, ⟨[], []⟩, []⟩
/-- Whom pick k means. -/
def whoOf (n : Nat) (qs : List Int) (k : Nat) : Nat := match qs[k]? with
  | some q => (q % (n : Int)).toNat
  | none => (k - qs.length) % n
/-- The machine behind k picks. -/
def macN (ps : List (List Ins)) (qs : List Int) : Nat → Mac
  | 0 => mac0 ps.length
  | k + 1 => (macN ps qs k).pick ps (whoOf ps.length qs k)
section
variable {ps : List (List Ins)} {qs : List Int}
theorem whoOf_lt {n : Nat} (hn : 0 < n) (qs : List Int) (k : Nat) : whoOf n qs k < n := by
  unfold whoOf
  split
  · rename_i q _
    have h1 : 0 ≤ q % (n : Int) := Int.emod_nonneg q (by omega)
    have h2 : q % (n : Int) < n := Int.emod_lt_of_pos q (by omega)
    omega
  · exact Nat.mod_lt _ hn
theorem mac_len (hn : 0 < ps.length) : ∀ k, (macN ps qs k).acs.length = ps.length ∧ (macN ps qs k).moves.length = k
  | 0 => ⟨List.length_replicate, rfl⟩
  | k + 1 => by
    obtain ⟨h1, h2⟩ := mac_len hn k
    have hlt : whoOf ps.length qs k < (macN ps qs k).acs.length := by rw [h1]; exact whoOf_lt hn qs k
    simp only [macN, Mac.pick, List.getElem?_eq_getElem hlt, List.length_set, List.length_append, List.length_singleton, h1, h2, and_self]
/-- The actor's state behind k picks. -/
def acN (ps : List (List Ins)) (qs : List Int) (i k : Nat) : Ac := ((macN ps qs k).acs[i]?).getD ⟨-1, false, false⟩
def movedN (ps : List (List Ins)) (qs : List Int) (k : Nat) : Bool := (acPick (whoOf ps.length qs k) k (ps.getD (whoOf ps.length qs k) []) (acN ps qs (whoOf ps.length qs k) k) (macN ps qs k).bd).2.2
theorem mac_step (hn : 0 < ps.length) (k : Nat) :
    macN ps qs (k + 1) = ⟨(macN ps qs k).acs.set (whoOf ps.length qs k) (acPick (whoOf ps.length qs k) k (ps.getD (whoOf ps.length qs k) []) (acN ps qs (whoOf ps.length qs k) k) (macN ps qs k).bd).1,
      (acPick (whoOf ps.length qs k) k (ps.getD (whoOf ps.length qs k) []) (acN ps qs (whoOf ps.length qs k) k) (macN ps qs k).bd).2.1,
      (macN ps qs k).moves ++ [((whoOf ps.length qs k : Int), movedN ps qs k)]⟩ := by
  obtain ⟨h1, h2⟩ := mac_len (qs := qs) hn k
  have hlt : whoOf ps.length qs k < (macN ps qs k).acs.length := by rw [h1]; exact whoOf_lt hn qs k
  have e : acN ps qs (whoOf ps.length qs k) k = (macN ps qs k).acs[whoOf ps.length qs k] := by unfold acN; rw [List.getElem?_eq_getElem hlt]; rfl
  unfold movedN
  rw [e]
  simp only [macN, Mac.pick, List.getElem?_eq_getElem hlt, h2]
theorem ac_step (hn : 0 < ps.length) (k : Nat) : acN ps qs (whoOf ps.length qs k) (k + 1) = (acPick (whoOf ps.length qs k) k (ps.getD (whoOf ps.length qs k) []) (acN ps qs (whoOf ps.length qs k) k) (macN ps qs k).bd).1 := by
  obtain ⟨h1, h2⟩ := mac_len (qs := qs) hn k
  have hlt : whoOf ps.length qs k < (macN ps qs k).acs.length := by rw [h1]; exact whoOf_lt hn qs k
  conv => lhs; unfold acN
  rw [mac_step hn k]
  simp only [List.getElem?_set_self hlt, Option.getD_some]
theorem ac_other (hn : 0 < ps.length) {i k : Nat} (h : whoOf ps.length qs k ≠ i) : acN ps qs i (k + 1) = acN ps qs i k := by
  unfold acN
  rw [mac_step hn k]
  simp only [List.getElem?_set_ne h]
/-- Nobody means i meanwhile. -/
theorem ac_same (hn : 0 < ps.length) {i k : Nat} : ∀ d, (∀ m, k ≤ m → m < k + d → whoOf ps.length qs m ≠ i) → acN ps qs i (k + d) = acN ps qs i k
  | 0, _ => rfl
  | d + 1, h => by rw [← Nat.add_assoc, ac_other hn (h (k + d) (by omega) (by omega)), ac_same hn d fun m h1 h2 => h m h1 (by omega)]
theorem bd_step (hn : 0 < ps.length) (k : Nat) : (macN ps qs (k + 1)).bd = (acPick (whoOf ps.length qs k) k (ps.getD (whoOf ps.length qs k) []) (acN ps qs (whoOf ps.length qs k) k) (macN ps qs k).bd).2.1 := by rw [mac_step hn k]
theorem ac_zero (i : Nat) : acN ps qs i 0 = ⟨-1, false, false⟩ := by
  unfold acN macN mac0
  simp only [List.getElem?_replicate]
  split <;> rfl
/-- What a run leaves is well made. -/
theorem runL_pl (a k : Int) : ∀ (l : List Ins) (j : Nat) (B : Bd), 0 ≤ (runL a k l j B).1.pl ∧ ((runL a k l j B).1.over = true → (runL a k l j B).1.waits = false)
  | [], j, B => ⟨by simp [runL], fun _ => rfl⟩
  | o :: r, j, B => by
    unfold runL
    split
    · exact runL_pl a k r (j + 1) _
    split
    · exact runL_pl a k r (j + 1) _
    split
    · exact ⟨by simp; omega, fun h => by cases h⟩
    split
    · split
      · exact ⟨by simp, fun h => by cases h⟩
      · exact ⟨by simp, fun _ => rfl⟩
      · exact runL_pl a k r (j + 1) _
    split
    · exact ⟨by simp, fun _ => rfl⟩
    · exact runL_pl a k r (j + 1) _
theorem movs_mac (hn : 0 < ps.length) : ∀ k, (macN ps qs k).moves = (List.range k).map fun m => ((whoOf ps.length qs m : Int), movedN ps qs m)
  | 0 => rfl
  | k + 1 => by rw [mac_step hn k, List.range_succ, List.map_append, ← movs_mac hn k]; rfl
/-- Over and moved. -/
theorem pick_over {a k : Int} {p : List Ins} {c : Ac} {B : Bd} (h : c.over = true) : acPick a k p c B = (c, B, false) := by unfold acPick; rw [if_pos h]
theorem pick_moved {a k : Int} {p : List Ins} {c : Ac} {B : Bd} (h : c.over = false) (h' : (acPick a k p c B).1.over = true) : (acPick a k p c B).2.2 = true := by
  unfold acPick at h' ⊢
  rw [if_neg (by rw [h]; simp)] at h' ⊢
  split at h'
  · rename_i hp; rw [if_pos hp]
  · rename_i hp
    rw [if_neg hp]
    split at h'
    · rename_i hw
      rw [if_pos hw]
      split at h'
      · rw [h] at h'; cases h'
      · rename_i o ho
        cases e : rdyA a k o B with
        | no => rw [e] at h'; simp only at h'; rw [h] at h'; cases h'
        | broken => rfl
        | yes => rfl
    · rename_i hw; rw [if_neg hw]
end
end Go.Bt
end
section
namespace Go.Bt
variable [Gnd]
open Go.Conc Go.ConcN Go.RowKit Go.Proofs
open Go.Sx (Rly RV pz pzo pz_heap spec isWg Gud Co blk RowE Mem)
def flatB (l : List (Int × Int)) : List Value := l.flatMap fun x => [vI x.1, vI x.2]
theorem flatB_snoc (l : List (Int × Int)) (x : Int × Int) : flatB (l ++ [x]) = flatB l ++ [vI x.1, vI x.2] := by simp [flatB]
/-- An ordinary block of before, but the stage's. -/
def OldO (u0 : World) (sb b : Nat) : Prop := ∃ o, u0.heap[b]? = some o ∧ spS o = false ∧ o.isChan = false ∧ b ≠ sb
/-- The stage's blocks. -/
structure SSt (u0 : World) (sb : Nat) (pv : Value) (B : Bd) (bs pk : Value) (eb ep : Go.Sx.Ent) (v : World) : Prop where
  st : v.heap[sb]? = some (blk [pv, bs, pk] 40)
  rb : RowE bs 56 2 B.notes.length (flatB B.notes) eb
  rp : RowE pk 3 1 B.pks.length (B.pks.map vI) ep
  hb : ∀ b o, eb = some (b, o) → v.heap[b]? = some o ∧ ¬ OldO u0 sb b
  hp : ∀ b o, ep = some (b, o) → v.heap[b]? = some o ∧ ¬ OldO u0 sb b
  old : ∀ b o, u0.heap[b]? = some o → spS o = false → o.isChan = false → b ≠ sb → v.heap[b]? = some o
def ShS (u0 : World) (sb : Nat) (pv : Value) (B : Bd) (v : World) : Prop := ∃ bs pk eb ep, SSt u0 sb pv B bs pk eb ep v
def footS (sb : Nat) (v : World) (b : Nat) : Prop := b = sb ∨ ∃ k n c, (k = 1 ∨ k = 2) ∧ v.cell? ⟨sb, k, none⟩ = some (.slice (some ⟨b, 0, none⟩) n c)
def RtS (sb : Nat) (v : World) : Prop := ∃ o, v.heap[sb]? = some o ∧ spec o = false ∧ o.isChan = false ∧ cty o = false
/-- How many picks come while calm. -/
def stopJ (mv : Nat → Bool) (n : Nat) : Nat → Nat → Nat → Nat
  | 0, j, _ => j
  | f + 1, j, q => if q < n then stopJ mv n f (j + 1) (if mv j then 0 else q + 1) else j
def calmJ (ps : List (List Ins)) (qs : List Int) (calm : Bool) : Nat := if calm then stopJ (fun j => movedN ps qs (qs.length + j)) ps.length 100000 0 0 else 0
def clOf (ps : List (List Ins)) (qs : List Int) (calm : Bool) (u0 : World) (sb : Nat) (pv : Value) : Cl :=
  { n := ps.length, K := qs.length + calmJ ps qs calm, who := whoOf ps.length qs, over := fun i k => (acN ps qs i k).over, moved := movedN ps qs, Sh := fun k v => ShS u0 sb pv (macN ps qs k).bd v, foot := footS sb, Rt := RtS sb, n0 := u0.heap.size }
theorem row_ord {mv : Value} {T : TypeId} {size n : Nat} {xs : List Value} {er : Go.Sx.Ent} (h : RowE mv T size n xs er) {b : Nat} {o : Obj} (he : er = some (b, o)) : ∃ cells, o = blk cells T := by
  subst he
  rcases h.2 with ⟨_, _, h⟩ | ⟨b', cap, rest, _, _, _, _, h⟩
  · cases h
  · cases h; exact ⟨_, rfl⟩
theorem row_at {T : TypeId} {size n m c b : Nat} {xs : List Value} {er : Go.Sx.Ent} (h : RowE (.slice (some ⟨b, 0, none⟩) m c) T size n xs er) : ∃ cells, er = some (b, blk cells T) := by
  rcases h.2 with ⟨h1, _, _⟩ | ⟨b', cap, rest, h1, _, _, _, h2⟩
  · cases h1
  · cases h1; exact ⟨_, h2⟩
section
variable {u0 : World} {sb : Nat} {pv : Value} {B : Bd} {v v' : World}
theorem ShS.ordk (h : ShS u0 sb pv B v) (ho : OrdK u0.heap.size v v') : ShS u0 sb pv B v' := by
  obtain ⟨bs, pk, eb, ep, h1, h2, h3, h4, h5, h6⟩ := h
  refine ⟨bs, pk, eb, ep, ho _ _ h1 rfl rfl (.inl rfl), h2, h3, fun b o he => ?_, fun b o he => ?_, fun b o hb g1 g2 g4 => ho _ _ (h6 b o hb g1 g2 g4) g1 g2 (.inr (Array.getElem?_eq_some_iff.1 hb).1)⟩
  · obtain ⟨cells, rfl⟩ := row_ord h2 he
    exact ⟨ho _ _ (h4 b _ he).1 rfl rfl (.inl rfl), (h4 b _ he).2⟩
  · obtain ⟨cells, rfl⟩ := row_ord h3 he
    exact ⟨ho _ _ (h5 b _ he).1 rfl rfl (.inl rfl), (h5 b _ he).2⟩
theorem foot_ordk {n : Nat} (h : RtS sb v) (ho : OrdK n v v') (b : Nat) : footS sb v b ↔ footS sb v' b := by
  obtain ⟨o, h1, h2, h3, h4⟩ := h
  have e : ∀ k, v'.cell? ⟨sb, k, none⟩ = v.cell? ⟨sb, k, none⟩ := fun k => by
    unfold World.cell?
    simp only [ho _ _ h1 (spS_of_spec h2) h3 (.inl (cty2_of h2 h4)), h1]
  unfold footS
  simp only [e]
theorem SSt.foot {bs pk : Value} {eb ep : Go.Sx.Ent} (h : SSt u0 sb pv B bs pk eb ep v) {b : Nat} (hb : footS sb v b) : b = sb ∨ (∃ cells, eb = some (b, blk cells 56)) ∨ (∃ cells, ep = some (b, blk cells 3)) := by
  rcases hb with hb | ⟨k, n, c, hk, hc⟩
  · exact .inl hb
  · right
    rw [Go.Sx.cell_of_blk h.st] at hc
    rcases hk with rfl | rfl
    · have hc : some bs = some (.slice (some ⟨b, 0, none⟩) n c) := hc
      obtain rfl := Option.some.inj hc
      exact .inl (row_at h.rb)
    · have hc : some pk = some (.slice (some ⟨b, 0, none⟩) n c) := hc
      obtain rfl := Option.some.inj hc
      exact .inr (row_at h.rp)
theorem SSt.footB {bs pk : Value} {eb ep : Go.Sx.Ent} (h : SSt u0 sb pv B bs pk eb ep v) {b : Nat} {o : Obj} (hb : eb = some (b, o)) : footS sb v b := by
  refine .inr ⟨1, ?_⟩
  rcases h.rb.2 with ⟨_, _, h1⟩ | ⟨b', cap, rest, h1, _, _, _, h2⟩
  · rw [hb] at h1; cases h1
  · rw [hb] at h2; cases h2
    exact ⟨_, _, .inl rfl, by rw [Go.Sx.cell_of_blk h.st]; exact congrArg some h1⟩
theorem SSt.footP {bs pk : Value} {eb ep : Go.Sx.Ent} (h : SSt u0 sb pv B bs pk eb ep v) {b : Nat} {o : Obj} (hb : ep = some (b, o)) : footS sb v b := by
  refine .inr ⟨2, ?_⟩
  rcases h.rp.2 with ⟨_, _, h1⟩ | ⟨b', cap, rest, h1, _, _, _, h2⟩
  · rw [hb] at h1; cases h1
  · rw [hb] at h2; cases h2
    exact ⟨_, _, .inr rfl, by rw [Go.Sx.cell_of_blk h.st]; exact congrArg some h1⟩
theorem cl_ok {ps : List (List Ins)} {qs : List Int} {calm : Bool} (hn : 0 < ps.length) : (clOf ps qs calm u0 sb pv).Ok where
  sh := fun k v v' h ho => h.ordk ho
  foot := fun v v' h ho b => foot_ordk h ho b
  rt := fun k v ⟨bs, pk, eb, ep, h⟩ => ⟨_, h.st, rfl, rfl, rfl⟩
  rtk := fun v v' ⟨o, h1, h2, h3, h4⟩ ho => ⟨o, ho _ _ h1 (spS_of_spec h2) h3 (.inl (cty2_of h2 h4)), h2, h3, h4⟩
  fsh := fun k v ⟨bs, pk, eb, ep, h⟩ b hb => by
    rcases h.foot hb with rfl | ⟨cells, he⟩ | ⟨cells, he⟩
    · exact ⟨_, h.st, rfl, rfl, rfl⟩
    · exact ⟨_, (h.hb b _ he).1, rfl, rfl, rfl⟩
    · exact ⟨_, (h.hp b _ he).1, rfl, rfl, rfl⟩
  over0 := fun i => by show (acN ps qs i 0).over = false; rw [ac_zero]
  overS := fun i k h => by
    have h : (acN ps qs i (k + 1)).over ≠ (acN ps qs i k).over := h
    by_cases hw : whoOf ps.length qs k = i
    · refine ⟨hw, ?_⟩
      show (acN ps qs i k).over = false
      cases ho : (acN ps qs i k).over with
      | false => rfl
      | true =>
        subst hw
        rw [ac_step hn k, pick_over ho] at h
        exact absurd rfl h
    · rw [ac_other hn hw] at h; exact absurd rfl h
  moved := fun k h1 h2 => by
    have h1 : (acN ps qs (whoOf ps.length qs k) (k + 1)).over = true := h1
    have h2 : (acN ps qs (whoOf ps.length qs k) k).over = false := h2
    rw [ac_step hn k] at h1
    exact pick_moved h2 h1
  skip := fun k v h hs => by
    have h : (acN ps qs (whoOf ps.length qs k) k).over = true := h
    show ShS u0 sb pv (macN ps qs (k + 1)).bd v
    rw [bd_step hn k, pick_over h]; exact hs
  mvd := fun k h => by
    have h : (acN ps qs (whoOf ps.length qs k) k).over = true := h
    show movedN ps qs k = false
    unfold movedN
    rw [pick_over h]
theorem stopJ_spec (mv : Nat → Bool) (n len : Nat) (c : Cl) (hc : ∀ j, c.moved (len + j) = mv j) : ∀ (f j : Nat), f + j = 100000 → (∀ i, i < j → calmQ c len i < n) →
    (∀ i, i < stopJ mv n f j (calmQ c len j) → i < 100000 ∧ calmQ c len i < n) ∧ ¬ (stopJ mv n f j (calmQ c len j) < 100000 ∧ calmQ c len (stopJ mv n f j (calmQ c len j)) < n) ∧ stopJ mv n f j (calmQ c len j) ≤ 100000
  | 0, j, hf, h => by
    simp only [stopJ]
    exact ⟨fun i hi => ⟨by omega, h i hi⟩, by omega, by omega⟩
  | f + 1, j, hf, h => by
    simp only [stopJ]
    split
    · rename_i hq
      have e : (if mv j then 0 else calmQ c len j + 1) = calmQ c len (j + 1) := by rw [← hc j]; rfl
      rw [e]
      exact stopJ_spec mv n len c hc f (j + 1) (by omega) fun i hi => by
        by_cases hij : i = j
        · subst hij; exact hq
        · exact h i (by omega)
    · rename_i hq
      exact ⟨fun i hi => ⟨by omega, h i hi⟩, fun h => hq h.2, by omega⟩
theorem stop_all (mv : Nat → Bool) (n len : Nat) (c : Cl) (hc : ∀ j, c.moved (len + j) = mv j) (f : Nat) (hf : f = 100000) :
    (∀ i, i < stopJ mv n f 0 0 → i < 100000 ∧ calmQ c len i < n) ∧ ¬ (stopJ mv n f 0 0 < 100000 ∧ calmQ c len (stopJ mv n f 0 0) < n) ∧ stopJ mv n f 0 0 ≤ 100000 := by
  have h := stopJ_spec mv n len c hc f 0 (by omega) (fun i hi => by omega)
  rw [show calmQ c len 0 = 0 from rfl] at h
  exact h
theorem calmJ_le (ps : List (List Ins)) (qs : List Int) (calm : Bool) : calmJ ps qs calm ≤ 100000 := by
  unfold calmJ
  split
  · exact (stop_all (fun j => movedN ps qs (qs.length + j)) ps.length qs.length { n := 0, K := 0, who := fun _ => 0, over := fun _ _ => false, moved := fun k => movedN ps qs k, Sh := fun _ _ => True, foot := fun _ _ => False, Rt := fun _ => True, n0 := 0 } (fun j => rfl) _ rfl).2.2
  · omega
theorem cl_pa {ps : List (List Ins)} {qs : List Int} {calm : Bool} (hq : qs.length ≤ 8796092000000) : PA (clOf ps qs calm u0 sb pv) ps.length qs calm (calmJ ps qs calm) where
  who1 := fun k q h => by show whoOf ps.length qs k = _; unfold whoOf; rw [h]
  who2 := fun j _ => by
    show whoOf ps.length qs (qs.length + j) = _
    unfold whoOf
    rw [List.getElem?_eq_none (by omega)]
    simp
  K := rfl
  J0 := fun h => by unfold calmJ; rw [h]; rfl
  run := fun j hj => by
    unfold calmJ at hj
    split at hj
    · exact (stop_all (fun j => movedN ps qs (qs.length + j)) ps.length qs.length (clOf ps qs calm u0 sb pv) (fun j => rfl) _ rfl).1 j hj
    · omega
  stop := fun h => by
    unfold calmJ
    rw [if_pos h]
    exact (stop_all (fun j => movedN ps qs (qs.length + j)) ps.length qs.length (clOf ps qs calm u0 sb pv) (fun j => rfl) _ rfl).2.1
  small := by
    have := calmJ_le ps qs calm
    show qs.length + calmJ ps qs calm ≤ _
    omega
end
end Go.Bt
end
section
namespace Go.Sx
variable [Gnd]
open Go.Conc Go.Proofs Go.Bt
theorem callV_of_callI {P : Program} [C : Co P] {f : FuncId} {args : Array Value} {v : World} {T : Ending → World → Prop} (h : CallI (fun _ : Unit => C) f args () v (fun e _ w => T e w)) : CallV P f args v T :=
  fun w hw c cs h1 h2 => h w hw c cs (fun r _ w' hx => h1 r w' hx) (fun ch _ w' hx => h2 ch w' hx)
section
variable {P : Program} {n : Nat} {F : Fr} {l : List Oper} {S : World → Prop} {late : List Nat} {listed : Array Bool} {Q : Po} {r : List (Nat × Nat)} {i : Nat} {op : Op} {ty : TypeId} {ps : String} {af : Array Edge}
theorem lw_make [Co P] {t : Nat} {w0 : World} {olds : List Nat} {m : List Ent} {o : Obj} {len cap : Nat} (ho : nth l i = some ⟨some t, op, ty, ps, af, none⟩)
    (hv : Acts P n F (Mem w0 olds m) op ty (fun w u w' => u = .slice (some ⟨w.heap.size, 0, none⟩) len cap ∧ Mem w0 olds (some (w.heap.size, o) :: m) w')) (ht : Nat.blt t n = true) (hS : ∀ w, Mem w0 olds m w → S w)
    (h : ∀ b, w0.heap.size ≤ b → LW P n l S late r (listed.setIfInBounds i true) ((t, .slice (some ⟨b, 0, none⟩) len cap) :: F) (Mem w0 olds (some (b, o) :: m)) Q) (hT : Tame P n F op ty := by infer_instance) (hS' : Stb S := by infer_instance) : LW P n l S late ((i, 2) :: r) listed F (Mem w0 olds m) Q :=
  lw_act (hT := hT) (hS' := hS') ho hv ht (fun _ w v w' hm hr => hS w' hr.2.forget) (fun w v hm => by
    rintro a₁ w₁ hf ⟨w', ⟨rfl, hm'⟩, hr_⟩
    exact h w.heap.size hm.size a₁ w₁ hf ⟨w', hm', hr_⟩)
theorem lw_append' [Co P] {t : Nat} {M : World → Prop} [Stb M] {w0 : World} {olds : List Nat} {m : List Ent} {E : TypeId} {size k idx : Nat} {xs : List Value} (ho : nth l i = some ⟨some t, op, ty, ps, af, none⟩)
    (hv : Acts P n F M op ty (fun _ u w' => ∃ e', RowE u E size k xs e' ∧ Mem w0 olds (upd m idx e') w')) (ht : Nat.blt t n = true) (hc : clean late (listed.setIfInBounds i true) = false)
    (h : ∀ a c e', RowE (.slice a k c) E size k xs e' → LW P n l S late r (listed.setIfInBounds i true) ((t, .slice a k c) :: F) (Mem w0 olds (upd m idx e')) Q) (hT : Tame P n F op ty := by infer_instance) (hS' : Stb S := by infer_instance) : LW P n l S late ((i, 2) :: r) listed F M Q :=
  lw_act (hT := hT) (hS' := hS') ho hv ht (fun h' => by rw [hc] at h'; cases h') (fun w v hm => by
    rintro a₁ w₁ hf ⟨w', ⟨e', hr', hm'⟩, hr_⟩
    obtain ⟨av, cv, rfl, _⟩ := hr'.slice
    exact h av cv e' hr' a₁ w₁ hf ⟨w', hm', hr_⟩)
theorem lw_val' [Co P] {t : Nat} {v : Value} {M : World → Prop} [hM' : Stb M] (ho : nth l i = some ⟨some t, op, ty, ps, af, none⟩) (hv : Val P n F M op ty v) (ht : Nat.blt t n = true) (hc : clean late (listed.setIfInBounds i true) = false)
    (h : LW P n l S late r (listed.setIfInBounds i true) ((t, v) :: F) M Q) (hT : Tame P n F op ty := by infer_instance) (hS' : Stb S := by infer_instance) : LW P n l S late ((i, 2) :: r) listed F M Q :=
  lw_act (hT := hT) (hS' := hS') ho hv.acts ht (fun h' => by rw [hc] at h'; cases h') (fun w u hm => by
    rintro a₁ w₁ hf ⟨w', ⟨rfl, rfl⟩, hr_⟩
    exact h a₁ w₁ hf ⟨_, hm, hr_⟩)
theorem lw_do_eq [Co P] {M M' : World → Prop} [Stb M] (ho : nth l i = some ⟨none, op, ty, ps, af, none⟩) (hc : clean late (listed.setIfInBounds i true) = false)
    (hv : Does P n F M op ty (fun _ => M')) (h : LW P n l S late r (listed.setIfInBounds i true) F M' Q) (hT : Tame P n F op ty := by infer_instance) (hS' : Stb S := by infer_instance) : LW P n l S late ((i, 2) :: r) listed F M Q :=
  lw_do (hT := hT) (hS' := hS') ho hv (fun h' => by rw [hc] at h'; cases h') (fun _ _ => h)
end
section
variable [C : Co Try.prog]
set_option maxRecDepth 100000 in
/-- Turn.Pick. -/
theorem pick_v {T : Nat} {k : Int} {v : World} (ht : v.cell? ⟨T, 2, none⟩ = some (vInt k)) : CallV Try.prog 21 #[vPtr T] v (fun r u => r = .returned (vInt k) ∧ RV v u) := by
  refine callV_of_callI (callI_of_pt (vs := [vPtr T]) Try.func21 rfl rfl fun cf cs h1 h2 => ?_)
  refine Pt.imp (M' := fun u => RV v u) (fun u hu => hu ▸ RV.refl _) ?_
  have hct : ∀ {w : World}, RV v w → w.cell? ⟨T, 2, none⟩ = some (vInt k) := fun {w} hr => by
    unfold World.cell? at ht ⊢
    cases hb : v.heap[T]? with
    | none => simp only [hb] at ht; cases ht
    | some o => simp only [hb] at ht; simp only [hr.heap _ _ hb]; exact ht
  refine pt_seq (pt_region ?_)
  refine pt_val (by decide) rfl (val_assign (v := vInt 0) rfl) rfl ?_
  refine pt_regionEnd (pt_seq (pt_seq (pt_region ?_)))
  refine pt_val (by decide) rfl (val_move (v := vPtr T) rfl) rfl ?_
  refine pt_val (by decide) rfl (val_eql_nilptr Try.underlying44 rfl rfl) rfl ?_ (tame_nilptr rfl rfl (.inl rfl))
  refine pt_regionEnd (pt_false rfl (pt_skip (pt_seq (pt_region ?_))))
  refine pt_val (by decide) rfl (val_move (v := vPtr T) rfl) rfl ?_
  refine pt_val (by decide) rfl (val_nilCheck (a := ⟨T, 0, none⟩) rfl) rfl ?_ (tame_nilCheck rfl)
  refine pt_val (by decide) rfl (val_fieldAddr (b := T) (o := 0) (e := 2) rfl Try.underlying48 rfl rfl Try.sizeOf3 rfl) rfl ?_
  refine pt_val (by decide) rfl (val_load rfl Try.isAgg3 (v := vInt k) (fun w h => hct h)) rfl ?_
  refine pt_val (by decide) rfl (val_assign (v := vInt k) rfl) rfl ?_
  exact pt_regionEnd (pt_ret (fn := Try.f21) (v := vInt k) Try.func21 rfl (fun a hf => res_slot rfl rfl hf) fun w hw => h1 _ () w (hw.mono fun u hu => ⟨rfl, hu⟩))
noncomputable def n34a : Code := Go.Bt.cL (Try.f34.body.getD .skip)
noncomputable def n34b : Code := Go.Bt.cR (Try.f34.body.getD .skip)
set_option maxRecDepth 100000 in
set_option maxHeartbeats 2000000 in
/-- The board grows. -/
theorem note_board {v0 : World} {olds : List Nat} {sb T : Nat} {pv bs pk : Value} {i x : Int} {xs : List Value} {m : Nat} {eb ep : Ent} (hr : RowE bs 56 2 m xs eb) (hk : m + 1 ≤ 8796093022208) :
    SW Try.prog 31 n34a (slots 0 [vPtr sb, vInt i, vInt x, vPtr T]) (Mem v0 olds [some (sb, blk [pv, bs, pk] 40), eb, ep]) (fun ex F' w => ex = .normal ∧ Sub (slots 0 [vPtr sb, vInt i, vInt x, vPtr T]) F' ∧ ∃ bs' eb', RowE bs' 56 2 (m + 1) (xs ++ [vInt i, vInt x]) eb' ∧ Mem v0 olds [some (sb, blk [pv, bs', pk] 40), eb', ep] w) := by
  obtain ⟨ti, hi, hz, hsz, hby⟩ : ∃ i, Try.prog.info? 56 = some i ∧ i.zero = some (.agg #[vInt 0, vInt 0]) ∧ i.size = 2 ∧ i.bytes = 16 := ⟨_, rfl, rfl, rfl, rfl⟩
  obtain ⟨av, cv, rfl, hkc⟩ := hr.slice
  show SW Try.prog 31 (Code.region 0 _ false) _ _ _
  refine sw_region ?_
  refine ow_val (val_move (v := vPtr sb) rfl) rfl ?_
  refine ow_val (val_move (v := vPtr sb) rfl) rfl ?_
  refine ow_val (val_nilCheck (a := ⟨sb, 0, none⟩) rfl) rfl ?_ (tame_nilCheck rfl)
  refine ow_val (val_fieldAddr (b := sb) (o := 0) (e := 1) rfl Try.underlying40 rfl rfl Try.sizeOf32 rfl) rfl ?_
  refine ow_val (val_load_at (v := .slice av m cv) 0 rfl rfl Try.isAgg32 rfl) rfl ?_
  refine ow_val (val_move (v := vInt i) rfl) rfl ?_
  refine ow_val (val_move (v := vInt x) rfl) rfl ?_
  refine ow_val (val_build' (parts := _) (vs := [(0, vInt i), (1, vInt x)]) (cs := [vInt i, vInt x]) rfl (by kernel_rfl)) rfl ?_
  refine ow_make (acts_buildSlice (cs := [vInt i, vInt x]) Try.underlying32 Try.sizeOf56 Try.zeroValue56 rfl rfl (by kernel_rfl)) rfl (fun bb hbb => ?_)
  refine ow_append' (k := m + 1) (acts_append (size := 2) (bytes := 16) (ys := [vInt i, vInt x]) 2 rfl rfl rfl hr rfl Try.underlying32 hi hz hsz hby rfl (by decide) (fun w hm => Rd.own hm (i := 0) rfl rfl) rfl (by intro u hu; simp only [List.mem_cons, List.not_mem_nil, or_false] at hu; rcases hu with rfl | rfl <;> rfl) (by omega) (by omega)) rfl (fun a5 c5 e5 hr5 => ?_)
  refine ow_val (val_nilCheck (a := ⟨sb, 0, none⟩) rfl) rfl ?_ (tame_nilCheck rfl)
  refine ow_val (val_fieldAddr (b := sb) (o := 0) (e := 1) rfl Try.underlying40 rfl rfl Try.sizeOf32 rfl) rfl ?_
  refine ow_do_eq (does_store_to [pv, .slice a5 (m + 1) c5, pk] 1 rfl rfl rfl rfl Try.sizeOf32 (by simp) rfl) ?_
  exact ow_nil fun w hw => ⟨rfl, ⟨rfl, rfl, rfl, rfl, trivial⟩, _, e5, hr5, hw.forget⟩
set_option maxRecDepth 100000 in
set_option maxHeartbeats 2000000 in
/-- The picks grow. -/
theorem note_pks {v0 : World} {olds : List Nat} {sb T : Nat} {pv bs pk : Value} {i x k : Int} {xs : List Value} {m : Nat} {eb ep : Ent} (hr : RowE pk 3 1 m xs ep) (hk : m + 1 ≤ 8796093022208) (hT : ∀ w, Mem v0 olds [some (sb, blk [pv, bs, pk] 40), eb, ep] w → w.cell? ⟨T, 2, none⟩ = some (vInt k)) :
    SW Try.prog 31 n34b (slots 0 [vPtr sb, vInt i, vInt x, vPtr T]) (Mem v0 olds [some (sb, blk [pv, bs, pk] 40), eb, ep]) (fun ex F' w => ex = .normal ∧ ∃ pk' ep', RowE pk' 3 1 (m + 1) (xs ++ [vInt k]) ep' ∧ Mem v0 olds [some (sb, blk [pv, bs, pk'] 40), eb, ep'] w) := by
  obtain ⟨ti, hi, hz, hsz, hby⟩ : ∃ i, Try.prog.info? 3 = some i ∧ i.zero = some (vInt 0) ∧ i.size = 1 ∧ i.bytes = 8 := ⟨_, rfl, rfl, rfl, rfl⟩
  obtain ⟨av, cv, rfl, hkc⟩ := hr.slice
  show SW Try.prog 31 (Code.region 1 _ true) _ _ _
  refine sw_region_lex _ [8, 11] [(0, 0), (1, 0), (2, 0), (3, 0), (5, 0), (4, 1), (6, 2), (7, 2), (8, 2), (9, 2), (10, 2), (11, 2)] (by kernel_rfl) (by kernel_rfl) (fun c F w h => by cases h.1) (fun _ h => h) (fun _ h => h.drawn _) ?_
  refine lw_pure rfl (val_move (v := vPtr sb) rfl) rfl ?_
  refine lw_pure rfl (val_move (v := vPtr sb) rfl) rfl ?_
  refine lw_pure rfl (val_nilCheck (a := ⟨sb, 0, none⟩) rfl) rfl ?_ (hT := tame_nilCheck rfl)
  refine lw_pure rfl (val_fieldAddr (b := sb) (o := 0) (e := 2) rfl Try.underlying40 rfl rfl Try.sizeOf23 rfl) rfl ?_
  refine lw_pure rfl (val_move (v := vPtr T) rfl) rfl ?_
  refine lw_held rfl (val_load_at (v := .slice av m cv) 0 rfl rfl Try.isAgg23 rfl) rfl ?_
  refine lw_call_pure (v := vInt k) rfl (callsTo (xs := [.tmp 25]) (vs := [vPtr T]) Try.func21 rfl (by decide) rfl) rfl (fun w hm => (pick_v (hT w hm)).mono fun r u ⟨h1, h2⟩ => ⟨_, h1, rfl, (Mem.refl w).grow h2⟩) ?_
  refine lw_make rfl (acts_buildSlice (cs := [vInt k]) Try.underlying23 Try.sizeOf3 Try.zeroValue3 rfl rfl (by kernel_rfl)) rfl (fun _ h => h) (fun bb hbb => ?_)
  refine lw_append' (k := m + 1) rfl (acts_append (size := 1) (bytes := 8) (ys := [vInt k]) 3 rfl rfl rfl hr rfl Try.underlying23 hi hz hsz hby rfl (by decide) (fun w hm => Rd.own hm (i := 0) rfl rfl) rfl (by intro u hu; simp only [List.mem_cons, List.not_mem_nil, or_false] at hu; subst hu; rfl) (by omega) (by omega)) rfl (by kernel_rfl) (fun a5 c5 e5 hr5 => ?_)
  refine lw_val' rfl (val_nilCheck (a := ⟨sb, 0, none⟩) rfl) rfl (by kernel_rfl) ?_ (hT := tame_nilCheck rfl)
  refine lw_val' rfl (val_fieldAddr (b := sb) (o := 0) (e := 2) rfl Try.underlying40 rfl rfl Try.sizeOf23 rfl) rfl (by kernel_rfl) ?_
  refine lw_do_eq rfl (by kernel_rfl) (does_store_to [pv, bs, .slice a5 (m + 1) c5] 1 rfl rfl rfl rfl Try.sizeOf23 (by simp) rfl) ?_
  exact lw_nil fun w hw => ⟨rfl, _, e5, hr5, hw.forget⟩
end
end Go.Sx
end
section
namespace Go.Bt
variable [Gnd]
open Go.Conc Go.ConcN Go.RowKit Go.Proofs
open Go.Sx (Rly RV pz pzo pz_heap spec isWg Gud Co blk RowE Mem CallV vInt callV_of_callI callI_of_pt Pt pt_seq pt_sw pt_back res_nothing Lf ReI)
section
variable {u0 : World} {sb : Nat} {pv : Value} {B : Bd} {v v' u : World}
/-- What an actor's steps leave, but for the stage. -/
structure SK (sb : Nat) (v v' : World) : Prop where
  tape : v'.tape = v.tape
  os : v'.os = v.os
  output : v'.output = v.output
  size : v.heap.size ≤ v'.heap.size
  keep : ∀ (b : Nat) (o : Obj), v.heap[b]? = some o → ¬ footS sb v b → v'.heap[b]? = some o
  grow : ∀ b, footS sb v' b → footS sb v b ∨ v.heap.size ≤ b
theorem SK.refl : SK sb v v := ⟨rfl, rfl, rfl, Nat.le_refl _, fun _ _ h _ => h, fun _ h => .inl h⟩
theorem SK.trans (h : SK sb v v') (k : SK sb v' u) : SK sb v u := by
  refine ⟨k.tape.trans h.tape, k.os.trans h.os, k.output.trans h.output, Nat.le_trans h.size k.size, fun b o hb hf => k.keep b o (h.keep b o hb hf) fun hf' => ?_, fun b hb => ?_⟩
  · rcases h.grow b hf' with h1 | h1
    · exact hf h1
    · have := (Array.getElem?_eq_some_iff.1 hb).1; omega
  · rcases k.grow b hb with h1 | h1
    · exact h.grow b h1
    · exact .inr (Nat.le_trans h.size h1)
theorem SK.of_rv (hR : RtS sb v) (h : RV v v') : SK sb v v' := ⟨h.tape, h.os, h.output, h.size, fun b o hb _ => h.heap b o hb, fun b hb => .inl ((foot_ordk hR (OrdK.of_rv (n := 0) h) b).2 hb)⟩
theorem ShS.rv (h : ShS u0 sb pv B v) (hr : RV v v') : ShS u0 sb pv B v' := h.ordk (OrdK.of_rv hr)
theorem ShS.rt (h : ShS u0 sb pv B v) : RtS sb v := let ⟨_, _, _, _, h⟩ := h; ⟨_, h.st, rfl, rfl, rfl⟩
/-- The frame in which the stage's blocks stand. -/
theorem SSt.mem {bs pk : Value} {eb ep : Go.Sx.Ent} (h : SSt u0 sb pv B bs pk eb ep v) : Mem v (Go.Sx.keys [some (sb, blk [pv, bs, pk] 40), eb, ep]) [some (sb, blk [pv, bs, pk] 40), eb, ep] v := by
  have hob : ∀ b o, eb = some (b, o) → ∃ cells, v.heap[b]? = some (blk cells 56) := fun b o he => by
    obtain ⟨cells, rfl⟩ := row_ord h.rb he
    exact ⟨_, (h.hb b _ he).1⟩
  have hop : ∀ b o, ep = some (b, o) → ∃ cells, v.heap[b]? = some (blk cells 3) := fun b o he => by
    obtain ⟨cells, rfl⟩ := row_ord h.rp he
    exact ⟨_, (h.hp b _ he).1⟩
  refine ⟨rfl, rfl, rfl, Nat.le_refl _, fun _ _ _ => rfl, fun b o hb => ?_, ?_, fun b hb => .inr hb⟩
  · simp only [List.mem_cons, List.not_mem_nil, or_false] at hb
    rcases hb with hb | hb | hb
    · cases hb; exact h.st
    · exact (h.hb b o hb.symm).1
    · exact (h.hp b o hb.symm).1
  · have hst := h.st
    cases eb with
    | none =>
      cases ep with
      | none => simp [Go.Sx.keys]
      | some y =>
        obtain ⟨c, hc⟩ := hop y.1 y.2 rfl
        simp only [Go.Sx.keys, List.filterMap_cons, Option.map_some, Option.map_none, List.filterMap_nil, List.nodup_cons, List.mem_cons, List.not_mem_nil, or_false, not_false_eq_true, List.nodup_nil, and_true]
        intro e; rw [← e, hst, Option.some.injEq] at hc; simp [blk] at hc
    | some x =>
      obtain ⟨c1, hc1⟩ := hob x.1 x.2 rfl
      cases ep with
      | none =>
        simp only [Go.Sx.keys, List.filterMap_cons, Option.map_some, Option.map_none, List.filterMap_nil, List.nodup_cons, List.mem_cons, List.not_mem_nil, or_false, not_false_eq_true, List.nodup_nil, and_true]
        intro e; rw [← e, hst, Option.some.injEq] at hc1; simp [blk] at hc1
      | some y =>
        obtain ⟨c, hc⟩ := hop y.1 y.2 rfl
        simp only [Go.Sx.keys, List.filterMap_cons, Option.map_some, List.filterMap_nil, List.nodup_cons, List.mem_cons, List.not_mem_nil, or_false, not_false_eq_true, List.nodup_nil, and_true, not_or]
        refine ⟨⟨fun e => ?_, fun e => ?_⟩, fun e => ?_⟩
        · rw [← e, hst, Option.some.injEq] at hc1; simp [blk] at hc1
        · rw [← e, hst, Option.some.injEq] at hc; simp [blk] at hc
        · rw [← e, hc1, Option.some.injEq] at hc; simp [blk] at hc
theorem SSt.keyfoot {bs pk : Value} {eb ep : Go.Sx.Ent} (h : SSt u0 sb pv B bs pk eb ep v) {b : Nat} (hb : b ∈ Go.Sx.keys [some (sb, blk [pv, bs, pk] 40), eb, ep]) : footS sb v b ∧ (b = sb ∨ ¬ OldO u0 sb b) := by
  obtain ⟨o, ho⟩ := Go.Sx.keys_mem hb
  simp only [List.mem_cons, List.not_mem_nil, or_false] at ho
  rcases ho with ho | ho | ho
  · cases ho; exact ⟨.inl rfl, .inl rfl⟩
  · exact ⟨h.footB ho.symm, .inr (h.hb b o ho.symm).2⟩
  · exact ⟨h.footP ho.symm, .inr (h.hp b o ho.symm).2⟩
/-- The stage's blocks turned. -/
theorem SSt.turned {bs pk bs' pk' : Value} {eb ep eb' ep' : Go.Sx.Ent} {B' : Bd} (h : SSt u0 sb pv B bs pk eb ep v) (hb' : RowE bs' 56 2 B'.notes.length (flatB B'.notes) eb') (hp' : RowE pk' 3 1 B'.pks.length (B'.pks.map vI) ep')
    (hm : Mem v (Go.Sx.keys [some (sb, blk [pv, bs, pk] 40), eb, ep]) [some (sb, blk [pv, bs', pk'] 40), eb', ep'] u) : SSt u0 sb pv B' bs' pk' eb' ep' u ∧ SK sb v u := by
  have hlt : ∀ b, OldO u0 sb b → b < v.heap.size := fun b ⟨o, h1, h2, h3, h5⟩ => (Array.getElem?_eq_some_iff.1 (h.old b o h1 h2 h3 h5)).1
  have hnew : ∀ b, b ∈ Go.Sx.keys [some (sb, blk [pv, bs', pk'] 40), eb', ep'] → b ≠ sb → ¬ OldO u0 sb b := fun b hb hne ho => by
    rcases hm.fresh b hb with h1 | h1
    · have := hlt b ho; omega
    · rcases (h.keyfoot h1).2 with h2 | h2
      · exact hne h2
      · exact h2 ho
  have hnd := hm.nodup
  have hS : SSt u0 sb pv B' bs' pk' eb' ep' u := by
    refine ⟨hm.own _ _ (List.mem_cons_self ..), hb', hp', fun b o he => ⟨hm.own b o (by rw [he]; simp), hnew b (Go.Sx.mem_keys (o := o) (by rw [he]; simp)) fun e => ?_⟩, fun b o he => ⟨hm.own b o (by rw [he]; simp), hnew b (Go.Sx.mem_keys (o := o) (by rw [he]; simp)) fun e => ?_⟩, fun b o hb g1 g2 g4 => ?_⟩
    · subst he; subst e; simp [Go.Sx.keys] at hnd
    · subst he; subst e
      cases eb' <;> simp [Go.Sx.keys] at hnd
    · have ho : OldO u0 sb b := ⟨o, hb, g1, g2, g4⟩
      rw [hm.keep b (hlt b ho) fun hk => ?_]
      · exact h.old b o hb g1 g2 g4
      · rcases (h.keyfoot hk).2 with h2 | h2
        · exact g4 h2
        · exact h2 ho
  refine ⟨hS, hm.tape, hm.os, hm.output, hm.size, fun b o hb hf => ?_, fun b hb => ?_⟩
  · rw [hm.keep b (Array.getElem?_eq_some_iff.1 hb).1 fun hk => hf (h.keyfoot hk).1]; exact hb
  · have hk : b ∈ Go.Sx.keys [some (sb, blk [pv, bs', pk'] 40), eb', ep'] := by
      rcases hS.foot hb with rfl | ⟨c, hc⟩ | ⟨c, hc⟩
      · exact Go.Sx.mem_keys (List.mem_cons_self ..)
      · exact Go.Sx.mem_keys (o := blk c 56) (by rw [← hc]; simp)
      · exact Go.Sx.mem_keys (o := blk c 3) (by rw [← hc]; simp)
    rcases hm.fresh b hk with h1 | h1
    · exact .inr h1
    · exact .inl (h.keyfoot h1).1
variable [C : Co Try.prog]
set_option maxRecDepth 100000 in
/-- ████ NOTE. ████ -/
theorem note_v {T : Nat} {i x k : Int} {y : Value} (h : ShS u0 sb pv B v) (hT : ∃ gr bk, v.heap[T]? = some (pzo (.cells #[gr, bk, vI k] 48))) (h1 : B.notes.length + 1 ≤ 8796093022208) (h2 : B.pks.length + 1 ≤ 8796093022208) :
    CallV Try.prog 34 #[vPtr sb, vI i, vI x, vPtr T] v (fun r u => r = .returned (.tuple #[]) ∧ ShS u0 sb pv (B.note i x k) u ∧ SK sb v u) := by
  obtain ⟨bs, pk, eb, ep, hS⟩ := h
  obtain ⟨gr, bk, hT⟩ := hT
  have hnf : ¬ footS sb v T := fun hf => by
    rcases hS.foot hf with rfl | ⟨c, hc⟩ | ⟨c, hc⟩
    · rw [hS.st, Option.some.injEq] at hT; simp [blk, pzo, Go.Sx.ord] at hT
    · have := (hS.hb _ _ hc).1
      rw [this, Option.some.injEq] at hT; simp [blk, pzo, Go.Sx.ord] at hT
    · have := (hS.hp _ _ hc).1
      rw [this, Option.some.injEq] at hT; simp [blk, pzo, Go.Sx.ord] at hT
  have hlt := (Array.getElem?_eq_some_iff.1 hT).1
  refine callV_of_callI (callI_of_pt (vs := [vPtr sb, vI i, vI x, vPtr T]) Try.func34 rfl rfl fun cf cs g1 g2 => ?_)
  refine Pt.imp (M' := Mem v (Go.Sx.keys [some (sb, blk [pv, bs, pk] 40), eb, ep]) [some (sb, blk [pv, bs, pk] 40), eb, ep]) (fun w hw => hw ▸ hS.mem) ?_
  refine pt_seq (pt_sw (by decide) (Go.Sx.note_board (i := i) (x := x) (T := T) hS.rb h1) (fun F' y hq => ?_) (fun ex F' y hne hq => hne hq.1))
  obtain ⟨-, hsub, bs', eb', hr', hm'⟩ := hq
  refine Pt.weaken hsub (M' := Mem v (Go.Sx.keys [some (sb, blk [pv, bs, pk] 40), eb, ep]) [some (sb, blk [pv, bs', pk] 40), eb', ep]) (fun w hw => hw ▸ hm') ?_
  refine pt_sw (by decide) (Go.Sx.note_pks (i := i) (x := x) (k := k) (T := T) hS.rp h2 (fun w hw => ?_)) (fun F' y hq => ?_) (fun ex F' y hne hq => hne hq.1)
  · have e := hw.keep T hlt fun hk => hnf (hS.keyfoot hk).1
    unfold World.cell?
    rw [e, hT]; rfl
  · obtain ⟨-, pk', ep', hr2, hm2⟩ := hq
    obtain ⟨hS2, hK⟩ := hS.turned (B' := B.note i x k) (bs' := bs') (pk' := pk') (eb' := eb') (ep' := ep') (by show RowE bs' 56 2 (B.notes ++ [(i, x)]).length (flatB (B.notes ++ [(i, x)])) eb'; rw [flatB_snoc, List.length_append]; exact hr') (by show RowE pk' 3 1 (B.pks ++ [k]).length ((B.pks ++ [k]).map vI) ep'; rw [List.map_append, List.length_append]; exact hr2) hm2
    exact pt_back (fn := Try.f34) (v := .tuple #[]) Try.func34 rfl (fun a _ => res_nothing rfl a) fun w hw => g1 _ () w (hw.mono fun z hz => by
      subst hz; exact ⟨rfl, ⟨bs', pk', eb', ep', hS2⟩, hK⟩)
end
end Go.Bt
end
section
namespace Go.Sx
variable [Gnd]
open Go.ChangeShapes Go.WideShapes Go.ChangeAt Go.RowKit
section
variable {H : Type} {enc : TypeId × Value → H} {P : Program}
theorem stays_all (hl : laidOutB P = true) {W W' : World} {sp' : Nat → Bool} : ∀ {ts : List TypeId} {vs : List Value} {ds : List (DataW H)} {ps : List MemPlace},
    ts.all (fun t => P.readableRec t && decide (t < P.types.size)) = true → DataW.TrodAll enc P W 0 (fun _ => true) true ts vs ds ps →
    (∀ p ∈ ps, W.sameAt W' p) → (∀ p ∈ ps, sp' p.block = true) → DataW.TrodAll enc P W' 0 sp' true ts vs ds ps
  | [], [], [], _, _, h, _, _ => h
  | [], [], _ :: _, _, _, h, _, _ => h.elim
  | [], _ :: _, _, _, _, h, _, _ => h.elim
  | _ :: _, [], _, _, _, h, _, _ => h.elim
  | _ :: _, _ :: _, [], _, _, h, _, _ => h.elim
  | t :: ts, v :: vs, d :: ds, ps, hts, h, hsame, hs => by
    obtain ⟨p, q, h1, h2, rfl⟩ := h
    simp only [List.all_cons, Bool.and_eq_true, decide_eq_true_eq] at hts
    exact ⟨p, q, WideElems.Trod_stays hl hts.1.1 hts.1.2 h1 (fun x hx => hsame x (List.mem_append_left _ hx)) (fun x hx => hs x (List.mem_append_left _ hx)),
      stays_all hl hts.2 h2 (fun x hx => hsame x (List.mem_append_right _ hx)) (fun x hx => hs x (List.mem_append_right _ hx)), rfl⟩
theorem trodAll_len {W : World} {b : Nat} {sp : Nat → Bool} {hd : Bool} : ∀ {ts : List TypeId} {vs : List Value} {ds : List (DataW H)} {ps : List MemPlace}, DataW.TrodAll enc P W b sp hd ts vs ds ps → ds.length = ts.length
  | [], [], [], _, _ => rfl
  | [], [], _ :: _, _, h => h.elim
  | [], _ :: _, _, _, h => h.elim
  | _ :: _, [], _, _, h => h.elim
  | _ :: _, _ :: _, [], _, h => h.elim
  | _ :: _, _ :: _, _ :: _, _, ⟨_, _, _, h, _⟩ => congrArg (· + 1) (trodAll_len h)
/-- WHAT A ROW ASKS OF A LAW THAT ANSWERS true AND LEAVES WHAT WAS THERE. -/
theorem post_true {f : Func} {s : ChangeSpec} {tb : TypeId} {apart fresh handsOn again : Bool} {W W' : World} {args : Array Value} {ds gs : List (DataW H)} {before : List MemPlace}
    (hl : laidOutB P = true) (hts : f.params.toList.all (fun t => P.readableRec t && decide (t < P.types.size)) = true) (hv : s.vars = [])
    (hrt : f.resultTypes = #[tb]) (htb : P.underlying tb = some .bool) (hW : DataW.Whole enc P f.params.toList s.vars apart W args.toList ds gs before)
    (hs : ds.length = f.params.toList.length → s.fn H (ds ++ gs) = { results := [.lit (.bool true)], args := ds }) (hb : Below W.heap.size W W') : s.post enc P f apart fresh handsOn again W args (.bool true) W' := by
  have hW' := hW
  obtain ⟨p, q, hA, hV, hpq, hz, hn⟩ := hW
  have hgs : gs = [] ∧ q = [] := by
    rw [hv] at hV
    cases gs with
    | nil => exact ⟨rfl, hV⟩
    | cons _ _ => exact hV.elim
  obtain ⟨rfl, rfl⟩ := hgs
  have hlt : ∀ x ∈ before, x.block < W.heap.size := hW'.lt
  rw [List.append_nil] at hpq
  subst hpq
  have hs' := hs (trodAll_len hA)
  have hargs : ∀ sp : Nat → Bool, (∀ x ∈ before, sp x.block = true) → DataW.TrodAll enc P W' 0 sp true f.params.toList args.toList ds before := fun sp hsp =>
    stays_all hl hts hA (fun x hx => hb.same (hlt x hx)) hsp
  have hres : ∀ (b : Nat) (sp : Nat → Bool) (hd : Bool), DataW.TrodAll enc P W' b sp hd f.resultTypes.toList ((Value.bool true).resultList f.resultTypes.size) [.lit (.bool true)] [] := fun b sp hd => by
    rw [hrt]; exact trodAll_cons_mk (shut_bool htb _) trodAll_mk0
  have hold : ∀ x ∈ before, (fun b => decide (b < W.heap.size)) x.block = true := fun x hx => by simpa using hlt x hx
  have hvars : ∀ sp : Nat → Bool, DataW.TrodVars enc P W' sp s.vars ([] : List (DataW H)) [] := fun sp => by rw [hv]; rfl
  refine ⟨ds, [], before, [], before, [], hW', ?_, ?_, ?_, hb.frame _, fun _ => ⟨?_, ?_⟩⟩
  · rw [hs']; exact hres _ _ _
  · rw [hs']; exact hargs _ hold
  · rw [hs']; exact hvars _
  · intro j t r h1 h2
    rw [hrt] at h1 h2
    cases j with
    | zero =>
      simp at h1 h2; subst h1
      have h3 : r = .bool true := by simpa [Value.resultList] using h2.symm
      subst h3
      exact okWide_bool_mk htb _
    | succ j => simp at h1
  · refine ⟨[.lit (.bool true)] ++ ds, [], [] ++ before, ⟨[] ++ before, [], trodAll_append (hargs _ (fun _ _ => rfl)) (hres _ _ _), hvars _, by simp, ?_, ?_⟩, ?_⟩
    · intro b off hp
      rw [hb.frozen (p := ⟨b, off, none⟩) (hlt (.cell b off) (by simpa using hp))]
      exact hz b off (by simpa using hp)
    · intro ha; simpa using hn ha
    · intro x hx _; simpa using hx
/-- What a slice's datum tells of its room. -/
def Room (d : DataW H) (c : Nat) : Prop := (d = .nil ∧ c = 0) ∨ ∃ el sp, d = .slice el sp ∧ el.length + sp.length = c
theorem Room.bytes {P : Program} {ts : List TypeId} {ds : List (DataW H)} (h : (DataW.weightsEach P ts ds).all (· ≤ reachBytes) = true) {j c : Nat} {t e : TypeId} {d : DataW H} (hr : Room d c) (ht : ts[j]? = some t) (hd : ds[j]? = some d) (hu : P.underlying t = some (.slice e)) : c * P.bytesOf e ≤ reachBytes := by
  rcases hr with ⟨_, rfl⟩ | ⟨el, sp, rfl, rfl⟩
  · simp
  · exact sized_slice h ht hd hu
/-- An int is within its bounds. -/
theorem dec_int (z : Int) (h : (Lit.int .i64 z).wf = true) : -9223372036854775808 ≤ z ∧ z ≤ 9223372036854775807 := by
  have h1 : IntKind.i64.min = -9223372036854775808 := rfl
  have h2 : IntKind.i64.max = 9223372036854775807 := rfl
  simpa [Lit.wf, h1, h2] using h
end
end Go.Sx
end
