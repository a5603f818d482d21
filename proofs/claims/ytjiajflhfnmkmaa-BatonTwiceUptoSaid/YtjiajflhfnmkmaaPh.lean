/- A PLAY OF THE BATON: what the row rests on. -/
import Derived.Test.YtjiajflhfnmkmaaPf
import Derived.Test.YtjiajflhfnmkmaaPg
set_option linter.unusedVariables false
set_option linter.unusedSimpArgs false
set_option linter.unusedSectionVars false
section
namespace Go.Sx
variable [Gnd]
open Go.Conc
section
variable {P : Program} {X : Type} (R : X → Co P)
/-- From each frame that fits F and each world of M the record stands well at this place. -/
def Pt (n : Nat) (b : Frame) (cs : List Frame) (x : X) (todo : List Item) (F : Fr) (M : World → Prop) : Prop :=
  ∀ a w, Fits n F a → Lf M w → ReI R x (G (b.at a todo) cs) w
variable {R} {n : Nat} {b : Frame} {cs : List Frame} {x : X} {k : List Item} {F : Fr} {M : World → Prop}
theorem Pt.weaken {F' : Fr} {M' : World → Prop} {t : List Item} (hs : Sub F' F) (hm : ∀ w, M w → M' w) (h : Pt R n b cs x t F' M') : Pt R n b cs x t F M :=
  fun a w hf hw => h a w (hf.sub hs) (hw.mono hm)
theorem Pt.imp {M' : World → Prop} {t : List Item} (hm : ∀ w, M w → M' w) (h : Pt R n b cs x t F M') : Pt R n b cs x t F M :=
  fun a w hf hw => h a w hf (hw.mono hm)
theorem Pt.world {t : List Item} (h : ∀ v, M v → Pt R n b cs x t F (· = v)) : Pt R n b cs x t F M :=
  fun a w hf ⟨v, hv, hr⟩ => h v hv a w hf ⟨v, rfl, hr⟩
theorem Pt.of_false {t : List Item} (h : ∀ v, M v → False) : Pt R n b cs x t F M := fun _ _ _ ⟨v, hv, _⟩ => (h v hv).elim
theorem pt_go {t t' : List Item} (h : ∀ a w, stepG P (R x).main (G (b.at a t) cs) w = .go (G (b.at a t') cs) w #[]) (hr : Pt R n b cs x t' F M) : Pt R n b cs x t F M :=
  fun a w hf hm => reI_go rfl (fun w₁ => h a w₁) (hr a w hf hm)
theorem pt_seq {c d : Code} (h : Pt R n b cs x (.code c :: .code d :: k) F M) : Pt R n b cs x (.code (.seq c d) :: k) F M := pt_go (fun _ _ => stepG_seq) h
theorem pt_skip (h : Pt R n b cs x k F M) : Pt R n b cs x (.code .skip :: k) F M := pt_go (fun _ _ => stepG_skip) h
theorem pt_block {id : Nat} {c : Code} (h : Pt R n b cs x (.code c :: .inBlock id :: k) F M) : Pt R n b cs x (.code (.block id c) :: k) F M := pt_go (fun _ _ => stepG_block) h
theorem pt_inBlock {id : Nat} (h : Pt R n b cs x k F M) : Pt R n b cs x (.inBlock id :: k) F M := pt_go (fun _ _ => stepG_inBlock) h
theorem pt_loop {c : Code} (h : Pt R n b cs x (.code c :: .inLoop c :: k) F M) : Pt R n b cs x (.code (.loop c) :: k) F M := pt_go (fun _ _ => stepG_loop) h
theorem pt_inLoop {c : Code} (h : Pt R n b cs x (.code c :: .inLoop c :: k) F M) : Pt R n b cs x (.inLoop c :: k) F M := pt_go (fun _ _ => stepG_inLoop) h
theorem pt_exit {id : Nat} {k' : List Item} (ht : exitTo id k = some k') (h : Pt R n b cs x k' F M) : Pt R n b cs x (.code (.exit id) :: k) F M := pt_go (fun _ _ => stepG_exit ht) h
theorem pt_regionEnd {ops : Array Oper} (h : Pt R n b cs x k F M) : Pt R n b cs x (.inRegion ops [] :: k) F M := pt_go (fun _ _ => stepG_region_end) h
theorem pt_region {id : Nat} {l : List Oper} (h : Pt R n b cs x (.inRegion l.toArray (List.range l.toArray.size) :: k) F M) : Pt R n b cs x (.code (.region id l.toArray false) :: k) F M := pt_go (fun _ _ => stepG_region) h
theorem pt_cond {c : Operand} {d d' : Code} {t : Bool} (hc : ev F c = some (.bool t)) (ht : t = true → Pt R n b cs x (.code d :: k) F M) (hf : t = false → Pt R n b cs x (.code d' :: k) F M) : Pt R n b cs x (.code (.cond c d d') :: k) F M := by
  intro a w hfit hm
  refine reI_go rfl (fun _ => stepG_cond (ev_eval hfit hc)) ?_
  cases t with
  | true => exact ht rfl a w hfit hm
  | false => exact hf rfl a w hfit hm
theorem pt_if {c : Operand} {d d' : Code} {p : Prop} [Decidable p] (hc : ev F c = some (.bool (decide p))) (ht : p → Pt R n b cs x (.code d :: k) F M) (hf : ¬ p → Pt R n b cs x (.code d' :: k) F M) : Pt R n b cs x (.code (.cond c d d') :: k) F M :=
  pt_cond hc (fun e => ht (of_decide_eq_true e)) (fun e => hf (of_decide_eq_false e))
theorem pt_true {c : Operand} {d d' : Code} (hc : ev F c = some (.bool true)) (ht : Pt R n b cs x (.code d :: k) F M) : Pt R n b cs x (.code (.cond c d d') :: k) F M :=
  pt_cond hc (fun _ => ht) (fun e => by cases e)
theorem pt_false {c : Operand} {d d' : Code} (hc : ev F c = some (.bool false)) (hf : Pt R n b cs x (.code d' :: k) F M) : Pt R n b cs x (.code (.cond c d d') :: k) F M :=
  pt_cond hc (fun e => by cases e) (fun _ => hf)
/-- A piece that is walked by itself, and goes on behind. -/
theorem pt_sw {c : Code} {Q : Po} (hb : b.kind ≠ .early) (h : @SW _ P (R x) n c F M Q) (hn : ∀ F' v, Q .normal F' v → Pt R n b cs x k F' (· = v)) (ho : ∀ e F' v, e ≠ .normal → ¬ Q e F' v) : Pt R n b cs x (.code c :: k) F M :=
  fun a w hf hm => h a w hf hm b k cs hb fun e a' w' ⟨F', hf', v, hq, hr⟩ => by
    cases e with
    | normal => exact hn F' v hq a' w' hf' ⟨v, rfl, hr⟩
    | _ => exact (ho _ F' v (by simp) hq).elim
theorem pt_op {ops : Array Oper} {i : Nat} {rest : List Nat} {o : Oper} (hb : b.kind ≠ .early) (ho : ops[i]? = some o) (hg : o.guard = none)
    (h : ∀ a w, Fits n F a → Lf M w → ∀ (K : Act → World → Prop), (∀ F' M', Pt R n b cs x (.inRegion ops rest :: k) F' M' → ∀ a' w', Fits n F' a' → Lf M' w' → K a' w') → @Oper.wpX _ P (R x) o a w K (fun _ _ _ => False)) : Pt R n b cs x (.inRegion ops (i :: rest) :: k) F M := by
  intro a w hf hm
  have hw := h a w hf hm (fun a' w' => ReI R x (G (b.at a' (.inRegion ops rest :: k)) cs) w') fun F' M' hO a' w' hf' hm' => hO a' w' hf' hm'
  have hwant : Region.wanted o (yielded ops a.tmps) = true := by simp [Region.wanted, hg]
  refine (R x).step rfl fun w₁ h₁ => ?_
  have hu := hw w₁ h₁
  generalize hr : (execOp a.eval o).runT P w₁ #[] = y at hu
  obtain ⟨y, es⟩ := y
  have hst := stepG_runT (main := (R x).main) (b := b) (k := k) (cs := cs) (rest := rest) ho hwant hb hr
  cases y with
  | ok m w' =>
    cases m <;> simp only [UponX] at hu <;> try exact hu.elim
    · exact ⟨_, _, _, hst, hu.1 _, hu.2⟩
    · exact ⟨_, _, _, hst, hu.1 _, hu.2⟩
    · refine ⟨_, _, _, hst, hu.1 _, hu.2 _ _ (fun v w'' hx => ?_) (fun ch w'' hx => hx.elim)⟩
      have hfin : (b.at a (.inRegion ops (i :: rest) :: k)).finish v = b.at (a.put o.dst v) (.inRegion ops rest :: k) := by rw [Frame.finish_at, ho]; rfl
      rw [hfin]; exact hx
    · exact ⟨_, _, _, hst, hu.1 _, hu.2⟩
  | halt y w' => cases y <;> simp only [UponX] at hu <;> exact hu.2.elim
theorem pt_val {ops : Array Oper} {i t : Nat} {op : Op} {ty : TypeId} {ps : String} {af : Array Edge} {rest : List Nat} {v : Value} [hS : Stb M] (hb : b.kind ≠ .early) (ho : ops[i]? = some ⟨some t, op, ty, ps, af, none⟩)
    (hv : Val P n F M op ty v) (ht : Nat.blt t n = true) (h : Pt R n b cs x (.inRegion ops rest :: k) ((t, v) :: F) M) (hT : Tame P n F op ty := by infer_instance) : Pt R n b cs x (.inRegion ops (i :: rest) :: k) F M :=
  pt_op hb ho rfl fun a w hf hm K hK => @opX_value _ P (R x) n F M _ op ty _ hv.acts hT a hf w hm _ _ _ _ _ _ fun u y w' hu hl => by
    obtain ⟨v', ⟨rfl, rfl⟩, hr⟩ := hl
    exact hK _ _ h _ w' (hf.put ht _) ⟨_, hu, hr⟩
theorem pt_act {ops : Array Oper} {i t : Nat} {op : Op} {ty : TypeId} {ps : String} {af : Array Edge} {rest : List Nat} [hS : Stb M] {S : World → Value → World → Prop} (hb : b.kind ≠ .early) (ho : ops[i]? = some ⟨some t, op, ty, ps, af, none⟩)
    (hv : Acts P n F M op ty S) (ht : Nat.blt t n = true) (h : ∀ w v, M w → Pt R n b cs x (.inRegion ops rest :: k) ((t, v) :: F) (S w v)) (hT : Tame P n F op ty := by infer_instance) : Pt R n b cs x (.inRegion ops (i :: rest) :: k) F M :=
  pt_op hb ho rfl fun a w hf hm K hK => @opX_value _ P (R x) n F M _ op ty _ hv hT a hf w hm _ _ _ _ _ _ fun u y w' hu hl => hK _ _ (h u y hu) _ w' (hf.put ht _) hl
theorem pt_do {ops : Array Oper} {i : Nat} {op : Op} {ty : TypeId} {ps : String} {af : Array Edge} {rest : List Nat} [hS : Stb M] {S : World → World → Prop} (hb : b.kind ≠ .early) (ho : ops[i]? = some ⟨none, op, ty, ps, af, none⟩)
    (hv : Does P n F M op ty S) (h : ∀ w, M w → Pt R n b cs x (.inRegion ops rest :: k) F (S w)) (hT : Tame P n F op ty := by infer_instance) : Pt R n b cs x (.inRegion ops (i :: rest) :: k) F M :=
  pt_op hb ho rfl fun a w hf hm K hK => @opX_skip _ P (R x) n F M _ op ty _ hv hT a hf w hm _ _ _ _ _ _ fun u w' hu hl => hK _ _ (h u hu) _ w' hf hl
/-- A call behind which x may stand elsewhere. -/
theorem pt_call {ops : Array Oper} {i : Nat} {t : Option Nat} {op : Op} {ty : TypeId} {ps : String} {af : Array Edge} {rest : List Nat} [hS : Stb M] {f : FuncId} {args : Array Value} (T : World → Ending → X → World → Prop) (hb : b.kind ≠ .early) (ho : ops[i]? = some ⟨t, op, ty, ps, af, none⟩)
    (hv : CallsTo P n F M op ty f args) (hT : Tame P n F op ty) (hc : ∀ w, M w → CallI R f args x w (T w)) (ht : ∀ t', t = some t' → Nat.blt t' n = true)
    (h : ∀ w v x', M w → Pt R n b cs x' (.inRegion ops rest :: k) (match t with | some t => (t, v) :: F | none => F) (T w (.returned v) x'))
    (hp : ∀ w ch x', M w → ∀ a w', Fits n F a → Lf (T w (.panicked ch) x') w' → ReI R x' (G { b.at a (.inRegion ops (i :: rest) :: k) with mode := .panicking ch } cs) w') : Pt R n b cs x (.inRegion ops (i :: rest) :: k) F M := by
  intro a w hf hm
  have hwant : Region.wanted ⟨t, op, ty, ps, af, none⟩ (yielded ops a.tmps) = true := by simp [Region.wanted]
  refine (R x).step rfl fun w₁ h₁ => ?_
  have hm₁ := (hm.rely h₁).here
  have e := hv a (pz w₁) hf hm₁ t ps af none
  obtain ⟨w', es, h2, h3, h4⟩ := pl_ok (hT.tame a hf t ps af none) e
  have hst := stepG_runT (main := (R x).main) (b := b) (k := k) (cs := cs) (rest := rest) ho hwant hb h2
  refine ⟨_, _, _, hst, (R x).good h4.seen, ?_⟩
  refine hc _ hm₁ w' (h3 ▸ RV.refl _) _ _ (fun r x' w'' hx => ?_) (fun ch x' w'' hx => ?_)
  · have hfin : (b.at a (.inRegion ops (i :: rest) :: k)).finish r = b.at (a.put t r) (.inRegion ops rest :: k) := by rw [Frame.finish_at, ho]; rfl
    rw [hfin]
    refine h (pz w₁) r x' hm₁ (a.put t r) w'' ?_ hx
    cases t with
    | none => exact hf
    | some t' => exact hf.put (ht t' rfl) _
  · exact hp (pz w₁) ch x' hm₁ a w'' hf hx
/-- The last thing is done: its result. -/
theorem pt_back {fn : Func} {c : Frame} {v : Value} (hf : P.funcs[b.fn]? = some fn) (hk : b.kind = .normal) (hv : ∀ a, Fits fn.ntmps F a → (results fn a.tmps).Pl P ∧ ∀ w, (results fn a.tmps).run P w = .ok v w)
    (h : ∀ w, Lf M w → ReI R x (G (c.finish v) cs) w) : Pt R fn.ntmps b (c :: cs) x [] F M := fun a w hfit hm =>
  reI_go rfl (fun _ => stepG_end) (@re_back _ P (R x) a w b fn [] c cs v hf hk hfit.defers (fun w₁ h₁ => let ⟨es, h2, h3⟩ := pl_ok_same (hv a hfit).1 ((hv a hfit).2 (pz w₁)); ⟨es, h2, @DD.good _ P (R x) _ _ _ h3⟩) (h w hm))
theorem pt_ret {fn : Func} {c : Frame} {v : Value} (hf : P.funcs[b.fn]? = some fn) (hk : b.kind = .normal) (hv : ∀ a, Fits fn.ntmps F a → (results fn a.tmps).Pl P ∧ ∀ w, (results fn a.tmps).run P w = .ok v w)
    (h : ∀ w, Lf M w → ReI R x (G (c.finish v) cs) w) : Pt R fn.ntmps b (c :: cs) x (.code .ret :: k) F M := fun a w hfit hm =>
  reI_go rfl (fun _ => stepG_ret) (@re_back _ P (R x) a w b fn _ c cs v hf hk hfit.defers (fun w₁ h₁ => let ⟨es, h2, h3⟩ := pl_ok_same (hv a hfit).1 ((hv a hfit).2 (pz w₁)); ⟨es, h2, @DD.good _ P (R x) _ _ _ h3⟩) (h w hm))
theorem res_nothing {fn : Func} (hr : fn.results = #[]) (a : Act) : (results fn a.tmps).Pl P ∧ ∀ w, (results fn a.tmps).run P w = .ok (.tuple #[]) w := by
  rw [res_none hr]; exact ⟨trivial, fun _ => rfl⟩
theorem res_slot {fn : Func} {t : Nat} {v : Value} (hr : fn.results = #[.tmp t]) (hv : look F t = some v) {a : Act} (hf : Fits fn.ntmps F a) : (results fn a.tmps).Pl P ∧ ∀ w, (results fn a.tmps).run P w = .ok v w := by
  rw [res_one hr]
  have := hf.has t v hv
  simp only [Array.getD_eq_getD_getElem?, this, Option.getD_some]
  exact ⟨trivial, fun _ => rfl⟩
theorem enter_fits {f : FuncId} {fn : Func} {c : Code} {vs : List Value} (hf : P.funcs[f]? = some fn) (hb : fn.body = some c) (hlen : Nat.ble vs.length fn.ntmps = true) :
    ∃ a, Frame.enter P f vs.toArray .normal = ({ (default : Frame) with fn := f, kind := .normal } : Frame).at a [.code c] ∧ Fits fn.ntmps (slots 0 vs) a := by
  have hlen' : vs.length ≤ fn.ntmps := Nat.le_of_ble_eq_true hlen
  refine ⟨{ tmps := vs.toArray ++ Array.replicate (fn.ntmps - vs.toArray.size) undef, defers := [] }, by simp [Frame.enter, Frame.at, hf, hb], rfl, by simp; omega, fun t v ht => ?_⟩
  obtain ⟨_, h2⟩ := slots_look vs 0 t v ht
  simp only [Nat.sub_zero] at h2
  have hlt : t < vs.length := (List.getElem?_eq_some_iff.1 h2).1
  rw [Array.getElem?_append_left (by simpa using hlt)]
  simpa using h2
/-- The frame of a call. -/
abbrev fr0 (f : FuncId) : Frame := { (default : Frame) with fn := f, kind := .normal }
theorem callI_of_pt {f : FuncId} {fn : Func} {c : Code} {vs : List Value} {w : World} {T : Ending → X → World → Prop} (hf : P.funcs[f]? = some fn) (hb : fn.body = some c) (hlen : Nat.ble vs.length fn.ntmps = true)
    (h : ∀ (cf : Frame) (cs : List Frame), (∀ r x' w', Lf (T (.returned r) x') w' → ReI R x' (G (cf.finish r) cs) w') → (∀ ch x' w', Lf (T (.panicked ch) x') w' → ReI R x' (G (cf.raise ch) cs) w') →
      Pt R fn.ntmps (fr0 f) (cf :: cs) x [.code c] (slots 0 vs) (· = w)) : CallI R f vs.toArray x w T := fun u hu cf cs h1 h2 => by
  obtain ⟨a, e, hfit⟩ := enter_fits (P := P) hf hb hlen
  rw [e]
  exact h cf cs h1 h2 a u hfit ⟨w, rfl, hu⟩
/-- A panic of this frame's goes on in its caller. -/
theorem re_fall {fn : Func} {c : Frame} {ch : List PanicEntry} {a : Act} {w : World} {t : List Item} (hf : P.funcs[b.fn]? = some fn) (hd : a.defers = []) (h : ReI R x (G (c.raise ch) cs) w) : ReI R x (G { b.at a t with mode := .panicking ch } (c :: cs)) w :=
  reI_go rfl (fun _ => stepG_fall hf hd) h
end
end Go.Sx
end
section
namespace Go.Bt
variable [Gnd]
open Go.Conc Go.ConcN Go.RowKit Go.Proofs
open Go.Sx (Rly RV pz pzo pz_heap spec isWg Gud Co Cel vEnded CallI Fits Lf Stb Pt ev ev_eval ReI Val vInt)
theorem Seg.rv {c : Cl} (hc : c.Ok) {k : Nat} {v0 v v' : World} (h : Seg c k v0 v) (hr : RV v v') : Seg c k v0 v' :=
  ⟨hr.tape.trans h.tape, hr.os.trans h.os, hr.output.trans h.output, Nat.le_trans h.size hr.size, fun b o hb hf => hr.heap b o (h.keep b o hb hf), fun b hb => h.grow b ((hc.foot _ _ (hc.rt _ _ h.sh) (OrdK.of_rv hr) b).2 hb), hc.sh _ _ _ h.sh (OrdK.of_rv hr)⟩
theorem goes_ctl {P : Program} {K : World → Prop} {Still : Loc → Prop} {B n : Nat} {S : Goroutine → World → Prop} {g g' : Goroutine} {w : World} (hs : g.status = .running) (h : ∀ w, stepG P false g w = .go g' w #[]) (k : ∀ w, Goes P false (RK K) (DS Still B) S n g' w) : Goes P false (RK K) (DS Still B) S (n + 1) g w :=
  Goes.step hs fun w₁ _ => by rw [h w₁, goes_go]; exact ⟨ds_none _, k w₁⟩
section
variable {P : Program} {Wg : Nat} {c : Cl} {i : Nat} {e : Ent} {bo : Nat}
/-- At a send on its channel. -/
theorem re_send {x : Int × World} {b : Frame} {a : Act} {k : List Item} {cs : List Frame} {ops : Array Oper} {j : Nat} {rest : List Nat} {o : Oper} {w : World} {m o' : Bool} {z' : Value} (hb : b.kind ≠ .early) (ho : ops[j]? = some o) (hw : Region.wanted o (yielded ops a.tmps) = true)
    (hr : ∀ w, (execOp a.eval o).run P w = .ok (.comm #[scase e.bk (vWord m o') z'] true .send) w) (he : ∀ w, (execOp a.eval o).events P w #[] = #[])
    (hs : ∀ w₁, Rly w w₁ → RS x.2 w₁ → Own e bo w₁ → EndOk c i x m o' w₁ ∧ ((o' = true ∧ ∃ nh, Don P Wg (Lst P Wg 3) nh 0 (G (b.at (a.put o.dst undef) (.inRegion ops rest :: k)) cs)) ∨
      (o' = false ∧ ∃ nh B, Sits P false (StC (Lt e bo)) (StL (Lt e bo)) B (Seat.one e.gr (vI 0) false (Home P c i e bo (JJ P Wg c i e bo) x.1 (pz w₁))) nh (G (b.at (a.put o.dst undef) (.inRegion ops rest :: k)) cs)))) :
    (coAct P Wg c i e bo x).Re (G (b.at a (.inRegion ops (j :: rest) :: k)) cs) w := fun w₁ h₁ h0 hO => by
  have hfin : Go.Conc.served (G (b.at a (.inRegion ops (j :: rest) :: k)) cs) undef = G (b.at (a.put o.dst undef) (.inRegion ops rest :: k)) cs := by
    rw [served_fr, Frame.finish_at, ho]; rfl
  refine .of (.stop fun w₂ h₂ => ?_)
  obtain ⟨h3, h4⟩ := hs w₂ (h₁.trans h₂) (h0.rly h₂) (hO.rs (h0.rly h₂))
  refine ⟨rfl, m, o', _, fun _ => #[], z', fun w₃ h₃ => ⟨by rw [Go.Conc.stepG_comm ho hw hb (hr w₃), listed_none (he w₃)], DX.of_gud (Gud.refl _)⟩, h3, ?_⟩
  rw [hfin]; exact h4
end
section
variable {Wg : Nat} {c : Cl} {i : Nat} {e : Ent} {bo : Nat}
/-- What it finds behind a wait. -/
structure Resm (c : Cl) (i : Nat) (e : Ent) (kn : Int) (v : World) (kn' : Nat) (u : World) : Prop where
  next : Next c i kn kn'
  tr : ∃ v1, Kept c v v1 ∧ c.Sh kn' v1 ∧ RV (v1.setCell (cT e 2) (vI kn')) u
  row : u.heap[e.T]? = some (pzo (.cells #[vCh e.gr, vCh e.bk, vI kn'] 48))
set_option maxHeartbeats 1000000 in
/-- From the place of a call of wait: the way to the seat. -/
theorem sits_wait {n : Nat} {F : Go.Sx.Fr} {b : Frame} {a : Act} {k : List Item} {cs : List Frame} {ops : Array Oper} {id p q : Nat} {ty1 ty2 : TypeId} {ps1 ps2 : String} {af1 af2 : Array Edge} {ts : Array TypeId} (hb : b.kind ≠ .early) (hf : Fits n F a) (h0 : Go.Sx.look F 0 = some (vPtr e.T)) (hp : Nat.blt p n = true)
    {home : Goroutine → Prop} (hh : home (wrec e (b.at (a.put (some p) (vPtr e.T)) (.inRegion [⟨some p, .move (.tmp 0), ty1, ps1, af1, none⟩, ⟨some q, .call { callee := .value (.func 27), args := #[.tmp p], argTypes := ts }, ty2, ps2, af2, none⟩].toArray [1] :: k)) cs)) :
    Sits Try.prog false (StC (Lt e bo)) (StL (Lt e bo)) (e.T + 1) (Seat.one e.gr (vI 0) false home) (23 + 1) (G (b.at a (.inRegion ops [] :: .code (.region id [⟨some p, .move (.tmp 0), ty1, ps1, af1, none⟩, ⟨some q, .call { callee := .value (.func 27), args := #[.tmp p], argTypes := ts }, ty2, ps2, af2, none⟩].toArray false) :: k)) cs) := by
  refine .inl ⟨23, default, rfl, ?_⟩
  refine goes_ctl rfl (fun _ => stepG_region_end) fun w => ?_
  refine goes_ctl rfl (fun _ => stepG_region) fun w => ?_
  have e0 : a.eval (.tmp 0) = vPtr e.T := ev_eval hf (x := .tmp 0) h0
  have hf1 := hf.put hp (vPtr e.T)
  have e1 : (a.put (some p) (vPtr e.T)).eval (.tmp p) = vPtr e.T := ev_eval hf1 (x := .tmp p) (Go.Sx.look_cons_self _ _ _)
  have r1 : ∀ w, (execOp a.eval ⟨some p, .move (.tmp 0), ty1, ps1, af1, none⟩).run Try.prog w = .ok (.value (vPtr e.T)) w := fun w => by simp only [execOp, e0]; rfl
  have r2 : ∀ w, (execOp a.eval ⟨some p, .move (.tmp 0), ty1, ps1, af1, none⟩).events Try.prog w #[] = #[] := fun w => rfl
  refine goes_ctl rfl (fun w => (stepG_value (v := vPtr e.T) rfl rfl hb (r1 w)).trans (by rw [listed_none (r2 w)])) fun w => ?_
  obtain ⟨c27, hc27⟩ : ∃ c, Try.f27.body = some c := ⟨_, rfl⟩
  have r3 : ∀ w, (execOp (a.put (some p) (vPtr e.T)).eval ⟨some q, .call { callee := .value (.func 27), args := #[.tmp p], argTypes := ts }, ty2, ps2, af2, none⟩).run Try.prog w = .ok (.enter 27 #[vPtr e.T]) w := fun w => by
    have := Go.Sx.callsTo (P := Try.prog) (n := n) (F := (p, vPtr e.T) :: F) (S := fun _ => True) (ty := ty2) (f := 27) (fn := Try.f27) (xs := [.tmp p]) (vs := [vPtr e.T]) (ts := ts) Try.func27 rfl (by decide) (by simp [Go.Sx.evs, ev, Go.Sx.look_cons_self])
    exact this _ w hf1 trivial _ _ _ _
  have r4 : ∀ w, (execOp (a.put (some p) (vPtr e.T)).eval ⟨some q, .call { callee := .value (.func 27), args := #[.tmp p], argTypes := ts }, ty2, ps2, af2, none⟩).events Try.prog w #[] = #[] := fun w => by
    simp [go_sem, execOp, Act.eval, callFunc, Try.func27, hc27]
  refine goes_ctl rfl (fun w => (stepG_enter (f := 27) (args := #[vPtr e.T]) rfl rfl hb (r3 w)).trans (by rw [listed_none (r4 w)])) fun w => ?_
  exact wait_goes e (by simp [Lt]) (Nat.lt_succ_self _) _ cs hh w
/-- ████ IT SENDS, WAITS, AND GOES ON. ████ -/
theorem pt_send_wait (hc : c.Ok) {x : Int × World} {kn : Nat} (hx : x.1 = kn) {n : Nat} {F : Go.Sx.Fr} {b : Frame} {k : List Item} {cs : List Frame} {ops : Array Oper} {j id p q : Nat} {ty0 ty1 ty2 : TypeId} {ps0 ps1 ps2 : String} {af0 af1 af2 : Array Edge} {ts : Array TypeId} {xo yo : Operand} {m : Bool} {M : World → Prop} [Stb M]
    (hb : b.kind ≠ .early) (ho : ops[j]? = some ⟨none, .send xo yo, ty0, ps0, af0, none⟩) (hxo : ev F xo = some (vCh e.bk)) (hyo : ev F yo = some (vWord m false)) (h0 : Go.Sx.look F 0 = some (vPtr e.T)) (hp : Nat.blt p n = true) (hq : Nat.blt q n = true)
    (hE : ∀ u, M u → m = c.moved kn ∧ c.over i (kn + 1) = false ∧ Seg c kn (pz x.2) u)
    (hn : ∀ (v : World) (kn' : Nat) (x' : Int × World), M v → x'.1 = kn' → Resm c i e kn v kn' (pz x'.2) →
      Pt (coAct Try.prog Wg c i e bo) n b cs x' (.inRegion [⟨some p, .move (.tmp 0), ty1, ps1, af1, none⟩, ⟨some q, .call { callee := .value (.func 27), args := #[.tmp p], argTypes := ts }, ty2, ps2, af2, none⟩].toArray [] :: k) ((q, .tuple #[]) :: (p, vPtr e.T) :: F) (· = pz x'.2))
    (hg : ∀ (x' : Int × World) (a : Act) (w : World) (t : List Item), x'.1 = -1 → a.defers = [] → RV (pz x'.2) (pz w) → ReI (coAct Try.prog Wg c i e bo) x' (G { b.at a t with mode := .panicking [{ v := vEnded, recovered := false }] } cs) w) :
    Pt (coAct Try.prog Wg c i e bo) n b cs x (.inRegion ops [j] :: .code (.region id [⟨some p, .move (.tmp 0), ty1, ps1, af1, none⟩, ⟨some q, .call { callee := .value (.func 27), args := #[.tmp p], argTypes := ts }, ty2, ps2, af2, none⟩].toArray false) :: k) F M := by
  intro a w hf hm
  refine re_send (m := m) (o' := false) (z' := .tuple #[]) hb ho rfl (fun w => ?_) (fun w => rfl) (fun w₁ h₁ h0' hO => ?_)
  · have e1 := ev_eval hf hxo
    have e2 := ev_eval hf hyo
    simp only [execOp, e1, e2]
    rfl
  have hM := (hm.rely h₁).here
  obtain ⟨h1, h2, h3⟩ := hE _ hM
  refine ⟨⟨h0', fun h => by rw [hx] at h; omega, fun kn' h => ?_⟩, .inr ⟨rfl, _, _, sits_wait hb hf h0 hp ?_⟩⟩
  · obtain rfl : kn' = kn := by rw [hx] at h; omega
    exact ⟨h1, h2.symm, h3⟩
  have hf1 := hf.put hp (vPtr e.T)
  rw [hx]
  refine wait_home _ _ (fun kn' w' w'' _ hR hrv _ hT _ w₂ hw₂ => ?_) (fun w' w'' _ hK hrv _ hT w₂ hw₂ => ?_)
  · rcases hR.2 with h4 | ⟨kn₂, h4, hN, hSh⟩
    · omega
    obtain rfl : kn' = kn₂ := by omega
    have hfin : (b.at (a.put (some p) (vPtr e.T)) (.inRegion [⟨some p, .move (.tmp 0), ty1, ps1, af1, none⟩, ⟨some q, .call { callee := .value (.func 27), args := #[.tmp p], argTypes := ts }, ty2, ps2, af2, none⟩].toArray [1] :: k)).finish (.tuple #[]) =
        b.at ((a.put (some p) (vPtr e.T)).put (some q) (.tuple #[])) (.inRegion [⟨some p, .move (.tmp 0), ty1, ps1, af1, none⟩, ⟨some q, .call { callee := .value (.func 27), args := #[.tmp p], argTypes := ts }, ty2, ps2, af2, none⟩].toArray [] :: k) := by rw [Frame.finish_at]; rfl
    have := hn _ kn' ((kn' : Int), w'') hM rfl ⟨hN, ⟨_, hR.1, hSh, hrv⟩, by rw [pz_heap, show w''.heap[e.T]? = _ from hT]; rfl⟩
    rw [hfin]
    exact this _ _ (hf1.put hq _) ⟨_, rfl, hw₂⟩
  · exact hg (-1, w'') _ _ _ rfl hf1.defers hw₂
/-- .. in a function that is left by the unwinding. -/
theorem re_ended {x' : Int × World} {b : Frame} {cf : Frame} {cs : List Frame} {fn : Func} {T : Go.Ending → Int × World → World → Prop} (hfn : Try.prog.funcs[b.fn]? = some fn) (hT : ∀ x' : Int × World, x'.1 = -1 → T (.panicked [{ v := vEnded, recovered := false }]) x' (pz x'.2))
    (h2 : ∀ ch x' w', Lf (T (.panicked ch) x') w' → ReI (coAct Try.prog Wg c i e bo) x' (G (cf.raise ch) cs) w') (a : Act) (w : World) (t : List Item) (hx : x'.1 = -1) (hd : a.defers = []) (hr : RV (pz x'.2) (pz w)) :
    ReI (coAct Try.prog Wg c i e bo) x' (G { b.at a t with mode := .panicking [{ v := vEnded, recovered := false }] } (cf :: cs)) w :=
  Go.Sx.re_fall hfn hd (h2 _ x' w ⟨_, hT x' hx, hr⟩)
/-- The turn's row, as an actor sees it. -/
abbrev TRow (e : Ent) (y : Value) (v : World) : Prop := v.heap[e.T]? = some (pzo (.cells #[vCh e.gr, vCh e.bk, y] 48))
theorem TRow.cell {y : Value} {v u : World} (h : TRow e y v) (hr : RV v u) (k : Nat) : u.cell? ⟨e.T, k, none⟩ = #[vCh e.gr, vCh e.bk, y][k]? := by
  have := hr.heap _ _ h
  unfold World.cell?
  rw [this]; rfl
instance : Go.Sx.OkF Try.prog 48 0 := Go.Sx.OkF.of Try.underlying48 rfl rfl Try.sizeOf45
instance : Go.Sx.OkF Try.prog 48 1 := Go.Sx.OkF.of Try.underlying48 rfl rfl Try.sizeOf46
end
end Go.Bt
end
section
namespace Go.Sx
variable [Gnd]
open Go.Conc
section
variable {P : Program} {n : Nat} {F : Fr} {S : World → Prop} {ty : TypeId}
theorem guard_chan {op : BinOp} {T : TypeId} {x y : Operand} {p q : Option Nat} (w : World) : (eqGuard op T x y (.chan p) (.chan q)).run P w = .ok () w := by
  unfold eqGuard; cases op <;> simp
theorem eqIn_chan {T E : TypeId} {dir : ChanDir} (d : Nat) (hT : P.underlying T = some (.chan dir E)) (p q : Option Nat) (w : World) : (Op.equalIn (d + 1) T (.chan p) (.chan q)).run P w = .ok (p == q) w := by
  simp [Op.equalIn, run_underlying hT]
theorem val_eql_chan {T V E : TypeId} {dir : ChanDir} {x y : Operand} {p q : Option Nat} (hT : P.underlying T = some (.chan dir E)) (hx : ev F x = some (.chan p)) (hy : ev F y = some (.chan q)) : Val P n F S (.binOp .eql T x y V) ty (.bool (p == q)) :=
  bin_ok hx hy guard_chan fun w => run_eql_of (eqIn_chan 9999 hT p q w) rfl
end
end Go.Sx
namespace Go.Bt
variable [Gnd]
open Go.Conc Go.ConcN Go.RowKit Go.Proofs Go.Sx
section
variable {Wg : Nat} {c : Cl} {i : Nat} {e : Go.Bt.Ent} {bo : Nat}
noncomputable def gd19 : Code := match Try.f19.body with
  | some (.seq (.seq c _) _) => c
  | _ => .skip
set_option maxRecDepth 100000 in
/-- The guard of Step, of a Turn that a Play made. -/
theorem step_guard [C : Co Try.prog] {v : World} {y : Value} (hr : TRow e y v) : SW Try.prog 18 gd19 [(0, vPtr e.T)] (fun u => RV v u) (fun ex F' u => ex = .normal ∧ Sub [(0, vPtr e.T), (10, .bool false)] F' ∧ RV v u) := by
  show SW Try.prog 18 (Code.region 0 _ false) _ _ _
  refine sw_region ?_
  refine ow_val (val_move (v := vPtr e.T) rfl) rfl ?_
  refine ow_val (val_eql_nilptr Try.underlying44 rfl rfl) rfl ?_ (tame_nilptr rfl rfl (.inl rfl))
  refine ow_val (val_move (v := .bool false) rfl) rfl ?_
  refine ow_guard_yes rfl (t := 4) rfl rfl ?_
  refine ow_val (val_move (v := vPtr e.T) rfl) rfl ?_
  refine ow_guard_yes rfl (t := 4) rfl rfl ?_
  refine ow_val (val_nilCheck (a := ⟨e.T, 0, none⟩) rfl) rfl ?_ (tame_nilCheck rfl)
  refine ow_guard_yes rfl (t := 4) rfl rfl ?_
  refine ow_val (val_fieldAddr (b := e.T) (o := 0) rfl Try.underlying48 rfl rfl Try.sizeOf45 rfl) rfl ?_
  refine ow_guard_yes rfl (t := 4) rfl rfl ?_
  refine ow_val (val_load rfl Try.isAgg45 (v := vCh e.gr) (fun w h => hr.cell h 0)) rfl ?_
  refine ow_guard_yes rfl (t := 4) rfl rfl ?_
  refine ow_val (val_eql_chan Try.underlying45 rfl rfl) rfl ?_ (tame_chan rfl rfl (.inl rfl))
  refine ow_val (val_pick_false (v := .bool false) rfl rfl) rfl ?_
  exact ow_nil fun w hw => ⟨rfl, ⟨rfl, rfl, trivial⟩, hw⟩
set_option maxRecDepth 100000 in
set_option maxHeartbeats 1000000 in
/-- ████ STEP ████ -/
theorem step_callI (hc : c.Ok) {kn : Nat} {x : Int × World} (hx : x.1 = kn) {v : World} {y : Value} (hr : TRow e y v) (hm : c.moved kn = true) (ho : c.over i (kn + 1) = false) (hS : Seg c kn (pz x.2) v) :
    CallI (coAct Try.prog Wg c i e bo) 19 #[vPtr e.T] x v (fun r x' u => u = pz x'.2 ∧ match r with
      | .returned r => r = .tuple #[] ∧ ∃ (v' : World) (kn' : Nat), RV v v' ∧ x'.1 = kn' ∧ Resm c i e kn v' kn' (pz x'.2)
      | .panicked ch => x'.1 = -1 ∧ ch = [{ v := vEnded, recovered := false }]
      | _ => False) := by
  refine callI_of_pt (vs := [vPtr e.T]) Try.func19 rfl rfl fun cf cs h1 h2 => ?_
  refine pt_seq ?_
  refine pt_seq ?_
  refine Pt.imp (M' := fun u => RV v u) (fun u hu => hu ▸ RV.refl _) ?_
  refine pt_sw (Q := fun ex F' u => ex = .normal ∧ Sub [(0, vPtr e.T), (10, .bool false)] F' ∧ RV v u) (by decide) ?_ (fun F' u hq => ?_) (fun ex F' u hne hq => hne hq.1)
  · exact step_guard (C := coAct Try.prog Wg c i e bo x) hr
  obtain ⟨-, hs, hrv⟩ := hq
  refine Pt.weaken hs (M' := fun u => RV v u) (fun u hu => hu ▸ hrv) ?_
  refine pt_false rfl (pt_skip ?_)
  refine pt_seq (pt_region ?_)
  refine pt_val (by decide) rfl (val_move (v := vPtr e.T) rfl) rfl ?_
  refine pt_val (by decide) rfl (val_nilCheck (a := ⟨e.T, 0, none⟩) rfl) rfl ?_ (tame_nilCheck rfl)
  refine pt_val (by decide) rfl (val_fieldAddr (b := e.T) (o := 0) rfl Try.underlying48 rfl rfl Try.sizeOf46 rfl) rfl ?_
  refine pt_val (by decide) rfl (val_load rfl Try.isAgg46 (v := vCh e.bk) (fun w h => hr.cell h 1)) rfl ?_
  refine pt_val (by decide) rfl (val_build' (parts := _) (vs := [(0, .bool true)]) (cs := [.bool true, .bool false]) rfl (by kernel_rfl)) rfl ?_
  refine pt_send_wait hc hx (m := true) (by decide) rfl rfl rfl rfl rfl rfl (fun u hu => ⟨hm.symm, ho, hS.rv hc hu⟩) (fun v' kn' x' hv' hx' hR => ?_) (fun x' a w t hx' hd hrv => ?_)
  · refine pt_regionEnd ?_
    exact pt_back (v := .tuple #[]) Try.func19 rfl (fun a _ => res_nothing rfl a) fun w hw => h1 _ x' w (hw.mono fun u hu => ⟨hu, rfl, v', kn', hv', hx', hR⟩)
  · exact re_ended Try.func19 (T := fun r x' u => u = pz x'.2 ∧ match r with
      | .returned r => r = .tuple #[] ∧ ∃ (v' : World) (kn' : Nat), RV v v' ∧ x'.1 = kn' ∧ Resm c i e kn v' kn' (pz x'.2)
      | .panicked ch => x'.1 = -1 ∧ ch = [{ v := vEnded, recovered := false }]
      | _ => False) (fun x' h => ⟨rfl, h, rfl⟩) h2 a w t hx' hd hrv
end
end Go.Bt
end
section
namespace Go.Bt
variable [Gnd]
open Go.Conc Go.ConcN Go.RowKit Go.Proofs Go.Sx
/-- A function value without parameters, and what a call of it enters. -/
structure RdyV (vf : Value) (f : FuncId) (args : Array Value) : Prop where
  calls : ∀ {n : Nat} {F : Go.Sx.Fr} {S : World → Prop} {ty : TypeId} {x : Operand}, ev F x = some vf → CallsTo Try.prog n F S (.call { callee := .value x, args := #[], argTypes := #[] }) ty f args
  tame : ∀ {n : Nat} {F : Go.Sx.Fr} {ty : TypeId} {x : Operand}, ev F x = some vf → Tame Try.prog n F (.call { callee := .value x, args := #[], argTypes := #[] }) ty
  fn : ∃ g a k, vf = .func g a k
noncomputable def gd20 : Code := match Try.f20.body with
  | some (.seq (.seq c _) _) => c
  | _ => .skip
noncomputable def lp20 : Code := match Try.f20.body with
  | some (.seq _ (.seq _ (.block _ (.loop c)))) => c
  | _ => .skip
section
variable {Wg : Nat} {c : Cl} {i : Nat} {e : Go.Bt.Ent} {bo : Nat}
theorem eqIn_func {P : Program} {T : TypeId} {ps rs : Array TypeId} {vr : Bool} {g : Fn} {a k : Array Value} (d : Nat) (hT : P.underlying T = some (.func ps rs vr)) (w : World) : (Op.equalIn (d + 1) T (.func g a k) .nilFunc).run P w = .ok false w := by
  simp [Op.equalIn, run_underlying hT]
theorem val_eql_func {P : Program} {n : Nat} {F : Go.Sx.Fr} {S : World → Prop} {ty : TypeId} {T V : TypeId} {ps rs : Array TypeId} {vr : Bool} {x y : Operand} {g : Fn} {a k : Array Value} (hT : P.underlying T = some (.func ps rs vr)) (hx : ev F x = some (.func g a k)) (hy : ev F y = some .nilFunc) :
    Val P n F S (.binOp .eql T x y V) ty (.bool false) :=
  bin_ok hx hy (fun w => by unfold eqGuard; simp) fun w => run_eql_of (eqIn_func 9999 hT w) rfl
set_option maxRecDepth 100000 in
theorem until_guard [C : Co Try.prog] {v : World} {y vf : Value} (hr : TRow e y v) (hf : ∃ g a k, vf = .func g a k) : SW Try.prog 29 gd20 [(0, vPtr e.T), (1, vf)] (fun u => RV v u) (fun ex F' u => ex = .normal ∧ Sub [(0, vPtr e.T), (1, vf), (17, .bool false)] F' ∧ RV v u) := by
  show SW Try.prog 29 (Code.region 0 _ false) _ _ _
  obtain ⟨g, a, k, rfl⟩ := hf
  refine sw_region ?_
  refine ow_val (val_move (v := vPtr e.T) rfl) rfl ?_
  refine ow_val (val_eql_nilptr Try.underlying44 rfl rfl) rfl ?_ (tame_nilptr rfl rfl (.inl rfl))
  refine ow_val (val_move (v := .bool false) rfl) rfl ?_
  refine ow_guard_yes rfl (t := 7) rfl rfl ?_
  refine ow_val (val_move (v := vPtr e.T) rfl) rfl ?_
  refine ow_guard_yes rfl (t := 7) rfl rfl ?_
  refine ow_val (val_nilCheck (a := ⟨e.T, 0, none⟩) rfl) rfl ?_ (tame_nilCheck rfl)
  refine ow_guard_yes rfl (t := 7) rfl rfl ?_
  refine ow_val (val_fieldAddr (b := e.T) (o := 0) rfl Try.underlying48 rfl rfl Try.sizeOf45 rfl) rfl ?_
  refine ow_guard_yes rfl (t := 7) rfl rfl ?_
  refine ow_val (val_load rfl Try.isAgg45 (v := vCh e.gr) (fun w h => hr.cell h 0)) rfl ?_
  refine ow_guard_yes rfl (t := 7) rfl rfl ?_
  refine ow_val (val_eql_chan Try.underlying45 rfl rfl) rfl ?_ (tame_chan rfl rfl (.inl rfl))
  refine ow_val (val_pick_false (v := .bool false) rfl rfl) rfl ?_
  refine ow_val (val_move (v := .bool false) rfl) rfl ?_
  refine ow_guard_yes rfl (t := 14) rfl rfl ?_
  refine ow_val (val_move (v := .func g a k) rfl) rfl ?_
  refine ow_guard_yes rfl (t := 14) rfl rfl ?_
  refine ow_val (val_eql_func Try.underlying24 rfl rfl) rfl ?_ (tame_func rfl (.inr ⟨g, a, k, rfl⟩) rfl (.inl rfl))
  refine ow_val (val_pick_false (v := .bool false) rfl rfl) rfl ?_
  exact ow_nil fun w hw => ⟨rfl, ⟨rfl, rfl, rfl, trivial⟩, hw⟩
/-- What an asker's question may come to. -/
structure Asks (Wg : Nat) (c : Cl) (i : Nat) (e : Go.Bt.Ent) (bo : Nat) (f : FuncId) (args : Array Value) (A : Bool → Nat → World → World → Prop) (B Fin : Nat → World → World → Prop) (Wt : Nat → World → Prop) : Prop where
  rvA : ∀ {first kn v0 v v'}, A first kn v0 v → RV v v' → A first kn v0 v'
  rvB : ∀ {kn v0 v v'}, B kn v0 v → RV v v' → B kn v0 v'
  rvW : ∀ {kn v v'}, Wt kn v → RV v v' → Wt kn v'
  row : ∀ {first kn v0 v}, A first kn v0 v → ∃ y, TRow e y v
  ask : ∀ {first : Bool} {kn : Nat} {x : Int × World} {v : World}, x.1 = (kn : Int) → A first kn (pz x.2) v → @CallV _ Try.prog (coAct Try.prog Wg c i e bo x) f args v (fun r v' => match r with
    | .returned r => (r = .bool true ∧ B kn (pz x.2) v') ∨ (r = .bool false ∧ c.moved kn = first ∧ c.over i (kn + 1) = false ∧ Seg c kn (pz x.2) v' ∧ (∃ y, TRow e y v') ∧ Wt kn v')
    | .panicked ch => Fin kn (pz x.2) v' ∧ ∃ u, ch = [{ v := u, recovered := false }]
    | _ => False)
  again : ∀ {kn : Nat} {v : World} {kn' : Nat} {u : World}, Wt kn v → Resm c i e kn v kn' u → A false kn' u u
/-- What an Until leaves. -/
def UntilT (B Fin : Nat → World → World → Prop) (r : Ending) (x' : Int × World) (u : World) : Prop := match r with
  | .returned r => r = .tuple #[] ∧ ∃ kn : Nat, x'.1 = kn ∧ B kn (pz x'.2) u
  | .panicked ch => (x'.1 = -1 ∧ ch = [{ v := vEnded, recovered := false }] ∧ u = pz x'.2) ∨ (∃ kn : Nat, x'.1 = kn ∧ Fin kn (pz x'.2) u ∧ ∃ u, ch = [{ v := u, recovered := false }])
  | _ => False
set_option maxRecDepth 100000 in
set_option maxHeartbeats 2000000 in
theorem until_loop (hc : c.Ok) {vf : Value} {f : FuncId} {args : Array Value} {A : Bool → Nat → World → World → Prop} {B Fin : Nat → World → World → Prop} {Wt : Nat → World → Prop} (hv : RdyV vf f args) (hA : Asks Wg c i e bo f args A B Fin Wt) (cf : Frame) (cs : List Frame)
    (h1 : ∀ r x' w', Lf (UntilT B Fin (.returned r) x') w' → ReI (coAct Try.prog Wg c i e bo) x' (G (cf.finish r) cs) w') (h2 : ∀ ch x' w', Lf (UntilT B Fin (.panicked ch) x') w' → ReI (coAct Try.prog Wg c i e bo) x' (G (cf.raise ch) cs) w') :
    ∀ (d kn : Nat) (x : Int × World) (v : World) (first : Bool), c.K - kn = d → x.1 = kn → A first kn (pz x.2) v → Pt (coAct Try.prog Wg c i e bo) 29 (fr0 20) (cf :: cs) x [.code lp20, .inLoop lp20, .inBlock 0] [(0, vPtr e.T), (1, vf), (4, .bool first)] (fun u => RV v u) := by
  intro d
  induction d using Nat.strongRecOn with
  | _ d ih =>
    intro kn x v first hd hx hAv
    obtain ⟨g, ga, gk, rfl⟩ := hv.fn
    show Pt _ 29 _ _ x (.code (.seq (.seq (.region 2 _ false) _) _) :: _) _ _
    refine pt_seq (pt_seq (pt_region ?_))
    refine pt_val (by decide) rfl (val_move (v := .func g ga gk) rfl) rfl ?_
    refine pt_call (T := fun _ r x' u => x' = x ∧ match r with
      | .returned r => (r = .bool true ∧ B kn (pz x.2) u) ∨ (r = .bool false ∧ c.moved kn = first ∧ c.over i (kn + 1) = false ∧ Seg c kn (pz x.2) u ∧ (∃ y, TRow e y u) ∧ Wt kn u)
      | .panicked ch => Fin kn (pz x.2) u ∧ ∃ u, ch = [{ v := u, recovered := false }]
      | _ => False) (by decide) rfl (hv.calls rfl) (hv.tame rfl) (fun w hw => CallI.of_callV (hA.ask hx (hA.rvA hAv hw))) (fun t' ht => by cases ht; rfl) (fun w r x' hw => ?_) (fun w ch x' hw a w' hf hl => ?_)
    · refine Pt.world fun u hu => ?_
      obtain ⟨rfl, hu⟩ := hu
      rcases hu with ⟨rfl, hB⟩ | ⟨rfl, hm, ho, hS, ⟨y, hr⟩, hW⟩
      · refine Pt.imp (M' := fun u' => RV u u') (fun u' h => h ▸ RV.refl _) ?_
        refine pt_val (by decide) rfl (val_not (b := true) rfl) rfl ?_
        refine pt_regionEnd (pt_false rfl (pt_exit rfl ?_))
        exact pt_back (fn := Try.f20) (v := .tuple #[]) Try.func20 rfl (fun a _ => res_nothing rfl a) fun w hw => h1 _ x' w (hw.mono fun u' hu' => ⟨rfl, kn, hx, hA.rvB hB hu'⟩)
      · refine Pt.imp (M' := fun u' => RV u u') (fun u' h => h ▸ RV.refl _) ?_
        refine pt_val (by decide) rfl (val_not (b := false) rfl) rfl ?_
        refine pt_regionEnd (pt_true rfl (pt_skip ?_))
        refine pt_seq (pt_block (pt_seq (pt_region ?_)))
        refine pt_val (by decide) rfl (val_move (v := vPtr e.T) rfl) rfl ?_
        refine pt_val (by decide) rfl (val_nilCheck (a := ⟨e.T, 0, none⟩) rfl) rfl ?_ (tame_nilCheck rfl)
        refine pt_val (by decide) rfl (val_fieldAddr (b := e.T) (o := 0) rfl Try.underlying48 rfl rfl Try.sizeOf46 rfl) rfl ?_
        refine pt_val (by decide) rfl (val_load rfl Try.isAgg46 (v := vCh e.bk) (fun w h => hr.cell h 1)) rfl ?_
        refine pt_val (by decide) rfl (val_move (v := .bool first) rfl) rfl ?_
        refine pt_val (by decide) rfl (val_build' (parts := _) (vs := [(0, .bool first)]) (cs := [.bool first, .bool false]) rfl (by kernel_rfl)) rfl ?_
        refine pt_send_wait hc hx (m := first) (by decide) rfl rfl rfl rfl rfl rfl (fun u' hu' => ⟨hm.symm, ho, hS.rv hc hu'⟩) (fun v' kn' x₂ hv' hx' hR => ?_) (fun x' a w t hx' hd hrv => ?_)
        · refine pt_regionEnd (pt_inBlock (pt_region ?_))
          refine Pt.imp (M' := fun u' => RV (pz x₂.2) u') (fun u' h => h ▸ RV.refl _) ?_
          refine pt_val (by decide) rfl (val_assign (v := .bool false) rfl) rfl ?_
          refine pt_regionEnd (pt_inLoop ?_)
          have := hR.next.1
          have := hR.next.2.1
          exact Pt.weaken (F' := [(0, vPtr e.T), (1, .func g ga gk), (4, .bool false)]) ⟨rfl, rfl, rfl, trivial⟩ (fun _ h => h) (ih (c.K - kn') (by omega) kn' x₂ (pz x₂.2) false rfl hx' (hA.again (hA.rvW hW hv') hR))
        · exact re_ended Try.func20 (T := UntilT B Fin) (fun x' h => .inl ⟨h, rfl, rfl⟩) h2 a w t hx' hd hrv
    · obtain ⟨v', ⟨rfl, hF, hch⟩, hrv⟩ := hl
      exact re_fall Try.func20 hf.defers (h2 ch _ w' ⟨v', .inr ⟨kn, hx, hF, hch⟩, hrv⟩)
set_option maxRecDepth 100000 in
set_option maxHeartbeats 2000000 in
/-- ████ UNTIL ████ -/
theorem until_callI (hc : c.Ok) {vf : Value} {f : FuncId} {args : Array Value} {A : Bool → Nat → World → World → Prop} {B Fin : Nat → World → World → Prop} {Wt : Nat → World → Prop} (hv : RdyV vf f args) (hA : Asks Wg c i e bo f args A B Fin Wt) {kn : Nat} {x : Int × World} (hx : x.1 = kn) {v : World} (hAv : A true kn (pz x.2) v) :
    CallI (coAct Try.prog Wg c i e bo) 20 #[vPtr e.T, vf] x v (UntilT B Fin) := by
  refine callI_of_pt (vs := [vPtr e.T, vf]) Try.func20 rfl rfl fun cf cs h1 h2 => ?_
  obtain ⟨y, hr⟩ := hA.row hAv
  refine pt_seq (pt_seq ?_)
  refine Pt.imp (M' := fun u => RV v u) (fun u hu => hu ▸ RV.refl _) ?_
  refine pt_sw (Q := fun ex F' u => ex = .normal ∧ Sub [(0, vPtr e.T), (1, vf), (17, .bool false)] F' ∧ RV v u) (by decide) ?_ (fun F' u hq => ?_) (fun ex F' u hne hq => hne hq.1)
  · exact until_guard (C := coAct Try.prog Wg c i e bo x) hr hv.fn
  obtain ⟨-, hs, hrv⟩ := hq
  refine Pt.weaken hs (M' := fun u => RV v u) (fun u hu => hu ▸ hrv) ?_
  refine pt_false rfl (pt_skip (pt_seq (pt_region ?_)))
  refine pt_val (by decide) rfl (val_assign (v := .bool true) rfl) rfl ?_
  refine pt_regionEnd (pt_block (pt_loop ?_))
  exact Pt.weaken (F' := [(0, vPtr e.T), (1, vf), (4, .bool true)]) ⟨rfl, rfl, rfl, trivial⟩ (fun _ h => h) (until_loop hc hv hA cf cs h1 h2 _ kn x v true rfl hx hAv)
end
end Go.Bt
end
section
namespace Go.Sx
variable [Gnd]
open Go.Conc
section
variable {P : Program} {X : Type} (R : X → Co P)
/-- .. whose deferred calls are ds. -/
def PtD (n : Nat) (b : Frame) (cs : List Frame) (ds : List Deferred) (x : X) (todo : List Item) (F : Fr) (M : World → Prop) : Prop :=
  ∀ a w, Fits n F ⟨a.tmps, []⟩ → a.defers = ds → Lf M w → ReI R x (G (b.at a todo) cs) w
variable {R} {n : Nat} {b : Frame} {cs : List Frame} {ds : List Deferred} {x : X} {k : List Item} {F : Fr} {M : World → Prop}
theorem PtD.of {t : List Item} (h : Pt R n b cs x t F M) : PtD R n b cs [] x t F M := fun a w hf hd hm => by
  obtain ⟨t, d⟩ := a
  obtain rfl : d = [] := hd
  exact h _ w hf hm
theorem Pt.of {t : List Item} (h : PtD R n b cs [] x t F M) : Pt R n b cs x t F M := fun a w hf hm => by
  have hd := hf.defers
  obtain ⟨t, d⟩ := a
  obtain rfl : d = [] := hd
  exact h _ w hf rfl hm
theorem ptd_go {t t' : List Item} (h : ∀ a w, stepG P (R x).main (G (b.at a t) cs) w = .go (G (b.at a t') cs) w #[]) (hr : PtD R n b cs ds x t' F M) : PtD R n b cs ds x t F M :=
  fun a w hf hd hm => reI_go rfl (fun w₁ => h a w₁) (hr a w hf hd hm)
theorem ptd_regionEnd {ops : Array Oper} (h : PtD R n b cs ds x k F M) : PtD R n b cs ds x (.inRegion ops [] :: k) F M := ptd_go (fun _ _ => stepG_region_end) h
theorem ptd_call {ops : Array Oper} {i : Nat} {t : Option Nat} {op : Op} {ty : TypeId} {ps : String} {af : Array Edge} {rest : List Nat} [hS : Stb M] {f : FuncId} {args : Array Value} (T : World → Ending → X → World → Prop) (hb : b.kind ≠ .early) (ho : ops[i]? = some ⟨t, op, ty, ps, af, none⟩)
    (hv : CallsTo P n F M op ty f args) (hT : Tame P n F op ty) (hc : ∀ w, M w → CallI R f args x w (T w)) (ht : ∀ t', t = some t' → Nat.blt t' n = true)
    (h : ∀ w v x', M w → PtD R n b cs ds x' (.inRegion ops rest :: k) (match t with | some t => (t, v) :: F | none => F) (T w (.returned v) x'))
    (hp : ∀ w ch x', M w → ∀ a w', Fits n F ⟨a.tmps, []⟩ → a.defers = ds → Lf (T w (.panicked ch) x') w' → ReI R x' (G { b.at a (.inRegion ops (i :: rest) :: k) with mode := .panicking ch } cs) w') : PtD R n b cs ds x (.inRegion ops (i :: rest) :: k) F M := by
  intro a w hf hd hm
  have hwant : Region.wanted ⟨t, op, ty, ps, af, none⟩ (yielded ops a.tmps) = true := by simp [Region.wanted]
  refine (R x).step rfl fun w₁ h₁ => ?_
  have hm₁ := (hm.rely h₁).here
  have e := hv _ (pz w₁) hf hm₁ t ps af none
  obtain ⟨w', es, h2, h3, h4⟩ := pl_ok (hT.tame _ hf t ps af none) e
  have hst := stepG_runT (main := (R x).main) (b := b) (a := a) (k := k) (cs := cs) (rest := rest) ho hwant hb h2
  refine ⟨_, _, _, hst, (R x).good h4.seen, ?_⟩
  refine hc _ hm₁ w' (h3 ▸ RV.refl _) _ _ (fun r x' w'' hx => ?_) (fun ch x' w'' hx => ?_)
  · have hfin : (b.at a (.inRegion ops (i :: rest) :: k)).finish r = b.at (a.put t r) (.inRegion ops rest :: k) := by rw [Frame.finish_at, ho]; rfl
    rw [hfin]
    cases t with
    | none => exact h (pz w₁) r x' hm₁ a w'' hf hd hx
    | some t' => exact h (pz w₁) r x' hm₁ (a.put (some t') r) w'' (hf.put (ht t' rfl) r) hd hx
  · exact hp (pz w₁) ch x' hm₁ a w'' hf hd hx
end
section
variable {P : Program} [C : Co P] {n : Nat}
/-- Whatever order is picked, for so many steps; then Z. -/
def anyZ (P : Program) [Co P] (ops : Array Oper) (Z : Array Bool → Act → World → Prop) (S : World → Prop) : Nat → Array Bool → Act → World → Prop
  | 0, listed, a, w => Z listed a w
  | fuel + 1, listed, a, w => Region.ready .any ops listed ≠ [] ∧ ∀ i ∈ Region.ready .any ops listed, wpOpX P ops (fun _ _ _ => False) i (fun a' w' => S (pz w') ∧ anyZ P ops Z S fuel (listed.setIfInBounds i true) a' w') a w
variable {ops : Array Oper} {Z : Array Bool → Act → World → Prop} {S : World → Prop} {L : Nat}
theorem clsZ (hZc : ∀ l, ClsK (Z l)) (hS' : Stb S) : ∀ (fuel : Nat) (listed : Array Bool), ClsK (anyZ P ops Z S fuel listed)
  | 0, listed => hZc listed
  | fuel + 1, listed => fun a w w₁ h hr => ⟨h.1, fun i hi => wpOpX_cls (fun a w w₁ hx hr => ⟨hS'.stb hx.1 hr.pz, clsZ hZc hS' fuel _ a w w₁ hx.2 hr⟩) _ _ _ (h.2 i hi) hr⟩
omit C in
theorem listed_lt {listed : Array Bool} (hcl : Closed ops listed) {j : Nat} (hj : j ∈ Region.ready .any ops listed) : (listed.setIfInBounds j true).getD j false = true := by
  obtain ⟨_, oj, hoj, _⟩ := mem_ready.1 hj
  have hlt : j < listed.size := by rw [hcl.size]; exact (Array.getElem?_eq_some_iff.1 hoj).1
  simp [hlt]
omit C in
/-- What waits for i is not ready ahead of it. -/
theorem not_ready {listed : Array Bool} {i j : Nat} (hcl : Closed ops listed) (hr : i ∈ Region.ready .any ops listed) (hj : j ∈ Region.ready .any ops listed) (hji : j ≠ i) (h0 : reach ops ops.size j i = true) : False := by
  have h3 := (hcl.set hj).reach _ j i h0 (listed_lt hcl hj)
  rw [getD_set_ne false hji, unlisted_of_ready hr] at h3
  cases h3
theorem anyZ_first {i : Nat} {oi : Oper} {v : Value} (hi : ops[i]? = some oi) (hsel : ∀ (j : Nat) (o : Oper) cs b, ops[j]? = some o → o.op ≠ .select cs b)
    (hZ : ∀ l a w, Z l a w → Region.ready .any ops l = [L]) (hZc : ∀ l, ClsK (Z l)) (hS' : Stb S) (hr0 : reach ops ops.size L i = true) :
    ∀ (fuel : Nat) (listed : Array Bool) (a : Act) (w : World), Closed ops listed →
      (∀ j oj, ops[j]? = some oj → j ≠ i → listed.getD j true = false → (∀ e ∈ oj.after, Region.binds .any e = true → e.on ≠ i) → oi.apart ops oj = true) →
      i ∈ Region.ready .any ops listed → YieldsS P ops S oi v a → S (pz w) →
      anyZ P ops Z S fuel (listed.setIfInBounds i true) (a.put oi.dst v) w → anyZ P ops Z S (fuel + 1) listed a w := by
  have cls : ∀ (fuel : Nat) (l : Array Bool), ClsK (fun a' w' => S (pz w') ∧ anyZ P ops Z S fuel l a' w') := fun fuel l a w w₁ hx hr => ⟨hS'.stb hx.1 hr.pz, clsZ hZc hS' fuel _ a w w₁ hx.2 hr⟩
  intro fuel
  induction fuel with
  | zero =>
    intro listed a w hcl hfree hr hy hS H
    refine ⟨fun h => (by rw [h] at hr; cases hr), fun j hj => ?_⟩
    by_cases hji : j = i
    · subst hji; exact hy.wpOpX hi hS (cls _ _) ⟨hS, H⟩
    · have h1 := ready_mono hj hji
      rw [hZ _ _ _ H] at h1
      obtain rfl := List.mem_singleton.1 h1
      exact (not_ready hcl hr hj hji hr0).elim
  | succ fuel ih =>
    intro listed a w hcl hfree hr hy hS H
    refine ⟨fun h => (by rw [h] at hr; cases hr), fun j hj => ?_⟩
    by_cases hji : j = i
    · subst hji; exact hy.wpOpX hi hS (cls _ _) ⟨hS, H⟩
    · have h1 := H.2 j (ready_mono hj hji)
      obtain ⟨hjun, oj, hoj, hall⟩ := mem_ready.1 hj
      have hiun := unlisted_of_ready hr
      have hnot : ∀ e ∈ oj.after, Region.binds .any e = true → e.on ≠ i := fun e he hb heq => by
        have h1 := hall e he hb
        rw [heq, hiun] at h1; cases h1
      have h2 := wpOpX_put hoj (hfree j oj hoj hji hjun hnot) (fun cs b => hsel i oi cs b hi) (fun cs b => hsel j oj cs b hoj) (fun _ _ _ h => h) hy h1
      have hfree' : ∀ k ok, ops[k]? = some ok → k ≠ i → (listed.setIfInBounds j true).getD k true = false →
          (∀ e ∈ ok.after, Region.binds .any e = true → e.on ≠ i) → oi.apart ops ok = true := fun k ok hk hki hun hno => by
        refine hfree k ok hk hki ?_ hno
        by_cases hjk : j = k
        · subst hjk; exact hjun
        · rw [getD_set_ne true hjk] at hun; exact hun
      refine wpOpX_mono (fun a' w' h3 => ⟨h3.2.1, ih (listed.setIfInBounds j true) a' w' (hcl.set hj) hfree' (ready_mono hr (Ne.symm hji)) h3.1 h3.2.1 ?_⟩) h2
      rw [Array.setIfInBounds_comm _ _ hji]
      exact h3.2.2
/-- The operations ahead yield, one behind another. -/
def yWp (P : Program) (ops : Array Oper) (Z : Array Bool → Act → World → Prop) (S : World → Prop) : List Nat → Array Bool → Act → World → Prop
  | [], listed, a, w => Z listed a w
  | i :: r, listed, a, w => ∃ o v, ops[i]? = some o ∧ YieldsS P ops S o v a ∧ yWp P ops Z S r (listed.setIfInBounds i true) (a.put o.dst v) w
/-- The order that is listed is one that may be; L waits for all that stand ahead. -/
def yOk (ops : Array Oper) (L : Nat) : List Nat → Array Bool → Bool
  | [], _ => true
  | i :: r, listed => (Region.ready .any ops listed).contains i && Region.free .any ops listed i && reach ops ops.size L i && yOk ops L r (listed.setIfInBounds i true)
theorem yWp_any (hsel : Region.noSelect ops = true) (hZ : ∀ l a w, Z l a w → Region.ready .any ops l = [L]) (hZc : ∀ l, ClsK (Z l)) (hS' : Stb S) : ∀ (l : List Nat) (listed : Array Bool) (a : Act) (w : World), yOk ops L l listed = true → Closed ops listed → S (pz w) →
    yWp P ops Z S l listed a w → anyZ P ops Z S l.length listed a w
  | [], _, _, _, _, _, _, h => h
  | i :: r, listed, a, w, hc, hcl, hS, h => by
    simp only [yOk, Bool.and_eq_true] at hc
    obtain ⟨⟨⟨hr, hf⟩, hl⟩, hc'⟩ := hc
    obtain ⟨o, v, ho, hy, h⟩ := h
    have hr' : i ∈ Region.ready .any ops listed := by simpa using hr
    exact anyZ_first ho (Region.noSelect_spec hsel) hZ hZc hS' hl r.length listed a w hcl (Region.free_spec ho hf) hr' hy hS (yWp_any hsel hZ hZc hS' r _ _ _ hc' (hcl.set hr') hS h)
theorem go_forced {ops : Array Oper} {fuel t L : Nat} {listed : Array Bool} (h : Region.ready .any ops listed = [L]) : Region.linearise.go .any ops (fuel + 1) t listed [] = L :: Region.linearise.go .any ops fuel t (listed.setIfInBounds L true) [] := by
  simp only [Region.linearise.go]
  change (match (Region.ready .any ops listed)[t % (Region.ready .any ops listed).length]? with
      | some i => Region.linearise.go .any ops fuel (t / (Region.ready .any ops listed).length) (listed.setIfInBounds i true) [i]
      | none => [].reverse) = _
  rw [h]
  simp only [List.length_singleton, Nat.mod_one, List.getElem?_cons_zero, Nat.div_one]
  rw [linearise_go_acc, List.reverse_singleton, List.singleton_append]
theorem go_end {ops : Array Oper} {t : Nat} {listed : Array Bool} : Region.linearise.go .any ops 0 t listed [] = [] := by simp [Region.linearise.go]
theorem anyZ_sound {b : Frame} {k : List Item} {cs : List Frame} (hb : b.kind ≠ .early) (r : Nat) (hz : ∀ l a w t, Z l a w → C.Re (G (b.at a (.inRegion ops (Region.linearise.go .any ops r t l []) :: k)) cs) w) :
    ∀ (fuel t : Nat) (listed : Array Bool) (a : Act) (w : World), anyZ P ops Z S fuel listed a w → C.Re (G (b.at a (.inRegion ops (Region.linearise.go .any ops (fuel + r) t listed []) :: k)) cs) w := by
  intro fuel
  induction fuel with
  | zero => intro t listed a w h; rw [Nat.zero_add]; exact hz listed a w t h
  | succ fuel ih =>
    intro t listed a w h
    obtain ⟨h₀, h₁⟩ := h
    rw [show fuel + 1 + r = fuel + r + 1 by omega]
    simp only [Region.linearise.go]
    change C.Re (G (b.at a (.inRegion ops (match (Region.ready .any ops listed)[t % (Region.ready .any ops listed).length]? with
      | some i => Region.linearise.go .any ops (fuel + r) (t / (Region.ready .any ops listed).length) (listed.setIfInBounds i true) [i]
      | none => [].reverse) :: k)) cs) w
    cases hi : (Region.ready .any ops listed)[t % (Region.ready .any ops listed).length]? with
    | none =>
      cases hr : Region.ready .any ops listed with
      | nil => exact absurd hr h₀
      | cons x xs =>
        rw [hr] at hi
        have hlt : t % (x :: xs).length < (x :: xs).length := Nat.mod_lt _ (by simp)
        rw [List.getElem?_eq_none_iff] at hi
        omega
    | some i =>
      simp only []
      rw [linearise_go_acc, List.reverse_singleton, List.singleton_append]
      have hx := h₁ i (List.mem_of_getElem? hi)
      have hnext : ∀ a' w', (S (pz w') ∧ anyZ P ops Z S fuel (listed.setIfInBounds i true) a' w') → C.Re (G (b.at a' (.inRegion ops (Region.linearise.go .any ops (fuel + r) (t / (Region.ready .any ops listed).length) (listed.setIfInBounds i true) []) :: k)) cs) w' := fun a' w' h => ih _ _ _ _ h.2
      generalize Region.linearise.go .any ops (fuel + r) (t / (Region.ready .any ops listed).length) (listed.setIfInBounds i true) [] = rest at hnext ⊢
      simp only [wpOpX] at hx
      cases ho : ops[i]? with
      | none => rw [ho] at hx; exact re_go rfl (fun _ => stepG_no ho) (hnext _ _ hx)
      | some o =>
        rw [ho] at hx
        simp only at hx
        cases hw : Region.wanted o (yielded ops a.tmps) with
        | false => rw [hw] at hx; exact re_go rfl (fun _ => stepG_unw ho hw) (hnext _ _ hx)
        | true =>
          rw [hw, if_pos rfl] at hx
          refine C.step rfl fun w₁ h₁ => ?_
          have hu := hx w₁ h₁
          generalize hr : (execOp a.eval o).runT P w₁ #[] = y at hu
          obtain ⟨y, es⟩ := y
          have hst := stepG_runT (main := C.main) (b := b) (k := k) (cs := cs) (rest := rest) ho hw hb hr
          cases y with
          | ok m w' =>
            cases m <;> simp only [UponX] at hu <;> try exact hu.elim
            · exact ⟨_, _, _, hst, hu.1 _, hnext _ _ hu.2⟩
            · exact ⟨_, _, _, hst, hu.1 _, hnext _ _ hu.2⟩
            · refine ⟨_, _, _, hst, hu.1 _, hu.2 _ _ (fun v w'' hx => ?_) (fun ch w'' hx => hx.elim)⟩
              have hfin : (b.at a (.inRegion ops (i :: rest) :: k)).finish v = b.at (a.put o.dst v) (.inRegion ops rest :: k) := by rw [Frame.finish_at, ho]; rfl
              rw [hfin]; exact hnext _ _ hx
            · exact ⟨_, _, _, hst, hu.1 _, hnext _ _ hu.2⟩
          | halt y w' => cases y <;> simp only [UponX] at hu <;> exact hu.2.elim
end
section
variable {P : Program} {X : Type} {R : X → Co P} {n : Nat} {b : Frame} {cs : List Frame} {ds : List Deferred} {x : X} {k : List Item}
/-- The walk over what yields. -/
def LZ (P : Program) (n : Nat) (l : List Oper) (S : World → Prop) (K : Fr → Prop) : List Nat → Fr → Prop
  | [], F => K F
  | i :: r, F => ∃ t op ty ps af v, nth l i = some ⟨some t, op, ty, ps, af, none⟩ ∧ Val P n F S op ty v ∧ Nat.blt t n = true ∧ Tame P n F op ty ∧ LZ P n l S K r ((t, v) :: F)
theorem lz_val {l : List Oper} {S : World → Prop} {K : Fr → Prop} {i : Nat} {r : List Nat} {F : Fr} {t : Nat} {op : Op} {ty : TypeId} {ps : String} {af : Array Edge} {v : Value} (ho : nth l i = some ⟨some t, op, ty, ps, af, none⟩) (hv : Val P n F S op ty v) (ht : Nat.blt t n = true) (h : LZ P n l S K r ((t, v) :: F)) (hT : Tame P n F op ty := by infer_instance) : LZ P n l S K (i :: r) F :=
  ⟨t, op, ty, ps, af, v, ho, hv, ht, hT, h⟩
theorem lz_yWp {l : List Oper} {S : World → Prop} {K : Fr → Prop} {Z : Array Bool → Act → World → Prop} {w : World} (E : Array Bool) (hZ : ∀ F a, K F → Fits n F ⟨a.tmps, []⟩ → a.defers = ds → Z E a w) : ∀ (r : List Nat) (listed : Array Bool) (F : Fr) (a : Act), r.foldl (fun z i => z.setIfInBounds i true) listed = E → LZ P n l S K r F → Fits n F ⟨a.tmps, []⟩ → a.defers = ds → yWp P l.toArray Z S r listed a w
  | [], listed, F, a, hE, h, hf, hd => by
    have hE : listed = E := hE
    subst hE; exact hZ F a h hf hd
  | i :: r, listed, F, a, hE, h, hf, hd => by
    obtain ⟨t, op, ty, ps, af, v, ho, hv, ht, hT, h⟩ := h
    exact ⟨_, v, (nth_eq l i).symm.trans ho, .inl ⟨rfl, hT.tame _ hf _ _ _ _, fun w hw => hv _ w hf hw _ _ _ _⟩, lz_yWp E hZ r _ ((t, v) :: F) (a.put (some t) v) hE h (hf.put ht v) hd⟩
/-- All that stands ahead of L only yields; L comes next, and then what is left. -/
theorem ptd_draw {id : Nat} {l : List Oper} {F : Fr} {M : World → Prop} [hM : Stb M] (S : World → Prop) [hS : Stb S] (L : Nat) (ord rest : List Nat) (hm : P.follows .mixedOrders = true) (hb : b.kind ≠ .early) (hs : Region.noSelect l.toArray = true)
    (hy : yOk l.toArray L ord (Array.replicate l.length false) = true) (hE : Region.ready .any l.toArray (ord.foldl (fun z i => z.setIfInBounds i true) (Array.replicate l.length false)) = [L])
    (hR : ∀ t, Region.linearise.go .any l.toArray (rest.length + 1) t (ord.foldl (fun z i => z.setIfInBounds i true) (Array.replicate l.length false)) [] = L :: rest) (hlen : ord.length + (rest.length + 1) = l.length)
    (hMS : ∀ w, M w → S w) (h : LZ P n l S (fun F' => PtD R n b cs ds x (.inRegion l.toArray (L :: rest) :: k) F' M) ord F) : PtD R n b cs ds x (.code (.region id l.toArray true) :: k) F M := by
  intro a w hf hd hw
  generalize hE' : ord.foldl (fun z i => z.setIfInBounds i true) (Array.replicate l.length false) = E at hE hR
  letI := R x
  refine (R x).step rfl fun w₁ h₁ => ?_
  obtain ⟨t, w', e, hw'⟩ := stepG_draw (P := P) (main := (R x).main) (id := id) (ops := l.toArray) (b := b) (a := a) (k := k) (cs := cs) (w := w₁) hm
  have hr : Rly w₁ w' := by rcases hw' with rfl | rfl; exact Rly.refl _; exact Rly.at _ _
  refine ⟨_, _, _, e, ?_, ?_⟩
  · rcases hw' with rfl | rfl
    · exact (R x).good (Gud.refl _)
    · exact (R x).good (Gud.at _ _)
  have hl := hw.rely (h₁.trans hr)
  have h2 := lz_yWp (P := P) (n := n) (ds := ds) (S := S) (w := w') (Z := fun l' a' w'' => l' = E ∧ ∃ F', PtD R n b cs ds x (.inRegion l.toArray (L :: rest) :: k) F' M ∧ Fits n F' ⟨a'.tmps, []⟩ ∧ a'.defers = ds ∧ Lf M w'') E (fun F' a' hK hf' hd' => ⟨rfl, F', hK, hf', hd', hl⟩) ord _ F a hE' h hf hd
  have h3 := yWp_any (P := P) (L := L) hs (fun l' a' w'' hz => by rw [hz.1]; exact hE) (fun l' a' w'' w₂ hz hr2 => by
    obtain ⟨h4, F', h5, h6, h7, h8⟩ := hz
    exact ⟨h4, F', h5, h6, h7, h8.rely hr2⟩) hS ord _ a w' hy ⟨by simp, fun j oj _ hl' => by
      rcases Nat.lt_or_ge j l.length with h' | h'
      · simp [h'] at hl'
      · simp [h'] at hl'⟩ (hMS _ hl.here) h2
  have h4 := anyZ_sound (P := P) (b := b) (k := k) (cs := cs) hb (rest.length + 1) (fun l' a' w'' t hz => by
    obtain ⟨h4, F', h5, h6, h7, h8⟩ := hz
    subst h4
    rw [hR t]
    exact h5 a' w'' h6 h7 h8) ord.length t _ a w' h3
  rw [hlen] at h4
  simpa using h4
theorem pt_draw {id : Nat} {l : List Oper} {F : Fr} {M : World → Prop} [hM : Stb M] (S : World → Prop) [hS : Stb S] (L : Nat) (ord rest : List Nat) (hm : P.follows .mixedOrders = true) (hb : b.kind ≠ .early) (hs : Region.noSelect l.toArray = true)
    (hy : yOk l.toArray L ord (Array.replicate l.length false) = true) (hE : Region.ready .any l.toArray (ord.foldl (fun z i => z.setIfInBounds i true) (Array.replicate l.length false)) = [L])
    (hR : ∀ t, Region.linearise.go .any l.toArray (rest.length + 1) t (ord.foldl (fun z i => z.setIfInBounds i true) (Array.replicate l.length false)) [] = L :: rest) (hlen : ord.length + (rest.length + 1) = l.length)
    (hMS : ∀ w, M w → S w) (h : LZ P n l S (fun F' => Pt R n b cs x (.inRegion l.toArray (L :: rest) :: k) F' M) ord F) : Pt R n b cs x (.code (.region id l.toArray true) :: k) F M := by
  refine Pt.of (ptd_draw S L ord rest hm hb hs hy hE hR hlen hMS ?_)
  clear hy hE hR hlen
  induction ord generalizing F with
  | nil => exact PtD.of h
  | cons i r ih =>
    obtain ⟨t, op, ty, ps, af, v, ho, hv, ht, hT, h⟩ := h
    exact ⟨t, op, ty, ps, af, v, ho, hv, ht, hT, ih h⟩
end
end Go.Sx
end
