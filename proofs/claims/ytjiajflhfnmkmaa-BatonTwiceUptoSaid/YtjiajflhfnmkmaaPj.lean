/- A PLAY OF THE BATON: what the row rests on. -/
import Derived.Test.YtjiajflhfnmkmaaPh
import Derived.Test.YtjiajflhfnmkmaaPi
import Derived.Test.YtjiajflhfnmkmaaPd
import Derived.Test.YtjiajflhfnmkmaaChecked
import Derived.Conc.WgGenN2
set_option linter.unusedVariables false
set_option linter.unusedSimpArgs false
set_option linter.unusedSectionVars false
section
namespace Go.Proofs
abbrev Try.link : Go.Conc.Lib.WgLink := { add := 29, done := 53, wait := 33, relMerge := 40, disable := 41, enable := 42, inBubble := 43, associate := 44, fatal := 45, uOr := 46, uAdd := 47, raceRead := 48, uLoad := 49, uStore := 50, disassociate := 51, semrelease := 52, acquire := 55, isAssociated := 56, uCas := 57, raceWrite := 58, semacquire := 59, orU64 := 68, addU64 := 69, loadU64 := 70, storeU64 := 71, casU64 := 72, tWgP := 88, tUP := 97, tAssoc := 98, tWg := 80, tAU := 77, tU64 := 75, tUint := 102, tU32 := 78, tPU32 := 103, tPAU := 111, tPU64 := 113, tNoCopy := 72, tANoCopy := 73, tAlign64 := 74 }
theorem Try.wgLib : Go.Conc.Lib.WgLib Try.prog Try.link :=
  ⟨Try.func29, Try.func53, Try.func33, Try.func40, Try.func41, Try.func42, Try.func43, Try.func44, Try.func45, Try.func46, Try.func47, Try.func48, Try.func49, Try.func50, Try.func51, Try.func52, Try.func55, Try.func56, Try.func57, Try.func58, Try.func59, Try.func68, Try.func69, Try.func70, Try.func71, Try.func72, Try.underlying88, Try.runUnderlying88, Try.sizeOf88, Try.isAgg88, Try.zeroValue88, Try.underlying97, Try.runUnderlying97, Try.sizeOf97, Try.isAgg97, Try.zeroValue97, Try.underlying98, Try.runUnderlying98, Try.sizeOf98, Try.isAgg98, Try.zeroValue98, Try.underlying80, Try.runUnderlying80, Try.sizeOf80, Try.isAgg80, Try.zeroValue80, Try.underlying77, Try.runUnderlying77, Try.sizeOf77, Try.isAgg77, Try.zeroValue77, Try.underlying75, Try.runUnderlying75, Try.sizeOf75, Try.isAgg75, Try.zeroValue75, Try.underlying102, Try.runUnderlying102, Try.sizeOf102, Try.isAgg102, Try.zeroValue102, Try.underlying78, Try.runUnderlying78, Try.sizeOf78, Try.isAgg78, Try.zeroValue78, Try.underlying103, Try.runUnderlying103, Try.sizeOf103, Try.isAgg103, Try.zeroValue103, Try.underlying111, Try.runUnderlying111, Try.sizeOf111, Try.isAgg111, Try.zeroValue111, Try.underlying113, Try.runUnderlying113, Try.sizeOf113, Try.isAgg113, Try.zeroValue113, Try.underlying0, Try.runUnderlying0, Try.sizeOf0, Try.isAgg0, Try.zeroValue0, Try.underlying3, Try.runUnderlying3, Try.sizeOf3, Try.isAgg3, Try.zeroValue3, Try.underlying4, Try.runUnderlying4, Try.sizeOf4, Try.isAgg4, Try.zeroValue4, Try.underlying9, Try.runUnderlying9, Try.sizeOf9, Try.isAgg9, Try.zeroValue9, Try.underlying20, Try.runUnderlying20, Try.sizeOf20, Try.isAgg20, Try.zeroValue20, Try.underlying21, Try.runUnderlying21, Try.sizeOf21, Try.isAgg21, Try.zeroValue21, (by kernel_rfl), (by kernel_rfl)⟩
end Go.Proofs
end
section
namespace Go.Bt
variable [Gnd]
open Go.Conc Go.ConcN Go.RowKit Go.Proofs
open Go.Sx (Rly RV pz pzo pz_heap spec isWg Gud Co Cel vEnded wait_rest Fits Lf re_go re_back stepG_fall res_none DD)
/-- The record at the root of a goroutine. -/
abbrev root (P : Program) : Frame := { (default : Frame) with fn := P.funcs.size, defers := [], mode := .panicking [goexitEntry] }
def wgP (Wg : Nat) : Value := .pointer (some ⟨Wg, 0, none⟩)
def clos (f : FuncId) (cap : Array Value) : Deferred := { target := .fn (.func f) cap, args := #[] }
theorem stepG_born {P : Program} {f : FuncId} {fn : Func} {c : Code} {args : Array Value} {w : World} (hf : P.funcs[f]? = some fn) (hname : (fn.name == "runtime.NumGoroutine") = false) (hb : fn.body = some c) :
    stepG P false (Go.Conc.born P (dcall f args)) w = .go (G ((baseD f).at { tmps := args ++ Array.replicate (fn.ntmps - args.size) undef, defers := [] } [.code c]) [root P]) w #[] := by
  have h1 : ¬ fn.name = "runtime.NumGoroutine" := by simpa using hname
  rw [← enter_atD args hf hb]
  simp [G, stepG, Go.Conc.born, unwind, callDeferred, dcall, invoke, callFunc, hf, h1, hb, GStep.after, seen_none]
theorem stepG_defer_clos {P : Program} {main : Bool} {b : Frame} {a : Act} {k : List Item} {cs : List Frame} {w : World} {ops : Array Oper} {i : Nat} {rest : List Nat} {o : Oper} {f : FuncId} {cap : Array Value} {x : Operand} (ho : ops[i]? = some o) (hw : Region.wanted o (yielded ops a.tmps) = true) (hk : b.kind ≠ .early)
    (hop : o.op = .defer { callee := .value x, args := #[], argTypes := #[] }) (hx : a.eval x = .func (.func f) #[] cap) :
    stepG P main (G (b.at a (.inRegion ops (i :: rest) :: k)) cs) w = .go (G (b.at (Act.put ⟨a.tmps, clos f cap :: a.defers⟩ o.dst undef) (.inRegion ops rest :: k)) cs) w #[] := by
  have hr : (execOp a.eval o).run P w = .ok (.defer (clos f cap)) w := by
    unfold execOp
    simp [hop, resolve, Deferred.ofValue, hx, clos]
  have he : (execOp a.eval o).events P w #[] = #[] := by
    unfold execOp
    simp [hop, resolve, Deferred.ofValue, hx]
  have hfin : (b.at ⟨a.tmps, clos f cap :: a.defers⟩ (.inRegion ops (i :: rest) :: k)).finish undef = b.at (Act.put ⟨a.tmps, clos f cap :: a.defers⟩ o.dst undef) (.inRegion ops rest :: k) := by rw [Frame.finish_at, ho]; rfl
  have hk' : (b.kind == CallKind.early) = false := by simpa using hk
  rw [stepG_oper ho hw, ← hfin]
  simp [stepG.apply, hr, he, G, Frame.at, hk', GStep.after, seen_none]
theorem call27 {a : Act} {p : Nat} {v : Value} {d : Option Tmp} {ty : TypeId} {ps : String} {af : Array Edge} {ts : Array TypeId} {g : Option (Nat × Bool)} (h : a.eval (.tmp p) = v) :
    (∀ w, (execOp a.eval ⟨d, .call { callee := .value (.func 27), args := #[.tmp p], argTypes := ts }, ty, ps, af, g⟩).run Try.prog w = .ok (.enter 27 #[v]) w) ∧ ∀ w, (execOp a.eval ⟨d, .call { callee := .value (.func 27), args := #[.tmp p], argTypes := ts }, ty, ps, af, g⟩).events Try.prog w #[] = #[] := by
  obtain ⟨c27, hc27⟩ : ∃ c, Try.f27.body = some c := ⟨_, rfl⟩
  have hn : ¬ Try.f27.name = "runtime.NumGoroutine" := by decide
  have e0 : a.eval (.func 27) = .func (.func 27) #[] #[] := rfl
  simp only [Act.eval, Array.getD_eq_getD_getElem?] at h
  constructor
  · intro w; simp [go_sem, execOp, e0, h, resolve, Deferred.ofValue, invoke, callFunc, Try.func27, hc27, hn]
  · intro w; simp [go_sem, execOp, e0, h, resolve, Deferred.ofValue, invoke, callFunc, Try.func27, hc27, hn]
noncomputable def ops30 : Array Oper := match Try.f30.body with
  | some (.seq _ (.seq _ (.seq _ (.seq (.region _ l _) _)))) => l
  | _ => #[]
noncomputable def rest30 : Code := match Try.f30.body with
  | some (.seq _ (.seq _ (.seq _ (.seq _ c)))) => c
  | _ => .skip
/-- What is deferred in run. -/
abbrev dfs (Wg bo : Nat) : List Deferred := [clos 54 #[vPtr bo], dcall 53 #[wgP Wg]]
/-- run, at its call of wait. -/
noncomputable def rfr (e : Ent) (Wg bo : Nat) : Frame :=
  (baseD 30).at ⟨#[vPtr e.A, wgP Wg, vPtr bo, undef, wgP Wg, .func (.func 54) #[] #[vPtr bo], vPtr e.A, vPtr e.A, .pointer (some ⟨e.A, 0, none⟩), vPtr e.T, undef, undef, undef, undef, undef, undef, undef, undef, undef, undef], dfs Wg bo⟩ [.inRegion ops30 [4], .code rest30]
/-- What an actor's way to its seat leans on. -/
abbrev L0 (e : Ent) : Stl := [(cA e 0, vPtr e.T), (cT e 0, vCh e.gr), (cT e 1, vCh e.bk)]
noncomputable def c1 : Code := match Try.f30.body with | some (.seq _ c) => c | _ => .skip
noncomputable def o1 : Array Oper := match Try.f30.body with | some (.seq (.region _ l _) _) => l | _ => #[]
noncomputable abbrev g1 (e : Ent) (Wg b : Nat) : Goroutine := G ((baseD 30).at ⟨#[vPtr e.A, wgP Wg, vPtr b, undef, undef, undef, undef, undef, undef, undef, undef, undef, undef, undef, undef, undef, undef, undef, undef, undef], []⟩ [.inRegion o1 [], .code c1]) [root Try.prog]
set_option maxRecDepth 100000 in
set_option maxHeartbeats 4000000 in
theorem run_sits (e : Ent) (Wg bo : Nat) {home : Goroutine → Prop} (hh : home (wrec e (rfr e Wg bo) [root Try.prog])) (w : World) {B : Nat} (h1 : bo < B) (h2 : e.A < B) (h3 : e.T < B) :
    Goes Try.prog false (RK (StC ((bx bo, vPtr e.A) :: L0 e))) (DS (StL ((bx bo, vPtr e.A) :: L0 e)) B) (fun g _ => ∃ g₂, AtIn Try.prog false (StC ((bx bo, vPtr e.A) :: L0 e)) (StL ((bx bo, vPtr e.A) :: L0 e)) B (Seat.one e.gr (vI 0) false home) g g₂) 37
      (g1 e Wg bo) w := by
  have hu := Try.underlying85
  have hu2 := Try.runUnderlying85
  have hu3 := Try.isAgg82
  have hu4 := Try.isAgg44
  simp only [g1, c1, Try.f30, vPtr, wgP]
  k_c stepG_region_end
  k_c stepG_seq
  k_reg
  refine Goes.step rfl (fun w₁ h₁ => ?_)
  refine goes_oper_k rfl rfl (by decide) (fun K hK => ?_)
  go_simp
  refine hK _ _ ⟨⟨rfl, fun ev he => ?_⟩, ?_⟩
  · have hm := mem_listed he
    simp [go_sem] at hm
  clear hK K
  refine goes_ctl rfl (fun w => stepG_defer rfl rfl (by decide) rfl) fun w => ?_
  walk_nrm
  k_c stepG_region_end
  k_c stepG_seq
  k_reg
  refine Goes.step rfl (fun w₁ h₁ => ?_)
  refine goes_oper_k rfl rfl (by decide) (fun K hK => ?_)
  go_simp
  refine hK _ _ ⟨⟨rfl, fun ev he => ?_⟩, ?_⟩
  · have hm := mem_listed he
    simp [go_sem, Instr.makeFunc] at hm
  clear hK K
  refine goes_ctl rfl (fun w => stepG_defer_clos (f := 54) (cap := #[vPtr bo]) rfl rfl (by decide) rfl rfl) fun w => ?_
  walk_nrm
  k_c stepG_region_end
  k_c stepG_seq
  k_reg
  refine Goes.step rfl (fun w₁ h₁ => ?_)
  refine goes_oper_k rfl rfl (by decide) (fun K hK => ?_)
  have hc : w₁.cell? ⟨bo, 0, none⟩ = some (.pointer (some ⟨e.A, 0, none⟩)) := h₁ _ (List.mem_cons_self ..)
  go_simp
  refine hK _ _ ⟨⟨rfl, fun ev he => ?_⟩, ?_⟩
  · have hm := mem_listed he
    simp [go_sem, *] at hm
    subst hm
    exact evC_read _ ⟨_, (List.mem_cons_self ..), rfl⟩ h1
  clear hK K hc
  refine Goes.step rfl (fun w₁ h₁ => ?_)
  refine goes_oper_k rfl rfl (by decide) (fun K hK => ?_)
  go_simp
  refine hK _ _ ⟨⟨rfl, fun ev he => ?_⟩, ?_⟩
  · have hm := mem_listed he
    simp [go_sem] at hm
  clear hK K
  refine Goes.step rfl (fun w₁ h₁ => ?_)
  refine goes_oper_k rfl rfl (by decide) (fun K hK => ?_)
  go_simp
  refine hK _ _ ⟨⟨rfl, fun ev he => ?_⟩, ?_⟩
  · have hm := mem_listed he
    simp [go_sem] at hm
  clear hK K
  refine Goes.step rfl (fun w₁ h₁ => ?_)
  refine goes_oper_k rfl rfl (by decide) (fun K hK => ?_)
  have hc : w₁.cell? ⟨e.A, 0, none⟩ = some (.pointer (some ⟨e.T, 0, none⟩)) := h₁ _ (List.mem_cons_of_mem _ (List.mem_cons_self ..))
  go_simp
  refine hK _ _ ⟨⟨rfl, fun ev he => ?_⟩, ?_⟩
  · have hm := mem_listed he
    simp [go_sem, *] at hm
    subst hm
    exact evC_read _ ⟨_, (List.mem_cons_of_mem _ (List.mem_cons_self ..)), rfl⟩ h2
  clear hK K hc
  refine goes_ctl rfl (fun w => (stepG_enter (o := ⟨some 10, .call { callee := .value (.func 27), args := #[.tmp 9], argTypes := #[44] }, _, _, _, none⟩) (f := 27) (args := #[vPtr e.T]) rfl rfl (by decide) ((call27 (p := 9) rfl).1 w)).trans (by rw [listed_none ((call27 (p := 9) rfl).2 w)])) fun w => ?_
  exact wait_goes e (List.mem_cons_of_mem _ (List.mem_cons_of_mem _ (List.mem_cons_self ..))) h3 _ _ hh w
theorem box82 {P : Program} {a : Act} {p : Option Addr} {d : Option Tmp} {ty : TypeId} {ps : String} {af : Array Edge} {g : Option (Nat × Bool)} (h : a.eval (.tmp 0) = .pointer p) (w : World) :
    (execOp a.eval ⟨d, .box 82 (.tmp 0), ty, ps, af, g⟩).runT P w #[] = (.ok (.value (vPtr w.heap.size)) { w with heap := w.heap.push (.cells #[.pointer p] 82) }, #[]) := by
  have e : execOp a.eval ⟨d, .box 82 (.tmp 0), ty, ps, af, g⟩ = (do let v ← Instr.box 82 (.pointer p); pure (.value v)) := by rw [← h]; rfl
  rw [e]
  rfl
set_option maxRecDepth 100000 in
theorem tm30 (e : Ent) (Wg : Nat) : #[vPtr e.A, wgP Wg] ++ Array.replicate (Try.f30.ntmps - (#[vPtr e.A, wgP Wg] : Array Value).size) undef = #[vPtr e.A, wgP Wg, undef, undef, undef, undef, undef, undef, undef, undef, undef, undef, undef, undef, undef, undef, undef, undef, undef, undef] := by
  have h : Try.f30.ntmps = 20 := by kernel_rfl
  rw [h]
  walk_nrm
theorem run_box (e : Ent) (Wg : Nat) (w : World) : stepG Try.prog false (G ((baseD 30).at ⟨#[vPtr e.A, wgP Wg, undef, undef, undef, undef, undef, undef, undef, undef, undef, undef, undef, undef, undef, undef, undef, undef, undef, undef], []⟩ [.inRegion o1 (List.range o1.size), .code c1]) [root Try.prog]) w = .go (g1 e Wg w.heap.size) { w with heap := w.heap.push (.cells #[vPtr e.A] 82) } #[] := by
  refine Eq.trans (Go.Sx.stepG_runT (o := ⟨some 2, .box 82 (.tmp 0), _, _, _, none⟩) rfl rfl (by decide) (box82 (p := some ⟨e.A, 0, none⟩) rfl w)) ?_
  show GStep.go _ _ (seen _ _ _) = _
  rw [seen_none]; rfl
/-- ████ BORN ████ -/
theorem run_born (e : Ent) (Wg : Nat) {home : Nat → Goroutine → Prop} (hh : ∀ b, home b (wrec e (rfr e Wg b) [root Try.prog])) : Born Try.prog e.gr (vI 0) home (L0 e) (vPtr e.A) 60 (Go.Conc.born Try.prog (dcall 30 #[vPtr e.A, wgP Wg])) := by
  refine ⟨rfl, .inl ⟨_, fun w => (stepG_born (c := Try.f30.body.getD .skip) Try.func30 (by decide) rfl).trans (by rw [tm30]), ?_⟩⟩
  refine ⟨rfl, .inl ⟨_, fun w => stepG_seq, ?_⟩⟩
  refine ⟨rfl, .inl ⟨_, fun w => stepG_region, ?_⟩⟩
  refine ⟨rfl, .inr ⟨g1 e Wg, fun w => run_box e Wg w, fun b => ?_⟩⟩
  have h1 : b < b + e.A + e.T + 1 := by omega
  have h2 : e.A < b + e.A + e.T + 1 := by omega
  have h3 : e.T < b + e.A + e.T + 1 := by omega
  exact ⟨_, 38, by decide, by decide, .inl ⟨37, default, rfl, run_sits e Wg b (hh b) default h1 h2 h3⟩⟩
end Go.Bt
end
section
namespace Go.Bt
variable [Gnd]
open Go.Conc Go.ConcN Go.RowKit Go.Proofs Go.Conc.Lib Go.ConcR.Gen
open Go.Sx (Rly RV pz pzo pz_heap spec isWg Gud Co Cel vEnded Fits Lf re_go re_back res_none DD ReI PtD val_load val_nilCheck val_fieldAddr val_move val_build' tame_nilCheck Pt pt_seq pt_region pt_regionEnd pt_val)
open Go.ConcR (DC0)
theorem stepG_unwind_clos {P : Program} {main : Bool} {b : Frame} {a : Act} {cs : List Frame} {w : World} {todo : List Item} {ds : List Deferred} {f : FuncId} {fn : Func} {cap : Array Value} {c : Code} {m : FrameMode} (hm : m ≠ .run) (hd : a.defers = clos f cap :: ds) (hf : P.funcs[f]? = some fn) (hname : (fn.name == "runtime.NumGoroutine") = false) (hb : fn.body = some c) :
    stepG P main (G { b.at a todo with mode := m } cs) w = .go (G ((baseD f).at { tmps := cap ++ Array.replicate (fn.ntmps - cap.size) undef, defers := [] } [.code c]) ({ b.at ⟨a.tmps, ds⟩ todo with mode := m } :: cs)) w #[] := by
  have h1 : ¬ fn.name = "runtime.NumGoroutine" := by simpa using hname
  rw [← enter_atD cap hf hb]
  cases m with
  | run => exact absurd rfl hm
  | returning => simp [G, stepG, unwind, callDeferred, Frame.at, hd, clos, invoke, callFunc, hf, h1, hb, GStep.after, seen_none]
  | panicking ch => simp [G, stepG, unwind, callDeferred, Frame.at, hd, clos, invoke, callFunc, hf, h1, hb, GStep.after, seen_none]
/-- What a caller's mode is behind a recover of its deferred call. -/
def recd : FrameMode → FrameMode
  | .panicking ({ v, recovered := false, goexit := false } :: older) => .panicking ({ v, recovered := true } :: older)
  | m => m
def recv : FrameMode → Value
  | .panicking ({ v, recovered := false, goexit := false } :: _) => v
  | _ => .nilIface
theorem stepG_recover {P : Program} {main : Bool} {b : Frame} {a : Act} {k : List Item} {c : Frame} {cs : List Frame} {w : World} {ops : Array Oper} {i : Nat} {rest : List Nat} {o : Oper} {ats : Array TypeId} (ho : ops[i]? = some o) (hw : Region.wanted o (yielded ops a.tmps) = true) (hk : b.kind = .deferred) (hr : b.roundOf = none)
    (hop : o.op = .call { callee := .builtin .recover, args := #[], argTypes := ats }) (hm : c.mode = .returning ∨ ∃ v, c.mode = .panicking [{ v := v, recovered := false }]) :
    stepG P main (G (b.at a (.inRegion ops (i :: rest) :: k)) (c :: cs)) w = .go (G (b.at (a.put o.dst (recv c.mode)) (.inRegion ops rest :: k)) ({ c with mode := recd c.mode } :: cs)) w #[] := by
  have hr1 : (execOp a.eval o).run P w = .ok .recover w := by
    unfold execOp; simp [hop, resolve, invoke, go_sem]
  have he1 : (execOp a.eval o).events P w #[] = #[] := by
    unfold execOp; simp [hop, resolve, invoke, go_sem]
  have hfin : ∀ u, (b.at a (.inRegion ops (i :: rest) :: k)).finish u = b.at (a.put o.dst u) (.inRegion ops rest :: k) := fun u => by rw [Frame.finish_at, ho]; rfl
  have hk' : (b.kind == CallKind.early) = false := by rw [hk]; rfl
  rcases hm with hm | ⟨v, hm⟩
  · have e2 : recv c.mode = .nilIface := by rw [hm]; rfl
    rw [stepG_oper ho hw, e2, ← hfin]
    have e : recd c.mode = c.mode := by rw [hm]; rfl
    rw [e]
    obtain ⟨f1, f2, f3, f4, f5, f6, f7⟩ := c
    simp only at hm
    subst hm
    simp [stepG.apply, hr1, he1, G, Frame.at, hk, hr, tryRecover, GStep.after, seen_none]
  · have e2 : recv c.mode = v := by rw [hm]; rfl
    rw [stepG_oper ho hw, e2, ← hfin]
    simp [stepG.apply, hr1, he1, G, Frame.at, hk, hr, tryRecover, hm, GStep.after, seen_none, recd]
theorem stepG_leaveD {P : Program} {main : Bool} {b : Frame} {a : Act} {todo : List Item} {c : Frame} {cs : List Frame} {w : World} {fn : Func} (hn : b.kind = .deferred) (hd : a.defers = []) (hf : P.funcs[b.fn]? = some fn) (hres : fn.results = #[]) (hc : c.mode = .returning ∨ ∃ v, c.mode = .panicking [{ v := v, recovered := true }]) :
    stepG P main (G { b.at a todo with mode := .returning } (c :: cs)) w = .go (G { c with mode := .returning } cs) w #[] := by
  have hr := res_none hres a.tmps
  obtain ⟨f1, f2, f3, f4, f5, f6, f7⟩ := c
  rcases hc with hc | ⟨v, hc⟩ <;> · simp only at hc; subst hc; simp [G, stepG, unwind, doReturn, Frame.at, hn, hd, hf, hr, seen, GStep.after]
/-- run's frame, all deferred calls made: it leaves. -/
theorem leaves {b : Frame} {a : Act} {todo : List Item} {fn : Func} (hn : b.kind = .deferred) (hd : a.defers = []) (hf : Try.prog.funcs[b.fn]? = some fn) (hres : fn.results = #[]) : QuitsD Try.prog 2 0 (G { b.at a todo with mode := .returning } [root Try.prog]) := by
  have hr := res_none hres a.tmps
  refine .inr ⟨rfl, G (root Try.prog) [], #[], by simp, fun w => ?_, .inr ⟨rfl, { frame := root Try.prog, callers := [], status := .finished, dying := none }, #[], by simp, fun w => ?_, rfl, rfl⟩⟩
  · simp [G, stepG, unwind, doReturn, Frame.at, hn, hd, hf, hr, seen, GStep.after, goexitEntry]
  · simp [G, stepG, unwind, Frame.catches, goexitEntry]
    rfl
theorem is80 : Is80 Try.link := ⟨rfl⟩
theorem done_don {Wg : Nat} {tmps : Array Value} {todo : List Item} (w₀ : World) {b : Frame} {fn : Func} (hn : b.kind = .deferred) (hf : Try.prog.funcs[b.fn]? = some fn) (hres : fn.results = #[])
    {b₂ : Frame} {a₂ : Act} {ops : Array Oper} {fn₂ : Func} {m : FrameMode} (hn₂ : b₂.kind = .deferred) (hd₂ : a₂.defers = []) (hf₂ : Try.prog.funcs[b₂.fn]? = some fn₂) (hres₂ : fn₂.results = #[]) (hm : m = .returning ∨ ∃ v, m = .panicking [{ v := v, recovered := true }]) :
    ∃ nh, Don Try.prog Wg (Lst Try.prog Wg 3) nh 0 (G (b₂.at a₂ [.inRegion ops []]) [{ b.at ⟨tmps, [dcall 53 #[wgP Wg]]⟩ todo with mode := m }, root Try.prog]) := by
  refine ⟨_, don_of_walk (qt := 2) (n := 34) w₀ fun w hF => ?_⟩
  have ctl : ∀ {n : Nat} {g g' : Goroutine} {S : Goroutine → World → Prop} {w : World}, g.status = .running → (∀ w, stepG Try.prog false g w = .go g' w #[]) → (∀ w, WgLive 80 Wg w → Goes Try.prog false (RG Wg) DC0 S n g' w) → Goes Try.prog false (RG Wg) DC0 S (n + 1) g w := fun hs h k =>
    Goes.step hs fun w₁ h₁ => by rw [h w₁, goes_go]; exact ⟨⟨rfl, rfl⟩, k w₁ h₁⟩
  refine ctl rfl (fun _ => stepG_region_end) fun w _ => ?_
  refine ctl rfl (fun _ => stepG_end) fun w _ => ?_
  refine ctl rfl (fun _ => stepG_leaveD hn₂ hd₂ hf₂ hres₂ hm) fun w _ => ?_
  refine ctl rfl (fun _ => stepG_unwind_enter (b := b) (a := ⟨tmps, [dcall 53 #[wgP Wg]]⟩) (todo := todo) (f := 53) (args := #[wgP Wg]) (ds := []) rfl Try.wgLib.f_done (nm_done Try.link) rfl) fun w hF => ?_
  exact done_walk Try.wgLib is80 rfl (leaves (todo := todo) (a := ⟨tmps, []⟩) hn rfl hf hres) w hF
section
variable {Wg : Nat} {c : Cl} {i : Nat} {e : Ent} {bo : Nat}
/-- Still cells, as the sealed world shows them. -/
theorem st_pz {L : Stl} {w : World} (h1 : StC L w) (h2 : StP L w) : ∀ x ∈ L, (pz w).cell? x.1 = some x.2 := fun x hx => by
  obtain ⟨o, g1, g2, g3⟩ := h2 x hx
  have h := h1 x hx
  unfold World.cell? at h ⊢
  rw [pz_heap, g1, Option.map_some]
  rw [g1] at h
  cases o with
  | cells c ty fz =>
    have ho : Go.Sx.ord ty = false := by simpa [spec] using g2
    have h8 : (ty == 80 && Go.Sx.wgc c) = false := g3
    simp only [pzo, ho, h8]
    exact h
  | view a t => simp at h
  | _ => simp [spec] at g2
theorem re_own {x : Int × World} {g : Goroutine} {w : World} (h : ∀ w₁, Rly w w₁ → RS x.2 w₁ → Own e bo w₁ → (coAct Try.prog Wg c i e bo x).Re g w₁) : (coAct Try.prog Wg c i e bo x).Re g w := fun w₁ h₁ h0 hO =>
  h w₁ h₁ h0 (hO.rs h0) w₁ (Rly.refl _) h0 hO
noncomputable def c54 : Code := Try.f54.body.getD .skip
theorem tm54 (bo : Nat) : #[vPtr bo] ++ Array.replicate (Try.f54.ntmps - (#[vPtr bo] : Array Value).size) undef = #[vPtr bo, undef, undef, undef, undef, undef, undef, undef, undef, undef] := by
  have h : Try.f54.ntmps = 10 := by kernel_rfl
  rw [h]
  walk_nrm
instance : Go.Sx.OkF Try.prog 85 0 := Go.Sx.OkF.of Try.underlying85 rfl rfl Try.sizeOf44
instance : Go.Sx.OkF Try.prog 85 1 := Go.Sx.OkF.of Try.underlying85 rfl rfl Try.sizeOf83
instance : Go.Sx.OkF Try.prog 85 2 := Go.Sx.OkF.of Try.underlying85 rfl rfl Try.sizeOf4
set_option maxRecDepth 100000 in
set_option maxHeartbeats 2000000 in
/-- ████ ITS END ████ -/
theorem run_end {x : Int × World} {a : Act} {w : World} {todo : List Item} {m : FrameMode} (hm : m = .returning ∨ ∃ v, m = .panicking [{ v := v, recovered := false }]) (hd : a.defers = dfs Wg bo) (hE : ∀ w₁, RV (pz w) (pz w₁) → RS x.2 w₁ → EndOk c i x true true w₁) :
    (coAct Try.prog Wg c i e bo x).Re (G { (baseD 30).at a todo with mode := m } [root Try.prog]) w := by
  refine re_own fun w₀ h₀ h0 hO => ?_
  have hE : ∀ w₁, RV (pz w₀) (pz w₁) → RS x.2 w₁ → EndOk c i x true true w₁ := fun w₁ h₁ => hE w₁ (h₀.pz.trans h₁)
  clear h0 h₀
  have hbox := st_pz hO.st hO.pr (bx bo, vPtr e.A) (by simp [Lt])
  have hact := st_pz hO.st hO.pr (cA e 0, vPtr e.T) (by simp [Lt])
  have hturn := st_pz hO.st hO.pr (cT e 1, vCh e.bk) (by simp [Lt])
  refine @re_go _ _ (coAct Try.prog Wg c i e bo x) _ _ _ ?_ (fun w => (stepG_unwind_clos (c := c54) (ds := [dcall 53 #[wgP Wg]]) (by rcases hm with rfl | ⟨v, rfl⟩ <;> simp) hd Try.func54 (by decide) rfl).trans (by rw [tm54])) ?_
  · rfl
  generalize ha : (⟨#[vPtr bo, undef, undef, undef, undef, undef, undef, undef, undef, undef], []⟩ : Act) = a54
  refine @re_go _ _ (coAct Try.prog Wg c i e bo x) _ _ _ rfl (fun w => stepG_seq) ?_
  refine @re_go _ _ (coAct Try.prog Wg c i e bo x) _ _ _ rfl (fun w => stepG_region) ?_
  refine @re_go _ _ (coAct Try.prog Wg c i e bo x) _ _ _ rfl (fun w => stepG_recover rfl rfl rfl rfl rfl hm) ?_
  refine @re_go _ _ (coAct Try.prog Wg c i e bo x) _ _ _ rfl (fun w => stepG_region_end) ?_
  have hm2 : recd m = .returning ∨ ∃ v, recd m = .panicking [{ v := v, recovered := true }] := by
    rcases hm with rfl | ⟨v, rfl⟩
    · exact .inl rfl
    · exact .inr ⟨v, rfl⟩
  have key : Pt (coAct Try.prog Wg c i e bo) 10 (baseD 54) [{ (baseD 30).at ⟨a.tmps, [dcall 53 #[wgP Wg]]⟩ todo with mode := recd m }, root Try.prog] x [.code (match c54 with | .seq _ c => c | _ => .skip)] [(0, vPtr bo)] (fun u => RV (pz w₀) u) := by
    show Pt _ 10 _ _ x [.code (.region 1 _ false)] _ _
    refine pt_region ?_
    refine pt_val (by decide) rfl (val_load rfl Try.isAgg82 (v := vPtr e.A) (fun w h => cell_rv h hbox)) rfl ?_
    refine pt_val (by decide) rfl (val_nilCheck (a := ⟨e.A, 0, none⟩) rfl) rfl ?_ (tame_nilCheck rfl)
    refine pt_val (by decide) rfl (val_fieldAddr (b := e.A) (o := 0) rfl Try.underlying85 rfl rfl Try.sizeOf44 rfl) rfl ?_
    refine pt_val (by decide) rfl (val_load rfl Try.isAgg44 (v := vPtr e.T) (fun w h => cell_rv h hact)) rfl ?_
    refine pt_val (by decide) rfl (val_nilCheck (a := ⟨e.T, 0, none⟩) rfl) rfl ?_ (tame_nilCheck rfl)
    refine pt_val (by decide) rfl (val_fieldAddr (b := e.T) (o := 0) rfl Try.underlying48 rfl rfl Try.sizeOf46 rfl) rfl ?_
    refine pt_val (by decide) rfl (val_load rfl Try.isAgg46 (v := vCh e.bk) (fun w h => cell_rv h hturn)) rfl ?_
    refine pt_val (by decide) rfl (val_build' (parts := _) (vs := [(0, .bool true), (1, .bool true)]) (cs := [.bool true, .bool true]) rfl (by kernel_rfl)) rfl ?_
    intro a2 w2 hf2 hl2
    have hrl : ∀ w₁, Rly w2 w₁ → RS x.2 w₁ → EndOk c i x true true w₁ := fun w₁ h₁ h0 => by
      obtain ⟨v, hv, hr⟩ := hl2
      exact hE w₁ ((hv.trans hr).trans h₁.pz) h0
    refine re_send (m := true) (o' := true) (z' := .tuple #[]) (by decide) rfl rfl (fun w => ?_) (fun w => rfl) (fun w₁ h₁ h0' hO => ⟨hrl w₁ h₁ h0', .inl ⟨rfl, ?_⟩⟩)
    · have e1 := Go.Sx.ev_eval hf2 (x := .tmp 8) (v := vCh e.bk) rfl
      have e2 := Go.Sx.ev_eval hf2 (x := .tmp 9) (v := vWord true true) rfl
      show (execOp a2.eval ⟨none, .send (.tmp 8) (.tmp 9), _, _, _, none⟩).run _ _ = _
      simp only [execOp, e1, e2]
      rfl
    · exact done_don default rfl Try.func30 rfl rfl hf2.defers Try.func54 rfl hm2
  subst ha
  exact key _ w₀ ⟨rfl, rfl, fun t v h => by
    simp only [Go.Sx.look] at h
    cases t with
    | zero => simpa [Act.put] using h
    | succ t => cases h⟩ ⟨_, RV.refl _, RV.refl _⟩
end
end Go.Bt
end
section
namespace Go.Bt
variable [Gnd]
open Go.Conc Go.ConcN Go.RowKit Go.Proofs
open Go.Sx (Rly RV pz pzo pz_heap spec isWg Gud Co Cel vEnded Fits Lf Stb re_go re_back res_none DD ReI PtD val_load val_nilCheck val_fieldAddr val_move val_build' tame_nilCheck Pt pt_seq pt_region pt_regionEnd pt_val pt_call pt_back CallI callI_of_pt re_fall ptd_draw ptd_regionEnd ptd_call lz_val CallsTo Tame evs ev ev_eval evs_eval blk res_nothing)
theorem callsToV {P : Program} {n : Nat} {F : Go.Sx.Fr} {S : World → Prop} {ty : TypeId} {f : FuncId} {fn : Func} {x : Operand} {first cap : Array Value} {xs : List Operand} {vs : List Value} {ts : Array TypeId} (hx : ev F x = some (.func (.func f) first cap)) (hf : P.funcs[f]? = some fn) {c : Code} (hb : fn.body = some c) (hn : (fn.name == "runtime.NumGoroutine") = false)
    (hv : evs F xs = some vs) : CallsTo P n F S (.call { callee := .value x, args := xs.toArray, argTypes := ts }) ty f (first ++ vs.toArray ++ cap) :=
  fun a w hfit _ d ps af g => by
    have h1 : (xs.toArray.map a.eval) = vs.toArray := by simp [evs_eval hfit hv]
    have h2 := ev_eval hfit hx
    simp only [execOp, resolve, h1, h2, Deferred.ofValue, Sem.run_bind]
    have hn' : ¬ fn.name = "runtime.NumGoroutine" := by simpa using hn
    simp [invoke, callFunc, hf, hn', hb]
/-- How an actor's act leaves things at its end. -/
def EndF (c : Cl) (i : Nat) (x : Int × World) (u : World) : Prop := (x.1 = -1 ∧ RV (pz x.2) u) ∨ ∃ kn : Nat, x.1 = kn ∧ c.moved kn = true ∧ c.over i (kn + 1) = true ∧ Seg c kn (pz x.2) u
theorem EndF.rv {c : Cl} (hc : c.Ok) {i : Nat} {x : Int × World} {u u' : World} (h : EndF c i x u) (hr : RV u u') : EndF c i x u' := by
  rcases h with ⟨h1, h2⟩ | ⟨kn, h1, h2, h3, h4⟩
  · exact .inl ⟨h1, h2.trans hr⟩
  · exact .inr ⟨kn, h1, h2, h3, h4.rv hc hr⟩
theorem EndF.ok {c : Cl} {i : Nat} {x : Int × World} {w : World} (h : EndF c i x (pz w)) (h0 : RS x.2 w) : EndOk c i x true true w := by
  refine ⟨h0, fun hx => ⟨rfl, rfl, ?_⟩, fun kn hx => ?_⟩
  · rcases h with ⟨_, h2⟩ | ⟨kn, h1, _⟩
    · exact h2
    · omega
  · rcases h with ⟨h1, _⟩ | ⟨kn', h1, h2, h3, h4⟩
    · omega
    · obtain rfl : kn' = kn := by omega
      exact ⟨h2.symm, h3.symm, h4⟩
def FinT (c : Cl) (i : Nat) (r : Go.Ending) (x : Int × World) (u : World) : Prop := match r with
  | .returned _ => EndF c i x u
  | .panicked ch => EndF c i x u ∧ ∃ v, ch = [{ v := v, recovered := false }]
  | _ => False
/-- The client's promise: its function, called with an actor's number and turn. -/
structure ActOk (Wg : Nat) (c : Cl) (f : FuncId) (first cap : Array Value) : Prop where
  fn : ∃ fn code, Try.prog.funcs[f]? = some fn ∧ fn.body = some code ∧ (fn.name == "runtime.NumGoroutine") = false
  tame : Go.Sx.FnOk Try.prog f
  ok : ∀ (i : Nat) (e : Ent) (bo : Nat) (x : Int × World) (kn : Nat), i < c.n → x.1 = kn → Next c i (-1) kn → c.Sh kn (pz x.2) → TRow e (vI kn) (pz x.2) → CallI (coAct Try.prog Wg c i e bo) f (first ++ #[vI i, vPtr e.T] ++ cap) x (pz x.2) (FinT c i)
theorem callI_rv {P : Program} {X : Type} {R : X → Co P} {f : FuncId} {args : Array Value} {x : X} {v v' : World} {T : Go.Ending → X → World → Prop} (h : CallI R f args x v T) (hr : RV v v') : CallI R f args x v' T := fun w hw => h w (hr.trans hw)
section
variable {Wg : Nat} {c : Cl} {i : Nat} {e : Ent} {bo : Nat}
theorem cell_row {u0 u : World} {b k : Nat} {cs : Array Value} {ty : TypeId} {fz : Nat × Nat} (hb : u0.heap[b]? = some (.cells cs ty fz)) (hr : RV u0 u) : u.cell? ⟨b, k, none⟩ = cs[k]? := by
  have := hr.heap _ _ hb
  unfold World.cell?
  rw [this]; rfl
set_option maxRecDepth 100000 in
/-- Play$1 -/
theorem play1_callI {f : FuncId} {first cap : Array Value} (hA : ActOk Wg c f first cap) {x : Int × World} {kn ba bi : Nat} (hi : i < c.n) (hx : x.1 = kn) (hN : Next c i (-1) kn) (hS : c.Sh kn (pz x.2)) (hT : TRow e (vI kn) (pz x.2)) {fa fi : Nat × Nat}
    (hba : (pz x.2).heap[ba]? = some (.cells #[.func (.func f) first cap] 53 fa)) (hbi : (pz x.2).heap[bi]? = some (.cells #[vI i] 3 fi)) :
    CallI (coAct Try.prog Wg c i e bo) 28 #[vPtr e.T, vPtr ba, vPtr bi] x (pz x.2) (FinT c i) := by
  obtain ⟨fn, code, hf1, hf2, hf3⟩ := hA.fn
  refine callI_of_pt (vs := [vPtr e.T, vPtr ba, vPtr bi]) Try.func28 rfl rfl fun cf cs h1 h2 => ?_
  refine pt_region ?_
  refine Pt.imp (M' := fun u => RV (pz x.2) u) (fun u hu => hu ▸ RV.refl _) ?_
  refine pt_val (by decide) rfl (val_load rfl Try.isAgg53 (v := .func (.func f) first cap) (fun w h => cell_row hba h)) rfl ?_
  refine pt_val (by decide) rfl (val_load rfl Try.isAgg3 (v := vI i) (fun w h => cell_row hbi h)) rfl ?_
  refine pt_val (by decide) rfl (val_move (v := vPtr e.T) rfl) rfl ?_
  haveI := hA.tame
  refine pt_call (T := fun _ => FinT c i) (by decide) rfl (callsToV (xs := [.tmp 5, .tmp 6]) (vs := [vI i, vPtr e.T]) rfl hf1 hf2 hf3 rfl) (Go.Sx.tame_callv rfl) (fun w hw => callI_rv (hA.ok i e bo x kn hi hx hN hS hT) hw) (fun t' ht => by cases ht; rfl) (fun w r x' hw => ?_) (fun w ch x' hw a w' hf hl => ?_)
  · refine pt_regionEnd ?_
    exact pt_back (fn := Try.f28) (v := .tuple #[]) Try.func28 rfl (fun a _ => res_nothing rfl a) fun w hw => h1 _ x' w (hw.mono fun u hu => hu)
  · exact re_fall Try.func28 hf.defers (h2 ch x' w' hl)
instance : Go.Sx.FnOk Try.prog 28 := ⟨_, Try.func28, rfl, by decide⟩
/-- Where it begins. -/
def Home0 (c : Cl) (i : Nat) (e : Ent) (fv : Value) (J : Nat → Jt) (v : World) (b : Nat) (g₂ : Goroutine) : Prop := ∀ (k' : Int) (w' : World), Rsm c i (-1) v k' (pz w') → (∃ y, TR e y w') → StC (Lt e b) w' → StP (Lt e b) w' → (∃ y, w'.heap[e.A]? = some (.cells #[vPtr e.T, fv, y] 85)) → Back Try.prog e (J b) k' w' (Go.Conc.served g₂ (recvd false (vI k') true))
set_option maxRecDepth 100000 in
set_option maxHeartbeats 2000000 in
theorem run_act (hc : c.Ok) {f : FuncId} {first cap : Array Value} (hA : ActOk Wg c f first cap) {x : Int × World} {kn ba bi : Nat} (hi : i < c.n) (hx : x.1 = kn) (hN : Next c i (-1) kn) (hS : c.Sh kn (pz x.2)) (hT : TRow e (vI kn) (pz x.2)) {fa fi : Nat × Nat}
    (hba : (pz x.2).heap[ba]? = some (.cells #[.func (.func f) first cap] 53 fa)) (hbi : (pz x.2).heap[bi]? = some (.cells #[vI i] 3 fi)) (hact : (pz x.2).cell? (cA e 1) = some (.func (.func 28) #[] #[vPtr ba, vPtr bi])) (hact0 : (pz x.2).cell? (cA e 0) = some (vPtr e.T)) (hbox : (pz x.2).cell? (bx bo) = some (vPtr e.A)) :
    PtD (coAct Try.prog Wg c i e bo) 20 (baseD 30) [root Try.prog] (dfs Wg bo) x [.code rest30] [(2, vPtr bo)] (fun u => RV (pz x.2) u) := by
  show PtD _ 20 _ _ _ x [.code (.region 4 _ true)] _ _
  refine ptd_draw (S := fun u => RV (pz x.2) u) 8 [0, 1, 2, 3, 4, 5, 6, 7] [] (by kernel_rfl) (by decide) (by kernel_rfl) (by kernel_rfl) (by kernel_rfl) (fun t => ?_) (by kernel_rfl) (fun _ h => h) ?_
  · exact (Go.Sx.go_forced (L := 8) (by kernel_rfl)).trans (congrArg (8 :: ·) Go.Sx.go_end)
  refine lz_val rfl (val_load rfl Try.isAgg82 (v := vPtr e.A) (fun w h => cell_rv h hbox)) rfl ?_
  refine lz_val rfl (val_nilCheck (a := ⟨e.A, 0, none⟩) rfl) rfl ?_ (tame_nilCheck rfl)
  refine lz_val rfl (val_fieldAddr (b := e.A) (o := 0) (e := 1) rfl Try.underlying85 rfl rfl Try.sizeOf83 rfl) rfl ?_
  refine lz_val rfl (val_load rfl Try.isAgg83 (v := .func (.func 28) #[] #[vPtr ba, vPtr bi]) (fun w h => cell_rv h hact)) rfl ?_
  refine lz_val rfl (val_load rfl Try.isAgg82 (v := vPtr e.A) (fun w h => cell_rv h hbox)) rfl ?_
  refine lz_val rfl (val_nilCheck (a := ⟨e.A, 0, none⟩) rfl) rfl ?_ (tame_nilCheck rfl)
  refine lz_val rfl (val_fieldAddr (b := e.A) (o := 0) (e := 0) rfl Try.underlying85 rfl rfl Try.sizeOf44 rfl) rfl ?_
  refine lz_val rfl (val_load rfl Try.isAgg44 (v := vPtr e.T) (fun w h => cell_rv h hact0)) rfl ?_
  show PtD _ _ _ _ _ _ _ _ _
  refine ptd_call (T := fun _ => FinT c i) (by decide) rfl (callsToV (xs := [.tmp 18]) (vs := [vPtr e.T]) rfl Try.func28 rfl (by decide) rfl) (Go.Sx.tame_callv rfl) (fun w hw => callI_rv (play1_callI hA hi hx hN hS hT hba hbi) hw) (fun t' ht => by cases ht; rfl) (fun w r x' hw => ?_) (fun w ch x' hw a w' hf hd hl => ?_)
  · refine ptd_regionEnd fun a w hf hd hl => ?_
    refine @re_go _ _ (coAct Try.prog Wg c i e bo x') _ _ _ rfl (fun w => stepG_end) ?_
    refine run_end (.inl rfl) hd fun w₁ h₁ h0 => ?_
    obtain ⟨u, hu, hr⟩ := hl
    exact (EndF.rv hc hu (hr.trans h₁)).ok h0
  · obtain ⟨u, ⟨hu, v, rfl⟩, hr⟩ := hl
    exact run_end (.inr ⟨v, rfl⟩) hd fun w₁ h₁ h0 => (EndF.rv hc hu (hr.trans h₁)).ok h0
set_option maxHeartbeats 1000000 in
/-- ████ WHERE AN ACTOR BEGINS. ████ -/
theorem run_home (hc : c.Ok) {f : FuncId} {first cap : Array Value} (hA : ActOk Wg c f first cap) {v : World} {ba bi : Nat} (hi : i < c.n)
    (hba : v.heap[ba]? = some (.cells #[.func (.func f) first cap] 53)) (hbi : v.heap[bi]? = some (.cells #[vI i] 3)) (hfa : ¬ c.foot v ba) (hfi : ¬ c.foot v bi) (b : Nat) :
    Home0 c i e (.func (.func 28) #[] #[vPtr ba, vPtr bi]) (fun b => JJ Try.prog Wg c i e b) v b (wrec e (rfr e Wg b) [root Try.prog]) := fun k' w' hR hT hS hP hact => by
  refine wait_back e _ _ hT (fun w'' h1 h2 h3 => ?_)
  obtain ⟨y0, hT⟩ := hT
  obtain ⟨y1, hact⟩ := hact
  have hba1 := hR.1.keep _ _ hba rfl rfl rfl hfa
  have hbi1 := hR.1.keep _ _ hbi rfl rfl rfl hfi
  have hT1 : (pz w').heap[e.T]? = some (pzo (.cells #[vCh e.gr, vCh e.bk, y0] 48)) := by rw [pz_heap, show w'.heap[e.T]? = _ from hT]; rfl
  have hA1 : (pz w').heap[e.A]? = some (pzo (.cells #[vPtr e.T, .func (.func 28) #[] #[vPtr ba, vPtr bi], y1] 85)) := by rw [pz_heap, hact]; rfl
  have hO2 : Own e b w'' := Own.of hS hP hT h2 h3
  have hap := apart_of hS hT
  have up : ∀ (b' : Nat) (o : Obj), (pz w').heap[b']? = some o → b' ≠ e.T → (pz w'').heap[b']? = some o := fun b' o hb hne => h1.heap _ _ (by rw [set_ne (show b' ≠ (cT e 2).block from hne)]; exact hb)
  have hneT : ∀ (b' : Nat) (cs : Array Value) (ty : TypeId) (fz : Nat × Nat), (pz w').heap[b']? = some (.cells cs ty fz) → (ty == 48) = false → b' ≠ e.T := fun b' cs ty fz hb hty he => by
    rw [he, hT1, Option.some.injEq] at hb
    simp only [pzo, Go.Sx.ord] at hb
    cases hb
    cases hty
  have hba2 := up _ _ hba1 (hneT _ _ _ _ hba1 rfl)
  have hbi2 := up _ _ hbi1 (hneT _ _ _ _ hbi1 rfl)
  have hA2 := up _ _ hA1 hap.2
  have hc2 := st_pz hO2.st hO2.pr
  have hT2 : TRow e (vI k') (pz w'') := by
    show (pz w'').heap[e.T]? = _
    rw [pz_heap, show w''.heap[e.T]? = _ from h3]; rfl
  refine @wait_re _ (coAct Try.prog Wg c i e b (k', w'')) e k' _ _ w'' h3 (fun hk w₁ hr => ?_) (fun hk w₁ hr => ?_) w'' (Rly.refl _) (RS.refl _) hO2
  · rcases hR.2 with h4 | ⟨kn, h4, hN, hSh⟩
    · exact absurd h4 hk
    · have hfin : (rfr e Wg b).finish (.tuple #[]) = (baseD 30).at ⟨#[vPtr e.A, wgP Wg, vPtr b, undef, wgP Wg, .func (.func 54) #[] #[vPtr b], vPtr e.A, vPtr e.A, .pointer (some ⟨e.A, 0, none⟩), vPtr e.T, .tuple #[], undef, undef, undef, undef, undef, undef, undef, undef, undef], dfs Wg b⟩ [.inRegion ops30 [], .code rest30] := by
        unfold rfr
        rw [Frame.finish_at]; rfl
      rw [hfin]
      have hSh2 : c.Sh kn (pz w'') := by
        refine hc.sh _ _ _ hSh fun b' o hb hs hch hcty => ?_
        refine up _ _ hb fun he => ?_
        rw [he, hT1, Option.some.injEq] at hb
        subst hb
        simp [pzo, spS, shT, vCh, Go.Sx.ord] at hs
      refine ptd_regionEnd (run_act (x := (k', w'')) (kn := kn) hc hA hi h4 hN hSh2 (h4 ▸ hT2) hba2 hbi2 ?_ (hc2 (cA e 0, vPtr e.T) (by simp [Lt])) (hc2 (bx b, vPtr e.A) (by simp [Lt]))) _ w₁ ⟨rfl, rfl, fun t v h => ?_⟩ rfl ⟨_, hr, RV.refl _⟩
      · unfold World.cell?; rw [show (cA e 1).block = e.A from rfl, hA2]; rfl
      · simp only [Go.Sx.look] at h
        match t, h with
        | 2, h => simpa using h
  · subst hk
    have hra : (rfr e Wg b).raise [{ v := vEnded, recovered := false }] = { (rfr e Wg b) with mode := .panicking [{ v := vEnded, recovered := false }] } := rfl
    rw [hra]
    exact run_end (m := .panicking [{ v := vEnded, recovered := false }]) (.inr ⟨_, rfl⟩) rfl fun w₂ h₂ h0 => (EndF.ok (.inl ⟨rfl, hr.trans h₂⟩) h0)
end
end Go.Bt
end
section
namespace Go.Bt
variable [Gnd]
open Go.Conc Go.ConcN Go.Proofs
open Go.Sx (Rly RV pz pzo pz_heap spec isWg Gud Co)
open Go.ConcN (sumTo upd sumTo_upd upd_ne upd_same sumTo_congr)
/-- The world but for a few blocks, and the shared ones. -/
structure KW (c : Cl) (own : Nat → Prop) (v u : World) : Prop where
  tape : u.tape = v.tape
  os : u.os = v.os
  output : u.output = v.output
  size : v.heap.size ≤ u.heap.size
  keep : ∀ (b : Nat) (o : Obj), v.heap[b]? = some o → ¬ c.foot v b → ¬ own b → u.heap[b]? = some o
  grow : ∀ b, c.foot u b → c.foot v b ∨ v.heap.size ≤ b
  rt : c.Rt v ∧ c.Rt u
section
variable {c : Cl} {own : Nat → Prop} {v u t : World}
theorem KW.refl (hv : c.Rt v) : KW c own v v := ⟨rfl, rfl, rfl, Nat.le_refl _, fun _ _ h _ _ => h, fun _ h => .inl h, hv, hv⟩
theorem KW.trans (h : KW c own v u) (k : KW c own u t) : KW c own v t := by
  refine ⟨k.tape.trans h.tape, k.os.trans h.os, k.output.trans h.output, Nat.le_trans h.size k.size, fun b o hb hf ho => k.keep b o (h.keep b o hb hf ho) (fun hf' => ?_) ho, fun b hb => ?_, h.rt.1, k.rt.2⟩
  · rcases h.grow b hf' with h1 | h1
    · exact hf h1
    · have := (Array.getElem?_eq_some_iff.1 hb).1; omega
  · rcases k.grow b hb with h1 | h1
    · exact h.grow b h1
    · exact .inr (Nat.le_trans h.size h1)
theorem KW.weaken {own' : Nat → Prop} (h : KW c own v u) (hw : ∀ b, own b → own' b) : KW c own' v u := ⟨h.tape, h.os, h.output, h.size, fun b o hb hf ho => h.keep b o hb hf fun hx => ho (hw b hx), h.grow, h.rt⟩
theorem KW.of_rv (hc : c.Ok) (hv : c.Rt v) (h : RV v u) : KW c own v u := ⟨h.tape, h.os, h.output, h.size, fun b o hb _ _ => h.heap b o hb, fun b hb => .inl ((hc.foot _ _ hv (OrdK.of_rv h) b).2 hb), hv, hc.rtk _ _ hv (OrdK.of_rv h)⟩
/-- One block is turned that is no ordinary one. -/
theorem KW.of_one (hc : c.Ok) (hv : c.Rt v) {b₀ : Nat} (ho : own b₀) {o₀ : Obj} (h0 : v.heap[b₀]? = some o₀) (hs : spS o₀ = true ∨ o₀.isChan = true ∨ (cty2 o₀ = true ∧ c.n0 ≤ b₀)) (ht : u.tape = v.tape) (hos : u.os = v.os) (hou : u.output = v.output) (hsz : v.heap.size ≤ u.heap.size) (hk : ∀ b o, v.heap[b]? = some o → b ≠ b₀ → u.heap[b]? = some o) : KW c own v u := by
  have hok : OrdK c.n0 v u := fun b o hb h1 h2 h3 => hk b o hb fun e => ?_
  · exact ⟨ht, hos, hou, hsz, fun b o hb _ hn => hk b o hb fun e => hn (e ▸ ho), fun b hb => .inl ((hc.foot v u hv hok b).2 hb), hv, hc.rtk _ _ hv hok⟩
  subst e
  rw [h0] at hb; obtain rfl := Option.some.inj hb
  rcases hs with hs | hs | ⟨hs, hb3⟩
  · rw [hs] at h1; cases h1
  · rw [hs] at h2; cases h2
  · rcases h3 with h3 | h3
    · rw [hs] at h3; cases h3
    · omega
theorem KW.of_seg (hc : c.Ok) (hv : c.Rt v) {k : Nat} (h : Seg c k v u) : KW c own v u := ⟨h.tape, h.os, h.output, h.size, fun b o hb hf _ => h.keep b o hb hf, h.grow, hv, hc.rt _ _ h.sh⟩
theorem Kept.refl (hv : c.Rt v) : Kept c v v := ⟨rfl, rfl, rfl, Nat.le_refl _, fun _ _ h _ _ _ _ => h, fun _ h => .inl h, hv, hv⟩
theorem Kept.trans (h : Kept c v u) (k : Kept c u t) : Kept c v t := by
  refine ⟨k.tape.trans h.tape, k.os.trans h.os, k.output.trans h.output, Nat.le_trans h.size k.size, fun b o hb h1 h2 h3 hf => k.keep b o (h.keep b o hb h1 h2 h3 hf) h1 h2 h3 (fun hf' => ?_), fun b hb => ?_, h.rt.1, k.rt.2⟩
  · rcases h.grow b hf' with h4 | h4
    · exact hf h4
    · have := (Array.getElem?_eq_some_iff.1 hb).1; omega
  · rcases k.grow b hb with h1 | h1
    · exact h.grow b h1
    · exact .inr (Nat.le_trans h.size h1)
theorem Kept.of_kw (h : KW c own v u) (ho : ∀ b, own b → ∃ o, v.heap[b]? = some o ∧ (spec o = true ∨ o.isChan = true)) : Kept c v u := by
  refine ⟨h.tape, h.os, h.output, h.size, fun b o hb h1 h2 _ hf => h.keep b o hb hf fun hx => ?_, h.grow, h.rt⟩
  obtain ⟨o', h3, h4⟩ := ho b hx
  rw [hb] at h3; obtain rfl := Option.some.inj h3
  rcases h4 with h4 | h4
  · rw [h1] at h4; cases h4
  · rw [h2] at h4; cases h4
end
/-- Goroutine 0's state within a play. -/
structure CS where
  c : Cl
  Wg : Nat
  Rw : Nat
  hasRow : Bool
  base : Nat
  N : Nat
  setup : Bool
  olds : List Nat
  ba : Nat
  row : Array Value
  ents : List Ent
  bis : Nat → Nat
  roles : Nat → Role
  k : Nat
  last : Nat → Int × World
  ov : Nat → Bool
  oc : Nat → Bool
  ex : Nat
  pend : List (Nat × Obj)
  wl : Go.Sx.n0 ≤ Wg
def bn (b : Bool) : Nat := if b then 0 else 1
section
variable (s : CS)
def CS.Ch (ch : Nat) : Prop := ∃ e ∈ s.ents, ch = e.gr ∨ ch = e.bk
def CS.X (a : Addr) : Prop := (∃ e ∈ s.ents, a = cT e 2 ∨ a = cA e 2) ∨ (s.hasRow = true ∧ ∃ k, a = ⟨s.Rw, k, none⟩)
def CS.e : Nat := (sumTo s.ents.length fun i => bn (s.ov i)) + s.ex
noncomputable def CS.par (Shun : Loc → Prop) : Par := { P := Try.prog, Shun := Shun, Ch := s.Ch, Wg := s.Wg, Wk := Lst Try.prog s.Wg 3, X := s.X, wl := s.wl }
def CS.fv (i : Nat) : Value := .func (.func 28) #[] #[vPtr s.ba, vPtr (s.bis i)]
def RoleIs (i : Nat) (e : Ent) (r : Role) : Prop :=
  (s.ov i = true ∧ r = .don) ∨ (s.ov i = false ∧ ((∃ bo, r = .seat e.gr (vI 0) (Home Try.prog s.c i e bo (JJ Try.prog s.Wg s.c i e bo) (s.last i).1 (s.last i).2) (Lt e bo)) ∨
    ((s.last i).1 = -1 ∧ r = .born e.gr (vI 0) (Home0 s.c i e (s.fv i) (fun b => JJ Try.prog s.Wg s.c i e b) (s.last i).2) (L0 e) (vPtr e.A))))
/-- It is well made. -/
structure CS.Wf : Prop where
  base : 0 < s.base
  dist : ∀ (i j : Nat) (e e' : Ent), s.ents[i]? = some e → s.ents[j]? = some e' → i ≠ j → e.A ≠ e'.A ∧ e.T ≠ e'.T ∧ e.gr ≠ e'.gr ∧ e.bk ≠ e'.bk ∧ e.gr ≠ e'.bk
  self : ∀ (i : Nat) (e : Ent), s.ents[i]? = some e → e.gr ≠ e.bk
  role : ∀ (i : Nat) (e : Ent), s.ents[i]? = some e → RoleIs s i e (s.roles (s.base + i))
  rest : ∀ j, (j < s.base ∨ s.base + s.ents.length ≤ j) → s.roles j = .quit
  last : ∀ (i : Nat) (e : Ent), s.ents[i]? = some e → s.ov i = false → (s.last i).1 < s.k ∧ ∀ m : Nat, (s.last i).1 < m → m < s.k → s.c.who m ≠ i
  pend : s.setup = false → s.pend = []
/-- What stands of the sealed blocks. -/
structure CInv (w : World) : Prop where
  act : ∀ (i : Nat) (e : Ent), s.ents[i]? = some e → w.heap[e.A]? = some (.cells #[vPtr e.T, s.fv i, .bool (s.oc i)] 85)
  turn : ∀ (i : Nat) (e : Ent), s.ents[i]? = some e → ∃ y, TR e y w
  row : s.hasRow = true → w.heap[s.Rw]? = some (.cells s.row 82)
  pend : ∀ x ∈ s.pend, w.heap[x.1]? = some x.2 ∧ isWg x.2 = false ∧ (spec x.2 = true ∨ x.2.isChan = true) ∧ Go.Sx.n0 ≤ x.1
  low : ∀ e ∈ s.ents, e.gr < w.heap.size ∧ e.bk < w.heap.size
  ks : Go.Sx.KS w
  elo : ∀ e ∈ s.ents, Go.Sx.n0 ≤ e.A ∧ Go.Sx.n0 ≤ e.T ∧ Go.Sx.n0 ≤ e.gr ∧ Go.Sx.n0 ≤ e.bk
  rlo : s.hasRow = true → Go.Sx.n0 ≤ s.Rw
/-- What stands of the ordinary ones. -/
structure KO (v : World) : Prop where
  kept : ∀ (i : Nat) (e : Ent), s.ents[i]? = some e → s.ov i = false → Kept s.c (s.last i).2 v
  sh : s.c.Sh s.k v
  foot : ∀ b, s.c.foot v b → b ∈ s.olds ∨ (s.setup = false ∧ s.N ≤ b)
  size : s.setup = false → s.N ≤ v.heap.size
variable (Post : Value → World → Prop)
/-- In each frame that fits the state the run ends well. -/
def CoreC (g : Goroutine) (w : World) : Prop := ∀ (gs : Array Goroutine) (sl : Option (Nat × Nat)) (T : Trace) (q : Nat → Nat) (role : Nat → Role) (Shun : Loc → Prop), (∀ k, Shun (.cell ⟨s.Wg, k, none⟩)) → Same s.roles role → Fr (s.par Shun) role 0 s.e true T gs w q →
  gs.size = s.base + s.ents.length → gs[0]? = some g → EndsW Try.prog Post (crowd gs w sl) T
/-- GOROUTINE 0's JUDGEMENT WITHIN A PLAY. -/
def ReC (g : Goroutine) (w : World) : Prop := ∀ w₁, Rly w w₁ → CInv s w₁ → CoreC s Post g w₁
end
section
variable {s s' : CS} {Post : Value → World → Prop}
theorem sealed_rly {w w₁ : World} {b : Nat} {cs : Array Value} {ty : TypeId} {fz : Nat × Nat} (h : w.heap[b]? = some (.cells cs ty fz)) (h8 : (ty == 80) = false) (hr : Rly w w₁) : w₁.heap[b]? = some (.cells cs ty fz) := by
  rcases hr.heap _ _ h with h1 | ⟨h1, _⟩
  · exact h1
  · rw [show isWg (.cells cs ty fz) = (ty == 80 && Go.Sx.wgc cs) from rfl, h8] at h1; cases h1
theorem CInv.rly {w w₁ : World} (h : CInv s w) (hr : Rly w w₁) : CInv s w₁ :=
  ⟨fun i e he => sealed_rly (h.act i e he) rfl hr, fun i e he => let ⟨y, hy⟩ := h.turn i e he; ⟨y, hy.rly hr⟩, fun hh => sealed_rly (h.row hh) rfl hr, fun x hx => (by
    obtain ⟨g1, g2, g3⟩ := h.pend x hx
    refine ⟨?_, g2, g3⟩
    rcases hr.heap _ _ g1 with h1 | ⟨h1, _⟩
    · exact h1
    · rw [g2] at h1; cases h1), fun e he => ⟨Nat.lt_of_lt_of_le (h.low e he).1 hr.size, Nat.lt_of_lt_of_le (h.low e he).2 hr.size⟩, h.ks.rly hr, h.elo, h.rlo⟩
theorem CInv.gud {w w₁ : World} {es : Array Event} (h : CInv s w) (hr : Gud w w₁ es) : CInv s w₁ :=
  ⟨fun i e he => hr.keep _ _ (h.act i e he) (.inl rfl), fun i e he => let ⟨y, hy⟩ := h.turn i e he; ⟨y, hr.keep _ _ hy (.inl rfl)⟩, fun hh => hr.keep _ _ (h.row hh) (.inl rfl), fun x hx => (let ⟨g1, g2, g3, g4⟩ := h.pend x hx; ⟨hr.keep _ _ g1 (g3.imp id Go.Sx.nc_of_chan), g2, g3, g4⟩), fun e he => ⟨Nat.lt_of_lt_of_le (h.low e he).1 hr.size, Nat.lt_of_lt_of_le (h.low e he).2 hr.size⟩, h.ks.gud hr, h.elo, h.rlo⟩
theorem ReC.rely {g : Goroutine} {w w₁ : World} (h : ReC s Post g w) (hr : Rly w w₁) : ReC s Post g w₁ := fun w₂ h₂ => h w₂ (hr.trans h₂)
/-- The other state differs in what no frame asks. -/
structure Alike (s s' : CS) : Prop where
  Wg : s'.Wg = s.Wg
  roles : s'.roles = s.roles
  base : s'.base = s.base
  len : s'.ents.length = s.ents.length
  e : s'.e = s.e
  Ch : s'.Ch = s.Ch
  X : s'.X = s.X
theorem Alike.refl (s : CS) : Alike s s := ⟨rfl, rfl, rfl, rfl, rfl, rfl, rfl⟩
theorem Alike.core {g : Goroutine} {w : World} (h : Alike s s') (hc : CoreC s' Post g w) : CoreC s Post g w := fun gs sl T q role Shun hSh hsm C hsz ha => by
  have e1 : s'.par Shun = s.par Shun := by simp only [CS.par, h.Ch, h.Wg, h.X]
  refine hc gs sl T q role Shun (by rw [h.Wg]; exact hSh) (by rw [h.roles]; exact hsm) ?_ (by rw [h.base, h.len]; exact hsz) ha
  rw [e1, h.e]; exact C
/-- A step of goroutine 0's; sealed cells of its own may turn. -/
theorem ReC.stepX {g : Goroutine} {w : World} (hrun : g.status = .running) (h : ∀ w₁, Rly w w₁ → CInv s w₁ → ∃ (s' : CS) (g' : Goroutine) (w' : World) (es : Array Event), Alike s s' ∧ stepG Try.prog true g w₁ = .go g' w' es ∧ DX s.X w₁ w' es ∧ CInv s' w' ∧ ReC s' Post g' w') : ReC s Post g w := by
  intro w₁ h₁ hI gs sl T q role Shun hSh hsm C hsz ha
  obtain ⟨N, gs', w₂, w₃, sl', sl'', T', q', role', hr, hst, hsz', ha', hrel, C', hsm'⟩ := C.picked (sl := sl) hSh ha hrun
  refine EndsW.after hr ?_
  obtain ⟨s', g', w', es, hal, hgo, hd, hI', hk⟩ := h w₃ (h₁.trans hrel) (hI.rly hrel)
  obtain ⟨C₂, ha₂⟩ := C'.own (a' := g') ha' hd
  have hrt := runT_crowd_go (P := Try.prog) (sl := sl'') (i := 0) ha' (show stepG Try.prog (0 == 0) g w₃ = _ from hgo)
  exact EndsW.step (hst.trans hrt) (hal.core (hk w' (Rly.refl _) hI') _ _ _ _ _ _ hSh (hsm.trans hsm') C₂ (by simpa using hsz'.trans hsz) ha₂)
theorem ReC.step {g : Goroutine} {w : World} (hrun : g.status = .running) (h : ∀ w₁, Rly w w₁ → ∃ g' w' es, stepG Try.prog true g w₁ = .go g' w' es ∧ Gud w₁ w' es ∧ ReC s Post g' w') : ReC s Post g w :=
  ReC.stepX hrun fun w₁ h₁ hI => by
    obtain ⟨g', w', es, h2, h3, h4⟩ := h w₁ h₁
    exact ⟨s, g', w', es, .refl s, h2, DX.of_gud h3, hI.gud h3, h4⟩
/-- Goroutine 0's judgements: between two plays; within one. -/
@[reducible] def coPlay (Post : Value → World → Prop) : Option CS → Co Try.prog
  | none => coLaw Try.prog Post
  | some s => { main := true, Re := ReC s Post, D := Gud, good := id, rely := ReC.rely, step := ReC.step }
end
end Go.Bt
end
section
namespace Go.Bt
variable [Gnd]
open Go.Conc Go.ConcN Go.Proofs
open Go.Sx (Rly RV pz pzo pz_heap spec isWg Gud Co)
open Go.ConcN (sumTo upd sumTo_upd upd_ne upd_same sumTo_congr)
/-- What goroutine 0 leans on, while an actor goes. -/
def Lb (e : Ent) : Stl := [(cA e 0, vPtr e.T), (cT e 1, vCh e.bk)]
def ownE (e : Ent) (b : Nat) : Prop := b = e.T ∨ b = e.gr ∨ b = e.bk
/-- Behind a pick of actor i. -/
def CS.after (s : CS) (i : Nat) (pk : Int) (o : Bool) (roles : Nat → Role) (v : World) : CS :=
  { s with k := if pk = -1 then s.k else s.k + 1, last := upd s.last i (pk, v), ov := upd s.ov i o, roles := roles }
theorem OrdK.of_one {n : Nat} {v u : World} {b₀ : Nat} {o₀ : Obj} (h0 : v.heap[b₀]? = some o₀) (hs : spS o₀ = true ∨ o₀.isChan = true ∨ (cty2 o₀ = true ∧ n ≤ b₀)) (hk : ∀ b o, v.heap[b]? = some o → b ≠ b₀ → u.heap[b]? = some o) : OrdK n v u := fun b o hb h1 h2 h3 => hk b o hb fun e => by
  subst e
  rw [h0] at hb; obtain rfl := Option.some.inj hb
  rcases hs with hs | hs | ⟨hs, hb3⟩
  · rw [hs] at h1; cases h1
  · rw [hs] at h2; cases h2
  · rcases h3 with h3 | h3
    · rw [hs] at h3; cases h3
    · omega
theorem pz_chan {w : World} {c : Nat} {o : Obj} (h : w.heap[c]? = some o) (ho : o.isChan = true) : (pz w).heap[c]? = some o := by
  rw [pz_heap, h, Option.map_some]
  cases o <;> simp [Obj.isChan] at ho
  rfl
theorem pz_setChan_ne {w : World} {c : Nat} {cap : Nat} {buf : Array Value} {cl : Bool} {x y : Nat} {tm : Bool} {b : Nat} (h : b ≠ c) : (pz (w.setChan c cap buf cl x y tm)).heap[b]? = (pz w).heap[b]? := by
  rw [pz_heap, pz_heap, heap_setChan_ne w _ _ _ _ _ _ (fun e => h e.symm)]
section
variable {s : CS}
theorem CS.Wf.ch (hW : s.Wf) {x c : Nat} (h : (s.roles x).ch = some c) : ∃ (i : Nat) (e : Ent), s.ents[i]? = some e ∧ x = s.base + i ∧ c = e.gr ∧ s.ov i = false := by
  by_cases hx : x < s.base ∨ s.base + s.ents.length ≤ x
  · rw [hW.rest x hx] at h; cases h
  · simp only [not_or, Nat.not_lt, Nat.not_le] at hx
    have hlt : x - s.base < s.ents.length := by omega
    have he : s.ents[x - s.base]? = some s.ents[x - s.base] := List.getElem?_eq_getElem hlt
    have := hW.role _ _ he
    rw [show s.base + (x - s.base) = x by omega] at this
    refine ⟨_, _, he, by omega, ?_⟩
    rcases this with ⟨_, h1⟩ | ⟨ho, ⟨bo, h1⟩ | ⟨_, h1⟩⟩ <;> rw [h1] at h <;> simp only [Role.ch, Option.some.injEq] at h
    · cases h
    · exact ⟨h.symm, ho⟩
    · exact ⟨h.symm, ho⟩
theorem CS.Wf.chan_of (hW : s.Wf) {i : Nat} {e : Ent} (hi : s.ents[i]? = some e) (ho : s.ov i = false) : (s.roles (s.base + i)).ch = some e.gr := by
  rcases hW.role i e hi with ⟨h1, _⟩ | ⟨_, ⟨bo, h1⟩ | ⟨_, h1⟩⟩
  · rw [ho] at h1; cases h1
  · rw [h1]; rfl
  · rw [h1]; rfl
theorem CS.Wf.no_bk (hW : s.Wf) {i : Nat} {e : Ent} (hi : s.ents[i]? = some e) (x : Nat) : (s.roles x).ch ≠ some e.bk := fun h => by
  obtain ⟨i', e', h1, _, h2, _⟩ := hW.ch h
  by_cases hii : i' = i
  · subst hii
    rw [hi] at h1; obtain rfl := Option.some.inj h1
    exact hW.self _ _ hi h2.symm
  · exact (hW.dist i' i e' e h1 hi hii).2.2.2.2 h2.symm
theorem ks_ne {w w' : World} (h : Go.Sx.KS w) (hs : w.heap.size ≤ w'.heap.size) {c : Nat} (hc : Go.Sx.n0 ≤ c) (hk : ∀ b, b ≠ c → w'.heap[b]? = w.heap[b]?) : Go.Sx.KS w' :=
  ⟨Nat.le_trans h.size hs, fun b o hb ho => by
    have hlt : b < Go.Sx.n0 := (Array.getElem?_eq_some_iff.1 hb).1
    rw [hk b (by omega)]; exact h.keep b o hb ho⟩
theorem CInv.chan {w : World} {c : Nat} {o : Obj} (hlo : Go.Sx.n0 ≤ c) (hp : s.pend = []) (hI : CInv s w) (hc : w.heap[c]? = some o) (ho : o.isChan = true) (cap : Nat) (buf : Array Value) (cl : Bool) (x y : Nat) (tm : Bool) : CInv s (w.setChan c cap buf cl x y tm) := by
  have key : ∀ (b : Nat) (cs : Array Value) (ty : TypeId), w.heap[b]? = some (.cells cs ty) → (w.setChan c cap buf cl x y tm).heap[b]? = some (.cells cs ty) := fun b cs ty hb => by
    have hne : c ≠ b := fun e => by
      subst e; rw [hc] at hb; obtain rfl := Option.some.inj hb
      simp [Obj.isChan] at ho
    rw [heap_setChan_ne w _ _ _ _ _ _ hne]; exact hb
  exact ⟨fun i e he => key _ _ _ (hI.act i e he), fun i e he => let ⟨y, hy⟩ := hI.turn i e he; ⟨y, key _ _ _ hy⟩, fun hh => key _ _ _ (hI.row hh), fun x hx => (by rw [hp] at hx; cases hx), fun e he => (by simpa [World.setChan] using hI.low e he), ks_ne hI.ks (by simp [World.setChan]) hlo (fun b hb => heap_setChan_ne w _ _ _ _ _ _ (fun e => hb e.symm)), hI.elo, hI.rlo⟩
theorem CInv.lb {w : World} {i : Nat} {e : Ent} (hI : CInv s w) (hi : s.ents[i]? = some e) : StC (Lb e) w ∧ StP (Lb e) w := by
  have h1 := hI.act i e hi
  obtain ⟨y, h2⟩ := hI.turn i e hi
  unfold TR at h2
  constructor
  · intro x hx
    simp only [Lb, List.mem_cons, List.not_mem_nil, or_false] at hx
    rcases hx with rfl | rfl
    · simp [World.cell?, cA, h1]
    · simp [World.cell?, cT, h2]
  · intro x hx
    simp only [Lb, List.mem_cons, List.not_mem_nil, or_false] at hx
    rcases hx with rfl | rfl
    · exact ⟨_, h1, rfl, rfl⟩
    · exact ⟨_, h2, rfl, rfl⟩
/-- The others' blocks through an actor's stretch. -/
theorem CInv.rsx {w w'' : World} {i : Nat} {e : Ent} {y : Value} (hp : s.pend = []) (hsz : w.heap.size ≤ w''.heap.size) (hW : s.Wf) (hI : CInv s w) (hi : s.ents[i]? = some e) (h : RSx e w w'') (hT : TR e y w'') : CInv s w'' := by
  obtain ⟨y0, hT0⟩ := hI.turn i e hi
  unfold TR at hT0
  have key : ∀ (b : Nat) (cs : Array Value) (ty : TypeId), w.heap[b]? = some (.cells cs ty) → (ty == 48) = false → Go.Sx.ord ty = false → (ty == 80) = false → w''.heap[b]? = some (.cells cs ty) := fun b cs ty hb h48 h1 h2 => by
    refine h b _ (fun e0 => ?_) hb (.inl ⟨by simp [spec, h1], by simp [isWg, h2]⟩)
    subst e0; rw [hT0, Option.some.injEq] at hb; cases hb; cases h48
  refine ⟨fun i' e' he => key _ _ _ (hI.act i' e' he) rfl rfl rfl, fun i' e' he => ?_, fun hh => key _ _ _ (hI.row hh) rfl rfl rfl, fun x hx => (by rw [hp] at hx; cases hx), fun e he => ⟨Nat.lt_of_lt_of_le (hI.low e he).1 hsz, Nat.lt_of_lt_of_le (hI.low e he).2 hsz⟩, ⟨Nat.le_trans hI.ks.size hsz, fun b o hb ho => ?_⟩, hI.elo, hI.rlo⟩
  rotate_left
  · have hlt : b < Go.Sx.n0 := (Array.getElem?_eq_some_iff.1 hb).1
    have := (hI.elo e (List.mem_of_getElem? hi)).2.1
    exact h b o (by omega) (hI.ks.keep b o hb ho) (.inr ⟨hlt, ho⟩)
  by_cases hii : i' = i
  · subst hii
    rw [hi] at he; obtain rfl := Option.some.inj he
    exact ⟨y, hT⟩
  · obtain ⟨y', hy'⟩ := hI.turn i' e' he
    exact ⟨y', h _ _ (hW.dist i' i e' e he hi hii).2.1 hy' (.inl ⟨rfl, rfl⟩)⟩
theorem CInv.rs {w w'' : World} (hp : s.pend = []) (hsz : w.heap.size ≤ w''.heap.size) (hI : CInv s w) (h : RS w w'') : CInv s w'' :=
  ⟨fun i e he => h _ _ (hI.act i e he) (.inl ⟨rfl, rfl⟩), fun i e he => let ⟨y, hy⟩ := hI.turn i e he; ⟨y, h _ _ hy (.inl ⟨rfl, rfl⟩)⟩, fun hh => h _ _ (hI.row hh) (.inl ⟨rfl, rfl⟩), fun x hx => (by rw [hp] at hx; cases hx), fun e he => ⟨Nat.lt_of_lt_of_le (hI.low e he).1 hsz, Nat.lt_of_lt_of_le (hI.low e he).2 hsz⟩, ⟨Nat.le_trans hI.ks.size hsz, fun b o hb ho => h b o (hI.ks.keep b o hb ho) (.inr ⟨(Array.getElem?_eq_some_iff.1 hb).1, ho⟩)⟩, hI.elo, hI.rlo⟩
theorem CInv.same {s' : CS} {w : World} (h : CInv s w) (h1 : s'.ents = s.ents) (h2 : s'.fv = s.fv) (h3 : s'.oc = s.oc) (h4 : s'.hasRow = s.hasRow) (h5 : s'.Rw = s.Rw) (h6 : s'.row = s.row) (h7 : s'.pend = s.pend) : CInv s' w :=
  ⟨fun i e he => by rw [h2, h3]; exact h.act i e (h1 ▸ he), fun i e he => h.turn i e (h1 ▸ he), fun hh => by rw [h5, h6]; exact h.row (h4 ▸ hh), fun x hx => h.pend x (h7 ▸ hx), fun e he => h.low e (h1 ▸ he), h.ks, fun e he => h.elo e (h1 ▸ he), fun hh => by rw [h5]; exact h.rlo (h4 ▸ hh)⟩
theorem e_upd {i : Nat} (hi : i < s.ents.length) (hov : s.ov i = false) (o : Bool) : ((sumTo s.ents.length fun x => bn (upd s.ov i o x)) + s.ex) + 1 = s.e + bn o := by
  have := sumTo_upd s.ov o bn hi
  rw [hov] at this
  have h2 : bn false = 1 := rfl
  unfold CS.e
  omega
end
end Go.Bt
end
section
namespace Go.Bt
variable [Gnd]
open Go.Conc Go.ConcN Go.Proofs
open Go.Sx (Rly RV pz pzo pz_heap spec isWg Gud Co)
open Go.ConcN (sumTo upd sumTo_upd upd_ne upd_same sumTo_congr)
section
variable {s : CS} {Post : Value → World → Prop}
theorem not_x (hW : s.Wf) {i : Nat} {e : Ent} (hi : s.ents[i]? = some e) {w : World} (hI : CInv s w) : (¬ s.X (cA e 0)) ∧ (¬ s.X (cT e 0)) ∧ (¬ s.X (cT e 1)) := by
  have key : ∀ (a : Addr), a.off < 2 → (∀ k, s.hasRow = true → a ≠ ⟨s.Rw, k, none⟩) → ¬ s.X a := fun a ho hr hx => by
    rcases hx with ⟨e', _, h | h⟩ | ⟨hh, k, h⟩
    · rw [h] at ho; simp [cT] at ho
    · rw [h] at ho; simp [cA] at ho
    · exact hr k hh h
  obtain ⟨y, hT⟩ := hI.turn i e hi
  unfold TR at hT
  have hA := hI.act i e hi
  refine ⟨key _ (by simp [cA]) fun k hh h => ?_, key _ (by simp [cT]) fun k hh h => ?_, key _ (by simp [cT]) fun k hh h => ?_⟩
  · have h2 := hI.row hh
    simp only [cA, Addr.mk.injEq] at h
    rw [← h.1, hA, Option.some.injEq] at h2; simp at h2
  · have h2 := hI.row hh
    simp only [cT, Addr.mk.injEq] at h
    rw [← h.1, hT, Option.some.injEq] at h2; simp at h2
  · have h2 := hI.row hh
    simp only [cT, Addr.mk.injEq] at h
    rw [← h.1, hT, Option.some.injEq] at h2; simp at h2
theorem DX.mono {X X' : Addr → Prop} (h : ∀ a, X a → X' a) {w w' : World} {es : Array Event} (hd : DX X w w' es) : DX X' w w' es :=
  ⟨hd.tape, hd.os, hd.output, hd.size, hd.types, fun a v o hb hs hx hc => hd.cells a v o hb hs (fun h' => hx (h a h')) hc, hd.same, fun e he => ⟨fun a ha => ⟨((hd.evs e he).1 a ha).1, fun o ho => ⟨(((hd.evs e he).1 a ha).2 o ho).1, fun h1 h2 => h a ((((hd.evs e he).1 a ha).2 o ho).2 h1 h2)⟩⟩, (hd.evs e he).2⟩⟩
theorem Kept.of_rv {c : Cl} (hc : c.Ok) {v u : World} (hv : c.Rt v) (h : RV v u) : Kept c v u := Kept.of_kw (KW.of_rv (own := fun _ => False) hc hv h) (fun _ h => h.elim)
theorem KW.trans_rv {c : Cl} (hc : c.Ok) {own : Nat → Prop} {v u t : World} (h : KW c own v u) (k : RV u t) : KW c own v t := h.trans (KW.of_rv hc h.rt.2 k)
theorem Kept.trans_rv {c : Cl} (hc : c.Ok) {v u t : World} (h : Kept c v u) (k : RV u t) : Kept c v t := h.trans (Kept.of_rv hc h.rt.2 k)
theorem chan_step {c : Cl} (hc : c.Ok) {w : World} (hv : c.Rt (pz w)) {ch : Nat} {o : Obj} (h : w.heap[ch]? = some o) (ho : o.isChan = true) (cap : Nat) (buf : Array Value) (cl : Bool) (x y : Nat) (tm : Bool) :
    KW c (· = ch) (pz w) (pz (w.setChan ch cap buf cl x y tm)) ∧ OrdK c.n0 (pz w) (pz (w.setChan ch cap buf cl x y tm)) ∧ Kept c (pz w) (pz (w.setChan ch cap buf cl x y tm)) := by
  have hk : ∀ (b : Nat) (o : Obj), (pz w).heap[b]? = some o → b ≠ ch → (pz (w.setChan ch cap buf cl x y tm)).heap[b]? = some o := fun b o hb hne => by rw [pz_setChan_ne hne]; exact hb
  have h1 : KW c (· = ch) (pz w) (pz (w.setChan ch cap buf cl x y tm)) := KW.of_one hc hv rfl (pz_chan h ho) (.inr (.inl ho)) rfl rfl rfl (by rw [Go.Sx.pz_size, Go.Sx.pz_size]; simp [World.setChan]) hk
  refine ⟨h1, OrdK.of_one (pz_chan h ho) (.inr (.inl ho)) hk, Kept.of_kw h1 fun b hb => ?_⟩
  obtain rfl : b = ch := hb
  exact ⟨_, pz_chan h ho, .inr ho⟩
set_option maxHeartbeats 2000000 in
/-- ████ AN ACTOR IS LET GO ON. ████ -/
theorem ReC.pass (hc : s.c.Ok) (hW : s.Wf) {i : Nat} {e : Ent} (hi : s.ents[i]? = some e) (hov : s.ov i = false) {pk : Int} (hpk : pk = -1 ∨ (pk = s.k ∧ s.k < s.c.K ∧ s.c.who s.k = i ∧ s.c.over i s.k = false))
    {a a₂ gR : Goroutine} {z' : Value} {es : World → Array Event} {w : World} (hrun : a.status = .running)
    (hsend : ∀ w₁, Rly w w₁ → CInv s w₁ → stepG Try.prog true a w₁ = .comm a₂ #[scase e.gr (vI pk) z'] true .send w₁ (es w₁) ∧ Gud w₁ w₁ (es w₁))
    (hsit : ∃ nh B, Sits Try.prog true (StC (Lb e)) (StL (Lb e)) B (Seat.one e.bk (vWord false false) false (· = gR)) nh (Go.Conc.served a₂ undef))
    (hKO : KO s (pz w)) (hset : s.setup = false)
    (hback : ∀ (m o : Bool) (roles' : Nat → Role) (v3 u : World), (s.after i pk o roles' v3).Wf → KO (s.after i pk o roles' v3) (pz u) → CInv s u → KW s.c (ownE e) (pz w) (pz u) → (pk ≠ -1 → m = s.c.moved s.k ∧ o = s.c.over i (s.k + 1)) → (pk = -1 → m = true ∧ o = true) →
      ReC (s.after i pk o roles' v3) Post (Go.Conc.served gR (recvd false (vWord m o) true)) u) : ReC s Post a w := by
  intro w₁ h₁ hI gs sl T q role Shun hSh hsm C hsz ha
  have hpn := hW.pend hset
  have hlt : i < s.ents.length := (List.getElem?_eq_some_iff.1 hi).1
  have hb0 := hW.base
  generalize hj : s.base + i = j at *
  have hjpos : 0 < j := by omega
  have hjgs : j < gs.size := by omega
  have hjch : (role j).ch = some e.gr := by rw [(hsm j).ch, ← hj]; exact hW.chan_of hi hov
  have hCh1 : s.Ch e.gr := ⟨e, List.mem_of_getElem? hi, .inl rfl⟩
  have hCh2 : s.Ch e.bk := ⟨e, List.mem_of_getElem? hi, .inr rfl⟩
  obtain ⟨hL1, hL2⟩ := hI.lb hi
  obtain ⟨nx0, nx1, nx2⟩ := not_x hW hi hI
  obtain ⟨nh, B, hsit⟩ := hsit
  obtain ⟨N₁, m₁, T₁, hr₁, gs₂, g₂, w₂, k₂, sl₂, q₂, role₂, L', rfl, hsz₂, hgj, hserves, ⟨hStC, hStP, hnX⟩, hrel₂, hch₂, C₂, hsm₂⟩ :=
    C.give (sl := sl) hSh hjgs (by omega) hjch ha hrun (fun w₃ h₃ => (hsend w₃ (h₁.trans h₃) (hI.rly h₃)).1) (fun w₃ h₃ => DX.of_gud (hsend w₃ (h₁.trans h₃) (hI.rly h₃)).2)
      (.seat s.e e.bk (vWord false false) (· = gR) (Lb e) hCh2 (fun x hx => hW.no_bk hi x (by rw [← (hsm x).ch]; exact hx)) hL1 hL2 (fun x hx => by
        simp only [Lb, List.mem_cons, List.not_mem_nil, or_false] at hx
        rcases hx with rfl | rfl
        · exact nx0
        · exact nx2)) (fun T' _ => ⟨B, hsit⟩)
  refine EndsW.after hr₁ ?_
  -- THE WORLD THAT THE ACTOR MEETS
  have hI₂ : CInv s (w₂.setChan e.gr 0 #[] false (k₂ + 1) (k₂ + 1) false) := (hI.rly hrel₂).chan (hI.elo e (List.mem_of_getElem? hi)).2.2.1 hpn hch₂ rfl _ _ _ _ _ _
  generalize hw₂ : w₂.setChan e.gr 0 #[] false (k₂ + 1) (k₂ + 1) false = w₂' at *
  have hR0 := hc.rt _ _ hKO.sh
  have hR2 := hc.rtk _ _ hR0 (OrdK.of_rv (h₁.trans hrel₂).pz)
  obtain ⟨kwc, okc, kpc⟩ := chan_step hc hR2 hch₂ rfl 0 #[] false (k₂ + 1) (k₂ + 1) false
  rw [hw₂] at kwc okc kpc
  have kw1 : KW s.c (· = e.gr) (pz w) (pz w₂') := (KW.of_rv hc hR0 (h₁.trans hrel₂).pz).trans kwc
  have ok1 : OrdK s.c.n0 (pz w) (pz w₂') := (OrdK.of_rv (h₁.trans hrel₂).pz).trans okc
  have kp1 : Kept s.c (pz w) (pz w₂') := (Kept.of_rv hc hR0 (h₁.trans hrel₂).pz).trans kpc
  have hlast := hW.last i e hi hov
  have hRsm : Rsm s.c i (s.last i).1 (s.last i).2 pk (pz w₂') := ⟨(hKO.kept i e hi hov).trans kp1, hpk.imp id fun ⟨h1, h2, h3, h4⟩ => ⟨s.k, h1, ⟨hlast.1, h2, h3, h4, hlast.2⟩, hc.sh _ _ _ hKO.sh ok1⟩⟩
  obtain ⟨bo, hBC, hBP, hBX, hBack⟩ : ∃ bo, StC (Lt e bo) w₂' ∧ StP (Lt e bo) w₂' ∧ (∀ x ∈ Lt e bo, ¬ s.X x.1) ∧ Back Try.prog e (JJ Try.prog s.Wg s.c i e bo) pk w₂' (Go.Conc.served g₂ (recvd false (vI pk) true)) := by
    have hser := (hsm j).serves hserves
    have hC' : StC L' w₂' := by rw [← hw₂]; exact hStC.setChan hch₂ rfl _ _ _ _ _ _
    have hP' : StP L' w₂' := by rw [← hw₂]; exact hStP.setChan hch₂ rfl _ _ _ _ _ _
    have hro := hW.role i e hi
    rw [hj] at hro
    rcases hro with ⟨h, _⟩ | ⟨_, ⟨bo, hr⟩ | ⟨hl, hr⟩⟩
    · rw [hov] at h; cases h
    · rw [hr] at hser
      obtain ⟨rfl, hhome⟩ := hser
      exact ⟨bo, hC', hP', hnX, hhome pk w₂' hRsm (hI₂.turn i e hi) hC' hP'⟩
    · rw [hr] at hser
      obtain ⟨bo, rfl, hhome⟩ := hser
      exact ⟨bo, hC', hP', hnX, hhome pk w₂' (hl ▸ hRsm) (hI₂.turn i e hi) hC' hP' ⟨_, hI₂.act i e hi⟩⟩
  -- THE ACTOR GOES
  have hj0 : (j == 0) = false := by simp; omega
  have hXT : ∀ w w' es, DX (XT e) w w' es → DX (s.par Shun).X w w' es := fun w w' es => DX.mono fun a ha => .inl ⟨e, List.mem_of_getElem? hi, .inl ha⟩
  obtain ⟨N₃, gs₃, g₃, w₃, sl₃, T₃, q₃, role₃, hr₃, hsz₃, hg₃, ⟨hJ, hrv₃, hrs₃, hT₃⟩, C₃, hsm₃⟩ := C₂.hold (D := DX (XT e)) (sl := sl₂) hSh hXT (by rw [hj0]; exact hBack) (Same.refl _) hgj
  refine EndsW.after hr₃ ?_
  obtain ⟨N₄, gs₄, g₄, w₄, sl₄, T₄, q₄, role₄, hr₄, hsz₄, hg₄, hstop, C₄, hsm₄⟩ := C₃.hold (D := DX (XT e)) (sl := sl₃) hSh hXT (by rw [hj0]; exact hJ.out) (Same.refl _) hg₃
  refine EndsW.after hr₄ ?_
  obtain ⟨hrun₄, m, o, a₄, es₄, z₄, hsend₄, hEnd, hway⟩ := hstop
  have hI₃ : CInv s w₃ := hI₂.rsx hpn (by have := hrv₃.size; simpa [World.setCell, Go.Sx.pz_size] using this) hW hi hrs₃ hT₃
  have hsz34 : w₃.heap.size ≤ w₄.heap.size := by
    rcases hpk with h | ⟨h, _⟩
    · have := (hEnd.2.1 h).2.2.size; simpa [Go.Sx.pz_size] using this
    · have := (hEnd.2.2 s.k h).2.2.size; simpa [Go.Sx.pz_size] using this
  have hI₄ : CInv s w₄ := hI₃.rs hpn hsz34 hEnd.1
  -- .. AND GIVES THE BATON BACK
  have hrole₀ : ∀ x, x ≠ 0 → x ≠ j → Evo (s.roles x) (role₄ x) := fun x h0 h1 => by
    have e1 := hsm₂ x
    rw [upd_ne _ _ h0, upd_ne _ _ h1] at e1
    exact ((hsm x).trans e1).trans ((hsm₃ x).trans (hsm₄ x))
  have h0ch : (role₄ 0).ch = some e.bk := by
    have e1 := (hsm₂ 0).trans ((hsm₃ 0).trans (hsm₄ 0))
    rw [upd_same] at e1
    rw [e1.ch]; rfl
  have h0serves : ∀ L g, (role₄ 0).serves L g → L = Lb e ∧ g = gR := fun L g hs => by
    have e1 := (hsm₂ 0).trans ((hsm₃ 0).trans (hsm₄ 0))
    rw [upd_same] at e1
    exact e1.serves hs
  have hszj : gs₄.size = gs.size := by omega
  -- the new state
  generalize hnew : (if o then Role.don else Role.seat e.gr (vI 0) (Home Try.prog s.c i e bo (JJ Try.prog s.Wg s.c i e bo) pk (pz w₄)) (Lt e bo)) = rnew
  obtain ⟨en, hen, hgives, nh₄, hafter⟩ : ∃ en, en = (s.after i pk o (upd s.roles j rnew) (pz w₄)).e ∧ Gives (s.par Shun) role₄ w₄ s.e en rnew ∧ ∃ nh, ∀ T', Deaf T' j = 0 → Idle (s.par Shun) T' j nh (Go.Conc.served a₄ undef) rnew := by
    have hOwn : Own e bo w₄ := (let ⟨y, hy⟩ := hI₂.turn i e hi; Own.of hBC hBP hy hrs₃ hT₃ : Own e bo w₃).rs hEnd.1
    have hE := e_upd hlt hov o
    rcases hway with ⟨rfl, nh₄, hdon⟩ | ⟨rfl, nh₄, B₄, hsits⟩
    · subst hnew
      refine ⟨_, rfl, ?_, nh₄, fun T' hT' => ⟨hjpos, by rw [hT']; exact hdon⟩⟩
      have : s.e = (s.after i pk true (upd s.roles j .don) (pz w₄)).e + 1 := by
        have h2 : (s.after i pk true (upd s.roles j .don) (pz w₄)).e = (sumTo s.ents.length fun x => bn (upd s.ov i true x)) + s.ex := rfl
        rw [h2]; simp only [bn] at hE ⊢; exact hE.symm
      simp only [if_true]
      rw [this]; exact .don _
    · subst hnew
      refine ⟨_, rfl, ?_, nh₄, fun T' _ => ⟨B₄, by rw [hj0]; exact hsits⟩⟩
      have : (s.after i pk false (upd s.roles j (Role.seat e.gr (vI 0) (Home Try.prog s.c i e bo (JJ Try.prog s.Wg s.c i e bo) pk (pz w₄)) (Lt e bo))) (pz w₄)).e = s.e := by
        show (sumTo s.ents.length fun x => bn (upd s.ov i false x)) + s.ex = s.e
        have : bn false = 1 := rfl
        omega
      simp only [Bool.false_eq_true, if_false]
      rw [this]
      refine .seat _ _ _ _ _ hCh1 (fun x hx => ?_) hOwn.st hOwn.pr hBX
      by_cases h0 : x = 0
      · subst h0; rw [h0ch, Option.some.injEq] at hx; exact hW.self i e hi hx.symm
      · by_cases h1 : x = j
        · subst h1; rw [C₄.rh] at hx; cases hx
        · rw [(hrole₀ x h0 h1).ch] at hx
          obtain ⟨i', e', g1, g2, g3, _⟩ := hW.ch hx
          by_cases hii : i' = i
          · subst hii; exact h1 (by omega)
          · exact (hW.dist i' i e' e g1 hi hii).2.2.1 g3.symm
  obtain ⟨N₅, m₅, T₅, hr₅, gs₅, g₅, w₅, k₅, sl₅, q₅, role₅, L₅, rfl, hsz₅, hg₅, hserves₅, _, hrel₅, hch₅, C₅, hsm₅⟩ :=
    C₄.give (sl := sl₄) hSh (j := 0) (c := e.bk) (v := vWord m o) (by omega) (by omega) h0ch hg₄ hrun₄ (fun w₆ h₆ => by rw [hj0]; exact (hsend₄ w₆ h₆).1) (fun w₆ h₆ => hXT _ _ _ (hsend₄ w₆ h₆).2) hgives hafter
  refine EndsW.after hr₅ ?_
  obtain ⟨_, rfl⟩ := h0serves _ _ hserves₅
  have hI₅ : CInv s (w₅.setChan e.bk 0 #[] false (k₅ + 1) (k₅ + 1) false) := (hI₄.rly hrel₅).chan (hI₄.elo e (List.mem_of_getElem? hi)).2.2.2 hpn hch₅ rfl _ _ _ _ _ _
  have kw3 : KW s.c (ownE e) (pz w₂') (pz w₃) := by
    obtain ⟨y, hy⟩ := hI₂.turn i e hi
    refine KW.trans_rv hc (KW.of_one (u := (pz w₂').setCell (cT e 2) (vI pk)) hc kw1.rt.2 (.inl rfl) (show (pz w₂').heap[e.T]? = some (pzo _) by rw [pz_heap, show w₂'.heap[e.T]? = _ from hy]; rfl) (.inl rfl) rfl rfl rfl (by simp [World.setCell]) (fun b o hb hne => by rw [set_ne (show b ≠ (cT e 2).block from hne)]; exact hb)) hrv₃
  have ok3 : OrdK s.c.n0 (pz w₂') (pz w₃) := by
    obtain ⟨y, hy⟩ := hI₂.turn i e hi
    exact (OrdK.of_one (u := (pz w₂').setCell (cT e 2) (vI pk)) (show (pz w₂').heap[e.T]? = some (pzo _) by rw [pz_heap, show w₂'.heap[e.T]? = _ from hy]; rfl) (.inl rfl) (fun b o hb hne => by rw [set_ne (show b ≠ (cT e 2).block from hne)]; exact hb)).trans (OrdK.of_rv hrv₃)
  have kp3 : Kept s.c (pz w₂') (pz w₃) := by
    obtain ⟨y, hy⟩ := hI₂.turn i e hi
    have h1 : (pz w₂').heap[e.T]? = some (pzo (.cells #[vCh e.gr, vCh e.bk, y] 48)) := by rw [pz_heap, show w₂'.heap[e.T]? = _ from hy]; rfl
    refine Kept.trans_rv hc (Kept.of_kw (KW.of_one (u := (pz w₂').setCell (cT e 2) (vI pk)) (own := (· = e.T)) hc kw1.rt.2 rfl h1 (.inl rfl) rfl rfl rfl (by simp [World.setCell]) (fun b o hb hne => by rw [set_ne (show b ≠ (cT e 2).block from hne)]; exact hb)) (fun b hb => ?_)) hrv₃
    obtain rfl : b = e.T := hb
    exact ⟨_, h1, .inl rfl⟩
  have hseg : (pk = -1 ∧ RV (pz w₃) (pz w₄)) ∨ (pk = s.k ∧ m = s.c.moved s.k ∧ o = s.c.over i (s.k + 1) ∧ Seg s.c s.k (pz w₃) (pz w₄)) := by
    rcases hpk with h | ⟨h, _⟩
    · exact .inl ⟨h, (hEnd.2.1 h).2.2⟩
    · obtain ⟨h2, h3, h4⟩ := hEnd.2.2 s.k h
      exact .inr ⟨h, h2, h3, h4⟩
  have kw4 : KW s.c (ownE e) (pz w₃) (pz w₄) := by
    rcases hseg with ⟨_, h⟩ | ⟨_, _, _, h⟩
    · exact KW.of_rv hc kw3.rt.2 h
    · exact KW.of_seg hc kw3.rt.2 h
  have kp4 : Kept s.c (pz w₃) (pz w₄) := Kept.of_kw (own := fun _ => False) (by
    rcases hseg with ⟨_, h⟩ | ⟨_, _, _, h⟩
    · exact KW.of_rv hc kw3.rt.2 h
    · exact KW.of_seg hc kw3.rt.2 h) (fun _ h => h.elim)
  obtain ⟨kwd, okd, kpd⟩ := chan_step hc (hc.rtk _ _ kw4.rt.2 (OrdK.of_rv hrel₅.pz)) hch₅ rfl 0 #[] false (k₅ + 1) (k₅ + 1) false
  generalize hw₅ : w₅.setChan e.bk 0 #[] false (k₅ + 1) (k₅ + 1) false = w₅' at *
  have kw5 : KW s.c (· = e.bk) (pz w₄) (pz w₅') := (KW.of_rv hc kw4.rt.2 hrel₅.pz).trans kwd
  have ok5 : OrdK s.c.n0 (pz w₄) (pz w₅') := (OrdK.of_rv hrel₅.pz).trans okd
  have kp5 : Kept s.c (pz w₄) (pz w₅') := (Kept.of_rv hc kw4.rt.2 hrel₅.pz).trans kpd
  have kwA : KW s.c (ownE e) (pz w) (pz w₅') := (((kw1.weaken fun b hb => .inr (.inl hb)).trans kw3).trans kw4).trans (kw5.weaken fun b hb => .inr (.inr hb))
  have kpA : Kept s.c (pz w) (pz w₅') := ((kp1.trans kp3).trans kp4).trans kp5
  have hsh : s.c.Sh (s.after i pk o (upd s.roles j rnew) (pz w₄)).k (pz w₅') := by
    show s.c.Sh (if pk = -1 then s.k else s.k + 1) (pz w₅')
    rcases hseg with ⟨h, h2⟩ | ⟨h, _, _, h2⟩
    · rw [if_pos h]
      exact hc.sh _ _ _ hKO.sh (((ok1.trans ok3).trans (OrdK.of_rv h2)).trans ok5)
    · rw [if_neg (by omega)]
      exact hc.sh _ _ _ h2.sh ok5
  have hKO' : KO (s.after i pk o (upd s.roles j rnew) (pz w₄)) (pz w₅') := by
    refine ⟨fun i' e' he' ho' => ?_, hsh, fun b hb => ?_, fun _ => Nat.le_trans (hKO.size hset) kwA.size⟩
    · show Kept s.c (upd s.last i (pk, pz w₄) i').2 (pz w₅')
      by_cases hii : i' = i
      · subst hii; rw [upd_same]; exact kp5
      · rw [upd_ne _ _ hii]
        refine (hKO.kept i' e' he' ?_).trans kpA
        have : upd s.ov i o i' = false := ho'
        rwa [upd_ne _ _ hii] at this
    · rcases kwA.grow b hb with h | h
      · exact hKO.foot b h
      · exact .inr ⟨hset, Nat.le_trans (hKO.size hset) h⟩
  have hW' : (s.after i pk o (upd s.roles j rnew) (pz w₄)).Wf := by
    refine ⟨hW.base, hW.dist, hW.self, fun i' e' he' => ?_, fun x hx => ?_, fun i' e' he' ho' => ?_, hW.pend⟩
    · replace he' : s.ents[i']? = some e' := he'
      show RoleIs _ i' e' (upd s.roles j rnew (s.base + i'))
      by_cases hii : i' = i
      · subst hii
        rw [hi] at he'; obtain rfl := Option.some.inj he'
        rw [hj, upd_same, ← hnew]
        cases o with
        | true => exact .inl ⟨upd_same _ _ _, rfl⟩
        | false =>
          refine .inr ⟨upd_same _ _ _, .inl ⟨bo, ?_⟩⟩
          show _ = Role.seat e.gr (vI 0) (Home Try.prog s.c i' e bo (JJ Try.prog s.Wg s.c i' e bo) (upd s.last i' (pk, pz w₄) i').1 (upd s.last i' (pk, pz w₄) i').2) (Lt e bo)
          rw [upd_same]; rfl
      · rw [upd_ne _ _ (by omega)]
        have := hW.role i' e' he'
        unfold RoleIs at this ⊢
        show (upd s.ov i o i' = true ∧ _) ∨ (upd s.ov i o i' = false ∧ ((∃ bo, s.roles (s.base + i') = Role.seat e'.gr (vI 0) (Home Try.prog s.c i' e' bo (JJ Try.prog s.Wg s.c i' e' bo) (upd s.last i (pk, pz w₄) i').1 (upd s.last i (pk, pz w₄) i').2) (Lt e' bo)) ∨
          ((upd s.last i (pk, pz w₄) i').1 = -1 ∧ s.roles (s.base + i') = Role.born e'.gr (vI 0) (Home0 s.c i' e' (s.fv i') (fun b => JJ Try.prog s.Wg s.c i' e' b) (upd s.last i (pk, pz w₄) i').2) (L0 e') (vPtr e'.A))))
        rw [upd_ne _ _ hii, upd_ne _ _ hii]; exact this
    · show upd s.roles j rnew x = .quit
      have hx' : x < s.base ∨ s.base + s.ents.length ≤ x := hx
      rw [upd_ne _ _ (by omega)]; exact hW.rest x hx'
    · show (upd s.last i (pk, pz w₄) i').1 < ((if pk = -1 then s.k else s.k + 1 : Nat) : Int) ∧ ∀ m : Nat, (upd s.last i (pk, pz w₄) i').1 < m → m < (if pk = -1 then s.k else s.k + 1) → s.c.who m ≠ i'
      have ho' : upd s.ov i o i' = false := ho'
      by_cases hii : i' = i
      · subst hii
        rw [upd_same] at ho' ⊢
        subst ho'
        have hne : pk ≠ -1 := fun h => by have := (hEnd.2.1 h).2.1; cases this
        rw [if_neg hne]
        rcases hpk with h | ⟨h, _⟩
        · exact absurd h hne
        · simp only
          exact ⟨by omega, fun m h1 h2 => by omega⟩
      · rw [upd_ne _ _ hii] at ho' ⊢
        obtain ⟨g1, g2⟩ := hW.last i' e' he' ho'
        rcases hpk with h | ⟨h, h2, h3, _⟩
        · rw [if_pos h]; exact ⟨g1, g2⟩
        · rw [if_neg (by omega)]
          refine ⟨by omega, fun m h4 h5 => ?_⟩
          by_cases hm : m = s.k
          · subst hm; rw [h3]; exact fun h => hii h.symm
          · exact g2 m h4 (by omega)
  have hsame : Same (upd s.roles j rnew) role₅ := fun x => by
    refine Evo.trans ?_ (hsm₅ x)
    by_cases h1 : x = j
    · subst h1; rw [upd_same, upd_same]; exact .refl _
    · rw [upd_ne _ _ h1, upd_ne _ _ h1]
      by_cases h0 : x = 0
      · subst h0; rw [upd_same, hW.rest 0 (.inl hb0)]; exact .refl _
      · rw [upd_ne _ _ h0]; exact hrole₀ x h0 h1
  refine hback m o (upd s.roles j rnew) (pz w₄) w₅' hW' hKO' hI₅ kwA (fun hne => ?_) (fun he => ⟨(hEnd.2.1 he).1, (hEnd.2.1 he).2.1⟩) w₅' (Rly.refl _) (hI₅.same rfl rfl rfl rfl rfl rfl rfl) gs₅ sl₅ T₅ q₅ role₅ Shun hSh hsame ?_ (by show gs₅.size = s.base + s.ents.length; omega) hg₅
  · rcases hseg with ⟨h, _⟩ | ⟨_, h2, h3, _⟩
    · exact absurd h hne
    · exact ⟨h2, h3⟩
  · rw [← hen]; exact C₅
end
end Go.Bt
end
section
namespace Go.Bt
variable [Gnd]
open Go.Conc Go.ConcN Go.RowKit Go.Proofs
open Go.Sx (Rly RV pz pzo pz_heap spec isWg Gud Co Lf Stb Fits Pt ReI ev ev_eval)
open Go.ConcN (sumTo upd sumTo_upd upd_ne upd_same sumTo_congr)
section
variable {s : CS}
theorem KO.rv (hc : s.c.Ok) {v u : World} (h : KO s v) (hr : RV v u) : KO s u :=
  ⟨fun i e he ho => (h.kept i e he ho).trans (Kept.of_rv hc (hc.rt _ _ h.sh) hr), hc.sh _ _ _ h.sh (OrdK.of_rv hr), fun b hb => h.foot b ((hc.foot _ _ (hc.rt _ _ h.sh) (OrdK.of_rv hr) b).2 hb), fun hs => Nat.le_trans (h.size hs) hr.size⟩
/-- What it knows of the sealed blocks. -/
structure CV (s : CS) (v : World) : Prop where
  act : ∀ (i : Nat) (e : Ent), s.ents[i]? = some e → v.heap[e.A]? = some (pzo (.cells #[vPtr e.T, s.fv i, .bool (s.oc i)] 85))
  turn : ∀ (i : Nat) (e : Ent), s.ents[i]? = some e → ∃ y, TRow e y v
  row : s.hasRow = true → v.heap[s.Rw]? = some (pzo (.cells s.row 82))
instance : Stb (CV s) := ⟨fun h hr => ⟨fun i e he => hr.heap _ _ (h.act i e he), fun i e he => let ⟨y, hy⟩ := h.turn i e he; ⟨y, hr.heap _ _ hy⟩, fun hh => hr.heap _ _ (h.row hh)⟩⟩
theorem CInv.cv {w : World} (h : CInv s w) : CV s (pz w) :=
  ⟨fun i e he => by rw [pz_heap, h.act i e he]; rfl, fun i e he => let ⟨y, hy⟩ := h.turn i e he; ⟨y, by show (pz w).heap[e.T]? = _; rw [pz_heap, show w.heap[e.T]? = _ from hy]; rfl⟩, fun hh => by rw [pz_heap, h.row hh]; rfl⟩
instance stb_and {M M' : World → Prop} [h : Stb M] [h' : Stb M'] : Stb (fun v => M v ∧ M' v) := ⟨fun hm hr => ⟨h.stb hm.1 hr, h'.stb hm.2 hr⟩⟩
variable {Post : Value → World → Prop} {n : Nat} {b : Frame} {cs : List Frame} {F : Go.Sx.Fr} {M : World → Prop} {t : List Item}
theorem pt_know [hS : Stb M] (h : Pt (coPlay Post) n b cs (some s) t F (fun v => M v ∧ CV s v)) : Pt (coPlay Post) n b cs (some s) t F M := fun a w hf hm w₁ h₁ hI =>
  h a w₁ hf ⟨_, ⟨(hm.rely h₁).here, hI.cv⟩, RV.refl _⟩ w₁ (Rly.refl _) hI
end
section
variable {P : Program} {main : Bool} {K : World → Prop} {Still : Loc → Prop} {B n : Nat} {S : Goroutine → World → Prop} {b : Frame} {a : Act} {kk : List Item} {cs : List Frame} {ops : Array Oper} {i : Nat} {rest : List Nat} {o : Oper} {w : World}
theorem goes_ctl' {g g' : Goroutine} (hs : g.status = .running) (h : ∀ w, stepG P main g w = .go g' w #[]) (k : ∀ w, Goes P main (RK K) (DS Still B) S n g' w) : Goes P main (RK K) (DS Still B) S (n + 1) g w :=
  Goes.step hs fun w₁ _ => by rw [h w₁, goes_go]; exact ⟨ds_none _, k w₁⟩
theorem goes_v {v : Value} {es : Array Event} (ho : ops[i]? = some o) (hw : Region.wanted o (yielded ops a.tmps) = true) (hk : b.kind ≠ .early) (hr : ∀ w, K w → (execOp a.eval o).runT P w #[] = (.ok (.value v) w, es)) (hes : ∀ e ∈ es, EvC Still B e)
    (k : ∀ w, Goes P main (RK K) (DS Still B) S n (G (b.at (a.put o.dst v) (.inRegion ops rest :: kk)) cs) w) : Goes P main (RK K) (DS Still B) S (n + 1) (G (b.at a (.inRegion ops (i :: rest) :: kk)) cs) w :=
  Goes.step rfl fun w₁ h₁ => by
    rw [Go.Sx.stepG_runT ho hw hk (hr w₁ h₁), goes_go]
    exact ⟨⟨rfl, fun e he => hes e (Go.Sx.mem_seen he)⟩, k w₁⟩
variable {d : Option Tmp} {ty : TypeId} {ps : String} {af : Array Edge} {g : Option (Nat × Bool)} {x : Operand}
theorem rt_move (w : World) : (execOp a.eval ⟨d, .move x, ty, ps, af, g⟩).runT P w #[] = (.ok (.value (a.eval x)) w, #[]) := rfl
theorem rt_nil {p : Addr} (h : a.eval x = .pointer (some p)) (w : World) : (execOp a.eval ⟨d, .nilCheck x, ty, ps, af, g⟩).runT P w #[] = (.ok (.value (.pointer (some p))) w, #[]) := by
  simp only [execOp, h]; rfl
theorem rt_field {T FT : TypeId} {b o m e f : Nat} {fs : Array Field} {fd : Field} (h : a.eval x = .pointer (some ⟨b, o, none⟩)) (hT : P.underlying T = some (.struct fs)) (hf : fs[f]? = some fd) (hft : fd.type = FT) (hS : ∀ w, (sizeOf FT).run P w = .ok (m + 1) w) (he : o + fd.offset = e) (w : World) :
    (execOp a.eval ⟨d, .fieldAddr T x f, ty, ps, af, g⟩).runT P w #[] = (.ok (.value (.pointer (some ⟨b, e, none⟩))) w, #[]) := by
  subst hft; subst he
  refine Prod.ext ?_ ?_
  · simp [execOp, h, Instr.fieldAt, run_underlying hT, hf, Instr.sureAddr, fieldPlace, hS, Go.Sx.add_none]
  · simp only [execOp, h]; simp [go_sem, Instr.fieldAt, run_underlying hT, hf, Instr.sureAddr, fieldPlace, hS, Go.Sx.add_none]
theorem rt_load {T : TypeId} {ad : Addr} {v : Value} (h : a.eval x = .pointer (some ad)) (hA : ∀ w, (isAgg T).run P w = .ok false w) {w : World} (hc : w.cell? ad = some v) :
    (execOp a.eval ⟨d, .load T x, ty, ps, af, g⟩).runT P w #[] = (.ok (.value v) w, #[⟨.cell ad, false, false⟩]) := by
  refine Prod.ext ?_ ?_
  · simp only [execOp, h]; simp [go_sem, Instr.loadAt, Instr.sureAddr, hA, hc, loadVar]
  · simp only [execOp, h]; simp [go_sem, Instr.loadAt, Instr.sureAddr, hA, hc, loadVar]
end
theorem DX.seen {P : Program} {X : Addr → Prop} {fn : FuncId} {w w' : World} {es : Array Event} (h : DX X w w' es) : DX X w w' (Go.seen P fn es) :=
  ⟨h.tape, h.os, h.output, h.size, h.types, h.cells, h.same, fun e he => h.evs e (Go.Sx.mem_seen he)⟩
theorem rt_store {P : Program} {a : Act} {T : TypeId} {x y : Operand} {ad : Addr} {v u : Value} {d : Option Tmp} {ty : TypeId} {ps : String} {af : Array Edge} {g : Option (Nat × Bool)} (hx : a.eval x = .pointer (some ad)) (hy : a.eval y = v) (hsp : ad.spot = none) (h1 : v.oneCell' = true) (hS : ∀ w, (sizeOf T).run P w = .ok 1 w) {w : World} (hc : w.cell? ad = some u) (hf : w.frozen? ad = false) :
    (execOp a.eval ⟨d, .store T x y, ty, ps, af, g⟩).runT P w #[] = (.ok .skip (w.setCell ad v), #[⟨.cell ad, true, false⟩]) := by
  have hcells : v.cells = #[v] := by cases v <;> first | rfl | simp [Value.oneCell'] at h1
  have had : ad.add 0 = ad := by obtain ⟨b, o, sp⟩ := ad; simp only at hsp; subst hsp; rfl
  have e0 : execOp a.eval ⟨d, .store T x y, ty, ps, af, g⟩ = (do Instr.storeAt T (.pointer (some ad)) v; pure Go.Next.skip : Sem Go.Next) := by
    show (do Instr.storeAt T (a.eval x) (a.eval y); pure Go.Next.skip : Sem Go.Next) = _
    rw [hx, hy]
  have hsv : storeVar T ad v = (do
      if (1 : Nat) ≠ (← sizeOf T) then stuck "storeVar: the value has not the size of the variable"
      storeCells ad [v]) := by
    unfold storeVar; rw [hcells]; rfl
  have e1 : Instr.storeAt T (.pointer (some ad)) v = storeVar T ad v := rfl
  rw [e0, e1, hsv]
  refine Prod.ext ?_ ?_
  · have h2 := run_store P w ad v .plain h1
    rw [hc, hf] at h2
    simp [go_sem, hS, storeCells, had, h2]
  · have h2 := run_store P w ad v .plain h1
    rw [hc, hf] at h2
    have h3 := events_store (P := P) (w := w) (es := #[]) ad v .plain h1
    rw [hc, hf] at h3
    simp [go_sem, hS, storeCells, had, h2, h3]
section
variable {s s' : CS} {Post : Value → World → Prop} {n : Nat} {b : Frame} {cs : List Frame} {F : Go.Sx.Fr} {M M' : World → Prop} {k : List Item} {ops : Array Oper} {j : Nat} {rest : List Nat}
/-- A store to a sealed cell of its own. -/
theorem pt_store_x [hS : Stb M] (hal : Alike s s') {ad : Addr} (hX : s.X ad) (hsp : ad.spot = none) {T : TypeId} {x y : Operand} {ty : TypeId} {ps : String} {af : Array Edge} {val : Value} (hb : b.kind ≠ .early) (ho : ops[j]? = some ⟨none, .store T x y, ty, ps, af, none⟩) (hx : ev F x = some (.pointer (some ad))) (hy : ev F y = some val) (h1 : val.oneCell' = true)
    (hSz : ∀ w, (sizeOf T).run Try.prog w = .ok 1 w) (hrow : ∀ w, CInv s w → ∃ cs ty, w.heap[ad.block]? = some (.cells cs ty) ∧ (ty == 80) = false ∧ ad.off < cs.size) (hI : ∀ w, CInv s w → CInv s' (w.setCell ad val)) (hM : ∀ w, CInv s w → M (pz w) → M' (pz (w.setCell ad val)))
    (h : Pt (coPlay Post) n b cs (some s') (.inRegion ops rest :: k) F M') : Pt (coPlay Post) n b cs (some s) (.inRegion ops (j :: rest) :: k) F M := fun a w hf hm =>
  ReC.stepX rfl fun w₁ h₁ hI₁ => by
    obtain ⟨cs', ty', g1, g2, g3⟩ := hrow w₁ hI₁
    have hc : w₁.cell? ad = some cs'[ad.off] := by
      unfold World.cell?; rw [g1]; simp [hsp, g3]
    have hfz : w₁.frozen? ad = false := by unfold World.frozen?; rw [g1]; simp
    have hrt := rt_store (P := Try.prog) (a := a) (T := T) (d := none) (ty := ty) (ps := ps) (af := af) (g := none) (ev_eval hf hx) (ev_eval hf hy) hsp h1 hSz hc hfz
    exact ⟨s', _, w₁.setCell ad val, _, hal, Go.Sx.stepG_runT ho (by simp [Region.wanted]) hb hrt, (DX.set hX hsp g1 g2).seen, hI w₁ hI₁, h a _ hf ⟨_, hM w₁ hI₁ (hm.rely h₁).here, RV.refl _⟩⟩
/-- A new block. -/
theorem pt_new {X : Type} {R : X → Co Try.prog} {x : X} {t : Nat} {op : Op} {ty : TypeId} {ps : String} {af : Array Edge} {w0 : World} {olds : List Nat} {l : List Go.Sx.Ent} {o : Obj} (hb : b.kind ≠ .early) (ho : ops[j]? = some ⟨some t, op, ty, ps, af, none⟩)
    (hv : Go.Sx.Acts Try.prog n F (Go.Sx.Mem w0 olds l) op ty (fun w u w' => u = .pointer (some ⟨w.heap.size, 0, none⟩) ∧ Go.Sx.Mem w0 olds (some (w.heap.size, o) :: l) w')) (ht : Nat.blt t n = true)
    (h : ∀ b', w0.heap.size ≤ b' → Pt R n b cs x (.inRegion ops rest :: k) ((t, .pointer (some ⟨b', 0, none⟩)) :: F) (Go.Sx.Mem w0 olds (some (b', o) :: l))) (hT : Go.Sx.Tame Try.prog n F op ty := by infer_instance) : Pt R n b cs x (.inRegion ops (j :: rest) :: k) F (Go.Sx.Mem w0 olds l) :=
  Go.Sx.pt_act hb ho hv ht (fun w v hm => Pt.world fun v' hv' => by
    obtain ⟨rfl, h2⟩ := hv'
    exact Pt.imp (fun u hu => hu ▸ h2) (h _ hm.size)) hT
theorem Mem.rv {w0 v : World} {l : List Go.Sx.Ent} (h : Go.Sx.Mem w0 [] l v) : RV w0 v :=
  ⟨h.tape, h.os, h.output, fun b o hb => by
    have := (Array.getElem?_eq_some_iff.1 hb).1
    rw [h.keep b this (by simp), hb]⟩
end
end Go.Bt
end
