import Derived.Test.YtigogbodobifdaaSxS
import Derived.Test.YtigogbodobifdaaSxU
import Derived.Defers
import Derived.Conc.MuLone
set_option linter.unusedVariables false
set_option linter.unusedSimpArgs false
namespace Go.Sx
open Go.Conc.Locks Go.MuLone
section
variable {P : Program} {n : Nat} {F : Fr} {w0 : World} {olds : List Nat} {l : List Ent} {ty : TypeId}

/-- What a function that defers one call hands back: the deferred call runs ahead of it. -/
def RetD (P : Program) (fn : Func) (R : Value → World → Prop) : Po := fun e F w =>
  match e with
  | .normal | .ret => ∃ v, (∀ a w', Fits fn.ntmps F a → (results fn a.tmps).run P w' = .ok v w') ∧
      ((mark F = none ∧ R v w) ∨ ∃ f arg, mark F = some (.tuple #[.func (.func f) #[] #[], arg]) ∧ (∀ w, (invoke (.fn (.func f) #[]) #[arg]).run P w = .ok (.enter f #[arg]) w) ∧
        CallsD P f #[arg] .returning w (fun e u' w' => u' = .returning ∧ e = .returned (.tuple #[]) ∧ R v w'))
  | _ => False

theorem calls_of_sw_d {f : FuncId} {fn : Func} {c : Code} {vs : List Value} {w : World} {R : Value → World → Prop} (hf : P.funcs[f]? = some fn) (hb : fn.body = some c)
    (hn : fn.ntmps = n) (hlen : Nat.ble vs.length n = true)
    (h : SW P n c (slots 0 vs) (· = w) (RetD P fn R)) (hK : Nat.ble n K0 = true := by rfl) : Calls P f vs.toArray w fun e w' => ∃ v, e = .returned v ∧ R v w' := by
  subst hn
  have hlen' : vs.length ≤ fn.ntmps := Nat.le_of_ble_eq_true hlen
  have hk0 : mark (slots 0 vs) = none := slots_mark vs 0 (by have h4 := Nat.le_of_ble_eq_true hK; omega)
  refine calls_of_wp_defers hf hb ?_
  refine wp_mono (h { tmps := vs.toArray ++ Array.replicate (fn.ntmps - vs.toArray.size) undef, defers := [] } w ⟨Nat.le_of_ble_eq_true hK, by rw [hk0]; rfl, by simp; omega, ?_⟩ rfl) ?_
  · intro t v ht
    obtain ⟨_, h2⟩ := slots_look vs 0 t v ht
    simp only [Nat.sub_zero] at h2
    have hlt : t < vs.length := (List.getElem?_eq_some_iff.1 h2).1
    rw [Array.getElem?_append_left (by simpa using hlt)]
    simpa using h2
  · rintro e a w' ⟨F, hfit, hq⟩
    have key : ∀ (v : Value), (∀ a w', Fits fn.ntmps F a → (results fn a.tmps).run P w' = .ok v w') → ((mark F = none ∧ R v w') ∨ ∃ f arg, mark F = some (.tuple #[.func (.func f) #[] #[], arg]) ∧ (∀ w, (invoke (.fn (.func f) #[]) #[arg]).run P w = .ok (.enter f #[arg]) w) ∧
        CallsD P f #[arg] .returning w' (fun e u' w' => u' = .returning ∧ e = .returned (.tuple #[]) ∧ R v w')) → Leaves P fn a.tmps (fun e w' => ∃ v, e = .returned v ∧ R v w') a.defers .returning w' := by
      intro v hr hq
      rcases hq with ⟨hk, hR⟩ | ⟨g, arg, hk, hi, hc⟩
      · rw [show a.defers = [] by rw [hfit.defers, hk]; rfl]
        exact ⟨v, hr a w' hfit, v, rfl, hR⟩
      · rw [show a.defers = [{ target := .fn (.func g) #[], args := #[arg] }] by rw [hfit.defers, hk]; rfl]
        refine leaves_cons (by simp) (hi w') (hc.mono ?_)
        rintro e u' w'' ⟨rfl, rfl, hR⟩
        exact ⟨v, hr a w'' hfit, v, rfl, hR⟩
    cases e <;> first
      | (obtain ⟨v, hr, hR⟩ := hq; exact key v hr hR)
      | exact hq.elim

/-- The deferred call is laid. -/
theorem ow_defer {ops : Array Oper} {ps : String} {af : Array Edge} {rest : List Oper} {Q : Po} {M : World → Prop} {f : FuncId} {x : Operand} {arg : Value} {ts : Array TypeId}
    (hx : ev F x = some arg) (hk : mark F = none) (h : OW P n ops rest ((K0, .tuple #[.func (.func f) #[] #[], arg]) :: F) M Q) :
    OW P n ops (⟨none, .defer { callee := .value (.func f), args := #[x], argTypes := ts }, ty, ps, af, none⟩ :: rest) F M Q := by
  intro a w hf hm
  refine wpList_plain rfl fun K hK => ?_
  unfold Oper.wp
  have h1 : (execOp a.eval ⟨none, .defer { callee := .value (.func f), args := #[x], argTypes := ts }, ty, ps, af, none⟩).run P w = .ok (.defer { target := .fn (.func f) #[], args := #[arg] }) w := by
    have h2 : a.eval (.func f) = .func (.func f) #[] #[] := rfl
    simp [execOp, resolve, h2, Deferred.ofValue, ev_eval hf hx]
  rw [h1, Oper.upon_defer]
  refine hK _ _ (h _ w ⟨hf.small, ?_, hf.size, fun t v ht => ?_⟩ hm)
  · have h3 : a.defers = [] := by rw [hf.defers, hk]; rfl
    show _ :: a.defers = _
    rw [h3]; rfl
  · by_cases e : t = K0
    · rw [e, look_key] at ht; cases ht
    · simp only [look, beq_ne (Ne.symm e), cond_false] at ht; exact hf.has t v ht

variable {L : MuLink}
theorem lock_blk (H : MuLib P L) {b : Nat} {rest : List Value} {T : TypeId} {w : World} (h : w.heap[b]? = some (blk (.int .i32 0 :: rest) T)) :
    Calls P L.lock #[.pointer (some ⟨b, 0, none⟩)] w fun e w' => ∃ u, e = .returned u ∧ u = .tuple #[] ∧ Mem w [b] [some (b, blk (.int .i32 1 :: rest) T)] w' := by
  refine (lock_free H ⟨b, 0, none⟩ w (by rw [cell_of_blk h]; rfl) (frozen_of_row w b 0 _ T h)).mono ?_
  rintro e w' ⟨rfl, rfl⟩
  exact ⟨_, rfl, rfl, (Mem.recv h).put (i := 0) rfl rfl rfl rfl (by simp) (setCell_blk h) (fun j _ hj => heap_setCell_other w _ j _ hj)⟩
theorem unlock_enters (H : MuLib P L) (arg : Value) (w : World) : (invoke (.fn (.func L.unlock) #[]) #[arg]).run P w = .ok (.enter L.unlock #[arg]) w := by
  have hn : ¬ (unlockFn L).name = "runtime.NumGoroutine" := by simp [unlockFn]
  obtain ⟨c, hc⟩ : ∃ c, (unlockFn L).body = some c := ⟨_, rfl⟩
  simp [invoke, callFunc, H.f_unlock, hn, hc]
theorem unlock_blk (H : MuLib P L) {b : Nat} {rest : List Value} {T : TypeId} {w : World} (h : w.heap[b]? = some (blk (.int .i32 1 :: rest) T)) :
    CallsD P L.unlock #[.pointer (some ⟨b, 0, none⟩)] .returning w fun e u' w' => u' = .returning ∧ e = .returned (.tuple #[]) ∧ Mem w [b] [some (b, blk (.int .i32 0 :: rest) T)] w' := by
  refine (unlock_deferred H ⟨b, 0, none⟩ .returning w (by rw [cell_of_blk h]; rfl) (frozen_of_row w b 0 _ T h)).mono ?_
  rintro e u' w' ⟨rfl, rfl, rfl⟩
  exact ⟨rfl, rfl, (Mem.recv h).put (i := 0) rfl rfl rfl rfl (by simp) (setCell_blk h) (fun j _ hj => heap_setCell_other w _ j _ hj)⟩
variable {fn : Func} {R : Value → World → Prop} {w : World}
theorem retd_any (v : Value) (hr : ∀ a w', Fits fn.ntmps F a → (results fn a.tmps).run P w' = .ok v w') (H : MuLib P L) (i : Nat) {b : Nat} {rest : List Value} {T : TypeId}
    (hk : mark F = some (.tuple #[.func (.func L.unlock) #[] #[], .pointer (some ⟨b, 0, none⟩)])) (hm : Mem w0 olds l w) (hp : pick l i = some (b, blk (.int .i32 1 :: rest) T))
    (h : ∀ w', Mem w0 olds (upd l i (some (b, blk (.int .i32 0 :: rest) T))) w' → R v w') : RetD P fn R .ret F w :=
  ⟨v, hr, .inr ⟨_, _, hk, unlock_enters H _, (unlock_blk H (hm.at hp)).mono fun _ _ _ ⟨h1, h2, h3⟩ => ⟨h1, h2, h _ (hm.callUpd hp h3)⟩⟩⟩
theorem res_one {t : Nat} {v : Value} (hr : fn.results = #[.tmp t]) (hv : look F t = some v) : ∀ a w', Fits fn.ntmps F a → (results fn a.tmps).run P w' = .ok v w' := fun a w' hf => by
  rw [results_tmp hr]
  have := hf.has t v hv
  simp only [Array.getD_eq_getD_getElem?, this, Option.getD_some]
theorem res_two {t u : Nat} {v x : Value} (hr : fn.results = #[.tmp t, .tmp u]) (hv : look F t = some v) (hx : look F u = some x) : ∀ a w', Fits fn.ntmps F a → (results fn a.tmps).run P w' = .ok (.tuple #[v, x]) w' := fun a w' hf => by
  rw [results_tmp2 hr]
  have h1 := hf.has t v hv
  have h2 := hf.has u x hx
  simp only [Array.getD_eq_getD_getElem?, h1, h2, Option.getD_some]
/-- Without a deferred call. -/
theorem retd_none (v : Value) (hr : ∀ a w', Fits fn.ntmps F a → (results fn a.tmps).run P w' = .ok v w') (h : R v w) (hk : mark F = none := by rfl) : RetD P fn R .ret F w := ⟨v, hr, .inl ⟨hk, h⟩⟩
end
end Go.Sx
