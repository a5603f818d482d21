import Derived.Calls
import Derived.Tactics
import Derived.Orders
import Derived.Still
import Derived.Laws.World
import Derived.Laws.Sem
import Derived.WalkKit
import Derived.OrdersHeld
set_option linter.unusedVariables false
set_option linter.unusedSimpArgs false
namespace Go.Sx

/-- A symbolic frame: what is known of the slots, the newest first. -/
abbrev Fr := List (Nat × Value)

def look : Fr → Nat → Option Value
  | [], _ => none
  | (k, v) :: r, t => bif Nat.beq k t then some v else look r t

structure Fits (n : Nat) (F : Fr) (a : Act) : Prop where
  defers : a.defers = []
  size : a.tmps.size = n
  has : ∀ t v, look F t = some v → a.tmps[t]? = some v

/-! Values by kind. -/
def vU8 (x : UInt8) : Value := .int .u8 (x.toNat : Int)
def vU16 (x : UInt16) : Value := .int .u16 (x.toNat : Int)
def vU32 (x : UInt32) : Value := .int .u32 (x.toNat : Int)
def vU64 (x : UInt64) : Value := .int .u64 (x.toNat : Int)
def vInt (x : Int) : Value := .int .i64 x

/-- A constant, by its kind. -/
def cst : Value → Value
  | .int .u8 n => bif (decide (0 ≤ n) && decide (n < 256)) then vU8 (UInt8.ofNat n.toNat) else .int .u8 n
  | .int .u16 n => bif (decide (0 ≤ n) && decide (n < 65536)) then vU16 (UInt16.ofNat n.toNat) else .int .u16 n
  | .int .u32 n => bif (decide (0 ≤ n) && decide (n < 4294967296)) then vU32 (UInt32.ofNat n.toNat) else .int .u32 n
  | .int .u64 n => bif (decide (0 ≤ n) && decide (n < 18446744073709551616)) then vU64 (UInt64.ofNat n.toNat) else .int .u64 n
  | .int .i64 n => vInt n
  | v => v

theorem cst_eq (v : Value) : cst v = v := by
  cases v with
  | int k n =>
    cases k <;> simp only [cst]
    case u8 => 
      cases h : (decide (0 ≤ n) && decide (n < 256)) <;> simp only [cond_true, cond_false]
      simp only [Bool.and_eq_true, decide_eq_true_eq] at h
      simp only [vU8, Value.int.injEq, true_and, UInt8.toNat_ofNat']; omega
    case u16 => 
      cases h : (decide (0 ≤ n) && decide (n < 65536)) <;> simp only [cond_true, cond_false]
      simp only [Bool.and_eq_true, decide_eq_true_eq] at h
      simp only [vU16, Value.int.injEq, true_and, UInt16.toNat_ofNat']; omega
    case u32 => 
      cases h : (decide (0 ≤ n) && decide (n < 4294967296)) <;> simp only [cond_true, cond_false]
      simp only [Bool.and_eq_true, decide_eq_true_eq] at h
      simp only [vU32, Value.int.injEq, true_and, UInt32.toNat_ofNat']; omega
    case u64 => 
      cases h : (decide (0 ≤ n) && decide (n < 18446744073709551616)) <;> simp only [cond_true, cond_false]
      simp only [Bool.and_eq_true, decide_eq_true_eq] at h
      simp only [vU64, Value.int.injEq, true_and, UInt64.toNat_ofNat']; omega
    all_goals rfl
  | _ => rfl

/-- What an operand is. -/
def ev (F : Fr) : Operand → Option Value
  | .tmp t => look F t
  | .const v => some (cst v)
  | .global g => some (.pointer (some ⟨g, 0, none⟩))
  | .func f => some (.func (.func f) #[] #[])

theorem ev_eval {n : Nat} {F : Fr} {a : Act} {x : Operand} {v : Value} (h : Fits n F a) (he : ev F x = some v) : a.eval x = v := by
  cases x with
  | tmp t =>
    have := h.has t v he
    simp only [Act.eval, Array.getD_eq_getD_getElem?, this, Option.getD_some]
  | const c => simp only [ev, Option.some.injEq] at he; rw [← he]; exact (cst_eq c).symm
  | global g => simp only [ev, Option.some.injEq] at he; exact he
  | func f => simp only [ev, Option.some.injEq] at he; exact he

theorem look_cons_self (F : Fr) (t : Nat) (v : Value) : look ((t, v) :: F) t = some v := by
  simp [look]

theorem Fits.put {n : Nat} {F : Fr} {a : Act} (h : Fits n F a) {t : Nat} (ht : Nat.blt t n = true) (v : Value) : Fits n ((t, v) :: F) (a.put (some t) v) := by
  have ht' : t < n := by simpa [Nat.blt, Nat.succ_le_iff] using ht
  refine ⟨h.defers, by simp [Act.put, h.size], fun u x hu => ?_⟩
  simp only [Act.put]
  by_cases e : t = u
  · subst e
    simp [look] at hu
    subst hu
    simp [h.size, ht']
  · have : Nat.beq t u = false := by
      cases h : Nat.beq t u with
      | false => rfl
      | true => exact absurd (Nat.eq_of_beq_eq_true h) e
    simp only [look, this, cond_false] at hu
    rw [Array.getElem?_setIfInBounds_ne e]
    exact h.has u x hu

theorem Fits.putNone {n : Nat} {F : Fr} {a : Act} (h : Fits n F a) (v : Value) : Fits n F (a.put none v) := h

/-- Fewer facts. -/
def Sub : Fr → Fr → Prop
  | [], _ => True
  | (t, v) :: r, F => look F t = some v ∧ Sub r F

theorem Sub.has : ∀ {G F : Fr}, Sub G F → ∀ t v, look G t = some v → look F t = some v
  | [], _, _, _, _, h => by simp [look] at h
  | (k, x) :: r, F, hs, t, v, h => by
    simp only [look] at h
    cases e : Nat.beq k t with
    | true =>
      have e' : k = t := Nat.eq_of_beq_eq_true e
      rw [e] at h; simp only [cond_true, Option.some.injEq] at h
      subst h; subst e'; exact hs.1
    | false => rw [e] at h; simp only [cond_false] at h; exact hs.2.has t v h

theorem Fits.sub {n : Nat} {F G : Fr} {a : Act} (h : Fits n F a) (hs : Sub G F) : Fits n G a :=
  ⟨h.defers, h.size, fun t v hg => h.has t v (hs.has t v hg)⟩

section
variable {P : Program} {n : Nat}

/-- What is asked at an exit, of what is known of frame and world. -/
abbrev Po := Exit → Fr → World → Prop

def real (n : Nat) (Q : Po) : Exit → Act → World → Prop := fun e a w => ∃ F, Fits n F a ∧ Q e F w

/-- From each frame that fits F and each world of M the code comes to Q. -/
def SW (P : Program) (n : Nat) (c : Code) (F : Fr) (M : World → Prop) (Q : Po) : Prop :=
  ∀ a w, Fits n F a → M w → c.wp P (real n Q) a w

def OW (P : Program) (n : Nat) (ops : Array Oper) (l : List Oper) (F : Fr) (M : World → Prop) (Q : Po) : Prop :=
  ∀ a w, Fits n F a → M w → wpList P ops (real n Q) l a w

theorem SW.mono {c : Code} {F : Fr} {M : World → Prop} {Q Q' : Po} (h : SW P n c F M Q) (hq : ∀ e F w, Q e F w → Q' e F w) : SW P n c F M Q' :=
  fun a w hf hm => wp_mono (h a w hf hm) fun e _ w' ⟨F', hf', hQ⟩ => ⟨F', hf', hq e F' w' hQ⟩

/-- Less known. -/
theorem SW.weaken {c : Code} {F G : Fr} {M M' : World → Prop} {Q : Po} (hs : Sub G F) (hm : ∀ w, M w → M' w) (h : SW P n c G M' Q) : SW P n c F M Q :=
  fun a w hf hw => h a w (hf.sub hs) (hm w hw)

/-- The world taken up by name. -/
theorem SW.world {c : Code} {F : Fr} {M : World → Prop} {Q : Po} (h : ∀ w, M w → SW P n c F (· = w) Q) : SW P n c F M Q :=
  fun a w hf hw => h w hw a w hf rfl

theorem SW.of_false {c : Code} {F : Fr} {M : World → Prop} {Q : Po} (h : ∀ w, M w → False) : SW P n c F M Q :=
  fun _ w _ hw => (h w hw).elim

def thenP (N : Fr → World → Prop) (Q : Po) : Po
  | .normal, F, w => N F w
  | e, F, w => Q e F w

/-- x; y: the middle said outright. -/
theorem sw_seq_mid {x y : Code} {F : Fr} {M : World → Prop} {Q : Po} (N : Fr → World → Prop) (hx : SW P n x F M (thenP N Q))
    (hy : ∀ F' w, N F' w → SW P n y F' (· = w) Q) : SW P n (.seq x y) F M Q := by
  intro a w hf hm
  refine wp_seq (wp_mono (hx a w hf hm) ?_)
  rintro e a' w' ⟨F', hf', hq⟩
  cases e with
  | normal => exact hy F' w' hq a' w' hf' rfl
  | _ => exact ⟨F', hf', hq⟩

/-- x; y: y from wherever x comes out. -/
theorem sw_seq {x y : Code} {F : Fr} {M : World → Prop} {Q : Po} (hx : SW P n x F M (thenP (fun F' w' => SW P n y F' (· = w') Q) Q)) : SW P n (.seq x y) F M Q :=
  sw_seq_mid _ hx fun _ _ h => h

/-- What follows: code still to come, with the frames and worlds in which it is walked. -/
theorem sw_skip {F : Fr} {M : World → Prop} {Q : Po} (h : ∀ w, M w → Q .normal F w) : SW P n .skip F M Q :=
  fun _ w hf hm => wp_skip ⟨F, hf, h w hm⟩
theorem sw_label {l : Nat} {F : Fr} {M : World → Prop} {Q : Po} (h : ∀ w, M w → Q .normal F w) : SW P n (.label l) F M Q :=
  fun _ w hf hm => wp_label ⟨F, hf, h w hm⟩
theorem sw_exit {id : Nat} {F : Fr} {M : World → Prop} {Q : Po} (h : ∀ w, M w → Q (.exit id) F w) : SW P n (.exit id) F M Q :=
  fun _ w hf hm => wp_exit ⟨F, hf, h w hm⟩
theorem sw_ret {F : Fr} {M : World → Prop} {Q : Po} (h : ∀ w, M w → Q .ret F w) : SW P n .ret F M Q :=
  fun _ w hf hm => wp_ret ⟨F, hf, h w hm⟩

theorem sw_cond {c : Operand} {x y : Code} {b : Bool} {F : Fr} {M : World → Prop} {Q : Po} (hc : ev F c = some (.bool b))
    (ht : b = true → SW P n x F M Q) (hf : b = false → SW P n y F M Q) : SW P n (.cond c x y) F M Q :=
  fun a w hfit hm => wp_cond_split (ev_eval hfit hc) (fun e => ht e a w hfit hm) (fun e => hf e a w hfit hm)
/-- The test as a proposition. -/
theorem sw_if {c : Operand} {x y : Code} {p : Prop} [Decidable p] {F : Fr} {M : World → Prop} {Q : Po} (hc : ev F c = some (.bool (decide p)))
    (ht : p → SW P n x F M Q) (hf : ¬ p → SW P n y F M Q) : SW P n (.cond c x y) F M Q :=
  sw_cond hc (fun e => ht (of_decide_eq_true e)) (fun e => hf (of_decide_eq_false e))
theorem sw_true {c : Operand} {x y : Code} {b : Bool} {F : Fr} {M : World → Prop} {Q : Po} (hc : ev F c = some (.bool b)) (hb : b = true)
    (ht : SW P n x F M Q) : SW P n (.cond c x y) F M Q :=
  sw_cond hc (fun _ => ht) (fun e => by rw [hb] at e; cases e)
theorem sw_false {c : Operand} {x y : Code} {b : Bool} {F : Fr} {M : World → Prop} {Q : Po} (hc : ev F c = some (.bool b)) (hb : b = false)
    (hf : SW P n y F M Q) : SW P n (.cond c x y) F M Q :=
  sw_cond hc (fun e => by rw [hb] at e; cases e) (fun _ => hf)

def blockP (id : Nat) (Q : Po) : Po
  | .exit id', F, w => bif Nat.beq id' id then Q .normal F w else Q (.exit id') F w
  | e, F, w => Q e F w

theorem sw_block {id : Nat} {c : Code} {F : Fr} {M : World → Prop} {Q : Po} (h : SW P n c F M (blockP id Q)) : SW P n (.block id c) F M Q := by
  intro a w hf hm
  refine wp_block (wp_mono (h a w hf hm) ?_)
  rintro e a' w' ⟨F', hf', hq⟩
  cases e with
  | exit id' =>
    simp only [Exit.inBlock]
    simp only [blockP] at hq
    by_cases hid : id' = id
    · subst hid; simp at hq ⊢; exact ⟨F', hf', hq⟩
    · have : Nat.beq id' id = false := by
        cases h : Nat.beq id' id with
        | false => rfl
        | true => exact absurd (Nat.eq_of_beq_eq_true h) hid
      rw [this] at hq; rw [if_neg hid]; exact ⟨F', hf', hq⟩
  | _ => exact ⟨F', hf', hq⟩

/-- A loop: at each round's head the state is told by some s. -/
theorem sw_loop {σ : Type} {c : Code} {F : Fr} {M : World → Prop} {Q : Po} (I : σ → Prop) (H : σ → Fr) (W : σ → World → Prop) (μ : σ → Nat)
    (s0 : σ) (h0 : I s0) (hF : Sub (H s0) F) (hM : ∀ w, M w → W s0 w)
    (round : ∀ s, I s → SW P n c (H s) (W s) (thenP (fun F' w' => ∃ s', I s' ∧ μ s' < μ s ∧ Sub (H s') F' ∧ W s' w') Q)) :
    SW P n (.loop c) F M Q := by
  intro a w hf hm b k cs
  have key : ∀ d s a w, μ s = d → I s → Fits n (H s) a → W s w →
      ∃ e a' w', real n Q e a' w' ∧ Arrives P (lone (b.at a (.code c :: .inLoop c :: k)) cs w) b k cs e a' w' := by
    intro d
    induction d using Nat.strongRecOn with
    | _ d ih =>
      intro s a w hd hI hfit hW
      obtain ⟨e, a₁, w₁, ⟨F', hf', hq⟩, harr⟩ := round s hI a w hfit hW b (.inLoop c :: k) cs
      cases e with
      | normal =>
        obtain ⟨s', hI', hlt, hs', hW'⟩ := hq
        obtain ⟨e₂, a₂, w₂, hq₂, harr₂⟩ := ih (μ s') (hd ▸ hlt) s' a₁ w₁ rfl hI' (hf'.sub hs') hW'
        exact ⟨e₂, a₂, w₂, hq₂, .of_steps (Steps.trans harr (.one step_inLoop)) harr₂⟩
      | exit id => exact ⟨_, a₁, w₁, ⟨F', hf', hq⟩, .pass (x := .inLoop c) rfl (fun _ _ => .inl (by simp)) harr⟩
      | goto l => exact ⟨_, a₁, w₁, ⟨F', hf', hq⟩, .pass (x := .inLoop c) rfl (fun _ _ => .inl (by simp)) harr⟩
      | ret => exact ⟨_, a₁, w₁, ⟨F', hf', hq⟩, .pass (x := .inLoop c) rfl (fun _ _ => .inl (by simp)) harr⟩
      | panic ch => exact ⟨_, a₁, w₁, ⟨F', hf', hq⟩, .pass (x := .inLoop c) rfl (fun _ _ => .inl (by simp)) harr⟩
      | outgrown => exact ⟨_, a₁, w₁, ⟨F', hf', hq⟩, .pass (x := .inLoop c) rfl (fun _ _ => .inl (by simp)) harr⟩
  obtain ⟨e, a', w', hq, harr⟩ := key _ s0 a w rfl h0 (hf.sub hF) (hM w hm)
  exact ⟨e, a', w', hq, .of_steps (.one step_loop) harr⟩

/-! Regions in the order of the text. -/
theorem sw_region {id : Nat} {l : List Oper} {F : Fr} {M : World → Prop} {Q : Po} (h : OW P n l.toArray l F M Q) : SW P n (.region id l.toArray false) F M Q :=
  fun a w hf hm => wp_region_lit (h a w hf hm)

theorem ow_nil {ops : Array Oper} {F : Fr} {M : World → Prop} {Q : Po} (h : ∀ w, M w → Q .normal F w) : OW P n ops [] F M Q :=
  fun _ w hf hm => ⟨F, hf, h w hm⟩

/-- The operation yields v, and leaves the world, in each world of S. -/
def Val (P : Program) (n : Nat) (F : Fr) (S : World → Prop) (op : Op) (ty : TypeId) (v : Value) : Prop :=
  ∀ a w, Fits n F a → S w → ∀ d ps af g, (execOp a.eval ⟨d, op, ty, ps, af, g⟩).run P w = .ok (.value v) w
/-- The operation yields a value and leaves a world as R says. -/
def Acts (P : Program) (n : Nat) (F : Fr) (S : World → Prop) (op : Op) (ty : TypeId) (R : World → Value → World → Prop) : Prop :=
  ∀ a w, Fits n F a → S w → ∀ d ps af g, ∃ v w', (execOp a.eval ⟨d, op, ty, ps, af, g⟩).run P w = .ok (.value v) w' ∧ R w v w'
/-- The operation yields nothing and leaves a world as R says. -/
def Does (P : Program) (n : Nat) (F : Fr) (S : World → Prop) (op : Op) (ty : TypeId) (R : World → World → Prop) : Prop :=
  ∀ a w, Fits n F a → S w → ∀ d ps af g, ∃ w', (execOp a.eval ⟨d, op, ty, ps, af, g⟩).run P w = .ok .skip w' ∧ R w w'
/-- The operation calls. -/
def CallsTo (P : Program) (n : Nat) (F : Fr) (S : World → Prop) (op : Op) (ty : TypeId) (f : FuncId) (args : Array Value) : Prop :=
  ∀ a w, Fits n F a → S w → ∀ d ps af g, (execOp a.eval ⟨d, op, ty, ps, af, g⟩).run P w = .ok (.enter f args) w

theorem Val.imp {F : Fr} {S S' : World → Prop} {op : Op} {ty : TypeId} {v : Value} (h : Val P n F S op ty v) (hs : ∀ w, S' w → S w) : Val P n F S' op ty v :=
  fun a w hf hw => h a w hf (hs w hw)

theorem ow_val {ops : Array Oper} {t : Nat} {op : Op} {ty : TypeId} {ps : String} {af : Array Edge} {rest : List Oper} {F : Fr} {M : World → Prop} {Q : Po} {v : Value}
    (hv : Val P n F M op ty v) (ht : Nat.blt t n = true)
    (h : OW P n ops rest ((t, v) :: F) M Q) : OW P n ops (⟨some t, op, ty, ps, af, none⟩ :: rest) F M Q := by
  intro a w hf hm
  refine wpList_plain rfl fun K hK => ?_
  unfold Oper.wp
  rw [hv a w hf hm]
  exact hK _ _ (h _ w (hf.put ht v) hm)

theorem ow_act {ops : Array Oper} {t : Nat} {op : Op} {ty : TypeId} {ps : String} {af : Array Edge} {rest : List Oper} {F : Fr} {M : World → Prop} {Q : Po}
    {R : World → Value → World → Prop} (hv : Acts P n F M op ty R) (ht : Nat.blt t n = true)
    (h : ∀ w v, M w → OW P n ops rest ((t, v) :: F) (R w v) Q) : OW P n ops (⟨some t, op, ty, ps, af, none⟩ :: rest) F M Q := by
  intro a w hf hm
  refine wpList_plain rfl fun K hK => ?_
  unfold Oper.wp
  obtain ⟨v, w', e, r⟩ := hv a w hf hm (some t) ps af none
  rw [e]
  exact hK _ _ (h w v hm _ w' (hf.put ht v) r)

theorem ow_do {ops : Array Oper} {op : Op} {ty : TypeId} {ps : String} {af : Array Edge} {rest : List Oper} {F : Fr} {M : World → Prop} {Q : Po}
    {R : World → World → Prop} (hv : Does P n F M op ty R)
    (h : ∀ w, M w → OW P n ops rest F (R w) Q) : OW P n ops (⟨none, op, ty, ps, af, none⟩ :: rest) F M Q := by
  intro a w hf hm
  refine wpList_plain rfl fun K hK => ?_
  unfold Oper.wp
  obtain ⟨w', e, r⟩ := hv a w hf hm none ps af none
  rw [e]
  exact hK _ _ (h w hm _ w' hf r)

theorem ow_call {ops : Array Oper} {t : Nat} {op : Op} {ty : TypeId} {ps : String} {af : Array Edge} {rest : List Oper} {F : Fr} {M : World → Prop} {Q : Po}
    {f : FuncId} {args : Array Value} (R : World → Value → World → Prop)
    (hv : CallsTo P n F M op ty f args) (ht : Nat.blt t n = true)
    (hc : ∀ w, M w → Calls P f args w fun e w' => ∃ v, e = .returned v ∧ R w v w')
    (h : ∀ w v, M w → OW P n ops rest ((t, v) :: F) (R w v) Q) : OW P n ops (⟨some t, op, ty, ps, af, none⟩ :: rest) F M Q := by
  intro a w hf hm
  refine wpList_plain rfl fun K hK => ?_
  unfold Oper.wp
  rw [hv a w hf hm]
  refine (hc w hm).mono ?_
  rintro e w' ⟨v, rfl, r⟩
  exact hK _ _ (h w v hm _ w' (hf.put ht v) r)

/-- A guarded operation that is wanted, or is not. -/
theorem ow_guard_yes {ops : Array Oper} {o : Oper} {j : Nat} {want : Bool} {rest : List Oper} {F : Fr} {M : World → Prop} {Q : Po} (hg : o.guard = some (j, want)) {t : Nat}
    (hd : ((ops[j]?).bind (·.dst)) = some t) (hy : look F t = some (.bool want))
    (h : OW P n ops ({ o with guard := none } :: rest) F M Q) : OW P n ops (o :: rest) F M Q := by
  intro a w hf hm
  have h1 := h a w hf hm
  unfold wpList at h1 ⊢
  have e : Region.wanted o (yielded ops a.tmps) = true := by
    simp only [Region.wanted, hg, yielded, hd, Option.bind_some, hf.has t _ hy]
    cases want <;> rfl
  rw [if_pos (by rfl)] at h1
  rw [if_pos e]
  cases o
  exact h1

theorem ow_guard_no {ops : Array Oper} {o : Oper} {j : Nat} {want : Bool} {rest : List Oper} {F : Fr} {M : World → Prop} {Q : Po} (hg : o.guard = some (j, want)) {t d : Nat}
    (hd : ((ops[j]?).bind (·.dst)) = some t) (hy : look F t = some (.bool (!want))) (hdst : o.dst = some d) (ht : Nat.blt d n = true)
    (h : OW P n ops rest ((d, undef) :: F) M Q) : OW P n ops (o :: rest) F M Q := by
  intro a w hf hm
  have h1 := h (a.put o.dst undef) w (by rw [hdst]; exact hf.put ht _) hm
  unfold wpList
  have e : Region.wanted o (yielded ops a.tmps) = false := by
    simp only [Region.wanted, hg, yielded, hd, Option.bind_some, hf.has t _ hy]
    cases want <;> rfl
  rw [e]
  simpa using h1
/-- The operation before was passed over (undef in its slot): this one is passed over too. -/
theorem ow_guard_none {ops : Array Oper} {o : Oper} {j : Nat} {want : Bool} {rest : List Oper} {F : Fr} {M : World → Prop} {Q : Po} (hg : o.guard = some (j, want)) {t d : Nat}
    (hd : ((ops[j]?).bind (·.dst)) = some t) (hy : look F t = some undef) (hdst : o.dst = some d) (ht : Nat.blt d n = true)
    (h : OW P n ops rest ((d, undef) :: F) M Q) : OW P n ops (o :: rest) F M Q := by
  intro a w hf hm
  have h1 := h (a.put o.dst undef) w (by rw [hdst]; exact hf.put ht _) hm
  unfold wpList
  have e : Region.wanted o (yielded ops a.tmps) = false := by
    simp only [Region.wanted, hg, yielded, hd, Option.bind_some, hf.has t _ hy, undef]
    cases want <;> rfl
  rw [e]
  simpa using h1
/-- A guarded operation without a slot (a store) that is not wanted. -/
theorem ow_guard_no' {ops : Array Oper} {o : Oper} {j : Nat} {want : Bool} {rest : List Oper} {F : Fr} {M : World → Prop} {Q : Po} (hg : o.guard = some (j, want)) {t : Nat}
    (hd : ((ops[j]?).bind (·.dst)) = some t) (hy : look F t = some (.bool (!want))) (hdst : o.dst = none)
    (h : OW P n ops rest F M Q) : OW P n ops (o :: rest) F M Q := by
  intro a w hf hm
  have h1 := h a w hf hm
  unfold wpList
  have e : Region.wanted o (yielded ops a.tmps) = false := by
    simp only [Region.wanted, hg, yielded, hd, Option.bind_some, hf.has t _ hy]
    cases want <;> rfl
  rw [e]
  simpa [hdst, Act.put] using h1

/-- The parameters' slots, known. -/
def slots : Nat → List Value → Fr
  | _, [] => []
  | i, v :: r => (i, v) :: slots (i + 1) r

theorem slots_look : ∀ (vs : List Value) (i t : Nat) (v : Value), look (slots i vs) t = some v → i ≤ t ∧ vs[t - i]? = some v
  | [], i, t, v, h => by simp [slots, look] at h
  | x :: r, i, t, v, h => by
    simp only [slots, look] at h
    cases e : Nat.beq i t with
    | true =>
      have e' : i = t := Nat.eq_of_beq_eq_true e
      rw [e] at h; simp only [cond_true, Option.some.injEq] at h
      subst e'; subst h; simp
    | false =>
      rw [e] at h; simp only [cond_false] at h
      obtain ⟨h1, h2⟩ := slots_look r (i + 1) t v h
      refine ⟨by omega, ?_⟩
      have : t - i = (t - (i + 1)) + 1 := by omega
      rw [this]; simpa using h2

/-- What a call hands back. -/
def Ret (P : Program) (fn : Func) (R : Value → World → Prop) : Po := fun e F w =>
  match e with
  | .normal | .ret => ∃ v, (∀ a, Fits fn.ntmps F a → (results fn a.tmps).run P w = .ok v w) ∧ R v w
  | _ => False

/-- A function's body walked is its contract. -/
theorem calls_of_sw {f : FuncId} {fn : Func} {c : Code} {vs : List Value} {w : World} {R : Value → World → Prop} (hf : P.funcs[f]? = some fn) (hb : fn.body = some c)
    (hn : fn.ntmps = n) (hlen : Nat.ble vs.length n = true)
    (h : SW P n c (slots 0 vs) (· = w) (Ret P fn R)) : Calls P f vs.toArray w fun e w' => ∃ v, e = .returned v ∧ R v w' := by
  subst hn
  have hlen' : vs.length ≤ fn.ntmps := Nat.le_of_ble_eq_true hlen
  refine calls_of_wp hf hb ?_
  refine wp_mono (h { tmps := vs.toArray ++ Array.replicate (fn.ntmps - vs.toArray.size) undef, defers := [] } w ⟨rfl, by simp; omega, ?_⟩ rfl) ?_
  · intro t v ht
    obtain ⟨_, h2⟩ := slots_look vs 0 t v ht
    simp only [Nat.sub_zero] at h2
    have hlt : t < vs.length := (List.getElem?_eq_some_iff.1 h2).1
    rw [Array.getElem?_append_left (by simpa using hlt)]
    simpa using h2
  · rintro e a w' ⟨F, hfit, hq⟩
    cases e <;> first
      | (obtain ⟨v, hr, hR⟩ := hq; exact ⟨hfit.defers, v, hr a hfit, v, rfl, hR⟩)
      | exact hq.elim

/-- One result in a slot. -/
theorem ret_one {fn : Func} {R : Value → World → Prop} {F : Fr} {w : World} {t : Nat} (v : Value) (hr : fn.results = #[.tmp t]) (hv : look F t = some v) (h : R v w) : Ret P fn R .ret F w := by
  refine ⟨v, fun a hf => ?_, h⟩
  rw [results_tmp hr]
  have := hf.has t v hv
  simp only [Array.getD_eq_getD_getElem?, this, Option.getD_some]
theorem ret_none {fn : Func} {R : Value → World → Prop} {F : Fr} {w : World} (hr : fn.results = #[]) (h : R (.tuple #[]) w) : Ret P fn R .ret F w :=
  ⟨_, fun _ _ => results_none hr _ _ _, h⟩
theorem ret_end {fn : Func} {R : Value → World → Prop} {F : Fr} {w : World} (hr : fn.results = #[]) (h : R (.tuple #[]) w) : Ret P fn R .normal F w :=
  ⟨_, fun _ _ => results_none hr _ _ _, h⟩
theorem ret_two {fn : Func} {R : Value → World → Prop} {F : Fr} {w : World} {t u : Nat} (v x : Value) (hr : fn.results = #[.tmp t, .tmp u]) (hv : look F t = some v) (hx : look F u = some x)
    (h : R (.tuple #[v, x]) w) : Ret P fn R .ret F w := by
  refine ⟨_, fun a hf => ?_, h⟩
  rw [results_tmp2 hr]
  have h1 := hf.has t v hv
  have h2 := hf.has u x hx
  simp only [Array.getD_eq_getD_getElem?, h1, h2, Option.getD_some]
end
end Go.Sx

namespace Go.Sx
section
variable {P : Program} {n : Nat}

def nth : List Oper → Nat → Option Oper
  | [], _ => none
  | o :: _, 0 => some o
  | _ :: r, k + 1 => nth r k

theorem nth_eq : ∀ (l : List Oper) (i : Nat), nth l i = l.toArray[i]?
  | [], i => by simp [nth]
  | o :: r, 0 => by simp [nth]
  | o :: r, k + 1 => by have := nth_eq r k; simp [nth] at this ⊢; exact this

/-- m waits, by some chain, for i. -/
def reach (ops : Array Oper) : Nat → Nat → Nat → Bool
  | 0, _, _ => false
  | f + 1, m, i => ((ops[m]?).map fun o => o.after.any fun e => Region.binds .any e && (e.on == i || reach ops f e.on i)).getD false

structure Closed (ops : Array Oper) (listed : Array Bool) : Prop where
  size : listed.size = ops.size
  back : ∀ j oj, ops[j]? = some oj → listed.getD j false = true → ∀ e ∈ oj.after, Region.binds .any e = true → listed.getD e.on false = true

theorem Closed.reach {ops : Array Oper} {listed : Array Bool} (hc : Closed ops listed) : ∀ (f m i : Nat), Sx.reach ops f m i = true → listed.getD m false = true → listed.getD i false = true
  | 0, _, _, h, _ => by simp [Sx.reach] at h
  | f + 1, m, i, h, hm => by
    unfold Sx.reach at h
    cases ho : ops[m]? with
    | none => simp [ho] at h
    | some o =>
      simp only [ho, Option.map_some, Option.getD_some] at h
      obtain ⟨e, he, hb⟩ := Array.any_eq_true'.1 h
      simp only [Bool.and_eq_true, Bool.or_eq_true, beq_iff_eq] at hb
      have h1 := hc.back m o ho hm e he hb.1
      rcases hb.2 with rfl | h2
      · exact h1
      · exact hc.reach f e.on i h2 h1

theorem Closed.set {ops : Array Oper} {listed : Array Bool} (hc : Closed ops listed) {i : Nat} (hi : i ∈ Region.ready .any ops listed) : Closed ops (listed.setIfInBounds i true) := by
  obtain ⟨_, oi, hoi, hall⟩ := mem_ready.1 hi
  refine ⟨by simp [hc.size], fun j oj hj hl e he hb => ?_⟩
  by_cases hij : i = j
  · subst hij
    obtain rfl : oj = oi := Option.some.inj (hj.symm.trans hoi)
    exact getD_set_true (hall e he hb)
  · rw [getD_set_ne false hij] at hl
    exact getD_set_true (hc.back j oj hj hl e he hb)

/-- None of the late ones has come up. -/
def clean (late : List Nat) (listed : Array Bool) : Bool := late.all fun m => !listed.getD m false

theorem clean_of_set {late : List Nat} {listed : Array Bool} {i : Nat} (h : clean late (listed.setIfInBounds i true) = true) : clean late listed = true := by
  simp only [clean, List.all_eq_true, Bool.not_eq_true'] at *
  intro m hm
  have h1 := h m hm
  cases h2 : listed.getD m false with
  | false => rfl
  | true => rw [getD_set_true h2] at h1; cases h1
theorem clean_set {late : List Nat} {listed : Array Bool} {i : Nat} (h : clean late listed = true) (hi : late.contains i = false) : clean late (listed.setIfInBounds i true) = true := by
  simp only [clean, List.all_eq_true, Bool.not_eq_true'] at *
  intro m hm
  have hne : i ≠ m := fun e => by subst e; simp at hi; exact hi hm
  rw [getD_set_ne false hne]
  exact h m hm

/-- Whatever order is picked; S holds behind each operation as long as none of the late ones has come up. -/
def wpAnyC (P : Program) (ops : Array Oper) (Q : Exit → Act → World → Prop) (S : World → Prop) (late : List Nat) : Nat → Array Bool → Act → World → Prop
  | 0, listed, a, w => Region.ready .any ops listed = [] ∧ Q .normal a w
  | fuel + 1, listed, a, w =>
    (Region.ready .any ops listed = [] → Q .normal a w) ∧
    ∀ i ∈ Region.ready .any ops listed, wpOp P ops Q i (fun a' w' => (clean late (listed.setIfInBounds i true) = true → S w') ∧ wpAnyC P ops Q S late fuel (listed.setIfInBounds i true) a' w') a w

section
variable {ops : Array Oper} {Q : Exit → Act → World → Prop} {S : World → Prop} {late : List Nat}

theorem wpAny_of_C : ∀ (fuel : Nat) (listed : Array Bool) (a : Act) (w : World), wpAnyC P ops Q S late fuel listed a w → wpAny P .any ops Q fuel listed a w
  | 0, _, _, _, h => h
  | fuel + 1, _, _, _, h => ⟨h.1, fun i hi => wpOp_mono (fun a' w' h' => wpAny_of_C fuel _ a' w' h'.2) (h.2 i hi)⟩

theorem unlisted_of_ready {i : Nat} {listed : Array Bool} (hr : i ∈ Region.ready .any ops listed) : listed.getD i false = false := by
  have h0 := (mem_ready.1 hr).1
  rcases Nat.lt_or_ge i listed.size with h' | h'
  · simp [h'] at h0 ⊢; exact h0
  · simp [Array.getElem?_eq_none h']

/-- An operation that may come up now may be taken first: it yields its value in every world of S. -/
theorem wpAnyC_first {i : Nat} {oi : Oper} {v : Value} (hi : ops[i]? = some oi) (hsel : ∀ (j : Nat) (o : Oper) cs b, ops[j]? = some o → o.op ≠ .select cs b)
    (hQ : ∀ c a w, Q (.panic c) (a.put oi.dst v) w → Q (.panic c) a w) (hr0 : ∀ m ∈ late, reach ops ops.size m i = true) :
    ∀ (fuel : Nat) (listed : Array Bool) (a : Act) (w : World), Closed ops listed →
      (∀ j oj, ops[j]? = some oj → j ≠ i → listed.getD j true = false → (∀ e ∈ oj.after, Region.binds .any e = true → e.on ≠ i) → oi.apart ops oj = true) →
      i ∈ Region.ready .any ops listed → YieldsIf P ops S oi v a → S w → clean late listed = true →
      wpAnyC P ops Q S late fuel (listed.setIfInBounds i true) (a.put oi.dst v) w → wpAnyC P ops Q S late (fuel + 1) listed a w := by
  intro fuel
  induction fuel with
  | zero =>
    intro listed a w hcl _ hr hy hS _ H
    refine ⟨fun h => (by rw [h] at hr; cases hr), fun j hj => ?_⟩
    by_cases hji : j = i
    · subst hji; exact hy.wpOp hi hS ⟨fun _ => hS, H⟩
    · have := ready_mono hj hji
      rw [H.1] at this
      cases this
  | succ fuel ih =>
    intro listed a w hcl hfree hr hy hS hclean H
    refine ⟨fun h => (by rw [h] at hr; cases hr), fun j hj => ?_⟩
    by_cases hji : j = i
    · subst hji; exact hy.wpOp hi hS ⟨fun _ => hS, H⟩
    · have h1 := H.2 j (ready_mono hj hji)
      obtain ⟨hjun, oj, hoj, hall⟩ := mem_ready.1 hj
      have hiun := unlisted_of_ready hr
      have hnot : ∀ e ∈ oj.after, Region.binds .any e = true → e.on ≠ i := fun e he hb heq => by
        have h1 := hall e he hb
        rw [heq, hiun] at h1; cases h1
      have hjl : late.contains j = false := by
        cases hc : late.contains j with
        | false => rfl
        | true =>
          have hj2 : (listed.setIfInBounds j true).getD j false = true := by
            have hlt : j < listed.size := by
              rw [hcl.size]; exact (Array.getElem?_eq_some_iff.1 hoj).1
            simp [hlt]
          have h3 := (hcl.set hj).reach _ j i (hr0 j (by simpa using hc)) hj2
          rw [getD_set_ne false hji, hiun] at h3
          cases h3
      have h2 := wpOp_putIf hoj (hfree j oj hoj hji hjun hnot) (fun cs b => hsel i oi cs b hi) (fun cs b => hsel j oj cs b hoj) hQ hy h1
      have hfree' : ∀ k ok, ops[k]? = some ok → k ≠ i → (listed.setIfInBounds j true).getD k true = false →
          (∀ e ∈ ok.after, Region.binds .any e = true → e.on ≠ i) → oi.apart ops ok = true := fun k ok hk hki hun hno => by
        refine hfree k ok hk hki ?_ hno
        by_cases hjk : j = k
        · subst hjk; exact hjun
        · rw [getD_set_ne true hjk] at hun; exact hun
      have hil : late.contains i = false := by
        cases hc : late.contains i with
        | false => rfl
        | true =>
          have hi2 : (listed.setIfInBounds i true).getD i false = true := by
            have hlt : i < listed.size := by
              rw [hcl.size]; exact (Array.getElem?_eq_some_iff.1 hi).1
            simp [hlt]
          have h3 := hr0 i (by simpa using hc)
          -- i would wait for itself
          have h4 := hcl.reach ops.size i i h3
          exfalso
          obtain ⟨_, oi', hoi', hall'⟩ := mem_ready.1 hr
          have : ops.size ≠ 0 := by
            have := (Array.getElem?_eq_some_iff.1 hi).1; omega
          obtain ⟨f, hf⟩ : ∃ f, ops.size = f + 1 := ⟨ops.size - 1, by omega⟩
          rw [hf] at h3
          unfold reach at h3
          simp only [hoi', Option.map_some, Option.getD_some] at h3
          obtain ⟨e, he, hb⟩ := Array.any_eq_true'.1 h3
          simp only [Bool.and_eq_true, Bool.or_eq_true, beq_iff_eq] at hb
          have h5 := hall' e he hb.1
          rcases hb.2 with h6 | h6
          · rw [h6, hiun] at h5; cases h5
          · rw [hcl.reach f e.on i h6 h5] at hiun; cases hiun
      have hcj : clean late (listed.setIfInBounds j true) = true := clean_set hclean hjl
      have hcji : clean late ((listed.setIfInBounds i true).setIfInBounds j true) = true := clean_set (clean_set hclean hil) hjl
      refine wpOp_mono (fun a' w' h3 => ⟨fun _ => h3.2.1 hcji, ih (listed.setIfInBounds j true) a' w' (hcl.set hj) hfree' (ready_mono hr (Ne.symm hji)) h3.1 (h3.2.1 hcji) hcj ?_⟩) h2
      rw [Array.setIfInBounds_comm _ _ hji]
      exact h3.2.2

/-- The same of an operation that yields its value in whatever world. -/
theorem wpAnyC_firstPure {i : Nat} {oi : Oper} {v : Value} (hi : ops[i]? = some oi) (hsel : ∀ (j : Nat) (o : Oper) cs b, ops[j]? = some o → o.op ≠ .select cs b)
    (hQ : ∀ c a w, Q (.panic c) (a.put oi.dst v) w → Q (.panic c) a w) (hil : late.contains i = false) :
    ∀ (fuel : Nat) (listed : Array Bool) (a : Act) (w : World),
      (∀ j oj, ops[j]? = some oj → j ≠ i → listed.getD j true = false → (∀ e ∈ oj.after, Region.binds .any e = true → e.on ≠ i) → oi.apart ops oj = true) →
      i ∈ Region.ready .any ops listed → Yields P ops oi v a → (clean late listed = true → S w) →
      wpAnyC P ops Q S late fuel (listed.setIfInBounds i true) (a.put oi.dst v) w → wpAnyC P ops Q S late (fuel + 1) listed a w := by
  intro fuel
  induction fuel with
  | zero =>
    intro listed a w _ hr hy hS H
    refine ⟨fun h => (by rw [h] at hr; cases hr), fun j hj => ?_⟩
    by_cases hji : j = i
    · subst hji; exact hy.wpOp hi ⟨fun hc => hS (clean_of_set hc), H⟩
    · have := ready_mono hj hji
      rw [H.1] at this
      cases this
  | succ fuel ih =>
    intro listed a w hfree hr hy hS H
    refine ⟨fun h => (by rw [h] at hr; cases hr), fun j hj => ?_⟩
    by_cases hji : j = i
    · subst hji; exact hy.wpOp hi ⟨fun hc => hS (clean_of_set hc), H⟩
    · have h1 := H.2 j (ready_mono hj hji)
      obtain ⟨hjun, oj, hoj, hall⟩ := mem_ready.1 hj
      have hiun := unlisted_of_ready hr
      have hnot : ∀ e ∈ oj.after, Region.binds .any e = true → e.on ≠ i := fun e he hb heq => by
        have h1 := hall e he hb
        rw [heq, hiun] at h1; cases h1
      have h2 := wpOp_put hoj (hfree j oj hoj hji hjun hnot) (fun cs b => hsel i oi cs b hi) (fun cs b => hsel j oj cs b hoj) hQ hy h1
      have hfree' : ∀ k ok, ops[k]? = some ok → k ≠ i → (listed.setIfInBounds j true).getD k true = false →
          (∀ e ∈ ok.after, Region.binds .any e = true → e.on ≠ i) → oi.apart ops ok = true := fun k ok hk hki hun hno => by
        refine hfree k ok hk hki ?_ hno
        by_cases hjk : j = k
        · subst hjk; exact hjun
        · rw [getD_set_ne true hjk] at hun; exact hun
      refine wpOp_mono (fun a' w' h3 => ?_) h2
      have hs' : clean late (listed.setIfInBounds j true) = true → S w' := fun hc =>
        h3.2.1 (by rw [Array.setIfInBounds_comm _ _ (Ne.symm hji)]; exact clean_set hc hil)
      refine ⟨hs', ih (listed.setIfInBounds j true) a' w' hfree' (ready_mono hr (Ne.symm hji)) h3.1 hs' ?_⟩
      rw [Array.setIfInBounds_comm _ _ hji]
      exact h3.2.2
end

/-! The walk by a listed order. A step is (number, kind): kind 0: yields in whatever world; 1: yields in every world of S; else: nothing else may come up. -/
def lexC (ops : Array Oper) (late : List Nat) : List (Nat × Nat) → Array Bool → Bool
  | [], listed => (Region.ready .any ops listed).isEmpty
  | (i, 0) :: r, listed => (Region.ready .any ops listed).contains i && Region.free .any ops listed i && !late.contains i && lexC ops late r (listed.setIfInBounds i true)
  | (i, 1) :: r, listed => (Region.ready .any ops listed).contains i && Region.free .any ops listed i && late.all (fun m => reach ops ops.size m i) && clean late listed && lexC ops late r (listed.setIfInBounds i true)
  | (i, _ + 2) :: r, listed => (Region.ready .any ops listed) == [i] && lexC ops late r (listed.setIfInBounds i true)

def lexWp (P : Program) (ops : Array Oper) (Q : Exit → Act → World → Prop) (S : World → Prop) (late : List Nat) : List (Nat × Nat) → Array Bool → Act → World → Prop
  | [], _, a, w => Q .normal a w
  | (i, 0) :: r, listed, a, w => ∃ o v, ops[i]? = some o ∧ Yields P ops o v a ∧ lexWp P ops Q S late r (listed.setIfInBounds i true) (a.put o.dst v) w
  | (i, 1) :: r, listed, a, w => ∃ o v, ops[i]? = some o ∧ YieldsIf P ops S o v a ∧ lexWp P ops Q S late r (listed.setIfInBounds i true) (a.put o.dst v) w
  | (i, _ + 2) :: r, listed, a, w => wpOp P ops Q i (fun a' w' => (clean late (listed.setIfInBounds i true) = true → S w') ∧ lexWp P ops Q S late r (listed.setIfInBounds i true) a' w') a w

theorem lex_sound {ops : Array Oper} {Q : Exit → Act → World → Prop} {S : World → Prop} {late : List Nat} (hs : Region.noSelect ops = true)
    (hQ : ∀ c a w, ¬ Q (.panic c) a w) : ∀ (l : List (Nat × Nat)) (listed : Array Bool) (a : Act) (w : World), lexC ops late l listed = true → Closed ops listed →
    (clean late listed = true → S w) → lexWp P ops Q S late l listed a w → wpAnyC P ops Q S late l.length listed a w
  | [], listed, a, w, hc, _, _, h => ⟨by simpa [lexC] using hc, h⟩
  | (i, 0) :: r, listed, a, w, hc, hcl, hS, h => by
    simp only [lexC, Bool.and_eq_true, Bool.not_eq_true'] at hc
    obtain ⟨⟨⟨hr, hf⟩, hl⟩, hc'⟩ := hc
    obtain ⟨o, v, ho, hy, h⟩ := h
    have hr' : i ∈ Region.ready .any ops listed := by simpa using hr
    exact wpAnyC_firstPure ho (Region.noSelect_spec hs) (fun c a w h => (hQ c _ w h).elim) hl r.length listed a w (Region.free_spec ho hf) hr' hy hS
      (lex_sound hs hQ r _ _ _ hc' (hcl.set hr') (fun hc => hS (clean_of_set hc)) h)
  | (i, 1) :: r, listed, a, w, hc, hcl, hS, h => by
    simp only [lexC, Bool.and_eq_true, List.all_eq_true] at hc
    obtain ⟨⟨⟨⟨hr, hf⟩, hl⟩, hcn⟩, hc'⟩ := hc
    obtain ⟨o, v, ho, hy, h⟩ := h
    have hr' : i ∈ Region.ready .any ops listed := by simpa using hr
    exact wpAnyC_first ho (Region.noSelect_spec hs) (fun c a w h => (hQ c _ w h).elim) hl r.length listed a w hcl (Region.free_spec ho hf) hr' hy (hS hcn) hcn
      (lex_sound hs hQ r _ _ _ hc' (hcl.set hr') (fun hc => hS (clean_of_set hc)) h)
  | (i, k + 2) :: r, listed, a, w, hc, hcl, hS, h => by
    simp only [lexC, Bool.and_eq_true, beq_iff_eq] at hc
    obtain ⟨hr, hc'⟩ := hc
    have hr' : i ∈ Region.ready .any ops listed := by rw [hr]; exact List.mem_singleton.2 rfl
    refine ⟨fun h0 => (by rw [h0] at hr; cases hr), fun j hj => ?_⟩
    rw [hr] at hj
    obtain rfl := List.mem_singleton.1 hj
    exact wpOp_mono (fun a' w' h' => ⟨h'.1, lex_sound hs hQ r _ _ _ hc' (hcl.set hr') h'.1 h'.2⟩) h

def lexAll (l : List Oper) (late : List Nat) (ord : List (Nat × Nat)) : Bool :=
  Region.noSelect l.toArray && Nat.beq ord.length l.length && lexC l.toArray late ord (Array.replicate l.length false)

/-- The symbolic walk by a listed order. -/
def LW (P : Program) (n : Nat) (l : List Oper) (S : World → Prop) (late : List Nat) (ord : List (Nat × Nat)) (listed : Array Bool) (F : Fr) (M : World → Prop) (Q : Po) : Prop :=
  ∀ a w, Fits n F a → M w → lexWp P l.toArray (real n Q) S late ord listed a w

theorem sw_region_lex {id : Nat} {l : List Oper} {F : Fr} {M : World → Prop} {Q : Po} (S : World → Prop) (late : List Nat) (ord : List (Nat × Nat)) (hm : P.follows .mixedOrders = true)
    (hl : lexAll l late ord = true) (hQ : ∀ c F w, ¬ Q (.panic c) F w) (hMS : ∀ w, M w → S w) (hMd : ∀ w, M w → M { w with drawn := w.drawn + 1 })
    (h : LW P n l S late ord (Array.replicate l.length false) F M Q) : SW P n (.region id l.toArray true) F M Q := by
  intro a w hf hw
  simp only [lexAll, Bool.and_eq_true] at hl
  obtain ⟨⟨hs, hlen⟩, hc⟩ := hl
  have hlen' := Nat.eq_of_beq_eq_true hlen
  refine wp_region_any hm (wpAny_of_C (S := S) (late := late) _ _ _ _ ?_)
  have := lex_sound (P := P) (Q := real n Q) (S := S) (late := late) hs (fun c a w ⟨F', _, hq⟩ => hQ c F' w hq) ord (Array.replicate l.length false) a { w with drawn := w.drawn + 1 } hc
    ⟨by simp, fun j oj _ hl' => by
      rcases Nat.lt_or_ge j l.length with h' | h'
      · simp [h'] at hl'
      · simp [h'] at hl'⟩ (fun _ => hMS _ (hMd w hw)) (h a _ hf (hMd w hw))
  rw [hlen'] at this
  simpa using this

section
variable {l : List Oper} {S : World → Prop} {late : List Nat} {listed : Array Bool} {F : Fr} {M : World → Prop} {Q : Po} {r : List (Nat × Nat)} {i : Nat}
  {op : Op} {ty : TypeId} {ps : String} {af : Array Edge}

theorem lw_nil (h : ∀ w, M w → Q .normal F w) : LW P n l S late [] listed F M Q := fun _ w hf hm => ⟨F, hf, h w hm⟩

theorem lw_pure {t : Nat} {v : Value} (ho : nth l i = some ⟨some t, op, ty, ps, af, none⟩) (hv : Val P n F (fun _ => True) op ty v) (ht : Nat.blt t n = true)
    (h : LW P n l S late r (listed.setIfInBounds i true) ((t, v) :: F) M Q) : LW P n l S late ((i, 0) :: r) listed F M Q :=
  fun a w hf hm => ⟨_, v, (nth_eq l i).symm.trans ho, .inl ⟨rfl, fun w => hv a w hf trivial _ _ _ _⟩, h _ w (hf.put ht v) hm⟩

theorem lw_held {t : Nat} {v : Value} (ho : nth l i = some ⟨some t, op, ty, ps, af, none⟩) (hv : Val P n F S op ty v) (ht : Nat.blt t n = true)
    (h : LW P n l S late r (listed.setIfInBounds i true) ((t, v) :: F) M Q) : LW P n l S late ((i, 1) :: r) listed F M Q :=
  fun a w hf hm => ⟨_, v, (nth_eq l i).symm.trans ho, .inl ⟨rfl, fun w hw => hv a w hf hw _ _ _ _⟩, h _ w (hf.put ht v) hm⟩

theorem wpOp_some {o : Oper} {ops : Array Oper} {Q : Exit → Act → World → Prop} {K : Act → World → Prop} {a : Act} {w : World} (ho : ops[i]? = some o) (hg : o.guard = none) (h : o.wp P a w K Q) :
    wpOp P ops Q i K a w := by
  unfold wpOp
  simp only [ho, Region.wanted, hg, if_true]
  exact .inl h

theorem lw_val {t : Nat} {v : Value} (ho : nth l i = some ⟨some t, op, ty, ps, af, none⟩) (hv : Val P n F M op ty v) (ht : Nat.blt t n = true) (hS : ∀ w, M w → S w)
    (h : LW P n l S late r (listed.setIfInBounds i true) ((t, v) :: F) M Q) : LW P n l S late ((i, 2) :: r) listed F M Q := by
  intro a w hf hm
  refine wpOp_some ((nth_eq l i).symm.trans ho) rfl ?_
  unfold Oper.wp
  rw [hv a w hf hm]
  exact ⟨fun _ => hS w hm, h _ w (hf.put ht v) hm⟩

theorem lw_act {t : Nat} {R : World → Value → World → Prop} (ho : nth l i = some ⟨some t, op, ty, ps, af, none⟩) (hv : Acts P n F M op ty R) (ht : Nat.blt t n = true)
    (hS : clean late (listed.setIfInBounds i true) = true → ∀ w v w', M w → R w v w' → S w')
    (h : ∀ w v, M w → LW P n l S late r (listed.setIfInBounds i true) ((t, v) :: F) (R w v) Q) : LW P n l S late ((i, 2) :: r) listed F M Q := by
  intro a w hf hm
  refine wpOp_some ((nth_eq l i).symm.trans ho) rfl ?_
  unfold Oper.wp
  obtain ⟨v, w', e, hr⟩ := hv a w hf hm (some t) ps af none
  rw [e]
  exact ⟨fun hc => hS hc w v w' hm hr, h w v hm _ w' (hf.put ht v) hr⟩

theorem lw_do {R : World → World → Prop} (ho : nth l i = some ⟨none, op, ty, ps, af, none⟩) (hv : Does P n F M op ty R)
    (hS : clean late (listed.setIfInBounds i true) = true → ∀ w w', M w → R w w' → S w')
    (h : ∀ w, M w → LW P n l S late r (listed.setIfInBounds i true) F (R w) Q) : LW P n l S late ((i, 2) :: r) listed F M Q := by
  intro a w hf hm
  refine wpOp_some ((nth_eq l i).symm.trans ho) rfl ?_
  unfold Oper.wp
  obtain ⟨w', e, hr⟩ := hv a w hf hm none ps af none
  rw [e]
  exact ⟨fun hc => hS hc w w' hm hr, h w hm _ w' hf hr⟩

theorem lw_call {t : Nat} {f : FuncId} {args : Array Value} (R : World → Value → World → Prop) (ho : nth l i = some ⟨some t, op, ty, ps, af, none⟩) (hv : CallsTo P n F M op ty f args) (ht : Nat.blt t n = true)
    (hc : ∀ w, M w → Calls P f args w fun e w' => ∃ v, e = .returned v ∧ R w v w')
    (hS : clean late (listed.setIfInBounds i true) = true → ∀ w v w', M w → R w v w' → S w')
    (h : ∀ w v, M w → LW P n l S late r (listed.setIfInBounds i true) ((t, v) :: F) (R w v) Q) : LW P n l S late ((i, 2) :: r) listed F M Q := by
  intro a w hf hm
  refine wpOp_some ((nth_eq l i).symm.trans ho) rfl ?_
  unfold Oper.wp
  rw [hv a w hf hm]
  refine (hc w hm).mono ?_
  rintro e w' ⟨v, rfl, hr⟩
  exact ⟨fun hc => hS hc w v w' hm hr, h w v hm _ w' (hf.put ht v) hr⟩
end
end
end Go.Sx

namespace Go.Sx
section
variable {P : Program} {n : Nat} {F : Fr} {S : World → Prop} {ty : TypeId}

theorem val_move {x : Operand} {v : Value} (h : ev F x = some v) : Val P n F S (.move x) ty v :=
  fun a w hf _ d ps af g => by simp [execOp, ev_eval hf h]
theorem val_assign {x : Operand} {v : Value} (h : ev F x = some v) : Val P n F S (.assign x) ty v :=
  fun a w hf _ d ps af g => by simp [execOp, ev_eval hf h]
theorem val_pick {c x y : Operand} {b : Bool} {v u : Value} (hc : ev F c = some (.bool b)) (hx : ev F x = some v) (hy : ev F y = some u) : Val P n F S (.pick c x y) ty (bif b then v else u) :=
  fun a w hf _ d ps af g => by
    simp only [execOp, ev_eval hf hc, ev_eval hf hx, ev_eval hf hy, asBool]
    cases b <;> simp
theorem val_pick_true {c x y : Operand} {v : Value} (hc : ev F c = some (.bool true)) (hx : ev F x = some v) : Val P n F S (.pick c x y) ty v :=
  fun a w hf _ d ps af g => by simp [execOp, ev_eval hf hc, ev_eval hf hx, asBool]
theorem val_pick_false {c x y : Operand} {v : Value} (hc : ev F c = some (.bool false)) (hy : ev F y = some v) : Val P n F S (.pick c x y) ty v :=
  fun a w hf _ d ps af g => by simp [execOp, ev_eval hf hc, ev_eval hf hy, asBool]
theorem val_not {x : Operand} {b : Bool} {t : TypeId} (h : ev F x = some (.bool b)) : Val P n F S (.unOp .not t x) ty (.bool (!b)) :=
  fun a w hf _ d ps af g => by simp [execOp, ev_eval hf h, Op.unary]
theorem val_extract {x : Operand} {vs : Array Value} {i : Nat} {v : Value} (h : ev F x = some (.tuple vs)) (hi : vs[i]? = some v) : Val P n F S (.extract x i) ty v :=
  fun a w hf _ d ps af g => by simp [execOp, ev_eval hf h, Instr.extract, hi]
theorem val_makeFunc {fn : Fn} {cap : Array Operand} {vs : Array Value} (h : ∀ a, Fits n F a → cap.map a.eval = vs) : Val P n F S (.makeFunc fn #[] cap) ty (.func fn #[] vs) :=
  fun a w hf _ d ps af g => by simp [execOp, Instr.makeFunc, h a hf]

/-! Binary operations: one law on Int, then by kinds. -/
theorem bin_ok {op : BinOp} {T U : TypeId} {x y : Operand} {u v r : Value} (hx : ev F x = some u) (hy : ev F y = some v)
    (hg : ∀ w, (eqGuard op T x y u v).run P w = .ok () w) (hr : ∀ w, (binOp op T u v).run P w = .ok r w) : Val P n F S (.binOp op T x y U) ty r :=
  fun a w hf _ d ps af g => by
    simp only [execOp, ev_eval hf hx, ev_eval hf hy, Sem.run_bind, hg, hr, Result.andThen_ok, Sem.run_pure]

theorem guard_int {op : BinOp} {T : TypeId} {x y : Operand} {k k' : IntKind} {p q : Int} (w : World) : (eqGuard op T x y (.int k p) (.int k' q)).run P w = .ok () w := by
  cases op <;> simp [eqGuard]
theorem guard_bool {op : BinOp} {T : TypeId} {x y : Operand} {p q : Bool} (w : World) : (eqGuard op T x y (.bool p) (.bool q)).run P w = .ok () w := by
  cases op <;> simp [eqGuard]
theorem guard_ptr {op : BinOp} {T : TypeId} {x y : Operand} {p q : Option Addr} (w : World) : (eqGuard op T x y (.pointer p) (.pointer q)).run P w = .ok () w := by
  cases op <;> simp [eqGuard]
theorem guard_slice {op : BinOp} {T : TypeId} {x y : Operand} {p q : Option Addr} {a b c d : Nat} (w : World) : (eqGuard op T x y (.slice p a b) (.slice q c d)).run P w = .ok () w := by
  cases op <;> simp [eqGuard]

theorem bin_int {op : BinOp} {T U : TypeId} {x y : Operand} {k k' : IntKind} {p q : Int} {r : Value} (hx : ev F x = some (.int k p)) (hy : ev F y = some (.int k' q))
    (hr : ∀ w, (binOp op T (.int k p) (.int k' q)).run P w = .ok r w) : Val P n F S (.binOp op T x y U) ty r :=
  bin_ok hx hy guard_int hr

theorem wrap_u8 (i : Int) : IntKind.u8.wrap i = i % 256 := by unfold IntKind.wrap; simp [IntKind.signed, IntKind.bits]
theorem wrap_u16 (i : Int) : IntKind.u16.wrap i = i % 65536 := by unfold IntKind.wrap; simp [IntKind.signed, IntKind.bits]
theorem wrap_u32 (i : Int) : IntKind.u32.wrap i = i % 4294967296 := by unfold IntKind.wrap; simp [IntKind.signed, IntKind.bits]
theorem wrap_u64 (i : Int) : IntKind.u64.wrap i = i % 18446744073709551616 := by unfold IntKind.wrap; simp [IntKind.signed, IntKind.bits]
theorem wrap_i64 (i : Int) (h0 : -9223372036854775808 ≤ i) (h1 : i ≤ 9223372036854775807) : IntKind.i64.wrap i = i := by
  rw [IntKind.wrap_i64]; omega
theorem val_add_u8 {T V : TypeId} {x y : Operand} {a b : UInt8} (hx : ev F x = some (vU8 a)) (hy : ev F y = some (vU8 b)) : Val P n F S (.binOp .add T x y V) ty (vU8 (a + b)) :=
  bin_int hx hy fun w => by
    simp only [binOp, Op.intArith, vU8, ne_eq, not_true, if_false, wrap_u8, UInt8.toNat_add, Sem.run_pure, Result.ok.injEq, Value.int.injEq, true_and, and_true]; omega

theorem val_sub_u8 {T V : TypeId} {x y : Operand} {a b : UInt8} (hx : ev F x = some (vU8 a)) (hy : ev F y = some (vU8 b)) : Val P n F S (.binOp .sub T x y V) ty (vU8 (a - b)) :=
  bin_int hx hy fun w => by
    simp only [binOp, Op.intArith, vU8, ne_eq, not_true, if_false, wrap_u8, UInt8.toNat_sub, Sem.run_pure, Result.ok.injEq, Value.int.injEq, true_and, and_true]; have := UInt8.toNat_lt a; have := UInt8.toNat_lt b; omega

theorem val_mul_u8 {T V : TypeId} {x y : Operand} {a b : UInt8} (hx : ev F x = some (vU8 a)) (hy : ev F y = some (vU8 b)) : Val P n F S (.binOp .mul T x y V) ty (vU8 (a * b)) :=
  bin_int hx hy fun w => by
    simp only [binOp, Op.intArith, vU8, ne_eq, not_true, if_false, wrap_u8, UInt8.toNat_mul, Sem.run_pure, Result.ok.injEq, Value.int.injEq, true_and, and_true]; simp

theorem val_and_u8 {T V : TypeId} {x y : Operand} {a b : UInt8} (hx : ev F x = some (vU8 a)) (hy : ev F y = some (vU8 b)) : Val P n F S (.binOp .and T x y V) ty (vU8 (a &&& b)) :=
  bin_int hx hy fun w => by
    have e : (binOp .and T (vU8 a) (vU8 b)).run P w = .ok (.int .u8 (IntKind.u8.wrap (((BitVec.ofInt 8 (a.toNat : Int)) &&& (BitVec.ofInt 8 (b.toNat : Int))).toNat : Int))) w := rfl
    have ha := UInt8.toNat_lt a; have hb := UInt8.toNat_lt b
    have hl := UInt8.toNat_lt (a &&& b)
    refine e.trans ?_
    simp only [vU8, Result.ok.injEq, Value.int.injEq, true_and, and_true, wrap_u8, BitVec.ofInt_natCast, BitVec.toNat_and, BitVec.toNat_ofNat, UInt8.toNat_and] at *
    rw [Nat.mod_eq_of_lt ha, Nat.mod_eq_of_lt hb]; omega

theorem val_or_u8 {T V : TypeId} {x y : Operand} {a b : UInt8} (hx : ev F x = some (vU8 a)) (hy : ev F y = some (vU8 b)) : Val P n F S (.binOp .or T x y V) ty (vU8 (a ||| b)) :=
  bin_int hx hy fun w => by
    have e : (binOp .or T (vU8 a) (vU8 b)).run P w = .ok (.int .u8 (IntKind.u8.wrap (((BitVec.ofInt 8 (a.toNat : Int)) ||| (BitVec.ofInt 8 (b.toNat : Int))).toNat : Int))) w := rfl
    have ha := UInt8.toNat_lt a; have hb := UInt8.toNat_lt b
    have hl := UInt8.toNat_lt (a ||| b)
    refine e.trans ?_
    simp only [vU8, Result.ok.injEq, Value.int.injEq, true_and, and_true, wrap_u8, BitVec.ofInt_natCast, BitVec.toNat_or, BitVec.toNat_ofNat, UInt8.toNat_or] at *
    rw [Nat.mod_eq_of_lt ha, Nat.mod_eq_of_lt hb]; omega

theorem val_xor_u8 {T V : TypeId} {x y : Operand} {a b : UInt8} (hx : ev F x = some (vU8 a)) (hy : ev F y = some (vU8 b)) : Val P n F S (.binOp .xor T x y V) ty (vU8 (a ^^^ b)) :=
  bin_int hx hy fun w => by
    have e : (binOp .xor T (vU8 a) (vU8 b)).run P w = .ok (.int .u8 (IntKind.u8.wrap (((BitVec.ofInt 8 (a.toNat : Int)) ^^^ (BitVec.ofInt 8 (b.toNat : Int))).toNat : Int))) w := rfl
    have ha := UInt8.toNat_lt a; have hb := UInt8.toNat_lt b
    have hl := UInt8.toNat_lt (a ^^^ b)
    refine e.trans ?_
    simp only [vU8, Result.ok.injEq, Value.int.injEq, true_and, and_true, wrap_u8, BitVec.ofInt_natCast, BitVec.toNat_xor, BitVec.toNat_ofNat, UInt8.toNat_xor] at *
    rw [Nat.mod_eq_of_lt ha, Nat.mod_eq_of_lt hb]; omega

theorem val_compl_u8 {T : TypeId} {x : Operand} {a : UInt8} (hx : ev F x = some (vU8 a)) : Val P n F S (.unOp .xor T x) ty (vU8 (~~~ a)) :=
  fun s w hf _ d ps af g => by
    have e : (Op.unary .xor (vU8 a)).run P w = .ok (.int .u8 (IntKind.u8.wrap (((BitVec.allOnes 8) ^^^ (BitVec.ofInt 8 (a.toNat : Int))).toNat : Int))) w := rfl
    have ha := UInt8.toNat_lt a
    simp only [execOp, ev_eval hf hx, Sem.run_bind, e, Result.andThen_ok, Sem.run_pure]
    simp only [vU8, Result.ok.injEq, Next.value.injEq, Value.int.injEq, true_and, and_true, wrap_u8, BitVec.ofInt_natCast, BitVec.allOnes_xor, BitVec.toNat_not, BitVec.toNat_ofNat, UInt8.toNat_not]
    rw [Nat.mod_eq_of_lt ha]; simp only [UInt8.size]; omega

theorem val_eql_u8 {T V : TypeId} {x y : Operand} {a b : UInt8} (hx : ev F x = some (vU8 a)) (hy : ev F y = some (vU8 b)) : Val P n F S (.binOp .eql T x y V) ty (.bool (decide (a = b))) :=
  bin_int hx hy fun w => by
    simp only [binOp, Op.intCmp, vU8, ne_eq, not_true, if_false, Sem.run_pure, Result.ok.injEq, Value.bool.injEq, and_true]
    rw [Bool.eq_iff_iff]; simp only [beq_iff_eq, bne_iff_ne, ne_eq, decide_eq_true_eq, ← UInt8.toNat_inj]; omega

theorem val_neq_u8 {T V : TypeId} {x y : Operand} {a b : UInt8} (hx : ev F x = some (vU8 a)) (hy : ev F y = some (vU8 b)) : Val P n F S (.binOp .neq T x y V) ty (.bool (decide (a ≠ b))) :=
  bin_int hx hy fun w => by
    simp only [binOp, Op.intCmp, vU8, ne_eq, not_true, if_false, Sem.run_pure, Result.ok.injEq, Value.bool.injEq, and_true]
    rw [Bool.eq_iff_iff]; simp only [beq_iff_eq, bne_iff_ne, ne_eq, decide_eq_true_eq, ← UInt8.toNat_inj]; omega

theorem val_lss_u8 {T V : TypeId} {x y : Operand} {a b : UInt8} (hx : ev F x = some (vU8 a)) (hy : ev F y = some (vU8 b)) : Val P n F S (.binOp .lss T x y V) ty (.bool (decide (a < b))) :=
  bin_int hx hy fun w => by
    simp only [binOp, Op.intCmp, vU8, ne_eq, not_true, if_false, Sem.run_pure, Result.ok.injEq, Value.bool.injEq, and_true]
    rw [Bool.eq_iff_iff]; simp only [decide_eq_true_eq, UInt8.lt_iff_toNat_lt, gt_iff_lt]; omega

theorem val_leq_u8 {T V : TypeId} {x y : Operand} {a b : UInt8} (hx : ev F x = some (vU8 a)) (hy : ev F y = some (vU8 b)) : Val P n F S (.binOp .leq T x y V) ty (.bool (decide (a ≤ b))) :=
  bin_int hx hy fun w => by
    simp only [binOp, Op.intCmp, vU8, ne_eq, not_true, if_false, Sem.run_pure, Result.ok.injEq, Value.bool.injEq, and_true]
    rw [Bool.eq_iff_iff]; simp only [decide_eq_true_eq, UInt8.le_iff_toNat_le, ge_iff_le]; omega

theorem val_gtr_u8 {T V : TypeId} {x y : Operand} {a b : UInt8} (hx : ev F x = some (vU8 a)) (hy : ev F y = some (vU8 b)) : Val P n F S (.binOp .gtr T x y V) ty (.bool (decide (b < a))) :=
  bin_int hx hy fun w => by
    simp only [binOp, Op.intCmp, vU8, ne_eq, not_true, if_false, Sem.run_pure, Result.ok.injEq, Value.bool.injEq, and_true]
    rw [Bool.eq_iff_iff]; simp only [decide_eq_true_eq, UInt8.lt_iff_toNat_lt, gt_iff_lt]; omega

theorem val_geq_u8 {T V : TypeId} {x y : Operand} {a b : UInt8} (hx : ev F x = some (vU8 a)) (hy : ev F y = some (vU8 b)) : Val P n F S (.binOp .geq T x y V) ty (.bool (decide (b ≤ a))) :=
  bin_int hx hy fun w => by
    simp only [binOp, Op.intCmp, vU8, ne_eq, not_true, if_false, Sem.run_pure, Result.ok.injEq, Value.bool.injEq, and_true]
    rw [Bool.eq_iff_iff]; simp only [decide_eq_true_eq, UInt8.le_iff_toNat_le, ge_iff_le]; omega

theorem val_shl_u8 {T V : TypeId} {x y : Operand} {a : UInt8} {k' : IntKind} {i : Int} (c : Nat) (hx : ev F x = some (vU8 a)) (hy : ev F y = some (.int k' i)) (hi : i = (c : Int)) (hc : c < 8) : Val P n F S (.binOp .shl T x y V) ty (vU8 (a <<< UInt8.ofNat c)) :=
  bin_int hx hy fun w => by
    subst hi
    have h1 : ¬ ((c : Int) < 0) := by omega
    have h2 : min (Int.toNat (c : Int)) 8 = c := by simp; omega
    have h3 : (UInt8.ofNat c).toNat % 8 = c := by rw [UInt8.toNat_ofNat']; omega
    simp only [binOp, Op.shift, vU8, h1, if_false, IntKind.bits, h2, Sem.run_pure, Result.ok.injEq, Value.int.injEq, true_and, and_true, wrap_u8, UInt8.toNat_shiftLeft, h3, Nat.shiftLeft_eq]
    simp

theorem val_shr_u8 {T V : TypeId} {x y : Operand} {a : UInt8} {k' : IntKind} {i : Int} (c : Nat) (hx : ev F x = some (vU8 a)) (hy : ev F y = some (.int k' i)) (hi : i = (c : Int)) (hc : c < 8) : Val P n F S (.binOp .shr T x y V) ty (vU8 (a >>> UInt8.ofNat c)) :=
  bin_int hx hy fun w => by
    subst hi
    have h1 : ¬ ((c : Int) < 0) := by omega
    have h2 : min (Int.toNat (c : Int)) 8 = c := by simp; omega
    have h3 : (UInt8.ofNat c).toNat % 8 = c := by rw [UInt8.toNat_ofNat']; omega
    simp only [binOp, Op.shift, vU8, h1, if_false, IntKind.bits, h2, Sem.run_pure, Result.ok.injEq, Value.int.injEq, true_and, and_true, UInt8.toNat_shiftRight, h3, Nat.shiftRight_eq_div_pow]
    have h4 : (2 : Int) ^ c = ((2 ^ c : Nat) : Int) := by simp
    rw [h4, ← Int.ofNat_fdiv]

theorem val_quo_u8 {T V : TypeId} {x y : Operand} {a b : UInt8} (hx : ev F x = some (vU8 a)) (hy : ev F y = some (vU8 b)) (hb : b ≠ 0) : Val P n F S (.binOp .quo T x y V) ty (vU8 (a / b)) :=
  bin_int hx hy fun w => by
    have hb' : ¬ ((b.toNat : Int) = 0) := by intro h; apply hb; rw [← UInt8.toNat_inj]; simpa using h
    have ha := UInt8.toNat_lt a
    simp only [binOp, Op.intDiv, vU8, ne_eq, not_true, if_false, hb', Sem.run_pure, Result.ok.injEq, Value.int.injEq, true_and, and_true, wrap_u8, UInt8.toNat_div]
    rw [Int.tdiv_eq_ediv_of_nonneg (by omega)]; have : a.toNat / b.toNat ≤ a.toNat := Nat.div_le_self _ _; have e : (a.toNat : Int) / (b.toNat : Int) = ((a.toNat / b.toNat : Nat) : Int) := by simp
    rw [e]; generalize a.toNat / b.toNat = q at *; omega

theorem val_rem_u8 {T V : TypeId} {x y : Operand} {a b : UInt8} (hx : ev F x = some (vU8 a)) (hy : ev F y = some (vU8 b)) (hb : b ≠ 0) : Val P n F S (.binOp .rem T x y V) ty (vU8 (a % b)) :=
  bin_int hx hy fun w => by
    have hb' : ¬ ((b.toNat : Int) = 0) := by intro h; apply hb; rw [← UInt8.toNat_inj]; simpa using h
    have ha := UInt8.toNat_lt a
    simp only [binOp, Op.intDiv, vU8, ne_eq, not_true, if_false, hb', Sem.run_pure, Result.ok.injEq, Value.int.injEq, true_and, and_true, UInt8.toNat_mod]
    rw [Int.tmod_eq_emod_of_nonneg (by omega)]; simp

theorem val_add_u16 {T V : TypeId} {x y : Operand} {a b : UInt16} (hx : ev F x = some (vU16 a)) (hy : ev F y = some (vU16 b)) : Val P n F S (.binOp .add T x y V) ty (vU16 (a + b)) :=
  bin_int hx hy fun w => by
    simp only [binOp, Op.intArith, vU16, ne_eq, not_true, if_false, wrap_u16, UInt16.toNat_add, Sem.run_pure, Result.ok.injEq, Value.int.injEq, true_and, and_true]; omega

theorem val_sub_u16 {T V : TypeId} {x y : Operand} {a b : UInt16} (hx : ev F x = some (vU16 a)) (hy : ev F y = some (vU16 b)) : Val P n F S (.binOp .sub T x y V) ty (vU16 (a - b)) :=
  bin_int hx hy fun w => by
    simp only [binOp, Op.intArith, vU16, ne_eq, not_true, if_false, wrap_u16, UInt16.toNat_sub, Sem.run_pure, Result.ok.injEq, Value.int.injEq, true_and, and_true]; have := UInt16.toNat_lt a; have := UInt16.toNat_lt b; omega

theorem val_mul_u16 {T V : TypeId} {x y : Operand} {a b : UInt16} (hx : ev F x = some (vU16 a)) (hy : ev F y = some (vU16 b)) : Val P n F S (.binOp .mul T x y V) ty (vU16 (a * b)) :=
  bin_int hx hy fun w => by
    simp only [binOp, Op.intArith, vU16, ne_eq, not_true, if_false, wrap_u16, UInt16.toNat_mul, Sem.run_pure, Result.ok.injEq, Value.int.injEq, true_and, and_true]; simp

theorem val_and_u16 {T V : TypeId} {x y : Operand} {a b : UInt16} (hx : ev F x = some (vU16 a)) (hy : ev F y = some (vU16 b)) : Val P n F S (.binOp .and T x y V) ty (vU16 (a &&& b)) :=
  bin_int hx hy fun w => by
    have e : (binOp .and T (vU16 a) (vU16 b)).run P w = .ok (.int .u16 (IntKind.u16.wrap (((BitVec.ofInt 16 (a.toNat : Int)) &&& (BitVec.ofInt 16 (b.toNat : Int))).toNat : Int))) w := rfl
    have ha := UInt16.toNat_lt a; have hb := UInt16.toNat_lt b
    have hl := UInt16.toNat_lt (a &&& b)
    refine e.trans ?_
    simp only [vU16, Result.ok.injEq, Value.int.injEq, true_and, and_true, wrap_u16, BitVec.ofInt_natCast, BitVec.toNat_and, BitVec.toNat_ofNat, UInt16.toNat_and] at *
    rw [Nat.mod_eq_of_lt ha, Nat.mod_eq_of_lt hb]; omega

theorem val_or_u16 {T V : TypeId} {x y : Operand} {a b : UInt16} (hx : ev F x = some (vU16 a)) (hy : ev F y = some (vU16 b)) : Val P n F S (.binOp .or T x y V) ty (vU16 (a ||| b)) :=
  bin_int hx hy fun w => by
    have e : (binOp .or T (vU16 a) (vU16 b)).run P w = .ok (.int .u16 (IntKind.u16.wrap (((BitVec.ofInt 16 (a.toNat : Int)) ||| (BitVec.ofInt 16 (b.toNat : Int))).toNat : Int))) w := rfl
    have ha := UInt16.toNat_lt a; have hb := UInt16.toNat_lt b
    have hl := UInt16.toNat_lt (a ||| b)
    refine e.trans ?_
    simp only [vU16, Result.ok.injEq, Value.int.injEq, true_and, and_true, wrap_u16, BitVec.ofInt_natCast, BitVec.toNat_or, BitVec.toNat_ofNat, UInt16.toNat_or] at *
    rw [Nat.mod_eq_of_lt ha, Nat.mod_eq_of_lt hb]; omega

theorem val_xor_u16 {T V : TypeId} {x y : Operand} {a b : UInt16} (hx : ev F x = some (vU16 a)) (hy : ev F y = some (vU16 b)) : Val P n F S (.binOp .xor T x y V) ty (vU16 (a ^^^ b)) :=
  bin_int hx hy fun w => by
    have e : (binOp .xor T (vU16 a) (vU16 b)).run P w = .ok (.int .u16 (IntKind.u16.wrap (((BitVec.ofInt 16 (a.toNat : Int)) ^^^ (BitVec.ofInt 16 (b.toNat : Int))).toNat : Int))) w := rfl
    have ha := UInt16.toNat_lt a; have hb := UInt16.toNat_lt b
    have hl := UInt16.toNat_lt (a ^^^ b)
    refine e.trans ?_
    simp only [vU16, Result.ok.injEq, Value.int.injEq, true_and, and_true, wrap_u16, BitVec.ofInt_natCast, BitVec.toNat_xor, BitVec.toNat_ofNat, UInt16.toNat_xor] at *
    rw [Nat.mod_eq_of_lt ha, Nat.mod_eq_of_lt hb]; omega

theorem val_compl_u16 {T : TypeId} {x : Operand} {a : UInt16} (hx : ev F x = some (vU16 a)) : Val P n F S (.unOp .xor T x) ty (vU16 (~~~ a)) :=
  fun s w hf _ d ps af g => by
    have e : (Op.unary .xor (vU16 a)).run P w = .ok (.int .u16 (IntKind.u16.wrap (((BitVec.allOnes 16) ^^^ (BitVec.ofInt 16 (a.toNat : Int))).toNat : Int))) w := rfl
    have ha := UInt16.toNat_lt a
    simp only [execOp, ev_eval hf hx, Sem.run_bind, e, Result.andThen_ok, Sem.run_pure]
    simp only [vU16, Result.ok.injEq, Next.value.injEq, Value.int.injEq, true_and, and_true, wrap_u16, BitVec.ofInt_natCast, BitVec.allOnes_xor, BitVec.toNat_not, BitVec.toNat_ofNat, UInt16.toNat_not]
    rw [Nat.mod_eq_of_lt ha]; simp only [UInt16.size]; omega

theorem val_eql_u16 {T V : TypeId} {x y : Operand} {a b : UInt16} (hx : ev F x = some (vU16 a)) (hy : ev F y = some (vU16 b)) : Val P n F S (.binOp .eql T x y V) ty (.bool (decide (a = b))) :=
  bin_int hx hy fun w => by
    simp only [binOp, Op.intCmp, vU16, ne_eq, not_true, if_false, Sem.run_pure, Result.ok.injEq, Value.bool.injEq, and_true]
    rw [Bool.eq_iff_iff]; simp only [beq_iff_eq, bne_iff_ne, ne_eq, decide_eq_true_eq, ← UInt16.toNat_inj]; omega

theorem val_neq_u16 {T V : TypeId} {x y : Operand} {a b : UInt16} (hx : ev F x = some (vU16 a)) (hy : ev F y = some (vU16 b)) : Val P n F S (.binOp .neq T x y V) ty (.bool (decide (a ≠ b))) :=
  bin_int hx hy fun w => by
    simp only [binOp, Op.intCmp, vU16, ne_eq, not_true, if_false, Sem.run_pure, Result.ok.injEq, Value.bool.injEq, and_true]
    rw [Bool.eq_iff_iff]; simp only [beq_iff_eq, bne_iff_ne, ne_eq, decide_eq_true_eq, ← UInt16.toNat_inj]; omega

theorem val_lss_u16 {T V : TypeId} {x y : Operand} {a b : UInt16} (hx : ev F x = some (vU16 a)) (hy : ev F y = some (vU16 b)) : Val P n F S (.binOp .lss T x y V) ty (.bool (decide (a < b))) :=
  bin_int hx hy fun w => by
    simp only [binOp, Op.intCmp, vU16, ne_eq, not_true, if_false, Sem.run_pure, Result.ok.injEq, Value.bool.injEq, and_true]
    rw [Bool.eq_iff_iff]; simp only [decide_eq_true_eq, UInt16.lt_iff_toNat_lt, gt_iff_lt]; omega

theorem val_leq_u16 {T V : TypeId} {x y : Operand} {a b : UInt16} (hx : ev F x = some (vU16 a)) (hy : ev F y = some (vU16 b)) : Val P n F S (.binOp .leq T x y V) ty (.bool (decide (a ≤ b))) :=
  bin_int hx hy fun w => by
    simp only [binOp, Op.intCmp, vU16, ne_eq, not_true, if_false, Sem.run_pure, Result.ok.injEq, Value.bool.injEq, and_true]
    rw [Bool.eq_iff_iff]; simp only [decide_eq_true_eq, UInt16.le_iff_toNat_le, ge_iff_le]; omega

theorem val_gtr_u16 {T V : TypeId} {x y : Operand} {a b : UInt16} (hx : ev F x = some (vU16 a)) (hy : ev F y = some (vU16 b)) : Val P n F S (.binOp .gtr T x y V) ty (.bool (decide (b < a))) :=
  bin_int hx hy fun w => by
    simp only [binOp, Op.intCmp, vU16, ne_eq, not_true, if_false, Sem.run_pure, Result.ok.injEq, Value.bool.injEq, and_true]
    rw [Bool.eq_iff_iff]; simp only [decide_eq_true_eq, UInt16.lt_iff_toNat_lt, gt_iff_lt]; omega

theorem val_geq_u16 {T V : TypeId} {x y : Operand} {a b : UInt16} (hx : ev F x = some (vU16 a)) (hy : ev F y = some (vU16 b)) : Val P n F S (.binOp .geq T x y V) ty (.bool (decide (b ≤ a))) :=
  bin_int hx hy fun w => by
    simp only [binOp, Op.intCmp, vU16, ne_eq, not_true, if_false, Sem.run_pure, Result.ok.injEq, Value.bool.injEq, and_true]
    rw [Bool.eq_iff_iff]; simp only [decide_eq_true_eq, UInt16.le_iff_toNat_le, ge_iff_le]; omega

theorem val_shl_u16 {T V : TypeId} {x y : Operand} {a : UInt16} {k' : IntKind} {i : Int} (c : Nat) (hx : ev F x = some (vU16 a)) (hy : ev F y = some (.int k' i)) (hi : i = (c : Int)) (hc : c < 16) : Val P n F S (.binOp .shl T x y V) ty (vU16 (a <<< UInt16.ofNat c)) :=
  bin_int hx hy fun w => by
    subst hi
    have h1 : ¬ ((c : Int) < 0) := by omega
    have h2 : min (Int.toNat (c : Int)) 16 = c := by simp; omega
    have h3 : (UInt16.ofNat c).toNat % 16 = c := by rw [UInt16.toNat_ofNat']; omega
    simp only [binOp, Op.shift, vU16, h1, if_false, IntKind.bits, h2, Sem.run_pure, Result.ok.injEq, Value.int.injEq, true_and, and_true, wrap_u16, UInt16.toNat_shiftLeft, h3, Nat.shiftLeft_eq]
    simp

theorem val_shr_u16 {T V : TypeId} {x y : Operand} {a : UInt16} {k' : IntKind} {i : Int} (c : Nat) (hx : ev F x = some (vU16 a)) (hy : ev F y = some (.int k' i)) (hi : i = (c : Int)) (hc : c < 16) : Val P n F S (.binOp .shr T x y V) ty (vU16 (a >>> UInt16.ofNat c)) :=
  bin_int hx hy fun w => by
    subst hi
    have h1 : ¬ ((c : Int) < 0) := by omega
    have h2 : min (Int.toNat (c : Int)) 16 = c := by simp; omega
    have h3 : (UInt16.ofNat c).toNat % 16 = c := by rw [UInt16.toNat_ofNat']; omega
    simp only [binOp, Op.shift, vU16, h1, if_false, IntKind.bits, h2, Sem.run_pure, Result.ok.injEq, Value.int.injEq, true_and, and_true, UInt16.toNat_shiftRight, h3, Nat.shiftRight_eq_div_pow]
    have h4 : (2 : Int) ^ c = ((2 ^ c : Nat) : Int) := by simp
    rw [h4, ← Int.ofNat_fdiv]

theorem val_quo_u16 {T V : TypeId} {x y : Operand} {a b : UInt16} (hx : ev F x = some (vU16 a)) (hy : ev F y = some (vU16 b)) (hb : b ≠ 0) : Val P n F S (.binOp .quo T x y V) ty (vU16 (a / b)) :=
  bin_int hx hy fun w => by
    have hb' : ¬ ((b.toNat : Int) = 0) := by intro h; apply hb; rw [← UInt16.toNat_inj]; simpa using h
    have ha := UInt16.toNat_lt a
    simp only [binOp, Op.intDiv, vU16, ne_eq, not_true, if_false, hb', Sem.run_pure, Result.ok.injEq, Value.int.injEq, true_and, and_true, wrap_u16, UInt16.toNat_div]
    rw [Int.tdiv_eq_ediv_of_nonneg (by omega)]; have : a.toNat / b.toNat ≤ a.toNat := Nat.div_le_self _ _; have e : (a.toNat : Int) / (b.toNat : Int) = ((a.toNat / b.toNat : Nat) : Int) := by simp
    rw [e]; generalize a.toNat / b.toNat = q at *; omega

theorem val_rem_u16 {T V : TypeId} {x y : Operand} {a b : UInt16} (hx : ev F x = some (vU16 a)) (hy : ev F y = some (vU16 b)) (hb : b ≠ 0) : Val P n F S (.binOp .rem T x y V) ty (vU16 (a % b)) :=
  bin_int hx hy fun w => by
    have hb' : ¬ ((b.toNat : Int) = 0) := by intro h; apply hb; rw [← UInt16.toNat_inj]; simpa using h
    have ha := UInt16.toNat_lt a
    simp only [binOp, Op.intDiv, vU16, ne_eq, not_true, if_false, hb', Sem.run_pure, Result.ok.injEq, Value.int.injEq, true_and, and_true, UInt16.toNat_mod]
    rw [Int.tmod_eq_emod_of_nonneg (by omega)]; simp

theorem val_add_u32 {T V : TypeId} {x y : Operand} {a b : UInt32} (hx : ev F x = some (vU32 a)) (hy : ev F y = some (vU32 b)) : Val P n F S (.binOp .add T x y V) ty (vU32 (a + b)) :=
  bin_int hx hy fun w => by
    simp only [binOp, Op.intArith, vU32, ne_eq, not_true, if_false, wrap_u32, UInt32.toNat_add, Sem.run_pure, Result.ok.injEq, Value.int.injEq, true_and, and_true]; omega

theorem val_sub_u32 {T V : TypeId} {x y : Operand} {a b : UInt32} (hx : ev F x = some (vU32 a)) (hy : ev F y = some (vU32 b)) : Val P n F S (.binOp .sub T x y V) ty (vU32 (a - b)) :=
  bin_int hx hy fun w => by
    simp only [binOp, Op.intArith, vU32, ne_eq, not_true, if_false, wrap_u32, UInt32.toNat_sub, Sem.run_pure, Result.ok.injEq, Value.int.injEq, true_and, and_true]; have := UInt32.toNat_lt a; have := UInt32.toNat_lt b; omega

theorem val_mul_u32 {T V : TypeId} {x y : Operand} {a b : UInt32} (hx : ev F x = some (vU32 a)) (hy : ev F y = some (vU32 b)) : Val P n F S (.binOp .mul T x y V) ty (vU32 (a * b)) :=
  bin_int hx hy fun w => by
    simp only [binOp, Op.intArith, vU32, ne_eq, not_true, if_false, wrap_u32, UInt32.toNat_mul, Sem.run_pure, Result.ok.injEq, Value.int.injEq, true_and, and_true]; simp

theorem val_and_u32 {T V : TypeId} {x y : Operand} {a b : UInt32} (hx : ev F x = some (vU32 a)) (hy : ev F y = some (vU32 b)) : Val P n F S (.binOp .and T x y V) ty (vU32 (a &&& b)) :=
  bin_int hx hy fun w => by
    have e : (binOp .and T (vU32 a) (vU32 b)).run P w = .ok (.int .u32 (IntKind.u32.wrap (((BitVec.ofInt 32 (a.toNat : Int)) &&& (BitVec.ofInt 32 (b.toNat : Int))).toNat : Int))) w := rfl
    have ha := UInt32.toNat_lt a; have hb := UInt32.toNat_lt b
    have hl := UInt32.toNat_lt (a &&& b)
    refine e.trans ?_
    simp only [vU32, Result.ok.injEq, Value.int.injEq, true_and, and_true, wrap_u32, BitVec.ofInt_natCast, BitVec.toNat_and, BitVec.toNat_ofNat, UInt32.toNat_and] at *
    rw [Nat.mod_eq_of_lt ha, Nat.mod_eq_of_lt hb]; omega

theorem val_or_u32 {T V : TypeId} {x y : Operand} {a b : UInt32} (hx : ev F x = some (vU32 a)) (hy : ev F y = some (vU32 b)) : Val P n F S (.binOp .or T x y V) ty (vU32 (a ||| b)) :=
  bin_int hx hy fun w => by
    have e : (binOp .or T (vU32 a) (vU32 b)).run P w = .ok (.int .u32 (IntKind.u32.wrap (((BitVec.ofInt 32 (a.toNat : Int)) ||| (BitVec.ofInt 32 (b.toNat : Int))).toNat : Int))) w := rfl
    have ha := UInt32.toNat_lt a; have hb := UInt32.toNat_lt b
    have hl := UInt32.toNat_lt (a ||| b)
    refine e.trans ?_
    simp only [vU32, Result.ok.injEq, Value.int.injEq, true_and, and_true, wrap_u32, BitVec.ofInt_natCast, BitVec.toNat_or, BitVec.toNat_ofNat, UInt32.toNat_or] at *
    rw [Nat.mod_eq_of_lt ha, Nat.mod_eq_of_lt hb]; omega

theorem val_xor_u32 {T V : TypeId} {x y : Operand} {a b : UInt32} (hx : ev F x = some (vU32 a)) (hy : ev F y = some (vU32 b)) : Val P n F S (.binOp .xor T x y V) ty (vU32 (a ^^^ b)) :=
  bin_int hx hy fun w => by
    have e : (binOp .xor T (vU32 a) (vU32 b)).run P w = .ok (.int .u32 (IntKind.u32.wrap (((BitVec.ofInt 32 (a.toNat : Int)) ^^^ (BitVec.ofInt 32 (b.toNat : Int))).toNat : Int))) w := rfl
    have ha := UInt32.toNat_lt a; have hb := UInt32.toNat_lt b
    have hl := UInt32.toNat_lt (a ^^^ b)
    refine e.trans ?_
    simp only [vU32, Result.ok.injEq, Value.int.injEq, true_and, and_true, wrap_u32, BitVec.ofInt_natCast, BitVec.toNat_xor, BitVec.toNat_ofNat, UInt32.toNat_xor] at *
    rw [Nat.mod_eq_of_lt ha, Nat.mod_eq_of_lt hb]; omega

theorem val_compl_u32 {T : TypeId} {x : Operand} {a : UInt32} (hx : ev F x = some (vU32 a)) : Val P n F S (.unOp .xor T x) ty (vU32 (~~~ a)) :=
  fun s w hf _ d ps af g => by
    have e : (Op.unary .xor (vU32 a)).run P w = .ok (.int .u32 (IntKind.u32.wrap (((BitVec.allOnes 32) ^^^ (BitVec.ofInt 32 (a.toNat : Int))).toNat : Int))) w := rfl
    have ha := UInt32.toNat_lt a
    simp only [execOp, ev_eval hf hx, Sem.run_bind, e, Result.andThen_ok, Sem.run_pure]
    simp only [vU32, Result.ok.injEq, Next.value.injEq, Value.int.injEq, true_and, and_true, wrap_u32, BitVec.ofInt_natCast, BitVec.allOnes_xor, BitVec.toNat_not, BitVec.toNat_ofNat, UInt32.toNat_not]
    rw [Nat.mod_eq_of_lt ha]; simp only [UInt32.size]; omega

theorem val_eql_u32 {T V : TypeId} {x y : Operand} {a b : UInt32} (hx : ev F x = some (vU32 a)) (hy : ev F y = some (vU32 b)) : Val P n F S (.binOp .eql T x y V) ty (.bool (decide (a = b))) :=
  bin_int hx hy fun w => by
    simp only [binOp, Op.intCmp, vU32, ne_eq, not_true, if_false, Sem.run_pure, Result.ok.injEq, Value.bool.injEq, and_true]
    rw [Bool.eq_iff_iff]; simp only [beq_iff_eq, bne_iff_ne, ne_eq, decide_eq_true_eq, ← UInt32.toNat_inj]; omega

theorem val_neq_u32 {T V : TypeId} {x y : Operand} {a b : UInt32} (hx : ev F x = some (vU32 a)) (hy : ev F y = some (vU32 b)) : Val P n F S (.binOp .neq T x y V) ty (.bool (decide (a ≠ b))) :=
  bin_int hx hy fun w => by
    simp only [binOp, Op.intCmp, vU32, ne_eq, not_true, if_false, Sem.run_pure, Result.ok.injEq, Value.bool.injEq, and_true]
    rw [Bool.eq_iff_iff]; simp only [beq_iff_eq, bne_iff_ne, ne_eq, decide_eq_true_eq, ← UInt32.toNat_inj]; omega

theorem val_lss_u32 {T V : TypeId} {x y : Operand} {a b : UInt32} (hx : ev F x = some (vU32 a)) (hy : ev F y = some (vU32 b)) : Val P n F S (.binOp .lss T x y V) ty (.bool (decide (a < b))) :=
  bin_int hx hy fun w => by
    simp only [binOp, Op.intCmp, vU32, ne_eq, not_true, if_false, Sem.run_pure, Result.ok.injEq, Value.bool.injEq, and_true]
    rw [Bool.eq_iff_iff]; simp only [decide_eq_true_eq, UInt32.lt_iff_toNat_lt, gt_iff_lt]; omega

theorem val_leq_u32 {T V : TypeId} {x y : Operand} {a b : UInt32} (hx : ev F x = some (vU32 a)) (hy : ev F y = some (vU32 b)) : Val P n F S (.binOp .leq T x y V) ty (.bool (decide (a ≤ b))) :=
  bin_int hx hy fun w => by
    simp only [binOp, Op.intCmp, vU32, ne_eq, not_true, if_false, Sem.run_pure, Result.ok.injEq, Value.bool.injEq, and_true]
    rw [Bool.eq_iff_iff]; simp only [decide_eq_true_eq, UInt32.le_iff_toNat_le, ge_iff_le]; omega

theorem val_gtr_u32 {T V : TypeId} {x y : Operand} {a b : UInt32} (hx : ev F x = some (vU32 a)) (hy : ev F y = some (vU32 b)) : Val P n F S (.binOp .gtr T x y V) ty (.bool (decide (b < a))) :=
  bin_int hx hy fun w => by
    simp only [binOp, Op.intCmp, vU32, ne_eq, not_true, if_false, Sem.run_pure, Result.ok.injEq, Value.bool.injEq, and_true]
    rw [Bool.eq_iff_iff]; simp only [decide_eq_true_eq, UInt32.lt_iff_toNat_lt, gt_iff_lt]; omega

theorem val_geq_u32 {T V : TypeId} {x y : Operand} {a b : UInt32} (hx : ev F x = some (vU32 a)) (hy : ev F y = some (vU32 b)) : Val P n F S (.binOp .geq T x y V) ty (.bool (decide (b ≤ a))) :=
  bin_int hx hy fun w => by
    simp only [binOp, Op.intCmp, vU32, ne_eq, not_true, if_false, Sem.run_pure, Result.ok.injEq, Value.bool.injEq, and_true]
    rw [Bool.eq_iff_iff]; simp only [decide_eq_true_eq, UInt32.le_iff_toNat_le, ge_iff_le]; omega

theorem val_shl_u32 {T V : TypeId} {x y : Operand} {a : UInt32} {k' : IntKind} {i : Int} (c : Nat) (hx : ev F x = some (vU32 a)) (hy : ev F y = some (.int k' i)) (hi : i = (c : Int)) (hc : c < 32) : Val P n F S (.binOp .shl T x y V) ty (vU32 (a <<< UInt32.ofNat c)) :=
  bin_int hx hy fun w => by
    subst hi
    have h1 : ¬ ((c : Int) < 0) := by omega
    have h2 : min (Int.toNat (c : Int)) 32 = c := by simp; omega
    have h3 : (UInt32.ofNat c).toNat % 32 = c := by rw [UInt32.toNat_ofNat']; omega
    simp only [binOp, Op.shift, vU32, h1, if_false, IntKind.bits, h2, Sem.run_pure, Result.ok.injEq, Value.int.injEq, true_and, and_true, wrap_u32, UInt32.toNat_shiftLeft, h3, Nat.shiftLeft_eq]
    simp

theorem val_shr_u32 {T V : TypeId} {x y : Operand} {a : UInt32} {k' : IntKind} {i : Int} (c : Nat) (hx : ev F x = some (vU32 a)) (hy : ev F y = some (.int k' i)) (hi : i = (c : Int)) (hc : c < 32) : Val P n F S (.binOp .shr T x y V) ty (vU32 (a >>> UInt32.ofNat c)) :=
  bin_int hx hy fun w => by
    subst hi
    have h1 : ¬ ((c : Int) < 0) := by omega
    have h2 : min (Int.toNat (c : Int)) 32 = c := by simp; omega
    have h3 : (UInt32.ofNat c).toNat % 32 = c := by rw [UInt32.toNat_ofNat']; omega
    simp only [binOp, Op.shift, vU32, h1, if_false, IntKind.bits, h2, Sem.run_pure, Result.ok.injEq, Value.int.injEq, true_and, and_true, UInt32.toNat_shiftRight, h3, Nat.shiftRight_eq_div_pow]
    have h4 : (2 : Int) ^ c = ((2 ^ c : Nat) : Int) := by simp
    rw [h4, ← Int.ofNat_fdiv]

theorem val_quo_u32 {T V : TypeId} {x y : Operand} {a b : UInt32} (hx : ev F x = some (vU32 a)) (hy : ev F y = some (vU32 b)) (hb : b ≠ 0) : Val P n F S (.binOp .quo T x y V) ty (vU32 (a / b)) :=
  bin_int hx hy fun w => by
    have hb' : ¬ ((b.toNat : Int) = 0) := by intro h; apply hb; rw [← UInt32.toNat_inj]; simpa using h
    have ha := UInt32.toNat_lt a
    simp only [binOp, Op.intDiv, vU32, ne_eq, not_true, if_false, hb', Sem.run_pure, Result.ok.injEq, Value.int.injEq, true_and, and_true, wrap_u32, UInt32.toNat_div]
    rw [Int.tdiv_eq_ediv_of_nonneg (by omega)]; have : a.toNat / b.toNat ≤ a.toNat := Nat.div_le_self _ _; have e : (a.toNat : Int) / (b.toNat : Int) = ((a.toNat / b.toNat : Nat) : Int) := by simp
    rw [e]; generalize a.toNat / b.toNat = q at *; omega

theorem val_rem_u32 {T V : TypeId} {x y : Operand} {a b : UInt32} (hx : ev F x = some (vU32 a)) (hy : ev F y = some (vU32 b)) (hb : b ≠ 0) : Val P n F S (.binOp .rem T x y V) ty (vU32 (a % b)) :=
  bin_int hx hy fun w => by
    have hb' : ¬ ((b.toNat : Int) = 0) := by intro h; apply hb; rw [← UInt32.toNat_inj]; simpa using h
    have ha := UInt32.toNat_lt a
    simp only [binOp, Op.intDiv, vU32, ne_eq, not_true, if_false, hb', Sem.run_pure, Result.ok.injEq, Value.int.injEq, true_and, and_true, UInt32.toNat_mod]
    rw [Int.tmod_eq_emod_of_nonneg (by omega)]; simp

theorem val_add_u64 {T V : TypeId} {x y : Operand} {a b : UInt64} (hx : ev F x = some (vU64 a)) (hy : ev F y = some (vU64 b)) : Val P n F S (.binOp .add T x y V) ty (vU64 (a + b)) :=
  bin_int hx hy fun w => by
    simp only [binOp, Op.intArith, vU64, ne_eq, not_true, if_false, wrap_u64, UInt64.toNat_add, Sem.run_pure, Result.ok.injEq, Value.int.injEq, true_and, and_true]; omega

theorem val_sub_u64 {T V : TypeId} {x y : Operand} {a b : UInt64} (hx : ev F x = some (vU64 a)) (hy : ev F y = some (vU64 b)) : Val P n F S (.binOp .sub T x y V) ty (vU64 (a - b)) :=
  bin_int hx hy fun w => by
    simp only [binOp, Op.intArith, vU64, ne_eq, not_true, if_false, wrap_u64, UInt64.toNat_sub, Sem.run_pure, Result.ok.injEq, Value.int.injEq, true_and, and_true]; have := UInt64.toNat_lt a; have := UInt64.toNat_lt b; omega

theorem val_mul_u64 {T V : TypeId} {x y : Operand} {a b : UInt64} (hx : ev F x = some (vU64 a)) (hy : ev F y = some (vU64 b)) : Val P n F S (.binOp .mul T x y V) ty (vU64 (a * b)) :=
  bin_int hx hy fun w => by
    simp only [binOp, Op.intArith, vU64, ne_eq, not_true, if_false, wrap_u64, UInt64.toNat_mul, Sem.run_pure, Result.ok.injEq, Value.int.injEq, true_and, and_true]; simp

theorem val_and_u64 {T V : TypeId} {x y : Operand} {a b : UInt64} (hx : ev F x = some (vU64 a)) (hy : ev F y = some (vU64 b)) : Val P n F S (.binOp .and T x y V) ty (vU64 (a &&& b)) :=
  bin_int hx hy fun w => by
    have e : (binOp .and T (vU64 a) (vU64 b)).run P w = .ok (.int .u64 (IntKind.u64.wrap (((BitVec.ofInt 64 (a.toNat : Int)) &&& (BitVec.ofInt 64 (b.toNat : Int))).toNat : Int))) w := rfl
    have ha := UInt64.toNat_lt a; have hb := UInt64.toNat_lt b
    have hl := UInt64.toNat_lt (a &&& b)
    refine e.trans ?_
    simp only [vU64, Result.ok.injEq, Value.int.injEq, true_and, and_true, wrap_u64, BitVec.ofInt_natCast, BitVec.toNat_and, BitVec.toNat_ofNat, UInt64.toNat_and] at *
    rw [Nat.mod_eq_of_lt ha, Nat.mod_eq_of_lt hb]; omega

theorem val_or_u64 {T V : TypeId} {x y : Operand} {a b : UInt64} (hx : ev F x = some (vU64 a)) (hy : ev F y = some (vU64 b)) : Val P n F S (.binOp .or T x y V) ty (vU64 (a ||| b)) :=
  bin_int hx hy fun w => by
    have e : (binOp .or T (vU64 a) (vU64 b)).run P w = .ok (.int .u64 (IntKind.u64.wrap (((BitVec.ofInt 64 (a.toNat : Int)) ||| (BitVec.ofInt 64 (b.toNat : Int))).toNat : Int))) w := rfl
    have ha := UInt64.toNat_lt a; have hb := UInt64.toNat_lt b
    have hl := UInt64.toNat_lt (a ||| b)
    refine e.trans ?_
    simp only [vU64, Result.ok.injEq, Value.int.injEq, true_and, and_true, wrap_u64, BitVec.ofInt_natCast, BitVec.toNat_or, BitVec.toNat_ofNat, UInt64.toNat_or] at *
    rw [Nat.mod_eq_of_lt ha, Nat.mod_eq_of_lt hb]; omega

theorem val_xor_u64 {T V : TypeId} {x y : Operand} {a b : UInt64} (hx : ev F x = some (vU64 a)) (hy : ev F y = some (vU64 b)) : Val P n F S (.binOp .xor T x y V) ty (vU64 (a ^^^ b)) :=
  bin_int hx hy fun w => by
    have e : (binOp .xor T (vU64 a) (vU64 b)).run P w = .ok (.int .u64 (IntKind.u64.wrap (((BitVec.ofInt 64 (a.toNat : Int)) ^^^ (BitVec.ofInt 64 (b.toNat : Int))).toNat : Int))) w := rfl
    have ha := UInt64.toNat_lt a; have hb := UInt64.toNat_lt b
    have hl := UInt64.toNat_lt (a ^^^ b)
    refine e.trans ?_
    simp only [vU64, Result.ok.injEq, Value.int.injEq, true_and, and_true, wrap_u64, BitVec.ofInt_natCast, BitVec.toNat_xor, BitVec.toNat_ofNat, UInt64.toNat_xor] at *
    rw [Nat.mod_eq_of_lt ha, Nat.mod_eq_of_lt hb]; omega

theorem val_compl_u64 {T : TypeId} {x : Operand} {a : UInt64} (hx : ev F x = some (vU64 a)) : Val P n F S (.unOp .xor T x) ty (vU64 (~~~ a)) :=
  fun s w hf _ d ps af g => by
    have e : (Op.unary .xor (vU64 a)).run P w = .ok (.int .u64 (IntKind.u64.wrap (((BitVec.allOnes 64) ^^^ (BitVec.ofInt 64 (a.toNat : Int))).toNat : Int))) w := rfl
    have ha := UInt64.toNat_lt a
    simp only [execOp, ev_eval hf hx, Sem.run_bind, e, Result.andThen_ok, Sem.run_pure]
    simp only [vU64, Result.ok.injEq, Next.value.injEq, Value.int.injEq, true_and, and_true, wrap_u64, BitVec.ofInt_natCast, BitVec.allOnes_xor, BitVec.toNat_not, BitVec.toNat_ofNat, UInt64.toNat_not]
    rw [Nat.mod_eq_of_lt ha]; simp only [UInt64.size]; omega

theorem val_eql_u64 {T V : TypeId} {x y : Operand} {a b : UInt64} (hx : ev F x = some (vU64 a)) (hy : ev F y = some (vU64 b)) : Val P n F S (.binOp .eql T x y V) ty (.bool (decide (a = b))) :=
  bin_int hx hy fun w => by
    simp only [binOp, Op.intCmp, vU64, ne_eq, not_true, if_false, Sem.run_pure, Result.ok.injEq, Value.bool.injEq, and_true]
    rw [Bool.eq_iff_iff]; simp only [beq_iff_eq, bne_iff_ne, ne_eq, decide_eq_true_eq, ← UInt64.toNat_inj]; omega

theorem val_neq_u64 {T V : TypeId} {x y : Operand} {a b : UInt64} (hx : ev F x = some (vU64 a)) (hy : ev F y = some (vU64 b)) : Val P n F S (.binOp .neq T x y V) ty (.bool (decide (a ≠ b))) :=
  bin_int hx hy fun w => by
    simp only [binOp, Op.intCmp, vU64, ne_eq, not_true, if_false, Sem.run_pure, Result.ok.injEq, Value.bool.injEq, and_true]
    rw [Bool.eq_iff_iff]; simp only [beq_iff_eq, bne_iff_ne, ne_eq, decide_eq_true_eq, ← UInt64.toNat_inj]; omega

theorem val_lss_u64 {T V : TypeId} {x y : Operand} {a b : UInt64} (hx : ev F x = some (vU64 a)) (hy : ev F y = some (vU64 b)) : Val P n F S (.binOp .lss T x y V) ty (.bool (decide (a < b))) :=
  bin_int hx hy fun w => by
    simp only [binOp, Op.intCmp, vU64, ne_eq, not_true, if_false, Sem.run_pure, Result.ok.injEq, Value.bool.injEq, and_true]
    rw [Bool.eq_iff_iff]; simp only [decide_eq_true_eq, UInt64.lt_iff_toNat_lt, gt_iff_lt]; omega

theorem val_leq_u64 {T V : TypeId} {x y : Operand} {a b : UInt64} (hx : ev F x = some (vU64 a)) (hy : ev F y = some (vU64 b)) : Val P n F S (.binOp .leq T x y V) ty (.bool (decide (a ≤ b))) :=
  bin_int hx hy fun w => by
    simp only [binOp, Op.intCmp, vU64, ne_eq, not_true, if_false, Sem.run_pure, Result.ok.injEq, Value.bool.injEq, and_true]
    rw [Bool.eq_iff_iff]; simp only [decide_eq_true_eq, UInt64.le_iff_toNat_le, ge_iff_le]; omega

theorem val_gtr_u64 {T V : TypeId} {x y : Operand} {a b : UInt64} (hx : ev F x = some (vU64 a)) (hy : ev F y = some (vU64 b)) : Val P n F S (.binOp .gtr T x y V) ty (.bool (decide (b < a))) :=
  bin_int hx hy fun w => by
    simp only [binOp, Op.intCmp, vU64, ne_eq, not_true, if_false, Sem.run_pure, Result.ok.injEq, Value.bool.injEq, and_true]
    rw [Bool.eq_iff_iff]; simp only [decide_eq_true_eq, UInt64.lt_iff_toNat_lt, gt_iff_lt]; omega

theorem val_geq_u64 {T V : TypeId} {x y : Operand} {a b : UInt64} (hx : ev F x = some (vU64 a)) (hy : ev F y = some (vU64 b)) : Val P n F S (.binOp .geq T x y V) ty (.bool (decide (b ≤ a))) :=
  bin_int hx hy fun w => by
    simp only [binOp, Op.intCmp, vU64, ne_eq, not_true, if_false, Sem.run_pure, Result.ok.injEq, Value.bool.injEq, and_true]
    rw [Bool.eq_iff_iff]; simp only [decide_eq_true_eq, UInt64.le_iff_toNat_le, ge_iff_le]; omega

theorem val_shl_u64 {T V : TypeId} {x y : Operand} {a : UInt64} {k' : IntKind} {i : Int} (c : Nat) (hx : ev F x = some (vU64 a)) (hy : ev F y = some (.int k' i)) (hi : i = (c : Int)) (hc : c < 64) : Val P n F S (.binOp .shl T x y V) ty (vU64 (a <<< UInt64.ofNat c)) :=
  bin_int hx hy fun w => by
    subst hi
    have h1 : ¬ ((c : Int) < 0) := by omega
    have h2 : min (Int.toNat (c : Int)) 64 = c := by simp; omega
    have h3 : (UInt64.ofNat c).toNat % 64 = c := by rw [UInt64.toNat_ofNat']; omega
    simp only [binOp, Op.shift, vU64, h1, if_false, IntKind.bits, h2, Sem.run_pure, Result.ok.injEq, Value.int.injEq, true_and, and_true, wrap_u64, UInt64.toNat_shiftLeft, h3, Nat.shiftLeft_eq]
    simp

theorem val_shr_u64 {T V : TypeId} {x y : Operand} {a : UInt64} {k' : IntKind} {i : Int} (c : Nat) (hx : ev F x = some (vU64 a)) (hy : ev F y = some (.int k' i)) (hi : i = (c : Int)) (hc : c < 64) : Val P n F S (.binOp .shr T x y V) ty (vU64 (a >>> UInt64.ofNat c)) :=
  bin_int hx hy fun w => by
    subst hi
    have h1 : ¬ ((c : Int) < 0) := by omega
    have h2 : min (Int.toNat (c : Int)) 64 = c := by simp; omega
    have h3 : (UInt64.ofNat c).toNat % 64 = c := by rw [UInt64.toNat_ofNat']; omega
    simp only [binOp, Op.shift, vU64, h1, if_false, IntKind.bits, h2, Sem.run_pure, Result.ok.injEq, Value.int.injEq, true_and, and_true, UInt64.toNat_shiftRight, h3, Nat.shiftRight_eq_div_pow]
    have h4 : (2 : Int) ^ c = ((2 ^ c : Nat) : Int) := by simp
    rw [h4, ← Int.ofNat_fdiv]

theorem val_quo_u64 {T V : TypeId} {x y : Operand} {a b : UInt64} (hx : ev F x = some (vU64 a)) (hy : ev F y = some (vU64 b)) (hb : b ≠ 0) : Val P n F S (.binOp .quo T x y V) ty (vU64 (a / b)) :=
  bin_int hx hy fun w => by
    have hb' : ¬ ((b.toNat : Int) = 0) := by intro h; apply hb; rw [← UInt64.toNat_inj]; simpa using h
    have ha := UInt64.toNat_lt a
    simp only [binOp, Op.intDiv, vU64, ne_eq, not_true, if_false, hb', Sem.run_pure, Result.ok.injEq, Value.int.injEq, true_and, and_true, wrap_u64, UInt64.toNat_div]
    rw [Int.tdiv_eq_ediv_of_nonneg (by omega)]; have : a.toNat / b.toNat ≤ a.toNat := Nat.div_le_self _ _; have e : (a.toNat : Int) / (b.toNat : Int) = ((a.toNat / b.toNat : Nat) : Int) := by simp
    rw [e]; generalize a.toNat / b.toNat = q at *; omega

theorem val_rem_u64 {T V : TypeId} {x y : Operand} {a b : UInt64} (hx : ev F x = some (vU64 a)) (hy : ev F y = some (vU64 b)) (hb : b ≠ 0) : Val P n F S (.binOp .rem T x y V) ty (vU64 (a % b)) :=
  bin_int hx hy fun w => by
    have hb' : ¬ ((b.toNat : Int) = 0) := by intro h; apply hb; rw [← UInt64.toNat_inj]; simpa using h
    have ha := UInt64.toNat_lt a
    simp only [binOp, Op.intDiv, vU64, ne_eq, not_true, if_false, hb', Sem.run_pure, Result.ok.injEq, Value.int.injEq, true_and, and_true, UInt64.toNat_mod]
    rw [Int.tmod_eq_emod_of_nonneg (by omega)]; simp
end
end Go.Sx
