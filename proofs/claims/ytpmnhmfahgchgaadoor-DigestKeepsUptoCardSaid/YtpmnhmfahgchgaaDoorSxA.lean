import Derived.Calls
import Derived.Tactics
import Derived.Orders
import Derived.Still
import Derived.Laws.World
import Derived.Laws.Sem
import Derived.WalkKit
set_option linter.unusedVariables false
set_option linter.unusedSimpArgs false
namespace Go.Sx

/-- A symbolic frame: what is known of the slots, the newest first. -/
abbrev Fr := List (Nat × Value)

def look : Fr → Nat → Option Value
  | [], _ => none
  | (k, v) :: r, t => bif Nat.beq k t then some v else look r t

structure Fits (n : Nat) (F : Fr) (a : Act) : Prop where
  defers : a.defers = []
  size : a.tmps.size = n
  has : ∀ t v, look F t = some v → a.tmps[t]? = some v

/-! Values by kind. -/
def vU8 (x : UInt8) : Value := .int .u8 (x.toNat : Int)
def vU16 (x : UInt16) : Value := .int .u16 (x.toNat : Int)
def vU32 (x : UInt32) : Value := .int .u32 (x.toNat : Int)
def vU64 (x : UInt64) : Value := .int .u64 (x.toNat : Int)
def vInt (x : Int) : Value := .int .i64 x

/-- A constant, by its kind. -/
def cst : Value → Value
  | .int .u8 n => bif (decide (0 ≤ n) && decide (n < 256)) then vU8 (UInt8.ofNat n.toNat) else .int .u8 n
  | .int .u16 n => bif (decide (0 ≤ n) && decide (n < 65536)) then vU16 (UInt16.ofNat n.toNat) else .int .u16 n
  | .int .u32 n => bif (decide (0 ≤ n) && decide (n < 4294967296)) then vU32 (UInt32.ofNat n.toNat) else .int .u32 n
  | .int .u64 n => bif (decide (0 ≤ n) && decide (n < 18446744073709551616)) then vU64 (UInt64.ofNat n.toNat) else .int .u64 n
  | .int .i64 n => vInt n
  | v => v

theorem cst_eq (v : Value) : cst v = v := by
  cases v with
  | int k n =>
    cases k <;> simp only [cst]
    case u8 => 
      cases h : (decide (0 ≤ n) && decide (n < 256)) <;> simp only [cond_true, cond_false]
      simp only [Bool.and_eq_true, decide_eq_true_eq] at h
      simp only [vU8, Value.int.injEq, true_and, UInt8.toNat_ofNat']; omega
    case u16 => 
      cases h : (decide (0 ≤ n) && decide (n < 65536)) <;> simp only [cond_true, cond_false]
      simp only [Bool.and_eq_true, decide_eq_true_eq] at h
      simp only [vU16, Value.int.injEq, true_and, UInt16.toNat_ofNat']; omega
    case u32 => 
      cases h : (decide (0 ≤ n) && decide (n < 4294967296)) <;> simp only [cond_true, cond_false]
      simp only [Bool.and_eq_true, decide_eq_true_eq] at h
      simp only [vU32, Value.int.injEq, true_and, UInt32.toNat_ofNat']; omega
    case u64 => 
      cases h : (decide (0 ≤ n) && decide (n < 18446744073709551616)) <;> simp only [cond_true, cond_false]
      simp only [Bool.and_eq_true, decide_eq_true_eq] at h
      simp only [vU64, Value.int.injEq, true_and, UInt64.toNat_ofNat']; omega
    all_goals rfl
  | _ => rfl

/-- What an operand is. -/
def ev (F : Fr) : Operand → Option Value
  | .tmp t => look F t
  | .const v => some (cst v)
  | .global g => some (.pointer (some ⟨g, 0, none⟩))
  | .func f => some (.func (.func f) #[] #[])

theorem ev_eval {n : Nat} {F : Fr} {a : Act} {x : Operand} {v : Value} (h : Fits n F a) (he : ev F x = some v) : a.eval x = v := by
  cases x with
  | tmp t =>
    have := h.has t v he
    simp only [Act.eval, Array.getD_eq_getD_getElem?, this, Option.getD_some]
  | const c => simp only [ev, Option.some.injEq] at he; rw [← he]; exact (cst_eq c).symm
  | global g => simp only [ev, Option.some.injEq] at he; exact he
  | func f => simp only [ev, Option.some.injEq] at he; exact he

theorem look_cons_self (F : Fr) (t : Nat) (v : Value) : look ((t, v) :: F) t = some v := by
  simp [look]

theorem Fits.put {n : Nat} {F : Fr} {a : Act} (h : Fits n F a) {t : Nat} (ht : Nat.blt t n = true) (v : Value) : Fits n ((t, v) :: F) (a.put (some t) v) := by
  have ht' : t < n := by simpa [Nat.blt, Nat.succ_le_iff] using ht
  refine ⟨h.defers, by simp [Act.put, h.size], fun u x hu => ?_⟩
  simp only [Act.put]
  by_cases e : t = u
  · subst e
    simp [look] at hu
    subst hu
    simp [h.size, ht']
  · have : Nat.beq t u = false := by
      cases h : Nat.beq t u with
      | false => rfl
      | true => exact absurd (Nat.eq_of_beq_eq_true h) e
    simp only [look, this, cond_false] at hu
    rw [Array.getElem?_setIfInBounds_ne e]
    exact h.has u x hu

theorem Fits.putNone {n : Nat} {F : Fr} {a : Act} (h : Fits n F a) (v : Value) : Fits n F (a.put none v) := h

/-- Fewer facts. -/
def Sub : Fr → Fr → Prop
  | [], _ => True
  | (t, v) :: r, F => look F t = some v ∧ Sub r F

theorem Sub.has : ∀ {G F : Fr}, Sub G F → ∀ t v, look G t = some v → look F t = some v
  | [], _, _, _, _, h => by simp [look] at h
  | (k, x) :: r, F, hs, t, v, h => by
    simp only [look] at h
    cases e : Nat.beq k t with
    | true =>
      have e' : k = t := Nat.eq_of_beq_eq_true e
      rw [e] at h; simp only [cond_true, Option.some.injEq] at h
      subst h; subst e'; exact hs.1
    | false => rw [e] at h; simp only [cond_false] at h; exact hs.2.has t v h

theorem Fits.sub {n : Nat} {F G : Fr} {a : Act} (h : Fits n F a) (hs : Sub G F) : Fits n G a :=
  ⟨h.defers, h.size, fun t v hg => h.has t v (hs.has t v hg)⟩

section
variable {P : Program} {n : Nat}

/-- What is asked at an exit, of what is known of frame and world. -/
abbrev Po := Exit → Fr → World → Prop

def real (n : Nat) (Q : Po) : Exit → Act → World → Prop := fun e a w => ∃ F, Fits n F a ∧ Q e F w

/-- From each frame that fits F and each world of M the code comes to Q. -/
def SW (P : Program) (n : Nat) (c : Code) (F : Fr) (M : World → Prop) (Q : Po) : Prop :=
  ∀ a w, Fits n F a → M w → c.wp P (real n Q) a w

def OW (P : Program) (n : Nat) (ops : Array Oper) (l : List Oper) (F : Fr) (M : World → Prop) (Q : Po) : Prop :=
  ∀ a w, Fits n F a → M w → wpList P ops (real n Q) l a w

theorem SW.mono {c : Code} {F : Fr} {M : World → Prop} {Q Q' : Po} (h : SW P n c F M Q) (hq : ∀ e F w, Q e F w → Q' e F w) : SW P n c F M Q' :=
  fun a w hf hm => wp_mono (h a w hf hm) fun e _ w' ⟨F', hf', hQ⟩ => ⟨F', hf', hq e F' w' hQ⟩

/-- Less known. -/
theorem SW.weaken {c : Code} {F G : Fr} {M M' : World → Prop} {Q : Po} (hs : Sub G F) (hm : ∀ w, M w → M' w) (h : SW P n c G M' Q) : SW P n c F M Q :=
  fun a w hf hw => h a w (hf.sub hs) (hm w hw)

/-- The world taken up by name. -/
theorem SW.world {c : Code} {F : Fr} {M : World → Prop} {Q : Po} (h : ∀ w, M w → SW P n c F (· = w) Q) : SW P n c F M Q :=
  fun a w hf hw => h w hw a w hf rfl

theorem SW.of_false {c : Code} {F : Fr} {M : World → Prop} {Q : Po} (h : ∀ w, M w → False) : SW P n c F M Q :=
  fun _ w _ hw => (h w hw).elim

def thenP (N : Fr → World → Prop) (Q : Po) : Po
  | .normal, F, w => N F w
  | e, F, w => Q e F w

/-- x; y: the middle said outright. -/
theorem sw_seq_mid {x y : Code} {F : Fr} {M : World → Prop} {Q : Po} (N : Fr → World → Prop) (hx : SW P n x F M (thenP N Q))
    (hy : ∀ F' w, N F' w → SW P n y F' (· = w) Q) : SW P n (.seq x y) F M Q := by
  intro a w hf hm
  refine wp_seq (wp_mono (hx a w hf hm) ?_)
  rintro e a' w' ⟨F', hf', hq⟩
  cases e with
  | normal => exact hy F' w' hq a' w' hf' rfl
  | _ => exact ⟨F', hf', hq⟩

/-- x; y: y from wherever x comes out. -/
theorem sw_seq {x y : Code} {F : Fr} {M : World → Prop} {Q : Po} (hx : SW P n x F M (thenP (fun F' w' => SW P n y F' (· = w') Q) Q)) : SW P n (.seq x y) F M Q :=
  sw_seq_mid _ hx fun _ _ h => h

/-- What follows: code still to come, with the frames and worlds in which it is walked. -/
theorem sw_skip {F : Fr} {M : World → Prop} {Q : Po} (h : ∀ w, M w → Q .normal F w) : SW P n .skip F M Q :=
  fun _ w hf hm => wp_skip ⟨F, hf, h w hm⟩
theorem sw_label {l : Nat} {F : Fr} {M : World → Prop} {Q : Po} (h : ∀ w, M w → Q .normal F w) : SW P n (.label l) F M Q :=
  fun _ w hf hm => wp_label ⟨F, hf, h w hm⟩
theorem sw_exit {id : Nat} {F : Fr} {M : World → Prop} {Q : Po} (h : ∀ w, M w → Q (.exit id) F w) : SW P n (.exit id) F M Q :=
  fun _ w hf hm => wp_exit ⟨F, hf, h w hm⟩
theorem sw_ret {F : Fr} {M : World → Prop} {Q : Po} (h : ∀ w, M w → Q .ret F w) : SW P n .ret F M Q :=
  fun _ w hf hm => wp_ret ⟨F, hf, h w hm⟩

theorem sw_cond {c : Operand} {x y : Code} {b : Bool} {F : Fr} {M : World → Prop} {Q : Po} (hc : ev F c = some (.bool b))
    (ht : b = true → SW P n x F M Q) (hf : b = false → SW P n y F M Q) : SW P n (.cond c x y) F M Q :=
  fun a w hfit hm => wp_cond_split (ev_eval hfit hc) (fun e => ht e a w hfit hm) (fun e => hf e a w hfit hm)
/-- The test as a proposition. -/
theorem sw_if {c : Operand} {x y : Code} {p : Prop} [Decidable p] {F : Fr} {M : World → Prop} {Q : Po} (hc : ev F c = some (.bool (decide p)))
    (ht : p → SW P n x F M Q) (hf : ¬ p → SW P n y F M Q) : SW P n (.cond c x y) F M Q :=
  sw_cond hc (fun e => ht (of_decide_eq_true e)) (fun e => hf (of_decide_eq_false e))
theorem sw_true {c : Operand} {x y : Code} {b : Bool} {F : Fr} {M : World → Prop} {Q : Po} (hc : ev F c = some (.bool b)) (hb : b = true)
    (ht : SW P n x F M Q) : SW P n (.cond c x y) F M Q :=
  sw_cond hc (fun _ => ht) (fun e => by rw [hb] at e; cases e)
theorem sw_false {c : Operand} {x y : Code} {b : Bool} {F : Fr} {M : World → Prop} {Q : Po} (hc : ev F c = some (.bool b)) (hb : b = false)
    (hf : SW P n y F M Q) : SW P n (.cond c x y) F M Q :=
  sw_cond hc (fun e => by rw [hb] at e; cases e) (fun _ => hf)

def blockP (id : Nat) (Q : Po) : Po
  | .exit id', F, w => bif Nat.beq id' id then Q .normal F w else Q (.exit id') F w
  | e, F, w => Q e F w

theorem sw_block {id : Nat} {c : Code} {F : Fr} {M : World → Prop} {Q : Po} (h : SW P n c F M (blockP id Q)) : SW P n (.block id c) F M Q := by
  intro a w hf hm
  refine wp_block (wp_mono (h a w hf hm) ?_)
  rintro e a' w' ⟨F', hf', hq⟩
  cases e with
  | exit id' =>
    simp only [Exit.inBlock]
    simp only [blockP] at hq
    by_cases hid : id' = id
    · subst hid; simp at hq ⊢; exact ⟨F', hf', hq⟩
    · have : Nat.beq id' id = false := by
        cases h : Nat.beq id' id with
        | false => rfl
        | true => exact absurd (Nat.eq_of_beq_eq_true h) hid
      rw [this] at hq; rw [if_neg hid]; exact ⟨F', hf', hq⟩
  | _ => exact ⟨F', hf', hq⟩

/-- A loop: at each round's head the state is told by some s. -/
theorem sw_loop {σ : Type} {c : Code} {F : Fr} {M : World → Prop} {Q : Po} (I : σ → Prop) (H : σ → Fr) (W : σ → World → Prop) (μ : σ → Nat)
    (s0 : σ) (h0 : I s0) (hF : Sub (H s0) F) (hM : ∀ w, M w → W s0 w)
    (round : ∀ s, I s → SW P n c (H s) (W s) (thenP (fun F' w' => ∃ s', I s' ∧ μ s' < μ s ∧ Sub (H s') F' ∧ W s' w') Q)) :
    SW P n (.loop c) F M Q := by
  intro a w hf hm b k cs
  have key : ∀ d s a w, μ s = d → I s → Fits n (H s) a → W s w →
      ∃ e a' w', real n Q e a' w' ∧ Arrives P (lone (b.at a (.code c :: .inLoop c :: k)) cs w) b k cs e a' w' := by
    intro d
    induction d using Nat.strongRecOn with
    | _ d ih =>
      intro s a w hd hI hfit hW
      obtain ⟨e, a₁, w₁, ⟨F', hf', hq⟩, harr⟩ := round s hI a w hfit hW b (.inLoop c :: k) cs
      cases e with
      | normal =>
        obtain ⟨s', hI', hlt, hs', hW'⟩ := hq
        obtain ⟨e₂, a₂, w₂, hq₂, harr₂⟩ := ih (μ s') (hd ▸ hlt) s' a₁ w₁ rfl hI' (hf'.sub hs') hW'
        exact ⟨e₂, a₂, w₂, hq₂, .of_steps (Steps.trans harr (.one step_inLoop)) harr₂⟩
      | exit id => exact ⟨_, a₁, w₁, ⟨F', hf', hq⟩, .pass (x := .inLoop c) rfl (fun _ _ => .inl (by simp)) harr⟩
      | goto l => exact ⟨_, a₁, w₁, ⟨F', hf', hq⟩, .pass (x := .inLoop c) rfl (fun _ _ => .inl (by simp)) harr⟩
      | ret => exact ⟨_, a₁, w₁, ⟨F', hf', hq⟩, .pass (x := .inLoop c) rfl (fun _ _ => .inl (by simp)) harr⟩
      | panic ch => exact ⟨_, a₁, w₁, ⟨F', hf', hq⟩, .pass (x := .inLoop c) rfl (fun _ _ => .inl (by simp)) harr⟩
      | outgrown => exact ⟨_, a₁, w₁, ⟨F', hf', hq⟩, .pass (x := .inLoop c) rfl (fun _ _ => .inl (by simp)) harr⟩
  obtain ⟨e, a', w', hq, harr⟩ := key _ s0 a w rfl h0 (hf.sub hF) (hM w hm)
  exact ⟨e, a', w', hq, .of_steps (.one step_loop) harr⟩

/-! Regions in the order of the text. -/
theorem sw_region {id : Nat} {l : List Oper} {F : Fr} {M : World → Prop} {Q : Po} (h : OW P n l.toArray l F M Q) : SW P n (.region id l.toArray false) F M Q :=
  fun a w hf hm => wp_region_lit (h a w hf hm)

theorem ow_nil {ops : Array Oper} {F : Fr} {M : World → Prop} {Q : Po} (h : ∀ w, M w → Q .normal F w) : OW P n ops [] F M Q :=
  fun _ w hf hm => ⟨F, hf, h w hm⟩

/-- The operation yields v, and leaves the world, in each world of S. -/
def Val (P : Program) (n : Nat) (F : Fr) (S : World → Prop) (op : Op) (ty : TypeId) (v : Value) : Prop :=
  ∀ a w, Fits n F a → S w → ∀ d ps af g, (execOp a.eval ⟨d, op, ty, ps, af, g⟩).run P w = .ok (.value v) w
/-- The operation yields a value and leaves a world as R says. -/
def Acts (P : Program) (n : Nat) (F : Fr) (S : World → Prop) (op : Op) (ty : TypeId) (R : World → Value → World → Prop) : Prop :=
  ∀ a w, Fits n F a → S w → ∀ d ps af g, ∃ v w', (execOp a.eval ⟨d, op, ty, ps, af, g⟩).run P w = .ok (.value v) w' ∧ R w v w'
/-- The operation yields nothing and leaves a world as R says. -/
def Does (P : Program) (n : Nat) (F : Fr) (S : World → Prop) (op : Op) (ty : TypeId) (R : World → World → Prop) : Prop :=
  ∀ a w, Fits n F a → S w → ∀ d ps af g, ∃ w', (execOp a.eval ⟨d, op, ty, ps, af, g⟩).run P w = .ok .skip w' ∧ R w w'
/-- The operation calls. -/
def CallsTo (P : Program) (n : Nat) (F : Fr) (S : World → Prop) (op : Op) (ty : TypeId) (f : FuncId) (args : Array Value) : Prop :=
  ∀ a w, Fits n F a → S w → ∀ d ps af g, (execOp a.eval ⟨d, op, ty, ps, af, g⟩).run P w = .ok (.enter f args) w

theorem Val.imp {F : Fr} {S S' : World → Prop} {op : Op} {ty : TypeId} {v : Value} (h : Val P n F S op ty v) (hs : ∀ w, S' w → S w) : Val P n F S' op ty v :=
  fun a w hf hw => h a w hf (hs w hw)

theorem ow_val {ops : Array Oper} {t : Nat} {op : Op} {ty : TypeId} {ps : String} {af : Array Edge} {rest : List Oper} {F : Fr} {M : World → Prop} {Q : Po} {v : Value}
    (hv : Val P n F M op ty v) (ht : Nat.blt t n = true)
    (h : OW P n ops rest ((t, v) :: F) M Q) : OW P n ops (⟨some t, op, ty, ps, af, none⟩ :: rest) F M Q := by
  intro a w hf hm
  refine wpList_plain rfl fun K hK => ?_
  unfold Oper.wp
  rw [hv a w hf hm]
  exact hK _ _ (h _ w (hf.put ht v) hm)

theorem ow_act {ops : Array Oper} {t : Nat} {op : Op} {ty : TypeId} {ps : String} {af : Array Edge} {rest : List Oper} {F : Fr} {M : World → Prop} {Q : Po}
    {R : World → Value → World → Prop} (hv : Acts P n F M op ty R) (ht : Nat.blt t n = true)
    (h : ∀ w v, M w → OW P n ops rest ((t, v) :: F) (R w v) Q) : OW P n ops (⟨some t, op, ty, ps, af, none⟩ :: rest) F M Q := by
  intro a w hf hm
  refine wpList_plain rfl fun K hK => ?_
  unfold Oper.wp
  obtain ⟨v, w', e, r⟩ := hv a w hf hm (some t) ps af none
  rw [e]
  exact hK _ _ (h w v hm _ w' (hf.put ht v) r)

theorem ow_do {ops : Array Oper} {op : Op} {ty : TypeId} {ps : String} {af : Array Edge} {rest : List Oper} {F : Fr} {M : World → Prop} {Q : Po}
    {R : World → World → Prop} (hv : Does P n F M op ty R)
    (h : ∀ w, M w → OW P n ops rest F (R w) Q) : OW P n ops (⟨none, op, ty, ps, af, none⟩ :: rest) F M Q := by
  intro a w hf hm
  refine wpList_plain rfl fun K hK => ?_
  unfold Oper.wp
  obtain ⟨w', e, r⟩ := hv a w hf hm none ps af none
  rw [e]
  exact hK _ _ (h w hm _ w' hf r)

theorem ow_call {ops : Array Oper} {t : Nat} {op : Op} {ty : TypeId} {ps : String} {af : Array Edge} {rest : List Oper} {F : Fr} {M : World → Prop} {Q : Po}
    {f : FuncId} {args : Array Value} (R : World → Value → World → Prop)
    (hv : CallsTo P n F M op ty f args) (ht : Nat.blt t n = true)
    (hc : ∀ w, M w → Calls P f args w fun e w' => ∃ v, e = .returned v ∧ R w v w')
    (h : ∀ w v, M w → OW P n ops rest ((t, v) :: F) (R w v) Q) : OW P n ops (⟨some t, op, ty, ps, af, none⟩ :: rest) F M Q := by
  intro a w hf hm
  refine wpList_plain rfl fun K hK => ?_
  unfold Oper.wp
  rw [hv a w hf hm]
  refine (hc w hm).mono ?_
  rintro e w' ⟨v, rfl, r⟩
  exact hK _ _ (h w v hm _ w' (hf.put ht v) r)

/-- A guarded operation that is wanted, or is not. -/
theorem ow_guard_yes {ops : Array Oper} {o : Oper} {j : Nat} {want : Bool} {rest : List Oper} {F : Fr} {M : World → Prop} {Q : Po} (hg : o.guard = some (j, want)) {t : Nat}
    (hd : ((ops[j]?).bind (·.dst)) = some t) (hy : look F t = some (.bool want))
    (h : OW P n ops ({ o with guard := none } :: rest) F M Q) : OW P n ops (o :: rest) F M Q := by
  intro a w hf hm
  have h1 := h a w hf hm
  unfold wpList at h1 ⊢
  have e : Region.wanted o (yielded ops a.tmps) = true := by
    simp only [Region.wanted, hg, yielded, hd, Option.bind_some, hf.has t _ hy]
    cases want <;> rfl
  rw [if_pos (by rfl)] at h1
  rw [if_pos e]
  cases o
  exact h1

theorem ow_guard_no {ops : Array Oper} {o : Oper} {j : Nat} {want : Bool} {rest : List Oper} {F : Fr} {M : World → Prop} {Q : Po} (hg : o.guard = some (j, want)) {t d : Nat}
    (hd : ((ops[j]?).bind (·.dst)) = some t) (hy : look F t = some (.bool (!want))) (hdst : o.dst = some d) (ht : Nat.blt d n = true)
    (h : OW P n ops rest ((d, undef) :: F) M Q) : OW P n ops (o :: rest) F M Q := by
  intro a w hf hm
  have h1 := h (a.put o.dst undef) w (by rw [hdst]; exact hf.put ht _) hm
  unfold wpList
  have e : Region.wanted o (yielded ops a.tmps) = false := by
    simp only [Region.wanted, hg, yielded, hd, Option.bind_some, hf.has t _ hy]
    cases want <;> rfl
  rw [e]
  simpa using h1
/-- The operation before was passed over (undef in its slot): this one is passed over too. -/
theorem ow_guard_none {ops : Array Oper} {o : Oper} {j : Nat} {want : Bool} {rest : List Oper} {F : Fr} {M : World → Prop} {Q : Po} (hg : o.guard = some (j, want)) {t d : Nat}
    (hd : ((ops[j]?).bind (·.dst)) = some t) (hy : look F t = some undef) (hdst : o.dst = some d) (ht : Nat.blt d n = true)
    (h : OW P n ops rest ((d, undef) :: F) M Q) : OW P n ops (o :: rest) F M Q := by
  intro a w hf hm
  have h1 := h (a.put o.dst undef) w (by rw [hdst]; exact hf.put ht _) hm
  unfold wpList
  have e : Region.wanted o (yielded ops a.tmps) = false := by
    simp only [Region.wanted, hg, yielded, hd, Option.bind_some, hf.has t _ hy, undef]
    cases want <;> rfl
  rw [e]
  simpa using h1
/-- A guarded operation without a slot (a store) that is not wanted. -/
theorem ow_guard_no' {ops : Array Oper} {o : Oper} {j : Nat} {want : Bool} {rest : List Oper} {F : Fr} {M : World → Prop} {Q : Po} (hg : o.guard = some (j, want)) {t : Nat}
    (hd : ((ops[j]?).bind (·.dst)) = some t) (hy : look F t = some (.bool (!want))) (hdst : o.dst = none)
    (h : OW P n ops rest F M Q) : OW P n ops (o :: rest) F M Q := by
  intro a w hf hm
  have h1 := h a w hf hm
  unfold wpList
  have e : Region.wanted o (yielded ops a.tmps) = false := by
    simp only [Region.wanted, hg, yielded, hd, Option.bind_some, hf.has t _ hy]
    cases want <;> rfl
  rw [e]
  simpa [hdst, Act.put] using h1

/-- The parameters' slots, known. -/
def slots : Nat → List Value → Fr
  | _, [] => []
  | i, v :: r => (i, v) :: slots (i + 1) r

theorem slots_look : ∀ (vs : List Value) (i t : Nat) (v : Value), look (slots i vs) t = some v → i ≤ t ∧ vs[t - i]? = some v
  | [], i, t, v, h => by simp [slots, look] at h
  | x :: r, i, t, v, h => by
    simp only [slots, look] at h
    cases e : Nat.beq i t with
    | true =>
      have e' : i = t := Nat.eq_of_beq_eq_true e
      rw [e] at h; simp only [cond_true, Option.some.injEq] at h
      subst e'; subst h; simp
    | false =>
      rw [e] at h; simp only [cond_false] at h
      obtain ⟨h1, h2⟩ := slots_look r (i + 1) t v h
      refine ⟨by omega, ?_⟩
      have : t - i = (t - (i + 1)) + 1 := by omega
      rw [this]; simpa using h2

/-- What a call hands back. -/
def Ret (P : Program) (fn : Func) (R : Value → World → Prop) : Po := fun e F w =>
  match e with
  | .normal | .ret => ∃ v, (∀ a, Fits fn.ntmps F a → (results fn a.tmps).run P w = .ok v w) ∧ R v w
  | _ => False

/-- A function's body walked is its contract. -/
theorem calls_of_sw {f : FuncId} {fn : Func} {c : Code} {vs : List Value} {w : World} {R : Value → World → Prop} (hf : P.funcs[f]? = some fn) (hb : fn.body = some c)
    (hn : fn.ntmps = n) (hlen : Nat.ble vs.length n = true)
    (h : SW P n c (slots 0 vs) (· = w) (Ret P fn R)) : Calls P f vs.toArray w fun e w' => ∃ v, e = .returned v ∧ R v w' := by
  subst hn
  have hlen' : vs.length ≤ fn.ntmps := Nat.le_of_ble_eq_true hlen
  refine calls_of_wp hf hb ?_
  refine wp_mono (h { tmps := vs.toArray ++ Array.replicate (fn.ntmps - vs.toArray.size) undef, defers := [] } w ⟨rfl, by simp; omega, ?_⟩ rfl) ?_
  · intro t v ht
    obtain ⟨_, h2⟩ := slots_look vs 0 t v ht
    simp only [Nat.sub_zero] at h2
    have hlt : t < vs.length := (List.getElem?_eq_some_iff.1 h2).1
    rw [Array.getElem?_append_left (by simpa using hlt)]
    simpa using h2
  · rintro e a w' ⟨F, hfit, hq⟩
    cases e <;> first
      | (obtain ⟨v, hr, hR⟩ := hq; exact ⟨hfit.defers, v, hr a hfit, v, rfl, hR⟩)
      | exact hq.elim

/-- One result in a slot. -/
theorem ret_one {fn : Func} {R : Value → World → Prop} {F : Fr} {w : World} {t : Nat} (v : Value) (hr : fn.results = #[.tmp t]) (hv : look F t = some v) (h : R v w) : Ret P fn R .ret F w := by
  refine ⟨v, fun a hf => ?_, h⟩
  rw [results_tmp hr]
  have := hf.has t v hv
  simp only [Array.getD_eq_getD_getElem?, this, Option.getD_some]
theorem ret_none {fn : Func} {R : Value → World → Prop} {F : Fr} {w : World} (hr : fn.results = #[]) (h : R (.tuple #[]) w) : Ret P fn R .ret F w :=
  ⟨_, fun _ _ => results_none hr _ _ _, h⟩
theorem ret_end {fn : Func} {R : Value → World → Prop} {F : Fr} {w : World} (hr : fn.results = #[]) (h : R (.tuple #[]) w) : Ret P fn R .normal F w :=
  ⟨_, fun _ _ => results_none hr _ _ _, h⟩
theorem ret_two {fn : Func} {R : Value → World → Prop} {F : Fr} {w : World} {t u : Nat} (v x : Value) (hr : fn.results = #[.tmp t, .tmp u]) (hv : look F t = some v) (hx : look F u = some x)
    (h : R (.tuple #[v, x]) w) : Ret P fn R .ret F w := by
  refine ⟨_, fun a hf => ?_, h⟩
  rw [results_tmp2 hr]
  have h1 := hf.has t v hv
  have h2 := hf.has u x hx
  simp only [Array.getD_eq_getD_getElem?, h1, h2, Option.getD_some]
end
end Go.Sx
