/- A PLAY OF THE BATON: what the row rests on. -/
import Derived.Test.YtjiajflhfnmkmaaPe
import Derived.Test.YtjiajflhfnmkmaaChecked
import Derived.Conc.TokenWords
set_option linter.unusedVariables false
set_option linter.unusedSimpArgs false
set_option linter.unusedSectionVars false
section
namespace Go.Sx
variable [Gnd]
open Go.Conc
/-- A symbolic frame: what is known of the slots, the newest first. -/
abbrev Fr := List (Nat × Value)
def look : Fr → Nat → Option Value
  | [], _ => none
  | (k, v) :: r, t => bif Nat.beq k t then some v else look r t
structure Fits (n : Nat) (F : Fr) (a : Act) : Prop where
  defers : a.defers = []
  size : a.tmps.size = n
  has : ∀ t v, look F t = some v → a.tmps[t]? = some v
def vU8 (x : UInt8) : Value := .int .u8 (x.toNat : Int)
def vU16 (x : UInt16) : Value := .int .u16 (x.toNat : Int)
def vU32 (x : UInt32) : Value := .int .u32 (x.toNat : Int)
def vU64 (x : UInt64) : Value := .int .u64 (x.toNat : Int)
def vInt (x : Int) : Value := .int .i64 x
/-- A constant, by its kind. -/
def cst : Value → Value
  | .int .u8 n => bif (decide (0 ≤ n) && decide (n < 256)) then vU8 (UInt8.ofNat n.toNat) else .int .u8 n
  | .int .u16 n => bif (decide (0 ≤ n) && decide (n < 65536)) then vU16 (UInt16.ofNat n.toNat) else .int .u16 n
  | .int .u32 n => bif (decide (0 ≤ n) && decide (n < 4294967296)) then vU32 (UInt32.ofNat n.toNat) else .int .u32 n
  | .int .u64 n => bif (decide (0 ≤ n) && decide (n < 18446744073709551616)) then vU64 (UInt64.ofNat n.toNat) else .int .u64 n
  | .int .i64 n => vInt n
  | v => v
theorem cst_eq (v : Value) : cst v = v := by
  cases v with
  | int k n =>
    cases k <;> simp only [cst]
    case u8 => 
      cases h : (decide (0 ≤ n) && decide (n < 256)) <;> simp only [cond_true, cond_false]
      simp only [Bool.and_eq_true, decide_eq_true_eq] at h
      simp only [vU8, Value.int.injEq, true_and, UInt8.toNat_ofNat']; omega
    case u16 => 
      cases h : (decide (0 ≤ n) && decide (n < 65536)) <;> simp only [cond_true, cond_false]
      simp only [Bool.and_eq_true, decide_eq_true_eq] at h
      simp only [vU16, Value.int.injEq, true_and, UInt16.toNat_ofNat']; omega
    case u32 => 
      cases h : (decide (0 ≤ n) && decide (n < 4294967296)) <;> simp only [cond_true, cond_false]
      simp only [Bool.and_eq_true, decide_eq_true_eq] at h
      simp only [vU32, Value.int.injEq, true_and, UInt32.toNat_ofNat']; omega
    case u64 => 
      cases h : (decide (0 ≤ n) && decide (n < 18446744073709551616)) <;> simp only [cond_true, cond_false]
      simp only [Bool.and_eq_true, decide_eq_true_eq] at h
      simp only [vU64, Value.int.injEq, true_and, UInt64.toNat_ofNat']; omega
    all_goals rfl
  | _ => rfl
/-- What an operand is. -/
def ev (F : Fr) : Operand → Option Value
  | .tmp t => look F t
  | .const v => some (cst v)
  | .global g => some (.pointer (some ⟨g, 0, none⟩))
  | .func f => some (.func (.func f) #[] #[])
theorem ev_eval {n : Nat} {F : Fr} {a : Act} {x : Operand} {v : Value} (h : Fits n F a) (he : ev F x = some v) : a.eval x = v := by
  cases x with
  | tmp t =>
    have := h.has t v he
    simp only [Act.eval, Array.getD_eq_getD_getElem?, this, Option.getD_some]
  | const c => simp only [ev, Option.some.injEq] at he; rw [← he]; exact (cst_eq c).symm
  | global g => simp only [ev, Option.some.injEq] at he; exact he
  | func f => simp only [ev, Option.some.injEq] at he; exact he
theorem look_cons_self (F : Fr) (t : Nat) (v : Value) : look ((t, v) :: F) t = some v := by
  simp [look]
theorem Fits.put {n : Nat} {F : Fr} {a : Act} (h : Fits n F a) {t : Nat} (ht : Nat.blt t n = true) (v : Value) : Fits n ((t, v) :: F) (a.put (some t) v) := by
  have ht' : t < n := by simpa [Nat.blt, Nat.succ_le_iff] using ht
  refine ⟨h.defers, by simp [Act.put, h.size], fun u x hu => ?_⟩
  simp only [Act.put]
  by_cases e : t = u
  · subst e
    simp [look] at hu
    subst hu
    simp [h.size, ht']
  · have : Nat.beq t u = false := by
      cases h : Nat.beq t u with
      | false => rfl
      | true => exact absurd (Nat.eq_of_beq_eq_true h) e
    simp only [look, this, cond_false] at hu
    rw [Array.getElem?_setIfInBounds_ne e]
    exact h.has u x hu
/-- Fewer facts. -/
def Sub : Fr → Fr → Prop
  | [], _ => True
  | (t, v) :: r, F => look F t = some v ∧ Sub r F
theorem Sub.has : ∀ {G F : Fr}, Sub G F → ∀ t v, look G t = some v → look F t = some v
  | [], _, _, _, _, h => by simp [look] at h
  | (k, x) :: r, F, hs, t, v, h => by
    simp only [look] at h
    cases e : Nat.beq k t with
    | true =>
      have e' : k = t := Nat.eq_of_beq_eq_true e
      rw [e] at h; simp only [cond_true, Option.some.injEq] at h
      subst h; subst e'; exact hs.1
    | false => rw [e] at h; simp only [cond_false] at h; exact hs.2.has t v h
theorem Fits.sub {n : Nat} {F G : Fr} {a : Act} (h : Fits n F a) (hs : Sub G F) : Fits n G a :=
  ⟨h.defers, h.size, fun t v hg => h.has t v (hs.has t v hg)⟩
section
variable {P : Program} [C : Co P] {n : Nat}
/-- What is asked at an exit, of what is known of frame and world. -/
abbrev Po := Exit → Fr → World → Prop
/-- The world as the walk sees it: sealed, and as the others' draws and new blocks have left it. -/
def Lf (M : World → Prop) (w : World) : Prop := ∃ v, M v ∧ RV v (pz w)
theorem Lf.mono {M M' : World → Prop} {w : World} (h : Lf M w) (hm : ∀ v, M v → M' v) : Lf M' w := let ⟨v, h1, h2⟩ := h; ⟨v, hm v h1, h2⟩
theorem Lf.rely {M : World → Prop} {w w₁ : World} (h : Lf M w) (hr : Rly w w₁) : Lf M w₁ := let ⟨v, h1, h2⟩ := h; ⟨v, h1, h2.trans hr.pz⟩
/-- Draws and new blocks don't turn it. -/
class Stb (M : World → Prop) : Prop where
  stb : ∀ {v v₁}, M v → RV v v₁ → M v₁
theorem Lf.here {M : World → Prop} [h : Stb M] {w : World} (hl : Lf M w) : M (pz w) := let ⟨_, h1, h2⟩ := hl; h.stb h1 h2
/-- The operation may be carried out beside others. -/
class Tame (P : Program) (n : Nat) (F : Fr) (op : Op) (ty : TypeId) : Prop where
  tame : ∀ a, Fits n F a → ∀ d ps af g, (execOp a.eval ⟨d, op, ty, ps, af, g⟩).Pl P
def real (n : Nat) (Q : Po) : Exit → Act → World → Prop := fun e a w => ∃ F, Fits n F a ∧ Lf (Q e F) w
/-- From each frame that fits F and each world of M the code comes to Q. -/
def SW (P : Program) [Co P] (n : Nat) (c : Code) (F : Fr) (M : World → Prop) (Q : Po) : Prop :=
  ∀ a w, Fits n F a → Lf M w → c.wpX P (real n Q) a w
def OW (P : Program) [Co P] (n : Nat) (ops : Array Oper) (l : List Oper) (F : Fr) (M : World → Prop) (Q : Po) : Prop :=
  ∀ a w, Fits n F a → Lf M w → wpListX P ops (real n Q) l a w
/-- A contract, of the sealed world. -/
def CallV (P : Program) [Co P] (f : FuncId) (args : Array Value) (v : World) (R : Ending → World → Prop) : Prop :=
  ∀ w, RV v (pz w) → CallsX P f args w fun e w' => Lf (R e) w'
theorem CallV.mono {f : FuncId} {args : Array Value} {v : World} {R R' : Ending → World → Prop} (h : CallV P f args v R) (hr : ∀ e w, R e w → R' e w) : CallV P f args v R' :=
  fun w hw => (h w hw).mono fun e _ hx => hx.mono (hr e)
/-- Less known. -/
theorem SW.weaken {c : Code} {F G : Fr} {M M' : World → Prop} {Q : Po} (hs : Sub G F) (hm : ∀ w, M w → M' w) (h : SW P n c G M' Q) : SW P n c F M Q :=
  fun a w hf hw => h a w (hf.sub hs) (hw.mono hm)
def thenP (N : Fr → World → Prop) (Q : Po) : Po
  | .normal, F, w => N F w
  | e, F, w => Q e F w
/-- x; y: the middle said outright. -/
theorem sw_seq_mid {x y : Code} {F : Fr} {M : World → Prop} {Q : Po} (N : Fr → World → Prop) (hx : SW P n x F M (thenP N Q))
    (hy : ∀ F' w, N F' w → SW P n y F' (· = w) Q) : SW P n (.seq x y) F M Q := by
  intro a w hf hm
  refine wpX_seq (wpX_mono (hx a w hf hm) ?_)
  rintro e a' w' ⟨F', hf', hq⟩
  cases e with
  | normal => obtain ⟨v, hv, hr⟩ := hq; exact hy F' v hv a' w' hf' ⟨v, rfl, hr⟩
  | _ => exact ⟨F', hf', hq⟩
/-- x; y: y from wherever x comes out. -/
theorem sw_seq {x y : Code} {F : Fr} {M : World → Prop} {Q : Po} (hx : SW P n x F M (thenP (fun F' w' => SW P n y F' (· = w') Q) Q)) : SW P n (.seq x y) F M Q :=
  sw_seq_mid _ hx fun _ _ h => h
theorem sw_skip {F : Fr} {M : World → Prop} {Q : Po} (h : ∀ w, M w → Q .normal F w) : SW P n .skip F M Q :=
  fun _ _ hf hm => wpX_skip ⟨F, hf, hm.mono h⟩
theorem sw_cond {c : Operand} {x y : Code} {b : Bool} {F : Fr} {M : World → Prop} {Q : Po} (hc : ev F c = some (.bool b))
    (ht : b = true → SW P n x F M Q) (hf : b = false → SW P n y F M Q) : SW P n (.cond c x y) F M Q :=
  fun a w hfit hm => wpX_cond_split (ev_eval hfit hc) (fun e => ht e a w hfit hm) (fun e => hf e a w hfit hm)
/-- The test as a proposition. -/
theorem sw_if {c : Operand} {x y : Code} {p : Prop} [Decidable p] {F : Fr} {M : World → Prop} {Q : Po} (hc : ev F c = some (.bool (decide p)))
    (ht : p → SW P n x F M Q) (hf : ¬ p → SW P n y F M Q) : SW P n (.cond c x y) F M Q :=
  sw_cond hc (fun e => ht (of_decide_eq_true e)) (fun e => hf (of_decide_eq_false e))
theorem sw_region {id : Nat} {l : List Oper} {F : Fr} {M : World → Prop} {Q : Po} (h : OW P n l.toArray l F M Q) : SW P n (.region id l.toArray false) F M Q :=
  fun a w hf hm => wpX_region_lit (h a w hf hm)
theorem ow_nil {ops : Array Oper} {F : Fr} {M : World → Prop} {Q : Po} (h : ∀ w, M w → Q .normal F w) : OW P n ops [] F M Q :=
  fun _ _ hf hm => ⟨F, hf, hm.mono h⟩
/-- The operation yields v, and leaves the world, in each world of S. -/
def Val (P : Program) (n : Nat) (F : Fr) (S : World → Prop) (op : Op) (ty : TypeId) (v : Value) : Prop :=
  ∀ a w, Fits n F a → S w → ∀ d ps af g, (execOp a.eval ⟨d, op, ty, ps, af, g⟩).run P w = .ok (.value v) w
/-- The operation yields a value and leaves a world as R says. -/
def Acts (P : Program) (n : Nat) (F : Fr) (S : World → Prop) (op : Op) (ty : TypeId) (R : World → Value → World → Prop) : Prop :=
  ∀ a w, Fits n F a → S w → ∀ d ps af g, ∃ v w', (execOp a.eval ⟨d, op, ty, ps, af, g⟩).run P w = .ok (.value v) w' ∧ R w v w'
/-- The operation yields nothing and leaves a world as R says. -/
def Does (P : Program) (n : Nat) (F : Fr) (S : World → Prop) (op : Op) (ty : TypeId) (R : World → World → Prop) : Prop :=
  ∀ a w, Fits n F a → S w → ∀ d ps af g, ∃ w', (execOp a.eval ⟨d, op, ty, ps, af, g⟩).run P w = .ok .skip w' ∧ R w w'
/-- The operation calls. -/
def CallsTo (P : Program) (n : Nat) (F : Fr) (S : World → Prop) (op : Op) (ty : TypeId) (f : FuncId) (args : Array Value) : Prop :=
  ∀ a w, Fits n F a → S w → ∀ d ps af g, (execOp a.eval ⟨d, op, ty, ps, af, g⟩).run P w = .ok (.enter f args) w
/-- An operation's run in the sealed world is its run. -/
theorem runs_value {F : Fr} {op : Op} {ty : TypeId} (hT : Tame P n F op ty) {a : Act} (hf : Fits n F a) {w v' : World} {x : Value} {d : Option Tmp} {ps : String} {af : Array Edge} {g : Option (Nat × Bool)}
    (hr : (execOp a.eval ⟨d, op, ty, ps, af, g⟩).run P (pz w) = .ok (.value x) v') : ∃ w' es, (execOp a.eval ⟨d, op, ty, ps, af, g⟩).runT P w #[] = (.ok (.value x) w', es) ∧ pz w' = v' ∧ DD P w w' es := by
  obtain ⟨w', es, h1, h2, h3⟩ := pl_ok (hT.tame a hf d ps af g) hr
  exact ⟨w', es, h1, h2, DD.good h3⟩
theorem opX_value {F : Fr} {M : World → Prop} {R : World → Value → World → Prop} {op : Op} {ty : TypeId} [Stb M] (hv : Acts P n F M op ty R) (hT : Tame P n F op ty) {a : Act} (hf : Fits n F a) {w : World} (hm : Lf M w)
    {d : Option Tmp} {ps : String} {af : Array Edge} {g : Option (Nat × Bool)} {K : Act → World → Prop} {Q : Exit → Act → World → Prop} (h : ∀ u x w', M u → Lf (R u x) w' → K (a.put d x) w') : (⟨d, op, ty, ps, af, g⟩ : Oper).wpX P a w K Q := by
  intro w₁ h₁
  obtain ⟨x, v', e, r⟩ := hv a (pz w₁) hf (hm.rely h₁).here d ps af g
  obtain ⟨w', es, h2, h3, h4⟩ := runs_value hT hf e
  rw [h2]
  exact ⟨h4, h _ x w' (hm.rely h₁).here ⟨_, h3 ▸ r, RV.refl _⟩⟩
theorem opX_skip {F : Fr} {M : World → Prop} {R : World → World → Prop} {op : Op} {ty : TypeId} [Stb M] (hv : Does P n F M op ty R) (hT : Tame P n F op ty) {a : Act} (hf : Fits n F a) {w : World} (hm : Lf M w)
    {d : Option Tmp} {ps : String} {af : Array Edge} {g : Option (Nat × Bool)} {K : Act → World → Prop} {Q : Exit → Act → World → Prop} (h : ∀ u w', M u → Lf (R u) w' → K (a.put d undef) w') : (⟨d, op, ty, ps, af, g⟩ : Oper).wpX P a w K Q := by
  intro w₁ h₁
  obtain ⟨v', e, r⟩ := hv a (pz w₁) hf (hm.rely h₁).here d ps af g
  obtain ⟨w', es, h2, h3, h4⟩ := pl_ok (hT.tame a hf d ps af g) e
  rw [h2]
  exact ⟨DD.good h4, h _ w' (hm.rely h₁).here ⟨_, h3 ▸ r, RV.refl _⟩⟩
theorem opX_call {F : Fr} {M : World → Prop} {f : FuncId} {args : Array Value} {R : World → Value → World → Prop} {op : Op} {ty : TypeId} [Stb M] (hv : CallsTo P n F M op ty f args) (hT : Tame P n F op ty)
    (hc : ∀ w, M w → CallV P f args w fun e w' => ∃ v, e = .returned v ∧ R w v w') {a : Act} (hf : Fits n F a) {w : World} (hm : Lf M w)
    {d : Option Tmp} {ps : String} {af : Array Edge} {g : Option (Nat × Bool)} {K : Act → World → Prop} {Q : Exit → Act → World → Prop} (h : ∀ u x w', M u → Lf (R u x) w' → K (a.put d x) w') : (⟨d, op, ty, ps, af, g⟩ : Oper).wpX P a w K Q := by
  intro w₁ h₁
  have hm₁ := (hm.rely h₁).here
  have e := hv a (pz w₁) hf hm₁ d ps af g
  obtain ⟨w', es, h2, h3, h4⟩ := pl_ok (hT.tame a hf d ps af g) e
  rw [h2]
  refine ⟨DD.good h4, ?_⟩
  refine (hc _ hm₁ w' (h3 ▸ RV.refl _)).mono fun e w'' hx => ?_
  obtain ⟨v, ⟨x, rfl, hr⟩, hv⟩ := hx
  exact h _ x w'' hm₁ ⟨v, hr, hv⟩
omit C in
theorem Val.acts {F : Fr} {M : World → Prop} {op : Op} {ty : TypeId} {v : Value} (h : Val P n F M op ty v) : Acts P n F M op ty (fun w x w' => x = v ∧ w' = w) :=
  fun a w hf hm d ps af g => ⟨v, w, h a w hf hm d ps af g, rfl, rfl⟩
theorem ow_val {ops : Array Oper} {t : Nat} {op : Op} {ty : TypeId} {ps : String} {af : Array Edge} {rest : List Oper} {F : Fr} {M : World → Prop} {Q : Po} {v : Value} [hS : Stb M]
    (hv : Val P n F M op ty v) (ht : Nat.blt t n = true)
    (h : OW P n ops rest ((t, v) :: F) M Q) (hT : Tame P n F op ty := by infer_instance) : OW P n ops (⟨some t, op, ty, ps, af, none⟩ :: rest) F M Q := by
  intro a w hf hm
  refine wpListX_plain rfl fun K hK => opX_value hv.acts hT hf hm fun u x w' hu hl => ?_
  obtain ⟨v', ⟨rfl, rfl⟩, hr⟩ := hl
  exact hK _ _ (h _ w' (hf.put ht _) ⟨_, hu, hr⟩)
theorem ow_act {ops : Array Oper} {t : Nat} {op : Op} {ty : TypeId} {ps : String} {af : Array Edge} {rest : List Oper} {F : Fr} {M : World → Prop} {Q : Po} [hS : Stb M]
    {R : World → Value → World → Prop} (hv : Acts P n F M op ty R) (ht : Nat.blt t n = true)
    (h : ∀ w v, M w → OW P n ops rest ((t, v) :: F) (R w v) Q) (hT : Tame P n F op ty := by infer_instance) : OW P n ops (⟨some t, op, ty, ps, af, none⟩ :: rest) F M Q := by
  intro a w hf hm
  refine wpListX_plain rfl fun K hK => opX_value hv hT hf hm fun u x w' hu hl => ?_
  exact hK _ _ (h u x hu _ w' (hf.put ht _) hl)
theorem ow_do {ops : Array Oper} {op : Op} {ty : TypeId} {ps : String} {af : Array Edge} {rest : List Oper} {F : Fr} {M : World → Prop} {Q : Po} [hS : Stb M]
    {R : World → World → Prop} (hv : Does P n F M op ty R)
    (h : ∀ w, M w → OW P n ops rest F (R w) Q) (hT : Tame P n F op ty := by infer_instance) : OW P n ops (⟨none, op, ty, ps, af, none⟩ :: rest) F M Q := by
  intro a w hf hm
  refine wpListX_plain rfl fun K hK => opX_skip hv hT hf hm fun u w' hu hl => ?_
  exact hK _ _ (h u hu _ w' hf hl)
theorem ow_call {ops : Array Oper} {t : Nat} {op : Op} {ty : TypeId} {ps : String} {af : Array Edge} {rest : List Oper} {F : Fr} {M : World → Prop} {Q : Po} [hS : Stb M]
    {f : FuncId} {args : Array Value} (R : World → Value → World → Prop)
    (hv : CallsTo P n F M op ty f args) (ht : Nat.blt t n = true)
    (hc : ∀ w, M w → CallV P f args w fun e w' => ∃ v, e = .returned v ∧ R w v w')
    (h : ∀ w v, M w → OW P n ops rest ((t, v) :: F) (R w v) Q) (hT : Tame P n F op ty := by infer_instance) : OW P n ops (⟨some t, op, ty, ps, af, none⟩ :: rest) F M Q := by
  intro a w hf hm
  refine wpListX_plain rfl fun K hK => opX_call hv hT hc hf hm fun u x w' hu hl => ?_
  exact hK _ _ (h u x hu _ w' (hf.put ht _) hl)
/-- A guarded operation that is wanted, or is not. -/
theorem ow_guard_yes {ops : Array Oper} {o : Oper} {j : Nat} {want : Bool} {rest : List Oper} {F : Fr} {M : World → Prop} {Q : Po} (hg : o.guard = some (j, want)) {t : Nat}
    (hd : ((ops[j]?).bind (·.dst)) = some t) (hy : look F t = some (.bool want))
    (h : OW P n ops ({ o with guard := none } :: rest) F M Q) : OW P n ops (o :: rest) F M Q := by
  intro a w hf hm
  have h1 := h a w hf hm
  unfold wpListX at h1 ⊢
  have e : Region.wanted o (yielded ops a.tmps) = true := by
    simp only [Region.wanted, hg, yielded, hd, Option.bind_some, hf.has t _ hy]
    cases want <;> rfl
  rw [if_pos (by rfl)] at h1
  rw [if_pos e]
  cases o
  exact h1
theorem ow_guard_no {ops : Array Oper} {o : Oper} {j : Nat} {want : Bool} {rest : List Oper} {F : Fr} {M : World → Prop} {Q : Po} (hg : o.guard = some (j, want)) {t d : Nat}
    (hd : ((ops[j]?).bind (·.dst)) = some t) (hy : look F t = some (.bool (!want))) (hdst : o.dst = some d) (ht : Nat.blt d n = true)
    (h : OW P n ops rest ((d, undef) :: F) M Q) : OW P n ops (o :: rest) F M Q := by
  intro a w hf hm
  have h1 := h (a.put o.dst undef) w (by rw [hdst]; exact hf.put ht _) hm
  unfold wpListX
  have e : Region.wanted o (yielded ops a.tmps) = false := by
    simp only [Region.wanted, hg, yielded, hd, Option.bind_some, hf.has t _ hy]
    cases want <;> rfl
  rw [e]
  simpa using h1
/-- The operation before was passed over (undef in its slot): this one is passed over too. -/
theorem ow_guard_none {ops : Array Oper} {o : Oper} {j : Nat} {want : Bool} {rest : List Oper} {F : Fr} {M : World → Prop} {Q : Po} (hg : o.guard = some (j, want)) {t d : Nat}
    (hd : ((ops[j]?).bind (·.dst)) = some t) (hy : look F t = some undef) (hdst : o.dst = some d) (ht : Nat.blt d n = true)
    (h : OW P n ops rest ((d, undef) :: F) M Q) : OW P n ops (o :: rest) F M Q := by
  intro a w hf hm
  have h1 := h (a.put o.dst undef) w (by rw [hdst]; exact hf.put ht _) hm
  unfold wpListX
  have e : Region.wanted o (yielded ops a.tmps) = false := by
    simp only [Region.wanted, hg, yielded, hd, Option.bind_some, hf.has t _ hy, undef]
    cases want <;> rfl
  rw [e]
  simpa using h1
/-- The parameters' slots, known. -/
def slots : Nat → List Value → Fr
  | _, [] => []
  | i, v :: r => (i, v) :: slots (i + 1) r
theorem slots_look : ∀ (vs : List Value) (i t : Nat) (v : Value), look (slots i vs) t = some v → i ≤ t ∧ vs[t - i]? = some v
  | [], i, t, v, h => by simp [slots, look] at h
  | x :: r, i, t, v, h => by
    simp only [slots, look] at h
    cases e : Nat.beq i t with
    | true =>
      have e' : i = t := Nat.eq_of_beq_eq_true e
      rw [e] at h; simp only [cond_true, Option.some.injEq] at h
      subst e'; subst h; simp
    | false =>
      rw [e] at h; simp only [cond_false] at h
      obtain ⟨h1, h2⟩ := slots_look r (i + 1) t v h
      refine ⟨by omega, ?_⟩
      have : t - i = (t - (i + 1)) + 1 := by omega
      rw [this]; simpa using h2
omit C in
theorem res_one {fn : Func} {t : Nat} (hr : fn.results = #[.tmp t]) (tmps : Array Value) : results fn tmps = .pure (tmps.getD t undef) := by
  unfold results; rw [hr]; simp [bind, Sem.bind, pure]; rfl
omit C in
theorem res_none {fn : Func} (hr : fn.results = #[]) (tmps : Array Value) : results fn tmps = .pure (.tuple #[]) := by
  unfold results; rw [hr]; simp [bind, Sem.bind, pure]; rfl
omit C in
theorem res_two {fn : Func} {t u : Nat} (hr : fn.results = #[.tmp t, .tmp u]) (tmps : Array Value) : results fn tmps = .pure (.tuple #[tmps.getD t undef, tmps.getD u undef]) := by
  unfold results; rw [hr]; simp [bind, Sem.bind, pure]; rfl
end
end Go.Sx
end
section
namespace Go.Sx
variable [Gnd]
open Go.Conc
section
variable {P : Program} {X : Type} (R : X → Co P)
abbrev ReI (x : X) (g : Goroutine) (w : World) : Prop := (R x).Re g w
/-- A contract; x may turn. -/
def CallI (f : FuncId) (args : Array Value) (x : X) (v : World) (T : Ending → X → World → Prop) : Prop :=
  ∀ w, RV v (pz w) → ∀ (c : Frame) (cs : List Frame), (∀ r x' w', Lf (T (.returned r) x') w' → ReI R x' (G (c.finish r) cs) w') → (∀ ch x' w', Lf (T (.panicked ch) x') w' → ReI R x' (G (c.raise ch) cs) w') →
    ReI R x (G (Frame.enter P f args .normal) (c :: cs)) w
variable {R} {n : Nat} {x : X}
theorem CallI.mono {f : FuncId} {args : Array Value} {v : World} {T T' : Ending → X → World → Prop} (h : CallI R f args x v T) (hr : ∀ e x w, T e x w → T' e x w) : CallI R f args x v T' :=
  fun w hw c cs h1 h2 => h w hw c cs (fun r x' w' hx => h1 r x' w' (hx.mono (hr _ _))) (fun ch x' w' hx => h2 ch x' w' (hx.mono (hr _ _)))
/-- A contract that leaves x. -/
theorem CallI.of_callV {f : FuncId} {args : Array Value} {v : World} {T : Ending → World → Prop} (h : @CallV _ P (R x) f args v T) : CallI R f args x v (fun e x' w => x' = x ∧ T e w) :=
  fun w hw c cs h1 h2 => h w hw c cs (fun r w' hx => h1 r x w' (hx.mono fun _ h => ⟨rfl, h⟩)) (fun ch w' hx => h2 ch x w' (hx.mono fun _ h => ⟨rfl, h⟩))
theorem reI_go {g g' : Goroutine} {w : World} (hs : g.status = .running) (h : ∀ w₁, stepG P (R x).main g w₁ = .go g' w₁ #[]) (hr : ReI R x g' w) : ReI R x g w := @re_go _ P (R x) g g' w hs h hr
end
end Go.Sx
end
section
namespace Go.Bt
variable [Gnd]
open Go.Conc Go.ConcN
open Go.Sx (Rly RV pz spec isWg Gud Co)
/-- What belongs to one actor: its block, its turn's, its channels. -/
structure Ent where
  A : Nat
  T : Nat
  gr : Nat
  bk : Nat
/-- What is told of a play beforehand. -/
structure Cl where
  n : Nat
  K : Nat
  who : Nat → Nat
  over : Nat → Nat → Bool
  moved : Nat → Bool
  Sh : Nat → World → Prop
  foot : World → Nat → Prop
  Rt : World → Prop
  n0 : Nat
def vPtr (b : Nat) : Value := .pointer (some ⟨b, 0, none⟩)
def vCh (c : Nat) : Value := .chan (some c)
def vWord (m o : Bool) : Value := .agg #[.bool m, .bool o]
def vI (k : Int) : Value := .int .i64 k
def cT (e : Ent) (k : Nat) : Addr := ⟨e.T, k, none⟩
def cA (e : Ent) (k : Nat) : Addr := ⟨e.A, k, none⟩
/-- The rows that goroutine 0 keeps for itself: of moves. -/
def cty : Obj → Bool
  | .cells _ e _ => e == 28 || e == 43
  | _ => false
/-- A turn's row, an actor's. -/
def shT (c : Array Value) : Bool := match c.toList with
  | [.chan (some _), .chan (some _), _] => true
  | _ => false
def shA (c : Array Value) : Bool := match c.toList with
  | [.pointer (some _), .func _ _ _, _] => true
  | _ => false
/-- A sealed block, by its type and its shape. -/
def spS : Obj → Bool
  | .view _ _ => true
  | .cells c e _ => (e == 80 && (c.size == 0 || Go.Sx.wgc c)) || (e == 48 && shT c) || (e == 85 && shA c)
  | _ => false
theorem spS_of_spec {o : Obj} (h : spec o = false) : spS o = false := by
  cases o with
  | view a t => simp [spec] at h
  | cells c e fz =>
    simp only [spec, Go.Sx.ord, Bool.not_eq_false', Bool.not_eq_true', Bool.or_eq_false_iff] at h
    obtain ⟨⟨⟨h1, h2⟩, h3⟩, h4⟩ := h
    simp [spS, h1, h2, h3]
  | _ => rfl
/-- Rows that goroutine 0 makes and turns. -/
def cty2 : Obj → Bool
  | .cells _ e _ => e == 28 || e == 43 || e == 82
  | _ => false
theorem cty2_of {o : Obj} (h : spec o = false) (h2 : cty o = false) : cty2 o = false := by
  cases o with
  | cells c e fz =>
    simp only [spec, Go.Sx.ord, Bool.not_eq_false', Bool.not_eq_true', Bool.or_eq_false_iff] at h
    simp only [cty, Bool.or_eq_false_iff] at h2
    simp [cty2, h.2, h2.1, h2.2]
  | _ => rfl
theorem cty2_cty {o : Obj} (h : cty o = true) : cty2 o = true := by
  cases o with
  | cells c e fz =>
    simp only [cty, Bool.or_eq_true] at h
    simp only [cty2, Bool.or_eq_true]
    exact .inl h
  | _ => cases h
/-- The ordinary blocks of v (but the rows of moves, where they are new) stand in v'. -/
def OrdK (n : Nat) (v v' : World) : Prop := ∀ (b : Nat) (o : Obj), v.heap[b]? = some o → spS o = false → o.isChan = false → (cty2 o = false ∨ b < n) → v'.heap[b]? = some o
theorem OrdK.of_rv {n : Nat} {v v' : World} (h : RV v v') : OrdK n v v' := fun b o hb _ _ _ => h.heap b o hb
theorem OrdK.trans {n : Nat} {a b d : World} (h : OrdK n a b) (k : OrdK n b d) : OrdK n a d := fun x o hx h1 h2 h3 => k x o (h x o hx h1 h2 h3) h1 h2 h3
/-- The play's laws. -/
structure Cl.Ok (c : Cl) : Prop where
  sh : ∀ k v v', c.Sh k v → OrdK c.n0 v v' → c.Sh k v'
  foot : ∀ v v', c.Rt v → OrdK c.n0 v v' → ∀ b, c.foot v b ↔ c.foot v' b
  rt : ∀ k v, c.Sh k v → c.Rt v
  rtk : ∀ v v', c.Rt v → OrdK c.n0 v v' → c.Rt v'
  fsh : ∀ k v, c.Sh k v → ∀ b, c.foot v b → ∃ o, v.heap[b]? = some o ∧ spec o = false ∧ o.isChan = false ∧ cty o = false
  over0 : ∀ i, c.over i 0 = false
  overS : ∀ i k, c.over i (k + 1) ≠ c.over i k → c.who k = i ∧ c.over i k = false
  moved : ∀ k, c.over (c.who k) (k + 1) = true → c.over (c.who k) k = false → c.moved k = true
  skip : ∀ k v, c.over (c.who k) k = true → c.Sh k v → c.Sh (k + 1) v
  mvd : ∀ k, c.over (c.who k) k = true → c.moved k = false
section
variable (P : Program) (Wg : Nat) (c : Cl) (i : Nat) (e : Ent) (bo : Nat)
/-- The sealed blocks (but groups) stand. -/
def Hs (b : Nat) (o : Obj) : Prop := (spec o = true ∧ isWg o = false) ∨ (b < Go.Sx.n0 ∧ Go.Sx.ordO o = false)
theorem Hs.sn {b : Nat} {o : Obj} (h : Hs b o) : spec o = true ∨ Go.Sx.nc o = true := h.elim (fun h => .inl h.1) fun h => Go.Sx.spec_or_nc h.2
theorem rly_hs {w w₁ : World} {b : Nat} {o : Obj} (hr : Rly w w₁) (h : w.heap[b]? = some o) (hs : Hs b o) : w₁.heap[b]? = some o := by
  rcases hr.heap b o h with h1 | ⟨h1, _, _, _, h2⟩
  · exact h1
  · rcases hs with hs | hs
    · rw [hs.2] at h1; cases h1
    · have := hs.1; omega
def RS (w0 w : World) : Prop := ∀ (b : Nat) (o : Obj), w0.heap[b]? = some o → Hs b o → w.heap[b]? = some o
/-- .. but the turn's. -/
def RSx (w0 w : World) : Prop := ∀ (b : Nat) (o : Obj), b ≠ e.T → w0.heap[b]? = some o → Hs b o → w.heap[b]? = some o
/-- The turn's row. -/
def TR (y : Value) (w : World) : Prop := w.heap[e.T]? = some (.cells #[vCh e.gr, vCh e.bk, y] 48)
/-- What a segment of the actor's leaves, from the world v0 on. -/
structure Seg (k : Nat) (v0 v : World) : Prop where
  tape : v.tape = v0.tape
  os : v.os = v0.os
  output : v.output = v0.output
  size : v0.heap.size ≤ v.heap.size
  keep : ∀ (b : Nat) (o : Obj), v0.heap[b]? = some o → ¬ c.foot v0 b → v.heap[b]? = some o
  grow : ∀ b, c.foot v b → c.foot v0 b ∨ v0.heap.size ≤ b
  sh : c.Sh (k + 1) v
/-- What the others' segments leave, while the actor sits. -/
structure Kept (v v' : World) : Prop where
  tape : v'.tape = v.tape
  os : v'.os = v.os
  output : v'.output = v.output
  size : v.heap.size ≤ v'.heap.size
  keep : ∀ (b : Nat) (o : Obj), v.heap[b]? = some o → spec o = false → o.isChan = false → cty o = false → ¬ c.foot v b → v'.heap[b]? = some o
  grow : ∀ b, c.foot v' b → c.foot v b ∨ v.heap.size ≤ b
  rt : c.Rt v ∧ c.Rt v'
def Next (k : Int) (k' : Nat) : Prop := k < k' ∧ k' < c.K ∧ c.who k' = i ∧ c.over i k' = false ∧ ∀ m : Nat, k < m → m < k' → c.who m ≠ i
/-- It may be picked again so. -/
def Rsm (k : Int) (v : World) (k' : Int) (v' : World) : Prop := Kept c v v' ∧ (k' = -1 ∨ ∃ kn : Nat, k' = kn ∧ Next c i k kn ∧ c.Sh kn v')
/-- What the segment's end says. -/
def EndOk (x : Int × World) (m o : Bool) (w : World) : Prop := RS x.2 w ∧ (x.1 = -1 → m = true ∧ o = true ∧ RV (pz x.2) (pz w)) ∧ ∀ kn : Nat, x.1 = kn → m = c.moved kn ∧ o = c.over i (kn + 1) ∧ Seg c kn (pz x.2) (pz w)
/-- Its own cell, that it may turn. -/
def XT (a : Addr) : Prop := a = cT e 2
/-- What an actor at its seat leans on. -/
def Lt : Stl := [(bx bo, vPtr e.A), (cA e 0, vPtr e.T), (cT e 0, vCh e.gr), (cT e 1, vCh e.bk)]
abbrev Jt := Int × World → Goroutine → World → Prop
/-- Behind its receive: it stores the pick, and goes on. -/
def Back (J : Jt) (k' : Int) (w' : World) (g : Goroutine) : Prop :=
  Walks P false Rly (DX (XT e)) (fun g'' w'' => J (k', w'') g'' w'' ∧ RV ((pz w').setCell (cT e 2) (vI k')) (pz w'') ∧ RSx e w' w'' ∧ TR e (vI k') w'') g w'
def Home (J : Jt) (k : Int) (v : World) (g₂ : Goroutine) : Prop := ∀ (k' : Int) (w' : World), Rsm c i k v k' (pz w') → (∃ y, TR e y w') → StC (Lt e bo) w' → StP (Lt e bo) w' → Back P e J k' w' (Go.Conc.served g₂ (recvd false (vI k') true))
/-- It stands at its send. -/
def StopJ (J : Jt) (x : Int × World) (g : Goroutine) (w : World) : Prop :=
  g.status = .running ∧ ∃ (m o : Bool) (a₂ : Goroutine) (es : World → Array Event) (z' : Value),
    (∀ w₁, Rly w w₁ → stepG P false g w₁ = .comm a₂ #[scase e.bk (vWord m o) z'] true .send w₁ (es w₁) ∧ DX (XT e) w₁ w₁ (es w₁)) ∧ EndOk c i x m o w ∧
    ((o = true ∧ ∃ nh, Don P Wg (Lst P Wg 3) nh 0 (Go.Conc.served a₂ undef)) ∨
     (o = false ∧ ∃ nh B, Sits P false (StC (Lt e bo)) (StL (Lt e bo)) B (Seat.one e.gr (vI 0) false (Home P c i e bo J x.1 (pz w))) nh (Go.Conc.served a₂ undef)))
def FJ (J : Jt) (x : Int × World) (g : Goroutine) (w : World) : Prop := Walks P false Rly (DX (XT e)) (StopJ P Wg c i e bo J x) g w
/-- THE ACTOR's JUDGEMENT. -/
def JJ (x : Int × World) (g : Goroutine) (w : World) : Prop := ∃ S : Jt, (∀ x g w, S x g w → FJ P Wg c i e bo S x g w) ∧ S x g w
end
section
variable {P : Program} {Wg : Nat} {c : Cl} {i : Nat} {e : Ent} {bo : Nat}
theorem Back.mono {J J' : Jt} (h : ∀ x g w, J x g w → J' x g w) {k' : Int} {w' : World} {g : Goroutine} (hb : Back P e J k' w' g) : Back P e J' k' w' g :=
  Walks.weaken hb (fun _ _ h => h) (fun _ _ _ h => h) fun _ _ hx => ⟨h _ _ _ hx.1, hx.2⟩
theorem AtIn.home {main : Bool} {K : World → Prop} {Still : Loc → Prop} {B : Nat} {cc : Array CommCase} {sh : CommShape} {h h' : Goroutine → Prop} {g g₂ : Goroutine} (hh : ∀ g, h g → h' g) (ha : AtIn P main K Still B ⟨cc, sh, h⟩ g g₂) : AtIn P main K Still B ⟨cc, sh, h'⟩ g g₂ :=
  ⟨ha.1, ha.2.1, ha.2.2.1, ha.2.2.2.1, hh _ ha.2.2.2.2.1, ha.2.2.2.2.2⟩
theorem goes_stop {main : Bool} {R : World → World → Prop} {D : World → World → Array Event → Prop} {S S' : Goroutine → World → Prop} (h : ∀ g w, S g w → S' g w) : ∀ {n : Nat} {g : Goroutine} {w : World}, Goes P main R D S n g w → Goes P main R D S' n g w := by
  intro n
  induction n with
  | zero => exact fun hg w₁ h₁ => h _ _ (hg w₁ h₁)
  | succ n ih =>
    intro g w hg
    rcases hg with hg | ⟨hr, hg⟩
    · exact .inl fun w₁ h₁ => h _ _ (hg w₁ h₁)
    · refine .inr ⟨hr, fun w₁ h₁ => ?_⟩
      have := hg w₁ h₁
      cases hgo : stepG P main g w₁ with
      | go g' w' es => rw [hgo, goes_go] at this; exact ⟨this.1, ih this.2⟩
      | _ => rw [hgo] at this; exact this.elim
theorem Sits.home {main : Bool} {K : World → Prop} {Still : Loc → Prop} {B n cn : Nat} {z : Value} {h h' : Goroutine → Prop} {g : Goroutine} (hh : ∀ g, h g → h' g) (hs : Sits P main K Still B (Seat.one cn z false h) n g) : Sits P main K Still B (Seat.one cn z false h') n g := by
  rcases hs with ⟨k, w, hk, hg⟩ | ⟨h0, g₀, g₂, hg, ha⟩
  · exact .inl ⟨k, w, hk, goes_stop (fun g w ⟨g₂, ha⟩ => ⟨g₂, AtIn.home hh ha⟩) hg⟩
  · exact .inr ⟨h0, g₀, g₂, hg, AtIn.home hh ha⟩
theorem StopJ.mono {J J' : Jt} (h : ∀ x g w, J x g w → J' x g w) {x : Int × World} {g : Goroutine} {w : World} (hs : StopJ P Wg c i e bo J x g w) : StopJ P Wg c i e bo J' x g w := by
  obtain ⟨h1, m, o, a₂, es, z', h2, h3, h4⟩ := hs
  refine ⟨h1, m, o, a₂, es, z', h2, h3, h4.imp id fun ⟨h5, nh, B, h6⟩ => ⟨h5, nh, B, Sits.home (fun g hg k' w' hr ht h8 h9 => (hg k' w' hr ht h8 h9).mono h) h6⟩⟩
theorem FJ.mono {J J' : Jt} (h : ∀ x g w, J x g w → J' x g w) {x : Int × World} {g : Goroutine} {w : World} (hs : FJ P Wg c i e bo J x g w) : FJ P Wg c i e bo J' x g w :=
  Walks.weaken hs (fun _ _ h => h) (fun _ _ _ h => h) fun _ _ hx => StopJ.mono h hx
theorem JJ.out {x : Int × World} {g : Goroutine} {w : World} (h : JJ P Wg c i e bo x g w) : FJ P Wg c i e bo (JJ P Wg c i e bo) x g w := by
  obtain ⟨S, hS, hx⟩ := h
  exact (hS _ _ _ hx).mono fun x g w hs => ⟨S, hS, hs⟩
theorem JJ.of {x : Int × World} {g : Goroutine} {w : World} (h : FJ P Wg c i e bo (JJ P Wg c i e bo) x g w) : JJ P Wg c i e bo x g w :=
  ⟨fun x g w => FJ P Wg c i e bo (JJ P Wg c i e bo) x g w, fun _ _ _ hx => hx.mono fun _ _ _ hy => hy.out, h⟩
theorem JJ.step {x : Int × World} {g : Goroutine} {w : World} (hs : g.status = .running) (h : ∀ w₁, Rly w w₁ → ∃ g' w' es, stepG P false g w₁ = .go g' w' es ∧ Gud w₁ w' es ∧ JJ P Wg c i e bo x g' w') : JJ P Wg c i e bo x g w :=
  .of (Walks.go hs fun w₁ h₁ => let ⟨g', w', es, h2, h3, h4⟩ := h w₁ h₁; ⟨g', w', es, h2, DX.of_gud h3, h4.out⟩)
end
theorem RS.rly {w0 w w₁ : World} (h : RS w0 w) (hr : Rly w w₁) : RS w0 w₁ := fun b o hb hs => rly_hs hr (h b o hb hs) hs
theorem RS.gud {w0 w w₁ : World} {es : Array Event} (h : RS w0 w) (hg : Gud w w₁ es) : RS w0 w₁ := fun b o hb hs => hg.keep b o (h b o hb hs) hs.sn
theorem cell_rv {v v' : World} (h : RV v v') {a : Addr} {x : Value} (hx : v.cell? a = some x) : v'.cell? a = some x := by
  unfold World.cell? at *
  cases hb : v.heap[a.block]? with
  | none => rw [hb] at hx; cases hx
  | some o => rw [h.heap _ o hb]; rw [hb] at hx; exact hx
theorem set_ne {w : World} {a : Addr} {v : Value} {b : Nat} (hb : b ≠ a.block) : (w.setCell a v).heap[b]? = w.heap[b]? := by
  simp only [World.setCell]
  rw [Array.getElem?_modify, if_neg (fun h => hb h.symm)]
/-- What is its own: its box, its block, its turn. -/
structure Own (e : Ent) (bo : Nat) (w : World) : Prop where
  st : StC (Lt e bo) w
  pr : StP (Lt e bo) w
  turn : ∃ y, TR e y w
theorem StC.block {L : Stl} {w w' : World} (h : StC L w) (hb : ∀ x ∈ L, w'.heap[x.1.block]? = w.heap[x.1.block]?) : StC L w' := fun x hx => by
  have := h x hx
  unfold World.cell? at this ⊢
  rw [hb x hx]; exact this
theorem StP.block {L : Stl} {w w' : World} (h : StP L w) (hb : ∀ x ∈ L, w'.heap[x.1.block]? = w.heap[x.1.block]?) : StP L w' := fun x hx => by rw [hb x hx]; exact h x hx
theorem Own.rs {e : Ent} {bo : Nat} {w0 w : World} (h : Own e bo w0) (hr : RS w0 w) : Own e bo w := by
  have hb : ∀ x ∈ Lt e bo, w.heap[x.1.block]? = w0.heap[x.1.block]? := fun x hx => by
    obtain ⟨o, h1, h2, h3⟩ := h.pr x hx
    rw [hr _ o h1 (.inl ⟨h2, h3⟩), h1]
  exact ⟨h.st.block hb, h.pr.block hb, let ⟨y, hy⟩ := h.turn; ⟨y, hr _ _ hy (.inl ⟨rfl, rfl⟩)⟩⟩
/-- The box and the block are no turn. -/
theorem apart_of {e : Ent} {bo : Nat} {w : World} {y : Value} (h : StC (Lt e bo) w) (hT : TR e y w) : bo ≠ e.T ∧ e.A ≠ e.T := by
  have h1 := h (bx bo, vPtr e.A) (by simp [Lt])
  have h2 := h (cA e 0, vPtr e.T) (by simp [Lt])
  unfold TR at hT
  constructor
  · intro he; simp [World.cell?, bx, he, hT, vCh, vPtr] at h1
  · intro he; simp [World.cell?, cA, he, hT, vCh, vPtr] at h2
theorem Own.of {e : Ent} {bo : Nat} {w' w'' : World} {y y' : Value} (h1 : StC (Lt e bo) w') (h2 : StP (Lt e bo) w') (h3 : TR e y w') (h4 : RSx e w' w'') (h5 : TR e y' w'') : Own e bo w'' := by
  obtain ⟨n1, n2⟩ := apart_of h1 h3
  have hb : ∀ x ∈ Lt e bo, x.1.block ≠ e.T → w''.heap[x.1.block]? = w'.heap[x.1.block]? := fun x hx hne => by
    obtain ⟨o, g1, g2, g3⟩ := h2 x hx
    rw [h4 _ o hne g1 (.inl ⟨g2, g3⟩), g1]
  refine ⟨fun x hx => ?_, fun x hx => ?_, _, h5⟩
  · have hc := h1 x hx
    simp only [Lt, List.mem_cons, List.not_mem_nil, or_false] at hx
    rcases hx with rfl | rfl | rfl | rfl
    · unfold World.cell? at hc ⊢; rw [hb _ (by simp [Lt]) n1]; exact hc
    · unfold World.cell? at hc ⊢; rw [hb _ (by simp [Lt]) n2]; exact hc
    · unfold TR at h5; simp [World.cell?, cT, h5]
    · unfold TR at h5; simp [World.cell?, cT, h5]
  · by_cases hne : x.1.block = e.T
    · exact ⟨_, by rw [hne]; exact h5, rfl, rfl⟩
    · rw [hb x hx hne]; exact h2 x hx
/-- The actor's judgements. -/
@[reducible] def coAct (P : Program) (Wg : Nat) (c : Cl) (i : Nat) (e : Ent) (bo : Nat) (x : Int × World) : Co P where
  main := false
  Re := fun g w => ∀ w₁, Rly w w₁ → RS x.2 w₁ → Own e bo x.2 → JJ P Wg c i e bo x g w₁
  D := Gud
  good := id
  rely := fun h hr w₂ h₂ h0 => h w₂ (hr.trans h₂) h0
  step := fun {g w} hs h w₁ h₁ h0 hO => JJ.step hs fun w₂ h₂ => by
    obtain ⟨g', w', es, h3, h4, h5⟩ := h w₂ (h₁.trans h₂)
    exact ⟨g', w', es, h3, h4, h5 w' (Rly.refl _) ((h0.rly h₂).gud h4) hO⟩
end Go.Bt
end
section
namespace Go.Bt
variable [Gnd]
open Go.Conc Go.ConcN Go.RowKit Go.Proofs
open Go.Sx (Rly RV pz pzo pz_heap spec isWg Gud Co)
noncomputable def ops27 : Array Oper := match Try.f27.body with
  | some (.seq (.region _ l _) _) => l
  | _ => #[]
noncomputable def rest27 : Code := match Try.f27.body with
  | some (.seq _ c) => c
  | _ => .skip
/-- At the receive. -/
noncomputable def wrec (e : Ent) (c : Frame) (cs : List Frame) : Goroutine :=
  G ((base 27).at ⟨#[vPtr e.T, undef, vPtr e.T, vPtr e.T, vPtr e.T, .pointer (some ⟨e.T, 0, none⟩), vCh e.gr, undef, undef, undef, undef, undef, undef, undef, undef, undef, undef], []⟩ [.inRegion ops27 [5, 6, 7, 8], .code rest27]) (c :: cs)
theorem enter27 (e : Ent) : Frame.enter Try.prog 27 #[vPtr e.T] .normal = (base 27).at ⟨#[vPtr e.T, undef, undef, undef, undef, undef, undef, undef, undef, undef, undef, undef, undef, undef, undef, undef, undef], []⟩ [.code (Try.f27.body.getD .skip)] := by
  simp only [Frame.enter, Try.func27]
  rfl
set_option maxRecDepth 100000 in
set_option maxHeartbeats 4000000 in
theorem wait_goes (e : Ent) {L : Stl} {B : Nat} (hL : (cT e 0, vCh e.gr) ∈ L) (hB : e.T < B) {home : Goroutine → Prop} (c : Frame) (cs : List Frame) (hh : home (wrec e c cs)) (w : World) :
    Goes Try.prog false (RK (StC L)) (DS (StL L) B) (fun g _ => ∃ g₂, AtIn Try.prog false (StC L) (StL L) B (Seat.one e.gr (vI 0) false home) g g₂) 19 (G (Frame.enter Try.prog 27 #[vPtr e.T] .normal) (c :: cs)) w := by
  have hu := Try.underlying48
  have hu2 := Try.runUnderlying48
  have hu45 := Try.isAgg45
  rw [enter27]
  simp only [Try.f27, Option.getD_some, vPtr]
  k_c stepG_seq
  k_reg
  refine Goes.step rfl (fun w₁ h₁ => ?_)
  refine goes_oper_k rfl rfl (by decide) (fun K hK => ?_)
  go_simp
  refine hK _ _ ⟨⟨rfl, fun ev he => ?_⟩, ?_⟩
  · have hm := mem_listed he
    simp [go_sem] at hm
  clear hK K
  refine Goes.step rfl (fun w₁ h₁ => ?_)
  refine goes_oper_k rfl rfl (by decide) (fun K hK => ?_)
  go_simp
  refine hK _ _ ⟨⟨rfl, fun ev he => ?_⟩, ?_⟩
  · have hm := mem_listed he
    simp [go_sem] at hm
  clear hK K
  refine Goes.step rfl (fun w₁ h₁ => ?_)
  refine goes_oper_k rfl rfl (by decide) (fun K hK => ?_)
  go_simp
  refine hK _ _ ⟨⟨rfl, fun ev he => ?_⟩, ?_⟩
  · have hm := mem_listed he
    simp [go_sem] at hm
  clear hK K
  refine Goes.step rfl (fun w₁ h₁ => ?_)
  refine goes_oper_k rfl rfl (by decide) (fun K hK => ?_)
  go_simp
  refine hK _ _ ⟨⟨rfl, fun ev he => ?_⟩, ?_⟩
  · have hm := mem_listed he
    simp [go_sem] at hm
  clear hK K
  refine Goes.step rfl (fun w₁ h₁ => ?_)
  refine goes_oper_k rfl rfl (by decide) (fun K hK => ?_)
  have hc : w₁.cell? ⟨e.T, 0, none⟩ = some (.chan (some e.gr)) := h₁ _ hL
  go_simp
  refine hK _ _ ⟨⟨rfl, fun ev he => ?_⟩, ?_⟩
  · have hm := mem_listed he
    simp [go_sem, *] at hm
    subst hm
    exact evC_read _ ⟨_, hL, rfl⟩ hB
  clear hK K hc
  refine Goes.stop (fun w₁ h₁ => ⟨_, atIn_of (s := Seat.one e.gr (vI 0) false home) rfl rfl (by decide) (fun w => ?_) (fun w => ?_) hh⟩)
  · simp [go_sem, execOp, rcase, Act.eval, Seat.one, vI]
  · simp [go_sem, execOp, Act.eval]
section
variable {P : Program} {main : Bool} {X : Addr → Prop} {Stop : Goroutine → World → Prop} {b : Frame} {a : Act} {kk : List Item} {cs : List Frame} {ops : Array Oper} {i : Nat} {rest : List Nat} {o : Oper} {w : World}
theorem Walks.ctl {g g' : Goroutine} (hs : g.status = .running) (h : ∀ w, stepG P main g w = .go g' w #[]) (k : Walks P main Rly (DX X) Stop g' w) : Walks P main Rly (DX X) Stop g w :=
  Walks.go hs fun w₁ h₁ => ⟨g', w₁, #[], h w₁, DX.of_gud (Gud.refl _), Walks.rely (R := Rly) (fun _ _ _ a b => Rly.trans a b) k h₁⟩
theorem Walks.val (v : Value) (ho : ops[i]? = some o) (hw : Region.wanted o (yielded ops a.tmps) = true) (hk : b.kind ≠ .early) (hr : ∀ w, (execOp a.eval o).run P w = .ok (.value v) w) (he : ∀ w, (execOp a.eval o).events P w #[] = #[])
    (k : Walks P main Rly (DX X) Stop (G (b.at (a.put o.dst v) (.inRegion ops rest :: kk)) cs) w) : Walks P main Rly (DX X) Stop (G (b.at a (.inRegion ops (i :: rest) :: kk)) cs) w :=
  .ctl rfl (fun w => by rw [stepG_value ho hw hk (hr w)]; unfold listed; rw [he w, seen_none]) k
end
theorem heap_set {w : World} {a : Addr} {v : Value} {cs : Array Value} {ty : TypeId} {fz : Nat × Nat} (hb : w.heap[a.block]? = some (.cells cs ty fz)) (hsp : a.spot = none) : (w.setCell a v).heap[a.block]? = some (.cells (cs.setIfInBounds a.off v) ty fz) := by
  simp only [World.setCell]
  rw [Array.getElem?_modify, if_pos rfl, hb]
  simp [hsp]
theorem heap_set_ne {w : World} {a : Addr} {v : Value} {b : Nat} (hb : b ≠ a.block) : (w.setCell a v).heap[b]? = w.heap[b]? := by
  simp only [World.setCell]
  rw [Array.getElem?_modify, if_neg (fun h => hb h.symm)]
/-- A sealed cell that may be turned is turned. -/
theorem DX.set {X : Addr → Prop} {w : World} {a : Addr} {v : Value} {cs : Array Value} {ty : TypeId} {fz : Nat × Nat} (hX : X a) (hsp : a.spot = none) (hb : w.heap[a.block]? = some (.cells cs ty fz)) (hw : (ty == 80) = false) : DX X w (w.setCell a v) #[⟨.cell a, true, false⟩] := by
  have hlt : a.block < w.heap.size := (Array.getElem?_eq_some_iff.1 hb).1
  refine ⟨rfl, rfl, rfl, by simp [World.setCell], fun b o hbo hs => ?_, fun a' v' o hbo hs hx hc => ?_, fun b o hbo hs => ?_, fun ev hev => ?_⟩
  · by_cases e : b = a.block
    · subst e
      rw [hb] at hbo; obtain rfl := Option.some.inj hbo
      exact ⟨_, heap_set hb hsp, hs, by simp [isWg, hw]⟩
    · exact ⟨o, by rw [heap_set_ne e]; exact hbo, hs, rfl⟩
  · rw [World.cell?_setCell_other (h := fun (h : a = a') => hx (h ▸ hX))]; exact hc
  · by_cases e : b = a.block
    · subst e
      rw [hb] at hbo; obtain rfl := Option.some.inj hbo
      simp [isWg, Obj.isChan, hw] at hs
    · rw [heap_set_ne e]; exact hbo
  · simp only [List.mem_toArray, List.mem_cons, List.not_mem_nil, or_false] at hev
    subst hev
    refine ⟨fun a' ha => ?_, fun m hm => by simp at hm⟩
    simp only [Loc.cell.injEq] at ha
    subst ha
    refine ⟨by simpa [World.setCell] using hlt, fun o ho => ?_⟩
    rw [hb] at ho; obtain rfl := Option.some.inj ho
    exact ⟨by simp [isWg, hw], fun _ _ => hX⟩
/-- Behind the receive, the pick being stored. -/
noncomputable def wrec2 (e : Ent) (k' : Int) (c : Frame) (cs : List Frame) : Goroutine :=
  G ((base 27).at ⟨#[vPtr e.T, undef, vPtr e.T, vPtr e.T, vPtr e.T, .pointer (some ⟨e.T, 0, none⟩), vCh e.gr, vI k', vPtr e.T, .pointer (some ⟨e.T, 2, none⟩), undef, undef, undef, undef, undef, undef, undef], []⟩ [.inRegion ops27 [], .code rest27]) (c :: cs)
theorem tr_cell {e : Ent} {y : Value} {w : World} (h : TR e y w) : w.cell? (cT e 2) = some y ∧ w.frozen? (cT e 2) = false := by
  unfold TR at h
  simp [World.cell?, World.frozen?, cT, h]
theorem TR.rly {e : Ent} {y : Value} {w w₁ : World} (h : TR e y w) (hr : Rly w w₁) : TR e y w₁ := by
  rcases hr.heap _ _ h with h1 | ⟨h1, _⟩
  · exact h1
  · cases h1
set_option maxRecDepth 100000 in
set_option maxHeartbeats 4000000 in
theorem wait_back (e : Ent) {J : Jt} {k' : Int} {w' : World} (c : Frame) (cs : List Frame) (ht : ∃ y, TR e y w')
    (hk : ∀ w'', RV ((pz w').setCell (cT e 2) (vI k')) (pz w'') → RSx e w' w'' → TR e (vI k') w'' → J (k', w'') (wrec2 e k' c cs) w'') : Back Try.prog e J k' w' (Go.Conc.served (wrec e c cs) (recvd false (vI k') true)) := by
  have hu := Try.underlying48
  have hu2 := Try.runUnderlying48
  have hu3 := Try.isAgg3
  obtain ⟨y, ht⟩ := ht
  unfold Back wrec
  rw [served_fr, Frame.finish_at]
  simp only [recvd, if_false, Bool.false_eq_true, ↓reduceIte, ops27, Try.f27]
  walk_nrm
  refine Walks.val (vPtr e.T) rfl rfl (by decide) (fun w => by simp [go_sem, execOp, Act.eval, vPtr]) (fun w => by simp [go_sem, execOp, Act.eval, vPtr]) ?_
  walk_nrm
  refine Walks.val (.pointer (some ⟨e.T, 2, none⟩)) rfl rfl (by decide) (fun w => by simp [go_sem, execOp, Act.eval, vPtr, hu2]) (fun w => by simp [go_sem, execOp, Act.eval, vPtr, hu2]) ?_
  walk_nrm
  refine Walks.go rfl fun w₁ h₁ => ?_
  obtain ⟨hc, hf⟩ := tr_cell (ht.rly h₁)
  simp only [cT] at hc hf
  refine ⟨G ((base 27).at ⟨#[vPtr e.T, undef, vPtr e.T, vPtr e.T, vPtr e.T, .pointer (some ⟨e.T, 0, none⟩), vCh e.gr, vI k', vPtr e.T, .pointer (some ⟨e.T, 2, none⟩), undef, undef, undef, undef, undef, undef, undef], []⟩ [.inRegion ops27 [], .code rest27]) (c :: cs), w₁.setCell (cT e 2) (vI k'), #[⟨.cell (cT e 2), true, false⟩], ?_, ?_, ?_⟩
  · refine Eq.trans (Go.Sx.stepG_runT (r := .ok .skip (w₁.setCell (cT e 2) (vI k'))) (es := #[⟨.cell (cT e 2), true, false⟩]) rfl rfl (by decide) (Prod.ext ?_ ?_)) ?_
    · simp [go_sem, execOp, Act.eval, vPtr, vI, cT, hc, hf, hu3]
    · simp [go_sem, execOp, Act.eval, vPtr, vI, cT, hc, hf, hu3]
    · show GStep.go _ _ (seen _ _ _) = _
      rw [seen_eq (by rw [show Try.prog.funcs[(base 27).fn]? = _ from Try.func27]; rfl) (by intro ev hev f; simp only [List.mem_toArray, List.mem_cons, List.not_mem_nil, or_false] at hev; subst hev; simp)]
      rfl
  · exact DX.set rfl rfl (ht.rly h₁) rfl
  · have ht₁ := ht.rly h₁
    have hT : TR e (vI k') (w₁.setCell (cT e 2) (vI k')) := heap_set (a := cT e 2) (show w₁.heap[(cT e 2).block]? = some (.cells _ 48 _) from ht₁) rfl
    refine .stop fun w₂ h₂ => ?_
    have h1 : RV ((pz w').setCell (cT e 2) (vI k')) (pz w₂) := by
      refine ⟨h₂.tape.trans h₁.tape, h₂.os.trans h₁.os, h₂.output.trans h₁.output, fun b o hb => ?_⟩
      by_cases eb : b = e.T
      · subst eb
        have h3 : (pz w').heap[(cT e 2).block]? = some (pzo (.cells #[vCh e.gr, vCh e.bk, y] 48)) := by rw [pz_heap]; show (w'.heap[e.T]?).map pzo = _; rw [show w'.heap[e.T]? = _ from ht]; rfl
        have h4 := heap_set (a := cT e 2) (v := vI k') h3 rfl
        rw [show ((pz w').setCell (cT e 2) (vI k')).heap[e.T]? = _ from h4] at hb
        obtain rfl := Option.some.inj hb
        rw [pz_heap, show w₂.heap[e.T]? = _ from hT.rly h₂]; rfl
      · rw [heap_set_ne (by exact eb)] at hb
        have h3 := (h₁.pz).heap b o hb
        refine h₂.pz.heap b o ?_
        rw [pz_heap] at h3 ⊢
        rw [heap_set_ne (by exact eb)]; exact h3
    have h2 : RSx e w' w₂ := fun b o hne hb hs => rly_hs h₂ (by rw [heap_set_ne (by exact hne)]; exact rly_hs h₁ hb hs) hs
    exact ⟨hk w₂ h1 h2 (hT.rly h₂), h1, h2, hT.rly h₂⟩
end Go.Bt
end
section
namespace Go.Sx
variable [Gnd]
open Go.Conc
section
variable {P : Program}
theorem np_bind {α β : Type} : ∀ {s : Sem α} {f : α → Sem β}, s.Dead P → (s >>= f).Dead P
  | .pure _, _, h => h.elim
  | .load _ _ _, _, h => fun v => np_bind (h v)
  | .store _ _ _ k, _, h => np_bind (s := k) h
  | .new _ _, _, h => fun v => np_bind (h v)
  | .shape _ _, _, h => fun v => np_bind (h v)
  | .freeze _ _ k, _, h => np_bind (s := k) h
  | .frozen _ _, _, h => fun v => np_bind (h v)
  | .getObj _ _, _, h => fun v => np_bind (h v)
  | .setObj _ _ k, _, h => np_bind (s := k) h
  | .choose _ _, _, h => fun v => np_bind (h v)
  | .sys _ _, _, h => fun v => np_bind (h v)
  | .program k, _, h => np_bind (s := k P) h
  | .mark _ k, _, h => np_bind (s := k) h
  | .halt _, _, h => h
theorem pl_bind {α β : Type} : ∀ {s : Sem α} {f : α → Sem β}, s.Pl P → (∀ x, (f x).Pl P) → (s >>= f).Pl P
  | .pure a, _, _, hf => hf a
  | .load _ _ _, _, h, hf => fun v => pl_bind (h v) hf
  | .store _ _ _ k, _, h, hf => pl_bind (s := k) h hf
  | .new _ _, _, h, hf => ⟨h.1, fun v => pl_bind (h.2 v) hf⟩
  | .shape _ _, _, h, _ => fun v => np_bind (h v)
  | .freeze _ _ k, _, h, _ => np_bind (s := k) h
  | .frozen _ _, _, h, _ => fun v => np_bind (h v)
  | .getObj _ _, _, h, _ => fun v => np_bind (h v)
  | .setObj _ _ k, _, h, _ => np_bind (s := k) h
  | .choose _ _, _, h, hf => fun v => pl_bind (h v) hf
  | .sys _ _, _, h, _ => fun v => np_bind (h v)
  | .program k, _, h, hf => pl_bind (s := k P) h hf
  | .mark _ k, _, h, hf => ⟨h.1, pl_bind (s := k) h.2 hf⟩
  | .halt _, _, _, _ => trivial
theorem pl_underlying (t : TypeId) : (underlying t).Pl P := by
  unfold underlying; refine pl_bind (s := program) trivial fun x => ?_; split <;> trivial
theorem pl_typeInfo (t : TypeId) : (typeInfo t).Pl P := by
  unfold typeInfo; refine pl_bind (s := program) trivial fun x => ?_; split <;> trivial
theorem pl_sizeOf (t : TypeId) : (sizeOf t).Pl P := by
  unfold sizeOf; refine pl_bind (pl_typeInfo t) fun _ => ?_; trivial
theorem pl_sizeOf' {α : Type} {t : TypeId} {f : Nat → Sem α} (h : ∀ i, P.info? t = some i → (f i.size).Pl P) : (sizeOf t >>= f).Pl P := by
  show Sem.Pl P (((match P.info? t with | some i => pure i | none => stuck "no such type" : Sem TypeInfo) >>= fun i => pure i.size) >>= f)
  cases e : P.info? t with
  | none => trivial
  | some i => exact h i e
theorem pl_zeroValue (t : TypeId) : (zeroValue t).Pl P := by
  unfold zeroValue; refine pl_bind (pl_typeInfo t) fun x => ?_; split <;> trivial
theorem pl_isAgg (t : TypeId) : (isAgg t).Pl P := by
  unfold isAgg; refine pl_bind (pl_underlying t) fun x => ?_; split <;> trivial
theorem pl_asIntOf (v : Value) : (asIntOf v).Pl P := by
  unfold asIntOf; split <;> trivial
theorem pl_asInt (v : Value) : (asInt v).Pl P := by
  unfold asInt; refine pl_bind (pl_asIntOf v) fun _ => ?_; trivial
theorem pl_asBool (v : Value) : (asBool v).Pl P := by
  unfold asBool; split <;> trivial
theorem pl_asAgg (v : Value) : (asAgg v).Pl P := by
  unfold asAgg; split <;> trivial
theorem pl_sureAddr (v : Value) : (Instr.sureAddr v).Pl P := by
  unfold Instr.sureAddr; split <;> trivial
theorem pl_error {α : Type} (m : String) : (runtimePanic (.error m) : Sem α).Pl P := trivial
theorem pl_boundsPanic {α : Type} (k : IntKind) (x y : Int) (c : BoundsCode) : (boundsPanic k x y c : Sem α).Pl P := by
  unfold boundsPanic
  dsimp only
  split
  · exact fun _ => trivial
  · trivial
theorem pl_loadCells (a : Addr) : ∀ (n i : Nat) (acc : Array Value), (loadCellsFrom a i n acc).Pl P
  | 0, _, _ => trivial
  | n + 1, i, acc => fun v => pl_loadCells a n (i + 1) (acc.push v)
theorem pl_storeCells (a : Addr) : ∀ (vs : List Value) (i : Nat), (storeCells a vs i).Pl P
  | [], _ => trivial
  | v :: vs, i => pl_storeCells a vs (i + 1)
theorem pl_loadVar (t : TypeId) (a : Addr) : (loadVar t a).Pl P := by
  unfold loadVar
  refine pl_bind (pl_isAgg t) fun x => ?_
  split
  · exact pl_bind (pl_sizeOf t) fun n => pl_bind (pl_loadCells a n 0 #[]) fun _ => trivial
  · exact fun _ => trivial
theorem pl_storeVar (t : TypeId) (a : Addr) (v : Value) : (storeVar t a v).Pl P := by
  unfold storeVar
  refine pl_bind (pl_sizeOf t) fun x => ?_
  split
  · exact pl_bind (s := stuck _) trivial fun _ => pl_storeCells a _ 0
  · exact pl_storeCells a _ 0
theorem pl_part (t : TypeId) (cs : Array Value) (o : Nat) : (part t cs o).Pl P := by
  unfold part
  refine pl_bind (pl_isAgg t) fun x => ?_
  split
  · exact pl_bind (pl_sizeOf t) fun _ => trivial
  · split <;> trivial
theorem pl_newVar {t : TypeId} (h : ord t = true) (v : Value) : (newVar t v).Pl P := ⟨h, fun _ => trivial⟩
theorem pl_newRow {t : TypeId} (h : ord t = true) (v : Array Value) : (newRow t v).Pl P := ⟨h, fun _ => trivial⟩
theorem pl_fieldPlace (a : Addr) (f : Field) (h : ∀ i, P.info? f.type = some i → i.size ≠ 0) : (fieldPlace a f).Pl P := by
  unfold fieldPlace
  refine pl_sizeOf' fun i hi => ?_
  rw [if_neg (h i hi)]; trivial
/-- The field is there, and takes room. -/
class OkF (P : Program) (t : TypeId) (i : Nat) : Prop where
  ok : ∀ fs f, P.underlying t = some (.struct fs) → fs[i]? = some f → ∀ x, P.info? f.type = some x → x.size ≠ 0
theorem pl_sliceBound (x : Value) (y : Nat) (c : BoundsCode) : (Instr.sliceBound x y c).Pl P := by
  unfold Instr.sliceBound
  repeat' first | exact trivial | exact pl_underlying _ | exact pl_typeInfo _ | exact pl_sizeOf _ | exact pl_zeroValue _ | exact pl_isAgg _ | exact pl_asIntOf _ | exact pl_asInt _ | exact pl_asBool _ | exact pl_asAgg _ | exact pl_boundsPanic _ _ _ _ | exact pl_error _ | exact pl_bounds _ _ _ _ | exact pl_nilDeref | apply pl_bind | (intro x) | dsimp only | split
theorem pl_sliceBounds (b : Bool) (l c : Nat) (x y z : Option Value) : (Instr.sliceBounds b l c x y z).Pl P := by
  unfold Instr.sliceBounds
  repeat' first | exact trivial | exact pl_sliceBound _ _ _ | apply pl_bind | (intro x) | dsimp only | split
theorem pl_askRoom (k : Nat) : (askRoom k).Pl P := by
  unfold askRoom; split
  · exact ⟨rfl, trivial⟩
  · trivial
class Ord (t : TypeId) : Prop where
  ord : ord t = true
variable {n : Nat} {F : Fr} {ty : TypeId}
theorem pl_v {s : Sem Value} (h : s.Pl P) : (do pure (.value (← s)) : Sem Next).Pl P := pl_bind h fun _ => trivial
theorem pl_u {s : Sem Unit} (h : s.Pl P) : (do s; pure .skip : Sem Next).Pl P := pl_bind h fun _ => trivial
instance (x : Operand) : Tame P n F (.move x) ty := ⟨fun _ _ _ _ _ _ => trivial⟩
instance (x : Operand) : Tame P n F (.assign x) ty := ⟨fun _ _ _ _ _ _ => trivial⟩
instance (x y z : Operand) : Tame P n F (.pick x y z) ty := ⟨fun _ _ _ _ _ _ => by
  simp only [execOp]
  exact pl_bind (pl_asBool _) fun _ => trivial⟩
instance (t : TypeId) (x : Operand) [h : Ord t] : Tame P n F (.box t x) ty := ⟨fun _ _ _ _ _ _ => pl_v (pl_bind (pl_newVar h.ord _) fun _ => trivial)⟩
instance (t : TypeId) [h : Ord t] : Tame P n F (.alloc t) ty := ⟨fun _ _ _ _ _ _ => pl_v (by
  show Sem.Pl P (Instr.alloc t true (.tuple #[]))
  unfold Instr.alloc
  exact pl_bind (pl_zeroValue t) fun z => pl_bind (pl_newVar h.ord z) fun _ => trivial)⟩
theorem pl_mapM {α β : Type} (f : α → Sem β) (hf : ∀ x, (f x).Pl P) : ∀ (l : List α) (acc : List β), (List.mapM.loop f l acc).Pl P
  | [], _ => trivial
  | x :: l, acc => pl_bind (hf x) fun y => pl_mapM f hf l (y :: acc)
instance (t : TypeId) (ps : Array (Nat × Operand)) : Tame P n F (.build t ps) ty := ⟨fun _ _ _ _ _ _ => pl_v (by
  unfold Instr.build
  refine pl_bind (pl_zeroValue t) fun z => pl_bind (pl_underlying t) fun u => ?_
  split
  · refine pl_bind ?_ fun _ => ?_
    · rw [Array.mapM_eq_mapM_toList]
      exact pl_bind (pl_mapM _ (fun f => by exact pl_bind (pl_sizeOf f.type) fun _ => trivial) _ []) fun _ => trivial
    · split <;> trivial
  · refine pl_bind (pl_sizeOf _) fun _ => ?_
    split <;> trivial
  · trivial)⟩
/-- The elements of a slice's type are ordinary. -/
class OrdSl (P : Program) (t : TypeId) : Prop where
  ord : ∀ e, P.underlying t = some (.slice e) → ord e = true
theorem OrdSl.mk' {t e : TypeId} (h : P.underlying t = some (.slice e)) (ho : Sx.ord e = true) : OrdSl P t := ⟨fun e' h' => by rw [h] at h'; cases h'; exact ho⟩
/-- What comes of the type, for this program. -/
theorem pl_underlying' {α : Type} {t : TypeId} {f : TypeDesc → Sem α} (h : ∀ d, P.underlying t = some d → (f d).Pl P) : (underlying t >>= f).Pl P := by
  show Sem.Pl P ((match P.underlying t with | some d => pure d | none => stuck "no such type" : Sem TypeDesc) >>= f)
  cases e : P.underlying t with
  | none => trivial
  | some d => exact h d e
instance (t : TypeId) (l : Nat) (ps : Array (Nat × Operand)) [h : OrdSl P t] : Tame P n F (.buildSlice t l ps) ty := ⟨fun _ _ _ _ _ _ => pl_v (by
  unfold Instr.buildSlice
  refine pl_underlying' fun d hd => ?_
  cases d with
  | slice e =>
    have ho := h.ord e hd
    repeat' first | exact trivial | exact pl_underlying _ | exact pl_typeInfo _ | exact pl_sizeOf _ | exact pl_zeroValue _ | exact pl_isAgg _ | exact pl_asIntOf _ | exact pl_asInt _ | exact pl_asBool _ | exact pl_asAgg _ | exact pl_boundsPanic _ _ _ _ | exact pl_error _ | exact pl_bounds _ _ _ _ | exact pl_nilDeref | exact pl_sureAddr _ | exact pl_loadVar _ _ | exact pl_storeVar _ _ _ | exact pl_part _ _ _ | exact pl_newRow ho _ | exact pl_askRoom _ | apply pl_bind | (intro x) | dsimp only | split
  | _ => trivial)⟩
instance (t : TypeId) (x : Operand) : Tame P n F (.load t x) ty := ⟨fun _ _ _ _ _ _ => pl_v (pl_bind (pl_sureAddr _) fun _ => pl_loadVar _ _)⟩
instance (t : TypeId) (x y : Operand) : Tame P n F (.store t x y) ty := ⟨fun _ _ _ _ _ _ => pl_u (pl_bind (pl_sureAddr _) fun _ => pl_storeVar _ _ _)⟩
theorem tame_nilCheck {x : Operand} {p : Option Addr} (h : ev F x = some (.pointer p)) : Tame P n F (.nilCheck x) ty := ⟨fun a hf _ _ _ _ => by
  simp only [execOp, ev_eval hf h]
  cases p <;> trivial⟩
instance (op : UnOp) (t : TypeId) (x : Operand) : Tame P n F (.unOp op t x) ty := ⟨fun _ _ _ _ _ _ => pl_v (by
  show Sem.Pl P (Op.unary _ _)
  unfold Op.unary
  split
  · unfold Op.intArith; split <;> trivial
  · unfold Op.intBits; dsimp only; split <;> trivial
  all_goals trivial)⟩
instance (fn : Fn) (f c : Array Operand) : Tame P n F (.makeFunc fn f c) ty := ⟨fun _ _ _ _ _ _ => trivial⟩
instance (t : TypeId) (x : Operand) : Tame P n F (.makeInterface t x) ty := ⟨fun _ _ _ _ _ _ => pl_v (by
  unfold Instr.makeInterface
  repeat' first | exact trivial | exact pl_underlying _ | exact pl_typeInfo _ | exact pl_sizeOf _ | exact pl_zeroValue _ | exact pl_isAgg _ | exact pl_asIntOf _ | exact pl_asInt _ | exact pl_asBool _ | exact pl_asAgg _ | exact pl_boundsPanic _ _ _ _ | exact pl_error _ | exact pl_bounds _ _ _ _ | exact pl_nilDeref | exact pl_sureAddr _ | exact pl_loadVar _ _ | exact pl_storeVar _ _ _ | exact pl_part _ _ _ | exact pl_sliceBounds _ _ _ _ _ _ | exact pl_sliceBound _ _ _ | apply pl_bind | (intro x) | dsimp only | split)⟩
instance (t : TypeId) (x : Operand) (i : Nat) [h : OkF P t i] : Tame P n F (.fieldAddr t x i) ty := ⟨fun _ _ _ _ _ _ => pl_v (by
  unfold Instr.fieldAt
  refine pl_underlying' fun d hd => ?_
  cases d with
  | struct fs =>
    dsimp only
    cases hf : fs[i]? with
    | none => trivial
    | some f => exact pl_bind (pl_sureAddr _) fun a => pl_bind (pl_fieldPlace a f (h.ok fs f hd hf)) fun _ => trivial
  | _ => trivial)⟩
instance (t : TypeId) (x : Operand) (i : Nat) : Tame P n F (.field t x i) ty := ⟨fun _ _ _ _ _ _ => pl_v (by
  unfold Instr.field
  repeat' first | exact trivial | exact pl_underlying _ | exact pl_asAgg _ | exact pl_part _ _ _ | apply pl_bind | (intro x; try dsimp only) | split)⟩
instance (t : TypeId) (x y : Operand) : Tame P n F (.indexAddr t x y) ty := ⟨fun _ _ _ _ _ _ => pl_v (by
  unfold Instr.indexAt
  repeat' first | exact trivial | exact pl_underlying _ | exact pl_typeInfo _ | exact pl_sizeOf _ | exact pl_zeroValue _ | exact pl_isAgg _ | exact pl_asIntOf _ | exact pl_asInt _ | exact pl_asBool _ | exact pl_asAgg _ | exact pl_boundsPanic _ _ _ _ | exact pl_error _ | exact pl_bounds _ _ _ _ | exact pl_nilDeref | exact pl_sureAddr _ | exact pl_loadVar _ _ | exact pl_storeVar _ _ _ | exact pl_part _ _ _ | exact pl_sliceBounds _ _ _ _ _ _ | exact pl_sliceBound _ _ _ | apply pl_bind | (intro x) | dsimp only | split)⟩
instance (t : TypeId) (x y : Operand) : Tame P n F (.index t x y) ty := ⟨fun _ _ _ _ _ _ => pl_v (by
  unfold Instr.index
  repeat' first | exact trivial | exact pl_underlying _ | exact pl_typeInfo _ | exact pl_sizeOf _ | exact pl_zeroValue _ | exact pl_isAgg _ | exact pl_asIntOf _ | exact pl_asInt _ | exact pl_asBool _ | exact pl_asAgg _ | exact pl_boundsPanic _ _ _ _ | exact pl_error _ | exact pl_bounds _ _ _ _ | exact pl_nilDeref | exact pl_sureAddr _ | exact pl_loadVar _ _ | exact pl_storeVar _ _ _ | exact pl_part _ _ _ | exact pl_sliceBounds _ _ _ _ _ _ | exact pl_sliceBound _ _ _ | apply pl_bind | (intro x) | dsimp only | split)⟩
instance (x : Operand) (i : Nat) : Tame P n F (.extract x i) ty := ⟨fun _ _ _ _ _ _ => pl_v (by
  unfold Instr.extract
  repeat' first | exact trivial | exact pl_underlying _ | exact pl_typeInfo _ | exact pl_sizeOf _ | exact pl_zeroValue _ | exact pl_isAgg _ | exact pl_asIntOf _ | exact pl_asInt _ | exact pl_asBool _ | exact pl_asAgg _ | exact pl_boundsPanic _ _ _ _ | exact pl_error _ | exact pl_bounds _ _ _ _ | exact pl_nilDeref | exact pl_sureAddr _ | exact pl_loadVar _ _ | exact pl_storeVar _ _ _ | exact pl_part _ _ _ | exact pl_sliceBounds _ _ _ _ _ _ | exact pl_sliceBound _ _ _ | apply pl_bind | (intro x) | dsimp only | split)⟩
instance (t : TypeId) (x : Operand) (lo hi mx : Option Operand) : Tame P n F (.slice t x lo hi mx) ty := ⟨fun _ _ _ _ _ _ => pl_v (by
  unfold Instr.sliceAt
  refine pl_bind (pl_underlying t) fun d => ?_
  split
  · repeat' first | exact trivial | exact pl_underlying _ | exact pl_typeInfo _ | exact pl_sizeOf _ | exact pl_zeroValue _ | exact pl_isAgg _ | exact pl_asIntOf _ | exact pl_asInt _ | exact pl_asBool _ | exact pl_asAgg _ | exact pl_boundsPanic _ _ _ _ | exact pl_error _ | exact pl_bounds _ _ _ _ | exact pl_nilDeref | exact pl_sureAddr _ | exact pl_loadVar _ _ | exact pl_storeVar _ _ _ | exact pl_part _ _ _ | exact pl_sliceBounds _ _ _ _ _ _ | exact pl_sliceBound _ _ _ | apply pl_bind | (intro x) | dsimp only | split
  · unfold Instr.slice asAddr
    repeat' first | exact trivial | exact pl_underlying _ | exact pl_typeInfo _ | exact pl_sizeOf _ | exact pl_zeroValue _ | exact pl_isAgg _ | exact pl_asIntOf _ | exact pl_asInt _ | exact pl_asBool _ | exact pl_asAgg _ | exact pl_boundsPanic _ _ _ _ | exact pl_error _ | exact pl_bounds _ _ _ _ | exact pl_nilDeref | exact pl_sureAddr _ | exact pl_loadVar _ _ | exact pl_storeVar _ _ _ | exact pl_part _ _ _ | exact pl_sliceBounds _ _ _ _ _ _ | exact pl_sliceBound _ _ _ | apply pl_bind | (intro x) | dsimp only | split)⟩
instance (t : TypeId) (x y : Operand) [h : OrdSl P t] : Tame P n F (.makeSlice t x y) ty := ⟨fun _ _ _ _ _ _ => pl_v (by
  unfold Instr.makeSlice
  refine pl_underlying' fun d hd => ?_
  cases d with
  | slice e =>
    have ho := h.ord e hd
    repeat' first | exact trivial | exact pl_underlying _ | exact pl_typeInfo _ | exact pl_sizeOf _ | exact pl_zeroValue _ | exact pl_isAgg _ | exact pl_asIntOf _ | exact pl_asInt _ | exact pl_asBool _ | exact pl_asAgg _ | exact pl_boundsPanic _ _ _ _ | exact pl_error _ | exact pl_bounds _ _ _ _ | exact pl_nilDeref | exact pl_sureAddr _ | exact pl_loadVar _ _ | exact pl_storeVar _ _ _ | exact pl_part _ _ _ | exact pl_newRow ho _ | exact pl_askRoom _ | apply pl_bind | (intro x) | dsimp only | split
  | _ => trivial)⟩
theorem pl_eqGuard_of {op : BinOp} {t : TypeId} {x y : Operand} {a b : Value} (h : (a = .nilIface → b = .nilIface → False) ∧ ∀ c d, a = .agg c → b = .agg d → False) : (eqGuard op t x y a b).Pl P := by
  unfold eqGuard
  have h2 : ∀ (s1 s2 : Sem Unit), s1.Pl P → Sem.Pl P (match a, b with
    | .nilIface, .nilIface => s1
    | .agg _, .agg _ => s2
    | _, _ => pure ()) := fun s1 s2 _ => by
    split
    · exact (h.1 rfl rfl).elim
    · exact (h.2 _ _ rfl rfl).elim
    · trivial
  cases op <;> first
    | trivial
    | (simp only [Bool.not_true, Bool.false_eq_true, if_false]
       split
       · exact (h.1 rfl rfl).elim
       · exact (h.2 _ _ rfl rfl).elim
       · trivial)
/-- Of two integers. -/
theorem tame_int {op : BinOp} {t u : TypeId} {x y : Operand} {k k' : IntKind} {i j : Int} (hx : ev F x = some (.int k i)) (hy : ev F y = some (.int k' j)) : Tame P n F (.binOp op t x y u) ty := ⟨fun a hf _ _ _ _ => pl_v (by
  simp only [ev_eval hf hx, ev_eval hf hy]
  refine pl_bind (pl_eqGuard_of ⟨by simp, by simp⟩) fun _ => ?_
  cases op <;> simp only [binOp, Op.shift, Op.intArith, Op.intDiv, Op.intBits, Op.intCmp] <;> (repeat' first | exact trivial | exact pl_underlying _ | exact pl_typeInfo _ | exact pl_sizeOf _ | exact pl_zeroValue _ | exact pl_isAgg _ | exact pl_asIntOf _ | exact pl_asInt _ | exact pl_asBool _ | exact pl_asAgg _ | exact pl_boundsPanic _ _ _ _ | exact pl_error _ | exact pl_bounds _ _ _ _ | exact pl_nilDeref | apply pl_bind | (intro x) | dsimp only | split))⟩
theorem pl_equal_bool {t : TypeId} {a b : Bool} : (Op.equal t (.bool a) (.bool b)).Pl P := by
  unfold Op.equal Op.maxDepth Op.equalIn
  refine pl_bind (pl_underlying t) fun d => ?_
  split <;> first | trivial | simp_all
theorem tame_bool {op : BinOp} {t u : TypeId} {x y : Operand} {i j : Bool} (hx : ev F x = some (.bool i)) (hy : ev F y = some (.bool j)) : Tame P n F (.binOp op t x y u) ty := ⟨fun a hf _ _ _ _ => pl_v (by
  simp only [ev_eval hf hx, ev_eval hf hy]
  refine pl_bind (pl_eqGuard_of ⟨by simp, by simp⟩) fun _ => ?_
  unfold binOp
  split <;> first | trivial | exact pl_bind pl_equal_bool fun _ => trivial | simp_all)⟩
theorem pl_equal_ptr {t : TypeId} {p : Option Addr} : (Op.equal t (.pointer p) (.pointer none)).Pl P := by
  unfold Op.equal Op.maxDepth Op.equalIn
  refine pl_bind (pl_underlying t) fun d => ?_
  cases p <;> cases d <;> trivial
theorem tame_nilptr {op : BinOp} {t u : TypeId} {x y : Operand} {p : Option Addr} (hx : ev F x = some (.pointer p)) (hy : ev F y = some (.pointer none)) (ho : op = .eql ∨ op = .neq) : Tame P n F (.binOp op t x y u) ty := ⟨fun a hf _ _ _ _ => pl_v (by
  simp only [ev_eval hf hx, ev_eval hf hy]
  refine pl_bind (pl_eqGuard_of ⟨by simp, by simp⟩) fun _ => ?_
  rcases ho with rfl | rfl
  · exact pl_bind pl_equal_ptr fun _ => trivial
  · exact pl_bind pl_equal_ptr fun _ => trivial)⟩
theorem pl_equal_chan {t : TypeId} {p q : Option Nat} : (Op.equal t (.chan p) (.chan q)).Pl P := by
  unfold Op.equal Op.maxDepth Op.equalIn
  refine pl_bind (pl_underlying t) fun d => ?_
  split <;> first | trivial | simp_all
theorem tame_chan {op : BinOp} {t u : TypeId} {x y : Operand} {p q : Option Nat} (hx : ev F x = some (.chan p)) (hy : ev F y = some (.chan q)) (ho : op = .eql ∨ op = .neq) : Tame P n F (.binOp op t x y u) ty := ⟨fun a hf _ _ _ _ => pl_v (by
  simp only [ev_eval hf hx, ev_eval hf hy]
  refine pl_bind (pl_eqGuard_of ⟨by simp, by simp⟩) fun _ => ?_
  rcases ho with rfl | rfl
  · exact pl_bind pl_equal_chan fun _ => trivial
  · exact pl_bind pl_equal_chan fun _ => trivial)⟩
theorem pl_equal_func {t : TypeId} {v : Value} (hv : v = .nilFunc ∨ ∃ f a c, v = .func f a c) : (Op.equal t v .nilFunc).Pl P := by
  unfold Op.equal Op.maxDepth Op.equalIn
  refine pl_bind (pl_underlying t) fun d => ?_
  rcases hv with rfl | ⟨f, a, c, rfl⟩ <;> split <;> first | trivial | simp_all
theorem tame_func {op : BinOp} {t u : TypeId} {x y : Operand} {v : Value} (hx : ev F x = some v) (hv : v = .nilFunc ∨ ∃ f a c, v = .func f a c) (hy : ev F y = some .nilFunc) (ho : op = .eql ∨ op = .neq) : Tame P n F (.binOp op t x y u) ty := ⟨fun a hf _ _ _ _ => pl_v (by
  simp only [ev_eval hf hx, ev_eval hf hy]
  refine pl_bind (pl_eqGuard_of ⟨by rcases hv with rfl | ⟨f, a, c, rfl⟩ <;> simp, by simp⟩) fun _ => ?_
  rcases ho with rfl | rfl
  · rcases hv with rfl | ⟨f, a, c, rfl⟩
    · exact pl_bind (pl_equal_func (.inl rfl)) fun _ => trivial
    · exact pl_bind (pl_equal_func (.inr ⟨_, _, _, rfl⟩)) fun _ => trivial
  · rcases hv with rfl | ⟨f, a, c, rfl⟩
    · exact pl_bind (pl_equal_func (.inl rfl)) fun _ => trivial
    · exact pl_bind (pl_equal_func (.inr ⟨_, _, _, rfl⟩)) fun _ => trivial)⟩
/-- A function of the program's own. -/
class FnOk (P : Program) (f : FuncId) : Prop where
  ok : ∃ fn, P.funcs[f]? = some fn ∧ fn.body.isNone = false ∧ (fn.name == "runtime.NumGoroutine") = false
theorem pl_callFunc {f : FuncId} [h : FnOk P f] (args : Array Value) : (callFunc f args).Pl P := by
  obtain ⟨fn, h1, h2, h3⟩ := h.ok
  show Sem.Pl P (match P.funcs[f]? with
    | none => stuck "call: no such function"
    | some fn => _)
  rw [h1]
  dsimp only
  simp only [h3, h2, Bool.false_eq_true, if_false]
  trivial
instance {f : FuncId} {args : Array Operand} {ts : Array TypeId} [h : FnOk P f] : Tame P n F (.call { callee := .value (.func f), args := args, argTypes := ts }) ty := ⟨fun a hf _ _ _ _ => by
  exact pl_callFunc (P := P) (f := f) _⟩
theorem tame_callv {f : FuncId} {x : Operand} {args : Array Operand} {ts : Array TypeId} {first cap : Array Value} [h : FnOk P f] (hx : ev F x = some (.func (.func f) first cap)) : Tame P n F (.call { callee := .value x, args := args, argTypes := ts }) ty := ⟨fun a hf _ _ _ _ => by
  simp only [execOp, resolve, ev_eval hf hx, Deferred.ofValue, pure_bind, invoke]
  exact pl_callFunc (P := P) (f := f) _⟩
class IsSl (P : Program) (t : TypeId) : Prop where
  sl : ∃ e, P.underlying t = some (.slice e)
instance {x : Operand} {t : TypeId} [h : IsSl P t] : Tame P n F (.call { callee := .builtin .len, args := #[x], argTypes := #[t] }) ty := ⟨fun a hf d _ _ _ => by
  simp only [execOp, resolve, pure_bind, invoke, builtin, List.map_toArray, List.map_cons, List.map_nil]
  refine pl_v ?_
  unfold Builtin.len_
  generalize a.eval x = v
  have e0 : (#[t] : Array TypeId)[0]? = some t := rfl
  have e1 : (#[v] : Array Value)[0]? = some v := rfl
  simp only [e0, e1]
  refine pl_underlying' fun d hd => ?_
  obtain ⟨e, he⟩ := h.sl
  rw [he] at hd; cases hd
  cases v <;> trivial⟩
/-- It asks shapes alone. -/
def _root_.Go.Sem.Shp {α : Type} : Sem α → Prop
  | .pure _ => True
  | .shape _ k => ∀ x, (k x).Shp
  | .frozen _ k => ∀ x, (k x).Shp
  | .halt h => ∀ v, h ≠ .panic v
  | _ => False
theorem shp_bind {α β : Type} : ∀ {s : Sem α} {f : α → Sem β}, s.Shp → (∀ x, (f x).Shp) → (s >>= f).Shp
  | .pure a, _, _, hf => hf a
  | .shape _ _, _, h, hf => fun x => shp_bind (h x) hf
  | .frozen _ _, _, h, hf => fun x => shp_bind (h x) hf
  | .halt _, _, h, _ => h
theorem dead_shp {α β : Type} : ∀ {s : Sem α} {f : α → Sem β}, s.Shp → (∀ x, (f x).Dead P) → (s >>= f).Dead P
  | .pure a, _, _, hf => hf a
  | .shape _ _, _, h, hf => fun x => dead_shp (h x) hf
  | .frozen _ _, _, h, hf => fun x => dead_shp (h x) hf
  | .halt _, _, h, _ => h
theorem pl_shp {α β : Type} : ∀ {s : Sem α} {f : α → Sem β}, s.Shp → (∀ x, (f x).Dead P) → (∀ x, (f x).Pl P) → (s >>= f).Pl P
  | .pure a, _, _, _, hf => hf a
  | .shape _ _, _, h, hd, _ => fun x => dead_shp (h x) hd
  | .frozen _ _, _, h, hd, _ => fun x => dead_shp (h x) hd
  | .halt _, _, _, _, _ => trivial
theorem shp_holds (a : Addr) (k : Nat) : (Builtin.holdsCells a k).Shp := by
  unfold Builtin.holdsCells
  refine shp_bind (s := shape _) (fun _ => trivial) fun x => ?_
  split <;> trivial
theorem shp_share (size sLen k : Nat) (base : Option Addr) (x : Value) : (Builtin.mayShare size sLen k base x).Shp := by
  unfold Builtin.mayShare
  repeat' first | exact trivial | exact shp_holds _ _ | exact (fun _ => trivial) | apply shp_bind | (intro x) | dsimp only | split
theorem pl_firstCells (size k : Nat) (v : Value) : (Builtin.firstCells size k v).Pl P := by
  unfold Builtin.firstCells; split
  · exact pl_loadCells _ _ 0 #[]
  · trivial
  · trivial
  · trivial
end
end Go.Sx
end
section
namespace Go.Sx
variable [Gnd]
open Go.Conc
section
variable {P : Program} [C : Co P] {n : Nat}
def Panics (P : Program) (n : Nat) (F : Fr) (S : World → Prop) (op : Op) (ty : TypeId) (x : Value) : Prop :=
  ∀ a w, Fits n F a → S w → ∀ d ps af g, (execOp a.eval ⟨d, op, ty, ps, af, g⟩).run P w = .halt (.panic x) w
theorem ow_panic {ops : Array Oper} {d : Option Nat} {op : Op} {ty : TypeId} {ps : String} {af : Array Edge} {rest : List Oper} {F : Fr} {M : World → Prop} {Q : Po} [hS : Stb M] {x : Value}
    (hv : Panics P n F M op ty x) (hT : Tame P n F op ty) (h : ∀ w, M w → Q (.panic [{ v := x, recovered := false }]) F w) : OW P n ops (⟨d, op, ty, ps, af, none⟩ :: rest) F M Q := by
  intro a w hf hm
  refine wpListX_plain rfl fun K hK w₁ h₁ => ?_
  have hm₁ := (hm.rely h₁).here
  obtain ⟨w', es, h2, h3, h4⟩ := pl_panic (hT.tame a hf d ps af none) (hv a (pz w₁) hf hm₁ d ps af none)
  rw [h2]
  exact ⟨DD.good h4, F, hf, ⟨_, h _ hm₁, h3 ▸ RV.refl _⟩⟩
omit C in
theorem tame_panic {F : Fr} {x : Operand} {ty : TypeId} {t : TypeId} {v : Value} (h : ev F x = some (.iface t v)) : Tame P n F (.panic x) ty := ⟨fun a hf d ps af g => by
  unfold execOp
  simp only
  rw [ev_eval hf h]
  exact pl_bind (s := Instr.panic (.iface t v)) trivial fun _ => trivial⟩
omit C in
theorem panics_panic {F : Fr} {S : World → Prop} {x : Operand} {ty : TypeId} {t : TypeId} {v : Value} (h : ev F x = some (.iface t v)) : Panics P n F S (.panic x) ty (.iface t v) := fun a w hf _ d ps af g => by
  unfold execOp
  simp only
  rw [ev_eval hf h]
  simp [Instr.panic, goPanic, go_sem]
end
end Go.Sx
end
section
namespace Go.Sx
variable [Gnd]
open Go.Conc
section
variable {P : Program} {n : Nat} {F : Fr} {ty : TypeId}
theorem pl_lenOf (v : Value) : (Builtin.lenOf v).Pl P := by
  unfold Builtin.lenOf; split <;> trivial
instance {x y : Operand} {t u : TypeId} [h : OrdSl P t] [h' : IsSl P u] : Tame P n F (.call { callee := .builtin .append, args := #[x, y], argTypes := #[t, u] }) ty := ⟨fun a hf _ _ _ _ => by
  simp only [execOp, resolve, pure_bind, invoke, builtin, List.map_toArray, List.map_cons, List.map_nil]
  refine pl_v ?_
  unfold Builtin.append_
  generalize a.eval x = vx
  generalize a.eval y = vy
  have e0 : (#[t, u] : Array TypeId)[0]? = some t := rfl
  have e1 : (#[vx, vy] : Array Value)[0]? = some vx := rfl
  have e2 : (#[vx, vy] : Array Value)[1]? = some vy := rfl
  have e3 : (#[t, u] : Array TypeId)[1]? = some u := rfl
  simp only [e0, e1, e2, e3]
  refine pl_underlying' fun d hd => ?_
  cases d with
  | slice e =>
    have ho := h.ord e hd
    dsimp only
    cases vx with
    | slice base sLen sCap =>
      dsimp only
      refine pl_bind (pl_sizeOf e) fun size => pl_underlying' fun ud hu => ?_
      obtain ⟨e', he'⟩ := h'.sl
      rw [he'] at hu; cases hu
      simp only [pure_bind, Bool.false_eq_true, if_false, Bool.not_false, if_true, false_or]
      refine pl_bind (pl_lenOf vy) fun k => ?_
      have tail : Sem.Pl P (do
          let newCap ← choose (.appendCap (sLen + k) sCap e)
          askRoom (newCap * (← typeInfo e).bytes)
          let old ← Builtin.firstCells size sLen (.slice base sLen sCap)
          let new ← Builtin.firstCells size k vy
          pure (.slice (some (← newRow e (old ++ new ++ Builtin.zeroCells (← zeroValue e).cells (newCap - (sLen + k))))) (sLen + k) newCap) : Sem Value) :=
        by
          intro t
          repeat' first | exact pl_typeInfo _ | exact pl_askRoom _ | exact pl_firstCells _ _ _ | exact pl_zeroValue _ | exact pl_newRow ho _ | apply pl_bind | (intro x) | exact trivial
      have share : Sem.Pl P (do
          if !(← Builtin.mayShare size sLen k base vy) then mark .noRoom
          unsupported (.resourceLimit "append: a slice or a string whose bytes no memory bears") : Sem Unit) := by
        refine pl_shp (shp_share _ _ _ _ _) (fun b => ?_) (fun b => ?_)
        · dsimp only; split <;> (intro v; simp)
        · dsimp only; split
          · exact ⟨rfl, trivial⟩
          · trivial
      split
      · refine pl_bind (pl_firstCells _ _ _) fun new => ?_
        split
        · exact pl_bind (pl_storeCells _ _ _) fun _ => trivial
        · trivial
      · refine pl_bind (pl_typeInfo _) fun i => ?_
        split
        · refine pl_bind (pl_error _) fun _ => pl_bind (pl_typeInfo _) fun i => ?_
          split
          · exact pl_bind share fun _ => tail
          · exact tail
        · refine pl_bind (pl_typeInfo _) fun i => ?_
          split
          · exact pl_bind share fun _ => tail
          · exact tail
    | _ => trivial
  | _ => trivial⟩
end
end Go.Sx
end
