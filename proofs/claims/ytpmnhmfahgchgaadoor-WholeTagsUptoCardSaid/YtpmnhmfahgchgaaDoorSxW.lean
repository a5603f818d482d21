import Derived.Test.YtpmnhmfahgchgaaDoorSxU
import Derived.Laws.BytesArg
import Derived.Laws.StructEq
set_option linter.unusedVariables false
set_option linter.unusedSimpArgs false
namespace Go.Sx
section
variable {P : Program} {n : Nat} {F : Fr} {S : World → Prop} {ty : TypeId}

def strOf (p : List UInt8) : ByteArray := ⟨p.toArray⟩
theorem strOf_toList (p : List UInt8) : (strOf p).toList = p := by
  rw [ByteArray.toList_eq]; simp [strOf]
theorem list_beq {p q : List UInt8} : (p == q) = decide (p = q) := by
  rw [Bool.eq_iff_iff, beq_iff_eq, decide_eq_true_eq]
theorem run_conv_str {T U E : TypeId} {a : Option Addr} {c : Nat} {p : List UInt8} {w : World} (hT : P.underlying T = some (.slice E)) (hE : P.underlying E = some (.int .u8)) (hU : P.underlying U = some .string) (hr : Rd w a (p.map vU8)) :
    (convert T U (.slice a p.length c)).run P w = .ok (.string (strOf p)) w := by
  cases a with
  | none =>
    have hp : p = [] := by
      cases p with
      | nil => rfl
      | cons x r => obtain ⟨b, o, h⟩ := hr.addr (by simp); cases h
    subst hp
    exact run_convert_bytes_nil w T E hT hE 0 c U hU
  | some ad =>
    rw [run_convert_bytes_string w T U E _ _ c hT hE hU]
    have hl : (loadCells ad p.length).run P w = .ok ((p.map fun b => (b.toNat : Int)).map (Value.int .u8)).toArray w := by
      have := run_loadCells_list (P := P) w ad (p.map vU8) (fun j v hj => by
        obtain ⟨b, o, h1, h2⟩ := hr j v hj
        obtain rfl := Option.some.inj h1
        have hplain : (⟨b, o, none⟩ : Addr).add j = ⟨b, o + j, none⟩ := by unfold Addr.add; split <;> simp_all
        rw [hplain]; exact h2)
      rw [List.length_map] at this
      rw [this, List.map_map]; rfl
    rw [run_bytesToString w ad p.length c _ hl, foldl_push_bytes]
    have e : (List.map (fun n : Int => UInt8.ofNat n.toNat) (List.map (fun b : UInt8 => (b.toNat : Int)) p)) = p := by
      rw [List.map_map]
      conv => rhs; rw [← List.map_id p]
      apply List.map_congr_left
      intro b _
      simp
    rw [e]
    simp [strOf, ByteArray.empty, ByteArray.emptyWithCapacity]
    rfl
theorem val_conv_str {T U E : TypeId} {x : Operand} {a : Option Addr} {m c : Nat} (p : List UInt8) (hT : P.underlying T = some (.slice E)) (hE : P.underlying E = some (.int .u8)) (hU : P.underlying U = some .string)
    (hx : ev F x = some (.slice a m c)) (hm : p.length = m) (hr : ∀ w, S w → Rd w a (p.map vU8)) : Val P n F S (.convert T U x) ty (.string (strOf p)) := fun s w hf hs d ps af g => by
  subst hm
  simp only [execOp, ev_eval hf hx, Sem.run_bind, run_conv_str hT hE hU (hr w hs), Result.andThen_ok, Sem.run_pure]
theorem guard_string {op : BinOp} {T : TypeId} {x y : Operand} {p q : ByteArray} (w : World) : (eqGuard op T x y (.string p) (.string q)).run P w = .ok () w := by
  cases op <;> simp [eqGuard]
theorem val_eql_strs {T V : TypeId} {x y : Operand} {p q : List UInt8} (hx : ev F x = some (.string (strOf p))) (hy : ev F y = some (.string (strOf q))) : Val P n F S (.binOp .eql T x y V) ty (.bool (decide (p = q))) :=
  bin_ok hx hy guard_string fun w => by simp [binOp, Op.stringOp, strOf_toList, beq_toListBytes, list_beq]
end
section
variable {P : Program} {n : Nat} {l : List Oper} {S : World → Prop} {late : List Nat} {listed : Array Bool} {F : Fr} {Q : Po} {r : Tr} {i : Nat} {op : Op} {ty : TypeId} {ps : String} {af : Array Edge} {g : Option (Nat × Bool)} {w0 : World} {olds : List Nat} {m : List Ent}
theorem lt_call_row2 {t : Nat} {f : FuncId} {args : Array Value} {E : TypeId} {size k : Nat} {xs : List Value} {x : Value} (ho : nth l i = some ⟨some t, op, ty, ps, af, g⟩) (hg : WG l F g) (hv : CallsTo P n F (Mem w0 olds m) op ty f args) (ht : Nat.blt t n = true)
    (hc : ∀ w, Mem w0 olds m w → Calls P f args w fun e w' => ∃ u, e = .returned u ∧ ∃ s e', u = .tuple #[s, x] ∧ RowE s E size k xs e' ∧ Mem w [] [e'] w')
    (hS : clean late (listed.setIfInBounds i true) = true → ∀ e w, Mem w0 olds (e :: m) w → S w)
    (h : ∀ a c e', RowE (.slice a k c) E size k xs e' → LT P n l S late r (listed.setIfInBounds i true) ((t, .tuple #[.slice a k c, x]) :: F) (Mem w0 olds (e' :: m)) Q) : LT P n l S late (.one i 2 r) listed F (Mem w0 olds m) Q :=
  lt_call (fun _ u w' => ∃ s e', u = .tuple #[s, x] ∧ RowE s E size k xs e' ∧ Mem w0 olds (e' :: m) w') ho hg hv ht
    (fun _ hm => (hc _ hm).mono fun _ _ ⟨u, he, s, e', hu, hr, hm'⟩ => ⟨u, he, s, e', hu, hr, hm.call hm'⟩)
    (fun hc w u w' _ hr => by obtain ⟨s, e', _, _, hm⟩ := hr; exact hS hc e' w' hm)
    (fun _ u _ a w' hf ⟨s, e', hu, hr, hm'⟩ => by
      subst hu
      obtain ⟨a', c', rfl, _⟩ := hr.slice
      exact h a' c' e' hr a w' hf hm')
end
end Go.Sx
