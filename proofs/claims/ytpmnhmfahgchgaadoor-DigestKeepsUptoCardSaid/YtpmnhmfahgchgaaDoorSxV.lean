import Derived.Test.YtpmnhmfahgchgaaDoorDigV
import Derived.Laws.StructEq
set_option linter.unusedVariables false
set_option linter.unusedSimpArgs false
namespace Go.Sx
section
variable {P : Program} {n : Nat} {F : Fr} {S : World → Prop} {ty : TypeId}

theorem eqFields_cons {d : Nat} {f : Field} {fs : List Field} {xs ys : Array Value} {a b : Value} {r : Bool} (hn : f.name ≠ "_") (h1 : ∀ w, (part f.type xs f.offset).run P w = .ok a w) (h2 : ∀ w, (part f.type ys f.offset).run P w = .ok b w)
    (h3 : ∀ w, (Op.equalIn d f.type a b).run P w = .ok r w) (w : World) : (Op.eqFields d xs ys (f :: fs)).run P w = bif r then (Op.eqFields d xs ys fs).run P w else .ok false w := by
  simp only [Op.eqFields, if_pos hn, Sem.run_bind, h1, h2, h3, Result.andThen_ok]
  cases r <;> simp
theorem eqIn_u64 {E : TypeId} {d : Nat} (hE : P.underlying E = some (.int .u64)) (a b : UInt64) (w : World) : (Op.equalIn (d + 1) E (vU64 a) (vU64 b)).run P w = .ok (decide (a = b)) w := by
  unfold vU64
  rw [run_equalIn_int w d E .u64 .u64 _ _ hE]
  congr 1
  rw [Bool.eq_iff_iff]; simp only [beq_iff_eq, decide_eq_true_eq, ← UInt64.toNat_inj]; omega
theorem val_eql_root {T V U D E : TypeId} {x y : Operand} {s1 s2 : UInt64} {l1 m1 l2 m2 : List UInt8} {n1 n2 n3 : String}
    (hx : ev F x = some (.agg (rootC s1 l1 m1).toArray)) (hy : ev F y = some (.agg (rootC s2 l2 m2).toArray)) (hg : P.eqGuardType P.depth T = false)
    (hT : P.underlying T = some (.struct (P.fieldsOf T))) (hF : (P.fieldsOf T).toList.map (fun f => (f.name, f.type, f.offset)) = [(n1, U, 0), (n2, D, 1), (n3, D, 33)]) (hst : P.stoodInHeld T = false)
    (hn1 : n1 ≠ "_") (hn2 : n2 ≠ "_") (hn3 : n3 ≠ "_") (hU : P.underlying U = some (.int .u64)) (hUA : ∀ w, (isAgg U).run P w = .ok false w)
    (hD : P.underlying D = some (.array 32 E)) (hDA : ∀ w, (isAgg D).run P w = .ok true w) (hDS : ∀ w, (sizeOf D).run P w = .ok 32 w)
    (hE : P.underlying E = some (.int .u8)) (hES : ∀ w, (sizeOf E).run P w = .ok 1 w) (hEA : ∀ w, (isAgg E).run P w = .ok false w)
    (hl1 : l1.length = 32) (hm1 : m1.length = 32) (hl2 : l2.length = 32) (hm2 : m2.length = 32) :
    Val P n F S (.binOp .eql T x y V) ty (.bool (decide (s1 = s2) && decide (l1 = l2) && decide (m1 = m2))) := by
  obtain ⟨f1, r1, hf1, he1, hr1⟩ := List.map_eq_cons_iff.1 hF
  obtain ⟨f2, r2, hf2, he2, hr2⟩ := List.map_eq_cons_iff.1 hr1
  obtain ⟨f3, r3, hf3, he3, hr3⟩ := List.map_eq_cons_iff.1 hr2
  obtain rfl : r3 = [] := List.map_eq_nil_iff.1 hr3
  simp only [Prod.mk.injEq] at he1 he2 he3
  refine val_eql_agg hx hy hg fun w => ?_
  rw [run_equalIn_struct w 9999 T _ _ hT hst, hf1, hf2, hf3]
  have hu : ∀ (s : UInt64) (l m : List UInt8) w, (part f1.type (rootC s l m).toArray f1.offset).run P w = .ok (vU64 s) w := by
    intro s l m w; rw [he1.2.1, he1.2.2]; simp [part, hUA, rootC]
  have hlg : ∀ (s : UInt64) (l m : List UInt8), l.length = 32 → ∀ w, (part f2.type (rootC s l m).toArray f2.offset).run P w = .ok (.agg (l.map vU8).toArray) w := by
    intro s l m hl w
    rw [he2.2.1, he2.2.2]
    simp only [part, Sem.run_bind, hDA, Result.andThen_ok, if_true, hDS, Sem.run_pure, rootC]
    rw [List.extract_toArray, List.extract_eq_take_drop, List.drop_succ_cons, List.drop_zero, List.take_left' (by rw [List.length_map]; exact hl)]
  have hmp : ∀ (s : UInt64) (l m : List UInt8), l.length = 32 → m.length = 32 → ∀ w, (part f3.type (rootC s l m).toArray f3.offset).run P w = .ok (.agg (m.map vU8).toArray) w := by
    intro s l m hl hm w
    rw [he3.2.1, he3.2.2]
    simp only [part, Sem.run_bind, hDA, Result.andThen_ok, if_true, hDS, Sem.run_pure, rootC]
    rw [List.extract_toArray, List.extract_eq_take_drop, List.drop_succ_cons, List.drop_left' (by rw [List.length_map]; exact hl), List.take_of_length_le (by rw [List.length_map]; omega)]
  have hdig : ∀ (a b : List UInt8), a.length = 32 → b.length = 32 → ∀ w, (Op.equalIn 9999 D (.agg (a.map vU8).toArray) (.agg (b.map vU8).toArray)).run P w = .ok (decide (a = b)) w := fun a b ha hb w =>
    eqIn_list (d := 9998) vU8 hD hES hEA (fun a b w => eqIn_u8 (d := 9997) hE a b w) a b ha hb w
  rw [eqFields_cons (by rw [he1.1]; exact hn1) (hu s1 l1 m1) (hu s2 l2 m2) (fun w => by rw [he1.2.1]; exact eqIn_u64 (d := 9998) hU s1 s2 w)]
  rw [eqFields_cons (by rw [he2.1]; exact hn2) (hlg s1 l1 m1 hl1) (hlg s2 l2 m2 hl2) (fun w => by rw [he2.2.1]; exact hdig _ _ hl1 hl2 w)]
  rw [eqFields_cons (by rw [he3.1]; exact hn3) (hmp s1 l1 m1 hl1 hm1) (hmp s2 l2 m2 hl2 hm2) (fun w => by rw [he3.2.1]; exact hdig _ _ hm1 hm2 w)]
  cases decide (s1 = s2) <;> cases decide (l1 = l2) <;> cases decide (m1 = m2) <;> simp [Op.eqFields]
end
end Go.Sx
