/- A shift to the right of a whole number. -/
import Derived.Test.YtcappcjogcekkaaDoorSxT
set_option linter.unusedVariables false
set_option linter.unusedSimpArgs false
namespace Go.Sx
variable {P : Program} {n : Nat} {F : Fr} {S : World → Prop} {ty : TypeId}
theorem val_shr_nat {T V : TypeId} {x y : Operand} {a : Nat} {k' : IntKind} {i : Int} (c : Nat) (hx : ev F x = some (vInt (a : Int))) (hy : ev F y = some (.int k' i)) (hi : i = (c : Int)) (hc : c < 64) : Val P n F S (.binOp .shr T x y V) ty (vInt ((a / 2 ^ c : Nat) : Int)) :=
  bin_int hx hy fun w => by
    subst hi
    have h1 : ¬ ((c : Int) < 0) := by omega
    have h2 : min (Int.toNat (c : Int)) 64 = c := by simp; omega
    simp only [binOp, Op.shift, vInt, h1, if_false, IntKind.bits, h2, Sem.run_pure, Result.ok.injEq, Value.int.injEq, true_and, and_true]
    have h4 : (2 : Int) ^ c = ((2 ^ c : Nat) : Int) := by simp
    rw [h4, ← Int.ofNat_fdiv]
end Go.Sx
