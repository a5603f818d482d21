import Derived.Test.YtigogbodobifdaaProg
import Derived.Conc.MuLone
import Derived.Conc.MuData
import Derived.KernelRfl
set_option linter.unusedVariables false
set_option linter.unusedSimpArgs false
namespace Go.Proofs.Ytigogbodobifdaa
abbrev muLink : Go.Conc.Locks.MuLink := { lock := 37, unlock := 38, ilock := 40, iunlock := 41, lockSlow := 46, unlockSlow := 49, disable := 42, enable := 44, acquire := 45, relMerge := 47, cas32 := 43, add32 := 48, tMutex := 67, tIMutex := 65, tPMutex := 84, tPIMutex := 85, tPI32 := 87, tUP := 89, tNoCopy := 62, tU32 := 63 }
theorem muLib : Go.Conc.Locks.MuLib Try.prog muLink :=
  ⟨Try.func37, Try.func38, Try.func40, Try.func41, Try.func42, Try.func44, Try.func45, Try.func47, Try.func43, Try.func48, Try.underlying65, Try.runUnderlying65, Try.sizeOf65, Try.isAgg65, Try.zeroValue65, Try.underlying67, Try.runUnderlying67, Try.sizeOf67, Try.isAgg67, Try.zeroValue67, Try.underlying84, Try.runUnderlying84, Try.sizeOf84, Try.isAgg84, Try.zeroValue84, Try.underlying85, Try.runUnderlying85, Try.sizeOf85, Try.isAgg85, Try.zeroValue85, Try.underlying87, Try.runUnderlying87, Try.sizeOf87, Try.isAgg87, Try.zeroValue87, Try.underlying89, Try.runUnderlying89, Try.sizeOf89, Try.isAgg89, Try.zeroValue89, Try.underlying62, Try.runUnderlying62, Try.sizeOf62, Try.isAgg62, Try.zeroValue62, Try.underlying21, Try.runUnderlying21, Try.sizeOf21, Try.isAgg21, Try.zeroValue21, (by kernel_rfl)⟩
theorem muData : Go.Conc.Locks.MuData Try.prog muLink := ⟨Try.underlying63, by kernel_rfl, by kernel_rfl, by kernel_rfl, by kernel_rfl, by kernel_rfl⟩
end Go.Proofs.Ytigogbodobifdaa
