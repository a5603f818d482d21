import Derived.Test.YtcdponddgnkecaaDoorRf10
import Derived.Test.YtcdponddgnkecaaDoorMt6
import Derived.Test.YtcdponddgnkecaaDoorMtV
import Derived.Test.YtcdponddgnkecaaDoorProg
set_option linter.unusedVariables false
set_option linter.unusedSimpArgs false
namespace Go.Proofs.YtcdponddgnkecaaDoor
open Go.Sx Go.Ps
theorem tsize_is {k : Nat} (b : Nat) (l : List (List UInt8)) (w : World) (ht : TreeIs 110 79 k w b l) : Calls Tryd.prog 75 #[vPtr b] w fun e w' => ∃ v, e = .returned v ∧ v = vU64 (UInt64.ofNat l.length) ∧ Mem w [] [] w' := by
  obtain ⟨ps, a, c, h⟩ := ht; exact tsize_any k w b _ _ h.blk

theorem new_tr (k : Nat) (h1 : 1 ≤ k) (h2 : k ≤ 32) (w : World) : Calls Tryd.prog 36 #[vInt (k : Int)] w fun e w' => ∃ u, e = .returned u ∧ ∃ s : Nat × List Ent, u = .tuple #[vPtr s.1, vInt ((0 : Nat) : Int)] ∧ TrOn 110 79 k s.2 s.1 [] ∧ Mem w [] s.2 w' :=
  (new_yes k h1 h2 w).mono fun _ _ ⟨u, he, b, hu, hm⟩ => ⟨u, he, (b, _), hu, TrOn.new, hm⟩
theorem append_tr (k : Nat) (h1 : 1 ≤ k) (h2 : k ≤ 32) (w : World) (hK : KW w) (T : List Ent) (hh : Held T w) (b : Nat) (l : List (List UInt8)) (ht : TrOn 110 79 k T b l) (hdl : ∀ x ∈ l, x.length = 32) (hfl : ∀ x ∈ l, fm (k : Int) x = true) (a2 : Option Addr) (m c2 : Nat) (ms : List (List UInt8)) (hlm : ms.length = m) (hml : ∀ d ∈ ms, d.length = 32) (hmr : Rd w a2 (ms.flatMap fun d => d.map vU8)) (hmc : m ≤ c2) (hm63 : m < 9223372036854775808) (hmsf : ∀ d ∈ ms, fm (k : Int) d = true) (hbig : l.length + m + 1 ≤ 4611686018427387903) :
    Calls Tryd.prog 37 #[vPtr b, .slice a2 m c2] w fun e w' => ∃ u, e = .returned u ∧ ∃ s : Nat × List Ent, u = .tuple #[vPtr s.1, vInt ((0 : Nat) : Int)] ∧ TrOn 110 79 k (T ++ s.2) s.1 (l ++ ms) ∧ Mem w [] s.2 w' := by
  subst hlm
  obtain ⟨ps, a, c, ht⟩ := ht
  exact (append_go k h1 h2 w hK b l ps a c (ht w hh) hdl hfl a2 c2 ms hml hmr hmc hm63 hbig hmsf).mono fun _ _ ⟨u, he, b', ps', a', c', es, hu, h, hm⟩ =>
    ⟨u, he, (b', es), hu, ⟨ps', a', c', fun w'' hw => h w'' (hw.sub (List.sublist_append_right _ _)) (ht w'' (hw.sub (List.sublist_append_left _ _))).nodes⟩, hm⟩
end Go.Proofs.YtcdponddgnkecaaDoor
