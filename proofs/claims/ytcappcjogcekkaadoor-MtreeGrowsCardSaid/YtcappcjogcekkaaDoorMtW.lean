/- Trees that stand on a list of own blocks; trees grown from trees. -/
import Derived.Test.YtcappcjogcekkaaDoorMtV
set_option linter.unusedVariables false
set_option linter.unusedSimpArgs false
namespace Go.Ps
open Go.Sx

/-- Wherever the blocks of the list stand, the tree in block b has these leaves. -/
def TrOn (tN tT : TypeId) (k : Nat) (T : List Ent) (b : Nat) (l : List (List UInt8)) : Prop := ∃ ps a c, ∀ w, Held T w → TreeAt tN tT k w b l ps a c
section
variable {tN tT : TypeId} {k : Nat} {T T' : List Ent} {b : Nat} {l : List (List UInt8)} {w : World}
theorem TrOn.is (h : TrOn tN tT k T b l) (hh : Held T w) : TreeIs tN tT k w b l := by
  obtain ⟨ps, a, c, h⟩ := h; exact ⟨ps, a, c, h w hh⟩
theorem TrOn.sub (h : TrOn tN tT k T b l) (hs : T.Sublist T') : TrOn tN tT k T' b l := by
  obtain ⟨ps, a, c, h⟩ := h; exact ⟨ps, a, c, fun w hh => h w (hh.sub hs)⟩
theorem TrOn.left (h : TrOn tN tT k T b l) : TrOn tN tT k (T ++ T') b l := h.sub (List.sublist_append_left _ _)
theorem TrOn.right (h : TrOn tN tT k T b l) : TrOn tN tT k (T' ++ T) b l := h.sub (List.sublist_append_right _ _)
theorem TrOn.cast (h : TrOn tN tT k T b l) {m : List (List UInt8)} (hm : l = m) : TrOn tN tT k T b m := hm ▸ h
/-- The tree of an empty log. -/
theorem TrOn.new : TrOn tN tT k [some (b, blk (treeC k 0 (.slice none 0 0)) tT)] b [] :=
  ⟨[], none, 0, fun w hh => ⟨Peaks.nil, fun x hx => (by cases hx), hh b _ List.mem_cons_self, Rd.nil _ _, Nat.le_refl _⟩⟩
end
end Go.Ps
