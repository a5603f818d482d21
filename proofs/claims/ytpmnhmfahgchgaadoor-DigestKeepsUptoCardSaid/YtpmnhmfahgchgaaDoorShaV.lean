import Derived.Test.YtpmnhmfahgchgaaDoorSxJ
import Derived.Test.YtpmnhmfahgchgaaDoorPSha
set_option linter.unusedVariables false
set_option linter.unusedSimpArgs false
namespace Go.Sx
open Go.Ps

def shCells (s : Sh) : List Value := s.h.map vU32 ++ (.bool s.bg :: (s.bl.map vU8 ++ [vU64 s.n]))

section
variable {s : Sh}
theorem sh_len (hs : s.ok) : (shCells s).length = 74 := by simp [shCells, hs.h, hs.bl]
theorem sh_bg (hs : s.ok) : (shCells s)[8]? = some (.bool s.bg) := by
  have := get_skip (xs := s.h.map vU32) (ys := .bool s.bg :: (s.bl.map vU8 ++ [vU64 s.n])) (k := 0) (m := 8) (v := .bool s.bg) (by simp [hs.h]) rfl
  simpa [shCells] using this
theorem sh_n (hs : s.ok) : (shCells s)[73]? = some (vU64 s.n) := by
  have h1 : (s.bl.map vU8 ++ [vU64 s.n])[64]? = some (vU64 s.n) := by
    have := get_skip (xs := s.bl.map vU8) (ys := [vU64 s.n]) (k := 0) (m := 64) (v := vU64 s.n) (by simp [hs.bl]) rfl
    simpa using this
  have := get_skip (xs := s.h.map vU32) (ys := .bool s.bg :: (s.bl.map vU8 ++ [vU64 s.n])) (k := 65) (m := 8) (v := vU64 s.n) (by simp [hs.h]) (by simpa using h1)
  simpa [shCells] using this
theorem sh_h (hs : s.ok) : ((shCells s).drop 0).take 8 = s.h.map vU32 := by
  simp only [shCells, List.drop_zero]
  exact List.take_left' (by simp [hs.h])
theorem sh_drop9 (hs : s.ok) : (shCells s).drop 9 = s.bl.map vU8 ++ [vU64 s.n] := by
  have e : shCells s = (s.h.map vU32 ++ [.bool s.bg]) ++ (s.bl.map vU8 ++ [vU64 s.n]) := by simp [shCells]
  rw [e]; exact List.drop_left' (by simp [hs.h])
theorem sh_bl (hs : s.ok) : ((shCells s).drop 9).take 64 = s.bl.map vU8 := by
  rw [sh_drop9 hs]; exact List.take_left' (by simp [hs.bl])
/-- Its fields written. -/
theorem sh_set_bg (hs : s.ok) (b : Bool) : (shCells s).set 8 (.bool b) = shCells { s with bg := b } := by
  simp only [shCells]
  rw [List.set_append_right _ _ (by simp [hs.h])]
  simp [hs.h]
theorem sh_set_n (hs : s.ok) (n : UInt64) : (shCells s).set 73 (vU64 n) = shCells { s with n := n } := by
  have e : ∀ m, shCells { s with n := m } = (s.h.map vU32 ++ (.bool s.bg :: s.bl.map vU8)) ++ [vU64 m] := fun m => by simp [shCells]
  have e1 : shCells s = (s.h.map vU32 ++ (.bool s.bg :: s.bl.map vU8)) ++ [vU64 s.n] := e s.n
  have hl : (s.h.map vU32 ++ (.bool s.bg :: s.bl.map vU8)).length = 73 := by simp [hs.h, hs.bl]
  refine Eq.trans ?_ (e n).symm
  rw [e1, List.set_append_right _ _ (by rw [hl]; omega), hl]
  rfl
theorem sh_set_h (hs : s.ok) (h : List UInt32) : (shCells s).take 0 ++ h.map vU32 ++ (shCells s).drop (0 + 8) = shCells { s with h := h } := by
  have : (shCells s).drop 8 = .bool s.bg :: (s.bl.map vU8 ++ [vU64 s.n]) := List.drop_left' (by simp [hs.h])
  simp only [List.take_zero, List.nil_append, Nat.zero_add, this]
  rfl
theorem sh_set_bl (hs : s.ok) (i : Nat) (c : List UInt8) (hi : i + c.length ≤ 64) : (shCells s).take (9 + i) ++ c.map vU8 ++ (shCells s).drop (9 + i + c.length) = shCells { s with bl := s.bl.take i ++ c ++ s.bl.drop (i + c.length) } := by
  have e : ∀ b : List UInt8, shCells { s with bl := b } = (s.h.map vU32 ++ [.bool s.bg]) ++ (b.map vU8 ++ [vU64 s.n]) := fun b => by simp [shCells]
  have e1 : shCells s = (s.h.map vU32 ++ [.bool s.bg]) ++ (s.bl.map vU8 ++ [vU64 s.n]) := e s.bl
  have hl : (s.h.map vU32 ++ [Value.bool s.bg]).length = 9 := by simp [hs.h]
  have h1 : (shCells s).take (9 + i) = (s.h.map vU32 ++ [.bool s.bg]) ++ (s.bl.take i).map vU8 := by
    rw [e1, ← hl, List.take_length_add_append, List.take_append_of_le_length (by simp [hs.bl]; omega), List.map_take]
  have h2 : (shCells s).drop (9 + i + c.length) = (s.bl.drop (i + c.length)).map vU8 ++ [vU64 s.n] := by
    rw [Nat.add_assoc, ← List.drop_drop, sh_drop9 hs, List.drop_append_of_le_length (by simp [hs.bl]; omega), List.map_drop]
  refine Eq.trans ?_ (e _).symm
  rw [h1, h2]
  simp
theorem sh_one (s : Sh) : ∀ v ∈ shCells s, v.oneCell' = true := by
  intro v hv
  simp only [shCells, List.mem_append, List.mem_cons, List.mem_map, List.not_mem_nil, or_false] at hv
  rcases hv with ⟨a, _, rfl⟩ | rfl | ⟨a, _, rfl⟩ | rfl <;> rfl
end

/-- The table in memory. -/
def KW (w : World) : Prop := ∀ i, i < 64 → w.cell? ⟨0, i, none⟩ = some (vU32 (gw KT i))
theorem KW.mem {w0 w : World} {olds : List Nat} {l : List Ent} (h : KW w0) (hm : Mem w0 olds l w) (h0 : 0 ∉ olds) : KW w := fun i hi => by
  have hc := h i hi
  rw [hm.cell (World.block_lt_of_cell? _ _ hc) h0]; exact hc
theorem KW.mem0 {w0 w : World} {l : List Ent} (h : KW w0) (hm : Mem w0 [] l w) : KW w := h.mem hm (by simp)
theorem KW.pos {w : World} (h : KW w) : 0 < w.heap.size := World.block_lt_of_cell? _ _ (h 0 (by omega))
end Go.Sx
