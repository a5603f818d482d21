import Derived.Test.YtcdponddgnkecaaDoorSxL
import Derived.Test.YtcdponddgnkecaaDoorPMck
set_option linter.unusedVariables false
set_option linter.unusedSimpArgs false
namespace Go.Ps
open Go.Sx

abbrev vPtr (b : Nat) : Value := .pointer (some ⟨b, 0, none⟩)
def nodeC (d : List UInt8) (l r : Value) (size : UInt64) : List Value := d.map vU8 ++ [l, r, vU64 size]
def treeC (k : Nat) (size : UInt64) (s : Value) : List Value := [vInt (k : Int), vU64 size, s]
/-- The node in block b is the whole subtree of 2^p leaves. -/
def NodeIs (tN : TypeId) (k : Nat) (w : World) : Nat → Nat → List (List UInt8) → Prop
  | 0, b, seg => ∃ d, seg = [d] ∧ w.heap[b]? = some (blk (nodeC d (.pointer none) (.pointer none) 1) tN)
  | p + 1, b, seg => ∃ bl br s1 s2, seg = s1 ++ s2 ∧ NodeIs tN k w p bl s1 ∧ NodeIs tN k w p br s2 ∧ w.heap[b]? = some (blk (nodeC (lg k seg) (vPtr bl) (vPtr br) (UInt64.ofNat (2 ^ (p + 1)))) tN)
section
variable {tN tT : TypeId} {k : Nat} {w w' : World}
theorem NodeIs.len : ∀ {p b : Nat} {seg : List (List UInt8)}, NodeIs tN k w p b seg → seg.length = 2 ^ p
  | 0, _, _, ⟨d, h, _⟩ => by rw [h]; rfl
  | p + 1, _, _, ⟨_, _, s1, s2, h, h1, h2, _⟩ => by rw [h, List.length_append, h1.len, h2.len, Nat.pow_succ]; omega
theorem NodeIs.head {p b : Nat} {seg : List (List UInt8)} (h : NodeIs tN k w p b seg) : ∃ l r, w.heap[b]? = some (blk (nodeC (lg k seg) l r (UInt64.ofNat (2 ^ p))) tN) := by
  cases p with
  | zero => obtain ⟨d, rfl, h⟩ := h; exact ⟨_, _, by rw [lg_one]; exact h⟩
  | succ p => obtain ⟨bl, br, _, _, _, _, _, h⟩ := h; exact ⟨_, _, h⟩
/-- It stands on wherever its blocks stand on. -/
theorem NodeIs.map : ∀ {p b : Nat} {seg : List (List UInt8)}, NodeIs tN k w p b seg → (∀ (b : Nat) (o : Obj), w.heap[b]? = some o → (∃ xs, o = blk xs tN) → w'.heap[b]? = some o) → NodeIs tN k w' p b seg
  | 0, _, _, ⟨d, h, hb⟩, hw => ⟨d, h, hw _ _ hb ⟨_, rfl⟩⟩
  | p + 1, _, _, ⟨bl, br, s1, s2, h, h1, h2, hb⟩, hw => ⟨bl, br, s1, s2, h, h1.map hw, h2.map hw, hw _ _ hb ⟨_, rfl⟩⟩
theorem NodeIs.mem {p b : Nat} {seg : List (List UInt8)} {l : List Ent} (h : NodeIs tN k w p b seg) (hm : Mem w [] l w') : NodeIs tN k w' p b seg := h.map fun _ _ hb _ => hm.oldBlk hb
theorem NodeIs.mk {p b bl br : Nat} {s1 s2 : List (List UInt8)} (h1 : NodeIs tN k w p bl s1) (h2 : NodeIs tN k w p br s2) (hb : w.heap[b]? = some (blk (nodeC (nd k (lg k s1) (lg k s2)) (vPtr bl) (vPtr br) (UInt64.ofNat (2 ^ (p + 1)))) tN)) :
    NodeIs tN k w (p + 1) b (s1 ++ s2) := ⟨bl, br, s1, s2, rfl, h1, h2, by rw [lg_join k h1.len h2.len]; exact hb⟩
theorem NodeIs.leaf {b : Nat} {d : List UInt8} (hb : w.heap[b]? = some (blk (nodeC d (.pointer none) (.pointer none) 1) tN)) : NodeIs tN k w 0 b [d] := ⟨d, rfl, hb⟩
/-- The tree in block b. -/
structure TreeAt (tN tT : TypeId) (k : Nat) (w : World) (b : Nat) (l : List (List UInt8)) (ps : List Pk) (a : Option Addr) (c : Nat) : Prop where
  pk : Peaks ps l
  nodes : ∀ x ∈ ps, NodeIs tN k w x.p x.b x.seg
  blk : w.heap[b]? = some (blk (treeC k (UInt64.ofNat l.length) (.slice a ps.length c)) tT)
  rd : Rd w a (ps.map fun x => vPtr x.b)
  le : ps.length ≤ c
def TreeIs (tN tT : TypeId) (k : Nat) (w : World) (b : Nat) (l : List (List UInt8)) : Prop := ∃ ps a c, TreeAt tN tT k w b l ps a c
theorem TreeAt.mem {b : Nat} {l : List (List UInt8)} {ps : List Pk} {a : Option Addr} {c : Nat} {m : List Ent} (h : TreeAt tN tT k w b l ps a c) (hm : Mem w [] m w') : TreeAt tN tT k w' b l ps a c :=
  ⟨h.pk, fun x hx => (h.nodes x hx).mem hm, hm.oldBlk h.blk, h.rd.mem hm, h.le⟩
theorem TreeIs.mem {b : Nat} {l : List (List UInt8)} {m : List Ent} (h : TreeIs tN tT k w b l) (hm : Mem w [] m w') : TreeIs tN tT k w' b l := by
  obtain ⟨ps, a, c, h⟩ := h; exact ⟨ps, a, c, h.mem hm⟩
end
/-- The subtree in which a leaf stands, found peak by peak. -/
theorem peaks_len {ps : List Pk} {l : List (List UInt8)} (h : Peaks ps l) : l.length = (ps.map fun x => 2 ^ x.p).sum := by
  rw [← h.cat]
  have hl := h.len
  clear h
  induction ps with
  | nil => rfl
  | cons x r ih =>
    simp only [segs, List.flatMap_cons, List.length_append, List.map_cons, List.sum_cons]
    have := ih (fun y hy => hl y (by simp [hy]))
    rw [segs] at this
    rw [this, hl x (by simp)]

/-! Lists of digests, cut. -/
theorem takeD : ∀ (l : List (List UInt8)) (k : Nat), (∀ d ∈ l, d.length = 32) → (l.flatMap fun d => d.map vU8).take (k * 32) = (l.take k).flatMap fun d => d.map vU8
  | [], k, _ => by simp
  | x :: r, 0, _ => by simp
  | x :: r, k + 1, h => by
    have hx := h x (by simp)
    rw [List.flatMap_cons, List.take_succ_cons, List.flatMap_cons, show (k + 1) * 32 = (x.map vU8).length + k * 32 by rw [List.length_map, hx]; omega, List.take_length_add_append, takeD r k (fun d hd => h d (by simp [hd]))]
theorem dropD : ∀ (l : List (List UInt8)) (k : Nat), (∀ d ∈ l, d.length = 32) → (l.flatMap fun d => d.map vU8).drop (k * 32) = (l.drop k).flatMap fun d => d.map vU8
  | [], k, _ => by simp
  | x :: r, 0, _ => by simp
  | x :: r, k + 1, h => by
    have hx := h x (by simp)
    rw [List.flatMap_cons, List.drop_succ_cons, show (k + 1) * 32 = (x.map vU8).length + k * 32 by rw [List.length_map, hx]; omega, List.drop_length_add_append, dropD r k (fun d hd => h d (by simp [hd]))]
theorem rdTakeD {w : World} {a : Option Addr} {l : List (List UInt8)} (h : Rd w a (l.flatMap fun d => d.map vU8)) (k : Nat) : Rd w a ((l.take k).flatMap fun d => d.map vU8) := by
  have h1 : (l.flatMap fun d => d.map vU8) = ((l.take k).flatMap fun d => d.map vU8) ++ ((l.drop k).flatMap fun d => d.map vU8) := by rw [← List.flatMap_append, List.take_append_drop]
  rw [h1] at h; exact Rd.pre h
theorem rdCutD {w : World} {a : Option Addr} {l : List (List UInt8)} (h : Rd w a (l.flatMap fun d => d.map vU8)) (hl : ∀ d ∈ l, d.length = 32) {k c : Nat} (hc : l.length ≤ c) : Rd w (Sx.cut a c k 32) ((l.drop k).flatMap fun d => d.map vU8) := by
  unfold Sx.cut
  have hlen : (l.flatMap fun d => d.map vU8).length = l.length * 32 := flatMap_size l (n := 32) (fun y hy => by rw [List.length_map]; exact hl y hy)
  rcases Nat.lt_or_ge k l.length with hk | hk
  · obtain ⟨b, o, rfl⟩ := h.addr (by omega)
    have h1 := h.drop (k := k) (m := 32) (c := c) (len := l.length) hlen (by omega) hc
    rw [dropD l k hl] at h1
    rw [if_neg (by omega)] at h1 ⊢
    simpa [add_none] using h1
  · rw [List.drop_of_length_le hk]; exact Rd.nil _ _
end Go.Ps

namespace Go.Ps
open Go.Sx

/-- Wherever the blocks of the list stand, the tree in block b has these leaves. -/
def TrOn (tN tT : TypeId) (k : Nat) (T : List Ent) (b : Nat) (l : List (List UInt8)) : Prop := ∃ ps a c, ∀ w, Held T w → TreeAt tN tT k w b l ps a c
section
variable {tN tT : TypeId} {k : Nat} {T T' : List Ent} {b : Nat} {l : List (List UInt8)} {w : World}
theorem TrOn.is (h : TrOn tN tT k T b l) (hh : Held T w) : TreeIs tN tT k w b l := by
  obtain ⟨ps, a, c, h⟩ := h; exact ⟨ps, a, c, h w hh⟩
theorem TrOn.sub (h : TrOn tN tT k T b l) (hs : T.Sublist T') : TrOn tN tT k T' b l := by
  obtain ⟨ps, a, c, h⟩ := h; exact ⟨ps, a, c, fun w hh => h w (hh.sub hs)⟩
theorem TrOn.left (h : TrOn tN tT k T b l) : TrOn tN tT k (T ++ T') b l := h.sub (List.sublist_append_left _ _)
theorem TrOn.right (h : TrOn tN tT k T b l) : TrOn tN tT k (T' ++ T) b l := h.sub (List.sublist_append_right _ _)
theorem TrOn.cast (h : TrOn tN tT k T b l) {m : List (List UInt8)} (hm : l = m) : TrOn tN tT k T b m := hm ▸ h
/-- The tree of an empty log. -/
theorem TrOn.new : TrOn tN tT k [some (b, blk (treeC k 0 (.slice none 0 0)) tT)] b [] :=
  ⟨[], none, 0, fun w hh => ⟨Peaks.nil, fun x hx => (by cases hx), hh b _ List.mem_cons_self, Rd.nil _ _, Nat.le_refl _⟩⟩
/-- Wherever the blocks of the list stand, the cells are read there. -/
def RdOn (T : List Ent) (a : Option Addr) (xs : List Value) : Prop := ∀ w, Held T w → Rd w a xs
theorem RdOn.left {a : Option Addr} {xs : List Value} (h : RdOn T a xs) : RdOn (T ++ T') a xs := fun w hh => h w (hh.sub (List.sublist_append_left _ _))
theorem RdOn.right {a : Option Addr} {xs : List Value} (h : RdOn T a xs) : RdOn (T' ++ T) a xs := fun w hh => h w (hh.sub (List.sublist_append_right _ _))
end
end Go.Ps
