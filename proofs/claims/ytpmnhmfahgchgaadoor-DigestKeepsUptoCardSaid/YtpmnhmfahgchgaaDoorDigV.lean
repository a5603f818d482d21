import Derived.Test.YtpmnhmfahgchgaaDoorSxO
import Derived.Test.YtpmnhmfahgchgaaDoorPDig
set_option linter.unusedVariables false
set_option linter.unusedSimpArgs false
namespace Go.Sx
open Go.Ps

def SlOk (w : World) (s : Sl UInt8) : Prop := Rd w s.a (s.xs.map vU8) ∧ s.xs.length ≤ s.c ∧ s.xs.length < 9223372036854775808
def prs (ps : List (Sl UInt8 × Sl UInt8)) : List (List UInt8 × List UInt8) := ps.map fun x => (x.1.xs, x.2.xs)
structure Cop where
  kind : Int
  w : Int
  P : Sl UInt8
  L : List UInt8
  R : List UInt8
  pairs : Sl (Sl UInt8 × Sl UInt8)
  bm : UInt16
  kids : Sl (List UInt8)
  size : UInt64
  log : List UInt8
  map : List UInt8
instance : Inhabited Cop := ⟨⟨0, 0, default, [], [], default, 0, default, 0, [], []⟩⟩
abbrev rootC (size : UInt64) (l r : List UInt8) : List Value := vU64 size :: (l.map vU8 ++ r.map vU8)
def Cop.cells (o : Cop) : List Value := vInt o.kind :: vInt o.w :: o.P.v :: (o.L.map vU8 ++ (o.R.map vU8 ++ (o.pairs.v :: vU16 o.bm :: o.kids.v :: rootC o.size o.log o.map)))
structure Cop.ok (W : World) (o : Cop) : Prop where
  k : -9223372036854775808 ≤ o.kind ∧ o.kind ≤ 9223372036854775807
  iw : -9223372036854775808 ≤ o.w ∧ o.w ≤ 9223372036854775807
  p : SlOk W o.P
  ll : o.L.length = 32
  rl : o.R.length = 32
  pr : Rd W o.pairs.a (o.pairs.xs.flatMap fun x => [x.1.v, x.2.v])
  pl : o.pairs.xs.length ≤ o.pairs.c
  pm : o.pairs.xs.length < 9223372036854775808
  pe : ∀ s ∈ o.pairs.xs, SlOk W s.1 ∧ SlOk W s.2
  kr : Rd W o.kids.a (o.kids.xs.flatMap fun d => d.map vU8)
  kl : o.kids.xs.length ≤ o.kids.c
  km : o.kids.xs.length ≤ 4398046511000
  ke : ∀ d ∈ o.kids.xs, d.length = 32
  gl : o.log.length = 32
  ml : o.map.length = 32
theorem SlOk.mem {w0 w : World} {l : List Ent} {s : Sl UInt8} (h : SlOk w0 s) (hm : Mem w0 [] l w) : SlOk w s := ⟨h.1.mem hm, h.2⟩
theorem Cop.ok.mem {w0 w : World} {l : List Ent} {o : Cop} (h : o.ok w0) (hm : Mem w0 [] l w) : o.ok w :=
  ⟨h.k, h.iw, h.p.mem hm, h.ll, h.rl, h.pr.mem hm, h.pl, h.pm, fun s hs => ⟨(h.pe s hs).1.mem hm, (h.pe s hs).2.mem hm⟩, h.kr.mem hm, h.kl, h.km, h.ke, h.gl, h.ml⟩
section
variable {W : World} {o : Cop}
theorem Cop.cells_len (h : o.ok W) : o.cells.length = 135 := by simp [Cop.cells, rootC, h.ll, h.rl, h.gl, h.ml]
theorem Cop.cells_L (h : o.ok W) : (o.cells.drop 3).take 32 = o.L.map vU8 := by
  simp only [Cop.cells, List.drop_succ_cons, List.drop_zero]
  rw [List.take_left' (by rw [List.length_map]; exact h.ll)]
theorem Cop.drop35 (h : o.ok W) : o.cells.drop 35 = o.R.map vU8 ++ (o.pairs.v :: vU16 o.bm :: o.kids.v :: rootC o.size o.log o.map) := by
  simp only [Cop.cells, List.drop_succ_cons]
  rw [List.drop_left' (by rw [List.length_map]; exact h.ll)]
theorem Cop.cells_R (h : o.ok W) : (o.cells.drop 35).take 32 = o.R.map vU8 := by
  rw [Cop.drop35 h, List.take_left' (by rw [List.length_map]; exact h.rl)]
theorem Cop.drop67 (h : o.ok W) : o.cells.drop 67 = o.pairs.v :: vU16 o.bm :: o.kids.v :: rootC o.size o.log o.map := by
  have := congrArg (List.drop 32) (Cop.drop35 h)
  rw [List.drop_drop, List.drop_left' (by rw [List.length_map]; exact h.rl)] at this
  exact this
theorem Cop.get67 (h : o.ok W) (j : Nat) : o.cells[67 + j]? = (o.pairs.v :: vU16 o.bm :: o.kids.v :: rootC o.size o.log o.map)[j]? := by
  rw [← Cop.drop67 h, List.getElem?_drop]
theorem Cop.c67 (h : o.ok W) : o.cells[67]? = some o.pairs.v := Cop.get67 h 0
theorem Cop.c68 (h : o.ok W) : o.cells[68]? = some (vU16 o.bm) := Cop.get67 h 1
theorem Cop.c69 (h : o.ok W) : o.cells[69]? = some o.kids.v := Cop.get67 h 2
theorem Cop.cells_root (h : o.ok W) : (o.cells.drop 70).take 65 = rootC o.size o.log o.map := by
  have := congrArg (List.drop 3) (Cop.drop67 h)
  rw [List.drop_drop] at this
  rw [show (67 + 3 : Nat) = 70 from rfl] at this
  rw [this, List.drop_succ_cons, List.drop_succ_cons, List.drop_succ_cons, List.drop_zero, List.take_of_length_le (by simp [rootC, h.gl, h.ml])]
theorem rootC_len {size : UInt64} {l r : List UInt8} (hl : l.length = 32) (hr : r.length = 32) : (rootC size l r).length = 65 := by simp [rootC, hl, hr]
theorem Cop.one : ∀ v ∈ o.cells, v.oneCell' = true := by
  intro v hv
  have h8 : ∀ (l : List UInt8), v ∈ l.map vU8 → v.oneCell' = true := fun l h => one_u8s l v h
  simp only [Cop.cells, rootC, List.mem_cons, List.mem_append] at hv
  rcases hv with rfl | rfl | rfl | h | h | rfl | rfl | rfl | rfl | h | h <;> first | rfl | exact h8 _ h
end
/-- The bytes that a call asks for, and the error. -/
def opIn (o : Cop) : List UInt8 × Nat :=
  if o.kind = 1 then (leafI o.P.xs, 0) else if o.kind = 2 then (nodeP o.w o.L o.R, chk o.w [o.L, o.R]) else if o.kind = 3 then (keyI o.P.xs, 0)
  else if o.kind = 4 then (bucketI (prs o.pairs.xs), 0) else if o.kind = 5 then (branchP o.w o.bm o.kids.xs, chkB o.w o.bm o.kids.xs) else (rootP o.w o.size o.log o.map, chk o.w [o.log, o.map])
def known (o : Cop) : Bool := decide (1 ≤ o.kind) && decide (o.kind ≤ 6)
/-- Not too much of it. -/
def Cop.small (o : Cop) : Prop := o.P.xs.length ≤ 1048576 ∧ (pairsB (prs o.pairs.xs)).length ≤ 140737488300000 ∧ o.kids.xs.length ≤ 1048576
theorem opIn_no {o : Cop} (h : wd o.w = false) : (opIn o).2 = 0 ∨ (opIn o).2 = 1 := by
  unfold opIn
  split
  · exact .inl rfl
  split
  · exact .inr (chk_no h)
  split
  · exact .inl rfl
  split
  · exact .inl rfl
  split
  · right; simp [chkB, chk_no h]
  · exact .inr (chk_no h)
theorem digO_opIn_no {o : Cop} (h : wd o.w = false) : digO o.w (opIn o).1 (opIn o).2 = (zeros32, 1) := by
  rcases opIn_no h with h1 | h1
  · rw [h1, digO_no h]
  · rw [h1, digO_err (by decide)]
end Go.Sx
