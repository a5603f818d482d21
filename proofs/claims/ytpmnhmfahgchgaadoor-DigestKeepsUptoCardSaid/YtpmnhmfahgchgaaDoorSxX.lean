import Derived.Test.YtpmnhmfahgchgaaDoorSxT
import Derived.Test.YtpmnhmfahgchgaaDoorSxU
set_option linter.unusedVariables false
set_option linter.unusedSimpArgs false
namespace Go.Sx
section
variable {P : Program} {n : Nat} {F : Fr} {ty : TypeId} {w0 : World} {olds : List Nat}

theorem RowE.short {a : Option Addr} {c size k j : Nat} {T : TypeId} {xs ys : List Value} {e : Ent} (h : RowE (.slice a (k + j) c) T size (k + j) (xs ++ ys) e) (hx : xs.length = k * size) : RowE (.slice a k c) T size k xs e := by
  obtain ⟨hl, ⟨hv, h0, he⟩ | ⟨b, cap, rest, hv, hc, hcm, hcl, he⟩⟩ := h
  · simp only [Value.slice.injEq] at hv
    obtain ⟨rfl, _, rfl⟩ := hv
    obtain rfl : k = 0 := by omega
    exact ⟨hx, .inl ⟨rfl, rfl, he⟩⟩
  · simp only [Value.slice.injEq] at hv
    obtain ⟨rfl, _, rfl⟩ := hv
    exact ⟨hx, .inr ⟨b, c, ys ++ rest, rfl, by omega, hcm, by rw [← List.append_assoc]; exact hcl, by rw [he, List.append_assoc]⟩⟩
theorem upd_pick {l : List Ent} {i : Nat} {x : Ent} (h : pick l i = x) : upd l i x = l := by rw [← h, upd_self]
/-- A kept row and the one that is grown from it: in one block, or in two. -/
def GrE (T : TypeId) (size : Nat) (a : Option Addr) (k c : Nat) (xs ys : List Value) (j : Nat) (ag : Option Addr) (cg : Nat) (er eg : Ent) : Prop :=
  (eg = none ∧ ag = a ∧ cg = c ∧ RowE (.slice a (k + j) c) T size (k + j) (xs ++ ys) er) ∨ (RowE (.slice a k c) T size k xs er ∧ RowE (.slice ag (k + j) cg) T size (k + j) (xs ++ ys) eg)
theorem GrE.start {T : TypeId} {size k c : Nat} {a : Option Addr} {xs : List Value} {e : Ent} (h : RowE (.slice a k c) T size k xs e) : GrE T size a k c xs [] 0 a c e none := .inl ⟨rfl, rfl, rfl, by simpa using h⟩
theorem GrE.row {T : TypeId} {size k c j cg : Nat} {a ag : Option Addr} {xs ys : List Value} {er eg : Ent} (h : GrE T size a k c xs ys j ag cg er eg) (hx : xs.length = k * size) : RowE (.slice a k c) T size k xs er := by
  rcases h with ⟨_, _, _, h⟩ | ⟨h, _⟩
  · exact h.short hx
  · exact h
theorem acts_grow {l : List Ent} {T E : TypeId} {x y : Operand} {i : TypeInfo} {z : Value} {size bytes k j m c cg c2 : Nat} {a ag : Option Addr} {ad : Addr} {xs ys zs : List Value} {er eg : Ent} (ix jx : Nat)
    (hx : ev F x = some (.slice ag (k + j) cg)) (hy : ev F y = some (.slice (some ad) m c2)) (hpi : pick l ix = er) (hpj : pick l jx = eg) (hij : ix ≠ jx) (hlj : Nat.blt jx l.length = true)
    (hgr : GrE E size a k c xs ys j ag cg er eg) (hxl : xs.length = k * size)
    (hT : P.underlying T = some (.slice E)) (hi : P.info? E = some i) (hz : i.zero = some z) (hs : i.size = size) (hby : i.bytes = bytes) (hzs : z.cells.size = size) (hsz : 0 < size) (hpos : 0 < m)
    (hrd : ∀ w, Mem w0 olds l w → Rd w (some ad) zs) (hyl : zs.length = m * size) (h1 : ∀ u ∈ zs, u.oneCell' = true) (hb : (k + j + m) * bytes ≤ 140737488355328) (hkm : k + j + m ≤ 9223372036854775807) :
    Acts P n F (Mem w0 olds l) (.call { callee := .builtin .append, args := #[x, y], argTypes := #[T, T] }) ty
      (fun _ u w' => ∃ ag' cg' er' eg', u = .slice ag' (k + (j + m)) cg' ∧ GrE E size a k c xs (ys ++ zs) (j + m) ag' cg' er' eg' ∧ Mem w0 olds (upd (upd l ix er') jx eg') w') := by
  have hui : upd l ix er = l := by rw [← hpi, upd_self]
  rcases hgr with ⟨rfl, rfl, rfl, hrow⟩ | ⟨hrow, hrg⟩
  · intro s w hf hm d ps af g
    have hrdw := hrd w hm
    subst hs; subst hby
    have hexec : ∀ (u : Value) (w' : World), (Builtin.append_ #[T, T] ty #[.slice ag (k + j) cg, .slice (some ad) m c2]).run P w = .ok u w' →
        (execOp s.eval ⟨d, .call { callee := .builtin .append, args := #[x, y], argTypes := #[T, T] }, ty, ps, af, g⟩).run P w = .ok (.value u) w' := by
      intro u w' h
      simp [execOp, resolve, ev_eval hf hx, ev_eval hf hy, invoke, builtin, h]
    have hold := hrow.short hxl
    have hjl : jx < l.length := by simpa [Nat.blt, Nat.succ_le_iff] using hlj
    obtain ⟨K, hK⟩ : ∃ K, k + j = K := ⟨_, rfl⟩
    obtain ⟨X, hX⟩ : ∃ X, xs ++ ys = X := ⟨_, rfl⟩
    have hkj : k + (j + m) = K + m := by omega
    rw [hkj]
    have hcat : xs ++ (ys ++ zs) = X ++ zs := by rw [← hX, List.append_assoc]
    rw [hK] at hexec hx hb hkm
    have hrow' := hrow
    rw [hK, hX] at hrow'
    have hnews : ∀ j u, zs[j]? = some u → w.cell? (ad.add j) = some u := fun j u hj => by
      obtain ⟨b, o, e, hc⟩ := hrdw j u hj
      simp only [Option.some.injEq] at e; subst e
      rw [add_none]; exact hc
    have hcap := grownCap_ge w (K + m)
    have grown : ∀ (old : Nat), Mem w0 olds (upd l jx (some (w.heap.size, blk (X ++ zs ++ (Builtin.zeroCells z.cells (grownCap w (K + m) old E - (K + m))).toList) E)))
        (w.drew.alloc (.cells (X.toArray ++ zs.toArray ++ Builtin.zeroCells z.cells (grownCap w (K + m) old E - (K + m))) E)) := fun old =>
      hm.renew jx rfl rfl rfl (by simp) (Nat.le_refl _) (by
        have := heap_alloc_new w.drew (.cells (X.toArray ++ zs.toArray ++ Builtin.zeroCells z.cells (grownCap w (K + m) old E - (K + m))) E)
        simp only [blk]
        refine this.trans ?_
        congr 2
        apply Array.ext'
        simp) (fun j hj => RowKit.Below.heap_alloc w.drew _ j hj)
    have growE : ∀ (old : Nat), RowE (.slice (some ⟨w.heap.size, 0, none⟩) (K + m) (grownCap w (K + m) old E)) E i.size (K + m) (X ++ zs)
        (some (w.heap.size, blk (X ++ zs ++ (Builtin.zeroCells z.cells (grownCap w (K + m) old E - (K + m))).toList) E)) := fun old => by
      have hge := grownCap_ge w (K + m) old E
      have hml := grownCap_le_maxLen w (K + m) old E (by simpa [maxLen] using hkm)
      refine ⟨by rw [List.length_append, hrow'.1, hyl, Nat.add_mul], .inr ⟨_, _, _, rfl, hge, by simpa [maxLen] using hml, ?_, rfl⟩⟩
      simp only [List.length_append, Array.length_toList, size_zeroCells, hzs, hrow'.1, hyl, ← Nat.add_mul]
      congr 1; omega
    have wrap : ∀ {u : Value} {w' : World} {ag' : Option Addr} {cg' : Nat} {eg' : Ent}, u = .slice ag' (K + m) cg' → RowE (.slice ag' (K + m) cg') E i.size (K + m) (X ++ zs) eg' → Mem w0 olds (upd l jx eg') w' →
        ∃ ag'' cg'' er' eg', u = .slice ag'' (K + m) cg'' ∧ GrE E i.size ag k cg xs (ys ++ zs) (j + m) ag'' cg'' er' eg' ∧ Mem w0 olds (upd (upd l ix er') jx eg') w' := fun {u w' ag' cg' eg'} hu hr hm' =>
      ⟨ag', cg', er, eg', hu, .inr ⟨hold, by rw [hkj, hcat]; exact hr⟩, by rw [hui]; exact hm'⟩
    rcases hrow'.2 with ⟨hv, h0, he⟩ | ⟨b, cap, rest, hv, hc, hcm, hcl, he⟩
    · simp only [Value.slice.injEq] at hv
      obtain ⟨rfl, _, rfl⟩ := hv
      subst h0
      have hX0 : X = [] := List.length_eq_zero_iff.1 (by simpa using hrow'.1)
      subst hX0
      have hr := run_append_nil (P := P) w T ty E i z hT hi hz ad m c2 zs hyl hnews hpos (by omega) (by simp only [Nat.zero_add] at hb; omega)
      have g1 := grown 0; have g2 := growE 0
      simp only [Nat.zero_add, List.nil_append, Array.empty_append] at g1 g2 wrap ⊢
      exact ⟨_, _, hexec _ _ hr, wrap rfl g2 g1⟩
    · simp only [Value.slice.injEq] at hv
      obtain ⟨rfl, _, rfl⟩ := hv
      have hp' := hpi.trans he
      have hbk := hm.at hp'
      by_cases hroom : K + m ≤ cg
      · have hfit : K * i.size + zs.length ≤ (X ++ rest).toArray.size := by
          simp only [List.size_toArray, hcl, hyl, ← Nat.add_mul]; exact Nat.mul_le_mul_right _ hroom
        have hr := run_append_room (P := P) w T ty E i hT hi b K cg _ hbk ad m c2 zs hyl hnews h1 hroom hfit
        have hx1 : (X ++ rest).take (K * i.size) = X := by rw [← hrow'.1]; exact List.take_left
        have hx2 : (X ++ rest).drop (K * i.size + zs.length) = rest.drop zs.length := by rw [← hrow'.1, ← List.drop_drop, List.drop_left]
        simp only [hx1, hx2] at hr
        have hne : RowE (.slice (some ⟨b, 0, none⟩) (K + m) cg) E i.size (K + m) (X ++ zs) (some (b, blk (X ++ zs ++ rest.drop zs.length) E)) :=
          ⟨by rw [List.length_append, hrow'.1, hyl, Nat.add_mul], .inr ⟨b, cg, rest.drop zs.length, rfl, hroom, hcm, by
            simp only [List.size_toArray] at hfit
            simp only [List.length_append, List.length_drop] at hcl hfit ⊢
            have := hrow'.1
            omega, rfl⟩⟩
        refine ⟨_, _, hexec _ _ hr, some ⟨b, 0, none⟩, cg, some (b, blk (X ++ zs ++ rest.drop zs.length) E), none, rfl, .inl ⟨rfl, rfl, rfl, by rw [hkj, hcat]; exact hne⟩, ?_⟩
        rw [upd_pick (by rw [pick_upd_ne _ _ _ _ hij]; exact hpj)]
        refine hm.put hp' rfl rfl rfl (by simp) ?_ (fun j _ hj => setRow_other w b j _ hj)
        exact setRow_heap w b _ _ E _ hbk
      · have holds : ∀ j u, X[j]? = some u → w.cell? ((⟨b, 0, none⟩ : Addr).add j) = some u := fun j u hj => by
          rw [add_none, Nat.zero_add, hm.cellAt hp', List.getElem?_append_left (List.getElem?_eq_some_iff.1 hj).1]; exact hj
        have hr := run_append_grow (P := P) w T ty E i z hT hi hz ⟨b, 0, none⟩ K cg X hrow'.1 holds ad m c2 zs hyl hnews (by omega) (by omega) (growslice_fits (by omega) hb)
        exact ⟨_, _, hexec _ _ hr, wrap rfl (growE cg) (grown cg)⟩
  · intro s w hf hm d ps af g
    obtain ⟨u, w', e, e', hr, hm'⟩ := acts_append jx hx hy hpj hrg hlj hT hi hz hs hby hzs hsz hrd hyl h1 hb hkm s w hf hm d ps af g
    obtain ⟨a', c', rfl, _⟩ := hr.slice
    exact ⟨_, w', e, a', c', er, e', by rw [Nat.add_assoc], .inr ⟨hrow, by rw [← List.append_assoc, ← Nat.add_assoc]; exact hr⟩, by rw [hui]; exact hm'⟩
theorem ow_grow {l : List Ent} {ops : Array Oper} {t : Nat} {op : Op} {ps : String} {af : Array Edge} {rest : List Oper} {M : World → Prop} {Q : Po} {E : TypeId} {size k c j ix jx : Nat} {a : Option Addr} {xs zs : List Value}
    (hv : Acts P n F M op ty (fun _ u w' => ∃ ag' cg' er' eg', u = .slice ag' (k + j) cg' ∧ GrE E size a k c xs zs j ag' cg' er' eg' ∧ Mem w0 olds (upd (upd l ix er') jx eg') w')) (ht : Nat.blt t n = true)
    (h : ∀ ag' cg' er' eg', GrE E size a k c xs zs j ag' cg' er' eg' → OW P n ops rest ((t, .slice ag' (k + j) cg') :: F) (Mem w0 olds (upd (upd l ix er') jx eg')) Q) : OW P n ops (⟨some t, op, ty, ps, af, none⟩ :: rest) F M Q := by
  intro s w hf hm
  refine wpList_plain rfl fun K hK => ?_
  unfold Oper.wp
  obtain ⟨v, w', e, ag', cg', er', eg', rfl, hg, hm'⟩ := hv s w hf hm (some t) ps af none
  rw [e]
  exact hK _ _ (h ag' cg' er' eg' hg _ w' (hf.put ht _) hm')
end
end Go.Sx
