import Derived.Test.YtpmnhmfahgchgaaDoorRowF
set_option linter.unusedVariables false
set_option linter.unusedSimpArgs false
namespace Go.Sx
open Go.Ps
def pairUp {α : Type} : List α → List (α × α)
  | a :: b :: r => (a, b) :: pairUp r
  | _ => []
theorem pairUp_flat {α : Type} : ∀ ps : List (α × α), pairUp (ps.flatMap fun x => [x.1, x.2]) = ps
  | [] => rfl
  | (a, b) :: r => by
    rw [List.flatMap_cons]
    show (a, b) :: pairUp (r.flatMap fun x => [x.1, x.2]) = _
    rw [pairUp_flat r]
theorem flat_pairUp {α : Type} : ∀ (n : Nat) (l : List α), l.length = 2 * n → (pairUp l).flatMap (fun x => [x.1, x.2]) = l
  | 0, l, h => by obtain rfl := List.length_eq_zero_iff.1 (show l.length = 0 by omega); rfl
  | n + 1, [], h => by rw [List.length_nil] at h; omega
  | n + 1, [a], h => by rw [List.length_singleton] at h; omega
  | n + 1, a :: b :: r, h => by
    have ih := flat_pairUp n r (by simp at h; omega)
    rw [pairUp, List.flatMap_cons, ih]; rfl
theorem pairUp_len {α : Type} : ∀ (n : Nat) (l : List α), l.length = 2 * n → (pairUp l).length = n
  | 0, l, h => by obtain rfl := List.length_eq_zero_iff.1 (show l.length = 0 by omega); rfl
  | n + 1, [], h => by rw [List.length_nil] at h; omega
  | n + 1, [a], h => by rw [List.length_singleton] at h; omega
  | n + 1, a :: b :: r, h => by rw [pairUp, List.length_cons, pairUp_len n r (by simp at h; omega)]
theorem map_dep {α β γ : Type} {g : α → γ} {f : α → β} (hd : ∀ x y, g x = g y → f x = f y) : ∀ {l m : List α}, l.map g = m.map g → l.map f = m.map f
  | [], [], _ => rfl
  | [], _ :: _, h => by simp at h
  | _ :: _, [], h => by simp at h
  | x :: r, y :: m, h => by
    rw [List.map_cons, List.map_cons] at h
    injection h with h1 h2
    rw [List.map_cons, List.map_cons, hd x y h1, map_dep hd h2]
theorem slv_parts {x y : Sl UInt8} (h : x.v = y.v) : x.a = y.a ∧ x.xs.length = y.xs.length ∧ x.c = y.c := by
  rw [Sl.v, Sl.v, Value.slice.injEq] at h; exact h
theorem cut40_len (x : Sl UInt8) : (cut40 x).xs.length = x.xs.length - 40 := by
  show (x.xs.take _).length = _; rw [List.length_take]; omega
theorem cut40_v {x y : Sl UInt8} (h : x.v = y.v) : (cut40 x).v = (cut40 y).v := by
  obtain ⟨h1, h2, h3⟩ := slv_parts h
  have e1 := cut40_len x
  have e2 := cut40_len y
  show Value.slice x.a (cut40 x).xs.length x.c = .slice y.a (cut40 y).xs.length y.c
  rw [e1, e2, h1, h2, h3]
def qF (o : Cop) (ap : Option Addr) (cp : Nat) (Fs : List (Sl UInt8)) (kd : Sl (List UInt8)) : Cop := qOf o (cut40 (Fs.getD 0 default)) ⟨ap, cp, pairUp (Fs.tail.map cut40)⟩ kd
theorem qF_of {T : TypeId} {o : Cop} {i : Nat} {Fs : List (Sl UInt8)} {es : List Ent} {P : Sl UInt8} {ps : List (Sl UInt8 × Sl UInt8)} (h : SpI T o i Fs es P ps) (ap : Option Addr) (cp : Nat) (kd : Sl (List UInt8)) : qOf o P ⟨ap, cp, ps⟩ kd = qF o ap cp Fs kd := by
  have h1 := h.2.2.1
  cases Fs with
  | nil => simp at h1
  | cons x r =>
    rw [List.map_cons] at h1
    injection h1 with h2 h3
    show qOf o P ⟨ap, cp, ps⟩ kd = qOf o (cut40 x) ⟨ap, cp, pairUp (r.map cut40)⟩ kd
    rw [← h2, ← h3, pairUp_flat]
section
variable {o : Cop} {ap : Option Addr} {cp n : Nat} {Fs Gs : List (Sl UInt8)} {kd : Sl (List UInt8)}
theorem tail_len (hl : Fs.length = 1 + 2 * n) : (Fs.tail.map cut40).length = 2 * n := by rw [List.length_map, List.length_tail]; omega
theorem qF_ls (hl : Fs.length = 1 + 2 * n) : lsO (qF o ap cp Fs kd) = Fs.map cut40 := by
  cases Fs with
  | nil => rw [List.length_nil] at hl; omega
  | cons x r =>
    show cut40 x :: (pairUp (r.map cut40)).flatMap (fun x => [x.1, x.2]) = _
    have h1 := flat_pairUp n _ (tail_len hl)
    rw [List.tail_cons] at h1
    rw [h1]; rfl
theorem qF_pn (hl : Fs.length = 1 + 2 * n) : (qF o ap cp Fs kd).pairs.xs.length = n := pairUp_len n _ (tail_len hl)
theorem vs_len (h : Gs.map Sl.v = Fs.map Sl.v) : Gs.length = Fs.length := by have := congrArg List.length h; simpa using this
theorem qF_cells (hl : Fs.length = 1 + 2 * n) (h : Gs.map Sl.v = Fs.map Sl.v) : (qF o ap cp Gs kd).cells = (qF o ap cp Fs kd).cells := by
  have hg := vs_len h
  have h1 : (qF o ap cp Gs kd).P.v = (qF o ap cp Fs kd).P.v := by
    cases Fs with
    | nil => rw [List.length_nil] at hl; omega
    | cons x r =>
      cases Gs with
      | nil => simp at hg
      | cons y m =>
        rw [List.map_cons, List.map_cons] at h
        injection h with h1 _
        exact cut40_v h1
  have h2 : (qF o ap cp Gs kd).pairs.v = (qF o ap cp Fs kd).pairs.v := by
    have e1 := qF_pn (o := o) (ap := ap) (cp := cp) (kd := kd) hl
    have e2 := qF_pn (o := o) (ap := ap) (cp := cp) (kd := kd) (hg.trans hl)
    show Value.slice ap (qF o ap cp Gs kd).pairs.xs.length cp = .slice ap (qF o ap cp Fs kd).pairs.xs.length cp
    rw [e1, e2]
  show vInt o.kind :: vInt o.w :: (qF o ap cp Gs kd).P.v :: (o.L.map vU8 ++ (o.R.map vU8 ++ ((qF o ap cp Gs kd).pairs.v :: vU16 o.bm :: kd.v :: rootC o.size o.log o.map))) = vInt o.kind :: vInt o.w :: (qF o ap cp Fs kd).P.v :: (o.L.map vU8 ++ (o.R.map vU8 ++ ((qF o ap cp Fs kd).pairs.v :: vU16 o.bm :: kd.v :: rootC o.size o.log o.map)))
  rw [h1, h2]
theorem flatv (l : List (Sl UInt8 × Sl UInt8)) : (l.flatMap fun x => [x.1.v, x.2.v]) = (l.flatMap fun x => [x.1, x.2]).map Sl.v := by
  rw [List.map_flatMap]; rfl
theorem qF_pv (hl : Fs.length = 1 + 2 * n) : ((qF o ap cp Fs kd).pairs.xs.flatMap fun x => [x.1.v, x.2.v]) = (Fs.tail.map cut40).map Sl.v := by
  rw [flatv]; show ((pairUp (Fs.tail.map cut40)).flatMap _).map Sl.v = _
  rw [flat_pairUp n _ (tail_len hl)]
theorem tail_v (h : Gs.map Sl.v = Fs.map Sl.v) : (Gs.tail.map cut40).map Sl.v = (Fs.tail.map cut40).map Sl.v := by
  have h1 : (Gs.map cut40).map Sl.v = (Fs.map cut40).map Sl.v := by
    rw [List.map_map, List.map_map]; exact map_dep (fun x y h => cut40_v h) h
  have h2 := congrArg List.tail h1
  rwa [← List.map_tail, ← List.map_tail, ← List.map_tail, ← List.map_tail] at h2
theorem rd_take {W : World} {a : Option Addr} {xs : List UInt8} (h : Rd W a (xs.map vU8)) (k : Nat) : Rd W a ((xs.take k).map vU8) := fun j x hj => h j x (by
  rw [List.map_take, List.getElem?_take] at hj
  by_cases hk : j < k
  · rwa [if_pos hk] at hj
  · rw [if_neg hk] at hj; cases hj)
theorem slok {T : TypeId} {es : List Ent} {W : World} (hF : EAll (FRow T Fs) Fs.length es) (hh : Held es W) (hb : ∀ s ∈ Fs, s.xs.length ≤ 1048616) {i : Nat} (hi : i < Fs.length) : SlOk W (Fs.getD i default) := by
  obtain ⟨e, he, h1⟩ := hF.at hi hh
  rw [FRow, KRow, nK] at he
  exact ⟨he.held h1, he.le, by have := hb _ (getD_mem hi); omega⟩
theorem slok_cut {W : World} {s : Sl UInt8} (h : SlOk W s) : SlOk W (cut40 s) :=
  ⟨rd_take h.1 _, by rw [cut40_len]; have := h.2.1; show _ ≤ s.c; omega, by rw [cut40_len]; have := h.2.2; omega⟩
theorem qF_ok {T tP tD : TypeId} {es : List Ent} {ep ek : Ent} {W : World} (ho : o.ok W) (hkd : kd.xs = o.kids.xs) (hF : EAll (FRow T Fs) Fs.length es) (hl : Fs.length = 1 + 2 * o.pairs.xs.length) (hb : ∀ s ∈ Fs, s.xs.length ≤ 1048616)
    (hp : RowE (.slice ap o.pairs.xs.length cp) tP 2 o.pairs.xs.length ((Fs.tail.map cut40).map Sl.v) ep) (hk : RowE (.slice kd.a kd.xs.length kd.c) tD 32 kd.xs.length (kd.xs.flatMap fun d => d.map vU8) ek) (hh : Held (ep :: ek :: es) W) : (qF o ap cp Fs kd).ok W := by
  have hes : Held es W := hh.tail.tail
  have hs : ∀ s ∈ Fs.map cut40, SlOk W s := fun s hs => by
    obtain ⟨x, hx, rfl⟩ := List.mem_map.1 hs
    obtain ⟨i, hi, rfl⟩ := List.mem_iff_getElem.1 hx
    have h := slok hF hes hb hi
    rw [List.getD_eq_getElem?_getD, List.getElem?_eq_getElem hi] at h
    exact slok_cut h
  have hls := qF_ls (o := o) (ap := ap) (cp := cp) (kd := kd) hl
  have hn := qF_pn (o := o) (ap := ap) (cp := cp) (kd := kd) hl
  rw [← hls] at hs
  refine ⟨ho.k, ho.iw, hs _ (.head _), ho.ll, ho.rl, ?_, ?_, ?_, fun s hx => ?_, hk.held hh.tail.head, hk.le, ?_, ?_, ho.gl, ho.ml⟩
  · rw [qF_pv hl]; exact hp.held hh.head
  · rw [hn]; exact hp.le
  · rw [hn]; exact ho.pm
  · exact ⟨hs _ (List.mem_cons_of_mem _ (List.mem_flatMap.2 ⟨s, hx, List.mem_cons_self⟩)), hs _ (List.mem_cons_of_mem _ (List.mem_flatMap.2 ⟨s, hx, List.mem_cons_of_mem _ List.mem_cons_self⟩))⟩
  · show kd.xs.length ≤ _; rw [hkd]; exact ho.km
  · show ∀ d ∈ kd.xs, _; rw [hkd]; exact ho.ke
end
/-- Not much at all. -/
def Cop.tiny (o : Cop) : Prop := o.pairs.xs.length ≤ 1048576 ∧ o.kids.xs.length ≤ 1048576 ∧ ((lsO o).map fun s => s.xs.length).sum ≤ 1048576
theorem sum_mem : ∀ {l : List (Sl UInt8)} {s : Sl UInt8}, s ∈ l → s.xs.length ≤ (l.map fun s => s.xs.length).sum
  | x :: r, s, h => by
    rw [List.map_cons, List.sum_cons]
    rcases List.mem_cons.1 h with rfl | h
    · omega
    · have := sum_mem h; omega
theorem flat_sum : ∀ l : List (Sl UInt8), (l.flatMap (·.xs)).length = (l.map fun s => s.xs.length).sum
  | [] => rfl
  | x :: r => by rw [List.flatMap_cons, List.length_append, flat_sum r, List.map_cons, List.sum_cons]
theorem pairsB_sum : ∀ ps : List (Sl UInt8 × Sl UInt8), (pairsB (prs ps)).length ≤ 20 * ps.length + ((ps.flatMap fun x => [x.1, x.2]).map fun s => s.xs.length).sum
  | [] => by simp [prs, pairsB]
  | x :: r => by
    have h2 := pairsB_sum r
    have h3 := blob_len x.1.xs
    have h4 := blob_len x.2.xs
    have h5 : pairsB (prs (x :: r)) = (blob x.1.xs ++ blob x.2.xs) ++ pairsB (prs r) := rfl
    rw [h5, List.flatMap_cons, List.map_append, List.sum_append, List.length_append, List.length_append, List.length_cons]
    simp only [List.map_cons, List.map_nil, List.sum_cons, List.sum_nil] at *; omega
theorem Cop.tiny.ls {o : Cop} (h : o.tiny) : ∀ s ∈ lsO o, s.xs.length ≤ 1048576 := fun s hs => by have := sum_mem hs; have := h.2.2; omega
theorem Cop.tiny.fl {o : Cop} (h : o.tiny) : ((lsO o).flatMap (·.xs)).length ≤ 140737488300000 := by rw [flat_sum]; have := h.2.2; omega
theorem Cop.tiny.pb {o : Cop} (h : o.tiny) : (pairsB (prs o.pairs.xs)).length ≤ 22020096 := by
  have h1 := pairsB_sum o.pairs.xs
  have h2 := h.2.2
  have h3 := h.1
  rw [lsO, List.map_cons, List.sum_cons] at h2
  omega
theorem Cop.tiny.small {o : Cop} (h : o.tiny) : o.small := ⟨h.ls _ (.head _), by have := h.pb; omega, h.2.1⟩
section
variable {o : Cop} {ap : Option Addr} {cp : Nat} {Fs Gs : List (Sl UInt8)} {kd : Sl (List UInt8)}
theorem fs_lens (hx : Fs.map (·.xs) = (lsO o).map (fun s => s.xs ++ rm)) (h : Gs.map Sl.v = Fs.map Sl.v) : (Gs.map cut40).map (fun s => s.xs.length) = (lsO o).map fun s => s.xs.length := by
  have h1 : (Gs.map cut40).map (fun s => s.xs.length) = (Fs.map cut40).map (fun s => s.xs.length) := by
    rw [List.map_map, List.map_map]
    refine map_dep (g := Sl.v) (fun x y h => ?_) h
    show (cut40 x).xs.length = (cut40 y).xs.length
    rw [cut40_len, cut40_len, (slv_parts h).2.1]
  have h2 : (Fs.map cut40).map (fun s => s.xs.length) = (Fs.map (·.xs)).map (fun x => x.length - 40) := by
    rw [List.map_map, List.map_map]
    exact List.map_congr_left fun x _ => cut40_len x
  rw [h1, h2, hx, List.map_map]
  exact List.map_congr_left fun x _ => by show (x.xs ++ rm).length - 40 = _; rw [List.length_append, rm_len]; omega
theorem fs_b (hx : Fs.map (·.xs) = (lsO o).map (fun s => s.xs ++ rm)) (h : Gs.map Sl.v = Fs.map Sl.v) (ht : o.tiny) : ∀ s ∈ Gs, s.xs.length ≤ 1048616 := fun s hs => by
  have h1 : (Gs.map fun s => s.xs.length) = Fs.map fun s => s.xs.length := map_dep (g := Sl.v) (fun x y h => (slv_parts h).2.1) h
  have h2 : (Fs.map fun s => s.xs.length) = (lsO o).map fun s => s.xs.length + 40 := by
    have e1 : (Fs.map fun s => s.xs.length) = (Fs.map (·.xs)).map List.length := by rw [List.map_map]; rfl
    rw [e1, hx, List.map_map]
    exact List.map_congr_left fun x _ => by show (x.xs ++ rm).length = _; rw [List.length_append, rm_len]
  have h3 : s.xs.length ∈ Gs.map fun s => s.xs.length := List.mem_map.2 ⟨s, hs, rfl⟩
  rw [h1, h2] at h3
  obtain ⟨u, hu, he⟩ := List.mem_map.1 h3
  have := ht.ls u hu
  omega
theorem qF_tiny (hl : Gs.length = 1 + 2 * o.pairs.xs.length) (hx : Fs.map (·.xs) = (lsO o).map (fun s => s.xs ++ rm)) (h : Gs.map Sl.v = Fs.map Sl.v) (hkd : kd.xs = o.kids.xs) (ht : o.tiny) : (qF o ap cp Gs kd).tiny := by
  refine ⟨by rw [qF_pn hl]; exact ht.1, by show kd.xs.length ≤ _; rw [hkd]; exact ht.2.1, ?_⟩
  rw [qF_ls hl, fs_lens hx h]; exact ht.2.2
theorem fs_xs (hx : Fs.map (·.xs) = (lsO o).map (fun s => s.xs ++ rm)) : (Fs.map cut40).map (·.xs) = (lsO o).map (·.xs) := by
  have h2 : (Fs.map cut40).map (·.xs) = (Fs.map (·.xs)).map (fun x => x.take (x.length - 40)) := by rw [List.map_map, List.map_map]; rfl
  rw [h2, hx, List.map_map]
  exact List.map_congr_left fun x _ => by show (x.xs ++ rm).take ((x.xs ++ rm).length - 40) = _; rw [List.length_append, rm_len, Nat.add_sub_cancel, List.take_left' rfl]
theorem fs_get (hx : Fs.map (·.xs) = (lsO o).map (fun s => s.xs ++ rm)) {i : Nat} (hi : i < Fs.length) : (Fs.getD i default).xs = ((lsO o).getD i default).xs ++ rm := by
  have hl : Fs.length = (lsO o).length := by have := congrArg List.length hx; simpa using this
  have h1 := congrArg (fun q => q[i]?) hx
  simp only [List.getElem?_map] at h1
  rw [List.getElem?_eq_getElem hi, List.getElem?_eq_getElem (by omega)] at h1
  rw [List.getD_eq_getElem?_getD, List.getD_eq_getElem?_getD, List.getElem?_eq_getElem hi, List.getElem?_eq_getElem (by omega)]
  exact Option.some.inj h1
end
/-- What is known of the lists with room, and of the call over them. -/
structure Spared (tP tD : TypeId) (o : Cop) (ap : Option Addr) (cp : Nat) (Fs : List (Sl UInt8)) (kd : Sl (List UInt8)) (ep ek : Ent) : Prop where
  fl : Fs.length = 1 + 2 * o.pairs.xs.length
  fx : Fs.map (·.xs) = (lsO o).map (fun s => s.xs ++ rm)
  hk : kd.xs = o.kids.xs
  pr : RowE (.slice ap o.pairs.xs.length cp) tP 2 o.pairs.xs.length ((Fs.tail.map cut40).map Sl.v) ep
  kr : RowE (.slice kd.a kd.xs.length kd.c) tD 32 kd.xs.length (kd.xs.flatMap fun d => d.map vU8) ek
  oi : opIn (qF o ap cp Fs kd) = opIn o
theorem Spared.of {T tP tD : TypeId} {o : Cop} {ap : Option Addr} {cp : Nat} {Fs : List (Sl UInt8)} {kd : Sl (List UInt8)} {es : List Ent} {ep ek : Ent} {P : Sl UInt8} {ps : List (Sl UInt8 × Sl UInt8)} (h : SpI T o o.pairs.xs.length Fs es P ps) (hkd : kd.xs = o.kids.xs)
    (hp : RowE (.slice ap ps.length cp) tP 2 ps.length (ps.flatMap fun x => [x.1.v, x.2.v]) ep) (hk : RowE (.slice kd.a kd.xs.length kd.c) tD 32 kd.xs.length (kd.xs.flatMap fun d => d.map vU8) ek) : Spared tP tD o ap cp Fs kd ep ek := by
  have h1 : (ps.flatMap fun x => [x.1, x.2]) = Fs.tail.map cut40 := by
    have := congrArg List.tail h.2.2.1
    rwa [List.tail_cons, ← List.map_tail] at this
  have hx := h.2.2.2.1
  rw [List.take_length] at hx
  rw [h.1, flatv, h1] at hp
  refine ⟨h.len, hx, hkd, hp, hk, ?_⟩
  have h2 := h.2.2.2.2.2
  rw [List.take_length] at h2
  rw [← qF_of h]
  exact opIn_xs rfl rfl h.2.1 rfl rfl h2 rfl hkd rfl rfl rfl
namespace Spared
variable {tP tD : TypeId} {o : Cop} {ap : Option Addr} {cp : Nat} {Fs Gs : List (Sl UInt8)} {kd : Sl (List UInt8)} {ep ek : Ent} {es : List Ent}
theorem ok {T : TypeId} (h : Spared tP tD o ap cp Fs kd ep ek) (ht : o.tiny) {W : World} (ho : o.ok W) (hv : Gs.map Sl.v = Fs.map Sl.v) (hF : EAll (FRow T Gs) Fs.length es) (hh : Held (ep :: ek :: es) W) : (qF o ap cp Gs kd).ok W := by
  have hg := vs_len hv
  exact qF_ok ho h.hk (by rw [hg]; exact hF) (hg.trans h.fl) (fs_b h.fx hv ht) (by rw [tail_v hv]; exact h.pr) h.kr hh
theorem tn (h : Spared tP tD o ap cp Fs kd ep ek) (ht : o.tiny) (hv : Gs.map Sl.v = Fs.map Sl.v) : (qF o ap cp Gs kd).tiny := qF_tiny ((vs_len hv).trans h.fl) h.fx hv h.hk ht
theorem ce (h : Spared tP tD o ap cp Fs kd ep ek) (hv : Gs.map Sl.v = Fs.map Sl.v) : (qF o ap cp Gs kd).cells = (qF o ap cp Fs kd).cells := qF_cells h.fl hv
theorem ls (h : Spared tP tD o ap cp Fs kd ep ek) : lsO (qF o ap cp Fs kd) = Fs.map cut40 := qF_ls h.fl
theorem xs (h : Spared tP tD o ap cp Fs kd ep ek) : (lsO (qF o ap cp Fs kd)).map (·.xs) = (lsO o).map (·.xs) := by rw [h.ls]; exact fs_xs h.fx
theorem pn (h : Spared tP tD o ap cp Fs kd ep ek) : (qF o ap cp Fs kd).pairs.xs.length = o.pairs.xs.length := qF_pn h.fl
theorem len (h : Spared tP tD o ap cp Fs kd ep ek) : Fs.length = (lsO o).length := by have := congrArg List.length h.fx; simpa using this
theorem m40 (h : Spared tP tD o ap cp Fs kd ep ek) (ht : o.tiny) (hv : Gs.map Sl.v = Fs.map Sl.v) {t : Nat} (hi : t < Fs.length) {G : Sl UInt8} (hG : Gs.getD t default = G) :
    ∃ m, m ≤ 1048576 ∧ G.xs.length = m + 40 ∧ Sl.v ((lsO (qF o ap cp Fs kd)).getD t default) = .slice G.a m G.c := by
  have hg := vs_len hv
  have h1 := fs_get h.fx hi
  have h2 : (Gs.getD t default).v = (Fs.getD t default).v := by
    have e := congrArg (fun q => q[t]?) hv
    simp only [List.getElem?_map] at e
    rw [List.getElem?_eq_getElem hi, List.getElem?_eq_getElem (by omega)] at e
    rw [List.getD_eq_getElem?_getD, List.getD_eq_getElem?_getD, List.getElem?_eq_getElem hi, List.getElem?_eq_getElem (by omega)]
    exact Option.some.inj e
  rw [hG] at h2
  have h3 := slv_parts h2
  have h4 := ht.ls _ (getD_mem (l := lsO o) (i := t) (by rw [← h.len]; exact hi))
  have h5 : (Fs.getD t default).xs.length = ((lsO o).getD t default).xs.length + 40 := by rw [h1, List.length_append, rm_len]
  refine ⟨((lsO o).getD t default).xs.length, h4, by omega, ?_⟩
  have h6 : (lsO (qF o ap cp Fs kd)).getD t default = cut40 (Fs.getD t default) := by
    rw [h.ls, List.getD_eq_getElem?_getD, List.getElem?_map, List.getElem?_eq_getElem hi, List.getD_eq_getElem?_getD, List.getElem?_eq_getElem hi]; rfl
  have h7 := cut40_len (Fs.getD t default)
  rw [h6]
  show Value.slice (Fs.getD t default).a (cut40 (Fs.getD t default)).xs.length (Fs.getD t default).c = _
  rw [h7, h5, ← h3.1, ← h3.2.2, Nat.add_sub_cancel]
end Spared
/-- Rows of some bytes. -/
def LRow (T : TypeId) (ks : List (Sl UInt8)) (i : Nat) (e : Ent) : Prop := ∃ L : List UInt8, L.length = nK ks i ∧ KRow T ks i L e
theorem FRow.some {T : TypeId} {ks : List (Sl UInt8)} {es : List Ent} (h : EAll (FRow T ks) ks.length es) : EAll (LRow T ks) ks.length es := h.to fun _ _ _ h => ⟨_, rfl, h⟩
theorem LRow.cons {T : TypeId} {ks : List (Sl UInt8)} {es : List Ent} {s : Sl UInt8} {e : Ent} (hr : RowE (.slice s.a s.xs.length s.c) T 1 s.xs.length (s.xs.map vU8) e) (h : EAll (LRow T ks) ks.length es) : EAll (LRow T (s :: ks)) (s :: ks).length (e :: es) :=
  ⟨by rw [List.length_cons, List.length_cons, h.1], fun i hi => by
    cases i with
    | zero => exact ⟨s.xs, rfl, hr⟩
    | succ i => exact h.2 i (by simpa using hi)⟩
theorem LRow.all {T : TypeId} {ks : List (Sl UInt8)} {es : List Ent} (h : EAll (LRow T ks) ks.length es) : EAll (ARow T ks 0 0) ks.length es := h.to fun _ _ _ ⟨L, h1, h2⟩ => ⟨L, h1, fun h => absurd h (Nat.not_lt_zero _), h2⟩
/-- One row written over. -/
theorem FRow.set {T : TypeId} {Fs Gs : List (Sl UInt8)} {i : Nat} {s : Sl UInt8} (hi : i < Gs.length) (hs : Gs.getD i default = s) (h : Gs.map Sl.v = Fs.map Sl.v) {L : List UInt8} (hl : L.length = s.xs.length) : (Gs.set i ⟨s.a, s.c, L⟩).map Sl.v = Fs.map Sl.v := by
  have e : Sl.v (⟨s.a, s.c, L⟩ : Sl UInt8) = s.v := by rw [Sl.v, Sl.v, hl]
  rw [List.map_set, e, h]
  refine List.ext_getElem? fun j => ?_
  rw [List.getElem?_set]
  by_cases hj : i = j
  · subst hj
    have h1 := congrArg (fun q => q[i]?) h
    simp only [List.getElem?_map] at h1
    rw [List.getElem?_eq_getElem hi] at h1
    rw [if_pos rfl, if_pos (by rw [List.length_map, ← vs_len h]; exact hi), List.getElem?_map, ← h1]
    rw [List.getD_eq_getElem?_getD, List.getElem?_eq_getElem hi] at hs
    rw [← hs]; rfl
  · rw [if_neg hj]
theorem FRow.put {T : TypeId} {Gs : List (Sl UInt8)} {i j : Nat} {x : Sl UInt8} {e : Ent} (hj : j ≠ i) (h : FRow T Gs j e) : FRow T (Gs.set i x) j e := by
  have h1 : (Gs.set i x).getD j default = Gs.getD j default := by
    rw [List.getD_eq_getElem?_getD, List.getElem?_set, if_neg (fun h => hj h.symm), ← List.getD_eq_getElem?_getD]
  rw [FRow, KRow, nK, h1]; exact h
theorem FRow.here {T : TypeId} {Gs : List (Sl UInt8)} {i : Nat} {x : Sl UInt8} {e : Ent} (hi : i < Gs.length) (h : RowE (.slice x.a x.xs.length x.c) T 1 x.xs.length (x.xs.map vU8) e) : FRow T (Gs.set i x) i e := by
  have h1 : (Gs.set i x).getD i default = x := by
    rw [List.getD_eq_getElem?_getD, List.getElem?_set, if_pos rfl, if_pos hi]; rfl
  rw [FRow, KRow, nK, h1]; exact h
/-- The call that stands first. -/
def lop (b : Nat) : Cop := ⟨3, 3, ⟨some ⟨b, 0, none⟩, 2, [1, 2]⟩, zeros32, zeros32, Sl.nil, 0, Sl.nil, 0, zeros32, zeros32⟩
theorem lop_ok {W : World} {b : Nat} {T : TypeId} (h : W.heap[b]? = some (blk (([1, 2] : List UInt8).map vU8) T)) : (lop b).ok W :=
  ⟨⟨by show (-9223372036854775808 : Int) ≤ 3; omega, by show (3 : Int) ≤ 9223372036854775807; omega⟩, ⟨by show (-9223372036854775808 : Int) ≤ 3; omega, by show (3 : Int) ≤ 9223372036854775807; omega⟩,
    ⟨Rd.blk (T := T) h, Nat.le_refl _, by show 2 < 9223372036854775808; omega⟩, rfl, rfl, Rd.nil _ _, Nat.le_refl _, by show 0 < 9223372036854775808; omega, fun s hs => (by cases hs), Rd.nil _ _, Nat.le_refl _, Nat.zero_le _, fun s hs => (by cases hs), rfl, rfl⟩
theorem lop_tiny (b : Nat) : (lop b).tiny := ⟨Nat.zero_le _, Nat.zero_le _, by show (2 + 0 : Nat) ≤ 1048576; omega⟩
theorem lop_in (b : Nat) : (opIn (lop b)).1.length ≤ 100000000 := by
  have h : opIn (lop b) = (keyI [1, 2], 0) := by simp [opIn, lop]
  rw [h]; decide
section
variable {w0 w : World} {olds : List Nat}
theorem Mem.toApart {eo f1 f2 f3 f4 f5 x y z : Ent} {es : List Ent} (h : Mem w0 olds (f5 :: eo :: f4 :: f3 :: f2 :: f1 :: x :: y :: z :: es) w) : Mem w0 olds ((eo :: f1 :: f2 :: f3 :: f4 :: f5 :: es) ++ [x, y, z]) w :=
  (h.perm (.swap _ _ _)).perm (List.Perm.cons eo (show ([f1, f2, f3, f4, f5] ++ es ++ [x, y, z]).Perm ([f5, f4, f3, f2, f1] ++ ([x, y, z] ++ es)) by
    rw [List.append_assoc]
    exact List.Perm.append (List.reverse_perm [f5, f4, f3, f2, f1]) List.perm_append_comm))
end
end Go.Sx
