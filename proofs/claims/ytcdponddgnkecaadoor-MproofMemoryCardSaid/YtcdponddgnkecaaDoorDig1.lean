import Derived.Test.YtcdponddgnkecaaDoorSha5
import Derived.Test.YtcdponddgnkecaaDoorPSha
import Derived.Test.YtcdponddgnkecaaDoorProg
set_option linter.unusedVariables false
set_option linter.unusedSimpArgs false
namespace Go.Proofs.YtcdponddgnkecaaDoor
open Go.Sx Go.Ps
theorem iu8' : (Tryd.prog.info? 5).map (fun i => (i.zero, i.size, i.bytes)) = some (some (.int .u8 0), 1, 1) := by kernel_rfl

theorem wadd_any (b : Nat) (a : Option Addr) (k c : Nat) (xs : List UInt8) (e : Ent) (w : World) (hm0 : Mem w (b :: keys [e]) [some (b, blk [.slice a k c] 115), e] w) (hrow : RowE (.slice a k c) 5 1 k (xs.map vU8) e) (ap : Option Addr) (m cp : Nat) (p : List UInt8) (hpm : p.length = m) (hr : Rd w ap (p.map vU8)) (hne : 0 < (p.map vU8).length → ∀ b' o', ap = some ⟨b', o', none⟩ → b' ∉ b :: keys [e]) (hcp : m ≤ cp) (hb : k + m ≤ 140737488355328) : Calls Tryd.prog 96 #[.pointer (some ⟨b, 0, none⟩), .slice ap m cp] w fun en w' => ∃ v, en = .returned v ∧ v = .tuple #[] ∧ ∃ a' c' e', RowE (.slice a' (k + m) c') 5 1 (k + m) ((xs ++ p).map vU8) e' ∧ Mem w (b :: keys [e]) [some (b, blk [.slice a' (k + m) c'] 115), e'] w' := by
  obtain ⟨ti, hi, hz, hsz, hby⟩ := info_parts iu8'
  refine calls_of_sw (vs := [.pointer (some ⟨b, 0, none⟩), .slice ap m cp]) Tryd.func96 rfl Tryd.ntmps96 rfl (SW.beginM hm0 ?_)
  refine sw_seq ?_
  refine sw_region ?_
  refine ow_val (val_move rfl) rfl ?_
  refine ow_val (val_neq_nilptr Tryd.underlying126 rfl rfl) rfl ?_
  refine ow_nil (into ?_)
  refine sw_true rfl rfl ?_
  refine sw_region ?_
  refine ow_val (val_move rfl) rfl ?_
  refine ow_val (val_move rfl) rfl ?_
  refine ow_val (val_nilCheck rfl) rfl ?_
  refine ow_val (val_fieldAddr (m := 0) (e := 0) rfl Tryd.underlying115 rfl rfl Tryd.sizeOf81 rfl) rfl ?_
  refine ow_val (val_load_at 0 rfl rfl Tryd.isAgg81 rfl) rfl ?_
  refine ow_val (val_move rfl) rfl ?_
  refine ow_append' (k := k + m) (acts_append (size := 1) (bytes := 1) 1 rfl rfl rfl hrow rfl Tryd.underlying81 hi hz hsz hby rfl (by decide) (fun w hm => hr.memO hm hne) (by rw [List.length_map, Nat.mul_one]; exact hpm) (one_u8s _) (by omega) (by omega)) rfl (fun a1 c1 e1 hr1 => ?_)
  refine ow_val (val_nilCheck rfl) rfl ?_
  refine ow_val (val_fieldAddr (m := 0) (e := 0) rfl Tryd.underlying115 rfl rfl Tryd.sizeOf81 rfl) rfl ?_
  refine ow_do (does_store 0 rfl rfl rfl rfl Tryd.sizeOf81 (by simp)) (fun _ _ => ?_)
  refine ow_nil (fun w hm => ?_)
  try dsimp only [thenP, blockP, Nat.beq, cond]
  exact ret_end rfl ⟨rfl, _, _, _, hr1.cong rfl rfl (by rw [List.map_append]), hm⟩

theorem wu8_any (b : Nat) (a : Option Addr) (k c : Nat) (xs : List UInt8) (e : Ent) (w : World) (hm0 : Mem w (b :: keys [e]) [some (b, blk [.slice a k c] 115), e] w) (hrow : RowE (.slice a k c) 5 1 k (xs.map vU8) e) (x : UInt8) (hb : k + 1 ≤ 140737488355328) : Calls Tryd.prog 81 #[.pointer (some ⟨b, 0, none⟩), vU8 x] w fun en w' => ∃ v, en = .returned v ∧ v = .tuple #[] ∧ ∃ a' c' e', RowE (.slice a' (k + 1) c') 5 1 (k + 1) ((xs ++ [x]).map vU8) e' ∧ Mem w (b :: keys [e]) [some (b, blk [.slice a' (k + 1) c'] 115), e'] w' := by
  refine calls_of_sw (vs := [.pointer (some ⟨b, 0, none⟩), vU8 x]) Tryd.func81 rfl Tryd.ntmps81 rfl (SW.beginM hm0 ?_)
  refine sw_region ?_
  refine ow_val (val_move rfl) rfl ?_
  refine ow_val (val_move rfl) rfl ?_
  refine ow_make (acts_buildSlice (cs := ([x] : List UInt8).map vU8) Tryd.underlying81 Tryd.sizeOf5 Tryd.zeroValue5 rfl rfl (by kernel_rfl)) rfl (fun b6 hb6 => ?_)
  refine ow_call_wr (k := k + 1) (E := 5) (T := 115) (xs := (xs ++ ([x] : List UInt8)).map vU8) 1 2 rfl rfl (by decide) (callsTo Tryd.func96 rfl (by kernel_rfl) rfl) rfl (fun w hm hs => wadd_any b a k c xs e w hs hrow (some ⟨b6, 0, none⟩) 1 _ ([x] : List UInt8) rfl (Rd.blk (hm.at (i := 0) rfl)) (fun _ => hm.ownNe (k := 0) (i := 1) (j := 2) rfl rfl rfl (by decide) (by decide)) (by omega) (by omega)) (fun a7 c7 e7 hr7 => ?_)
  refine ow_nil (fun w hm => ?_)
  try dsimp only [thenP, blockP, Nat.beq, cond]
  exact ret_end rfl ⟨rfl, _, _, _, hr7, hm.only (.cons _ (.cons_cons _ (.cons_cons _ (List.nil_sublist _))))⟩

theorem wraw_any (b : Nat) (a : Option Addr) (k c : Nat) (xs : List UInt8) (e : Ent) (w : World) (hm0 : Mem w (b :: keys [e]) [some (b, blk [.slice a k c] 115), e] w) (hrow : RowE (.slice a k c) 5 1 k (xs.map vU8) e) (ap : Option Addr) (m cp : Nat) (p : List UInt8) (hpm : p.length = m) (hr : Rd w ap (p.map vU8)) (hne : 0 < (p.map vU8).length → ∀ b' o', ap = some ⟨b', o', none⟩ → b' ∉ b :: keys [e]) (hcp : m ≤ cp) (hb : k + m ≤ 140737488355328) : Calls Tryd.prog 82 #[.pointer (some ⟨b, 0, none⟩), .slice ap m cp] w fun en w' => ∃ v, en = .returned v ∧ v = .tuple #[] ∧ ∃ a' c' e', RowE (.slice a' (k + m) c') 5 1 (k + m) ((xs ++ p).map vU8) e' ∧ Mem w (b :: keys [e]) [some (b, blk [.slice a' (k + m) c'] 115), e'] w' := by
  refine calls_of_sw (vs := [.pointer (some ⟨b, 0, none⟩), .slice ap m cp]) Tryd.func82 rfl Tryd.ntmps82 rfl (SW.beginM hm0 ?_)
  refine sw_region ?_
  refine ow_val (val_move rfl) rfl ?_
  refine ow_val (val_move rfl) rfl ?_
  refine ow_call_wr (k := k + m) (E := 5) (T := 115) (xs := (xs ++ p).map vU8) 0 1 rfl rfl (by decide) (callsTo Tryd.func96 rfl (by kernel_rfl) rfl) rfl (fun w hm hs => wadd_any b a k c xs e w hs hrow ap m _ p hpm (hr.memO hm hne) (hm.argNe hr hne (i := 0) (j := 1) rfl rfl) (by omega) (by omega)) (fun a6 c6 e6 hr6 => ?_)
  refine ow_nil (fun w hm => ?_)
  try dsimp only [thenP, blockP, Nat.beq, cond]
  exact ret_end rfl ⟨rfl, _, _, _, hr6, hm.only (.cons_cons _ (.cons_cons _ (List.nil_sublist _)))⟩

theorem z8 (w : World) : (zeroValue 5).run Tryd.prog w = .ok (vU8 0) w := by kernel_rfl
theorem cloneNil {a : Option Addr} {w : World} {p : List UInt8} (h : Option.isNone a = true) (hr : Rd w a (p.map vU8)) : p = [] := by
  cases p with
  | nil => rfl
  | cons x r => obtain ⟨b, o, rfl⟩ := hr.addr (by simp); cases h

theorem clone_any (a : Option Addr) (m c : Nat) (p : List UInt8) (hpm : p.length = m) (hb : m ≤ 140737488355328) (w : World) (hr : Rd w a (p.map vU8)) : Calls Tryd.prog 97 #[.slice a m c] w fun e w' => ∃ v, e = .returned v ∧ ∃ e', RowE v 5 1 m (p.map vU8) e' ∧ Mem w [] [e'] w' := by
  obtain ⟨ti, hi, hz, hsz, hby⟩ := info_parts iu8'
  refine calls_of_sw (vs := [.slice a m c]) Tryd.func97 rfl Tryd.ntmps97 rfl (SW.begin ?_)
  refine sw_seq ?_
  refine sw_region ?_
  refine ow_val (val_assign rfl) rfl ?_
  refine ow_nil (into ?_)
  refine sw_seq ?_
  refine sw_seq ?_
  refine sw_region ?_
  refine ow_val (val_move rfl) rfl ?_
  refine ow_val (val_eql_nilslice Tryd.underlying81 rfl rfl) rfl ?_
  refine ow_nil (into ?_)
  refine sw_cond rfl (fun h0 => ?_) (fun h0 => ?_)
  · -- then
    refine sw_seq ?_
    refine sw_region ?_
    refine ow_val (val_assign rfl) rfl ?_
    refine ow_nil (into ?_)
    refine sw_ret (fun w hm => ?_)
    try dsimp only [thenP, blockP, Nat.beq, cond]
    exact ret_one _ rfl rfl ⟨none, by have hp0 := cloneNil h0 hr; subst hp0; simp at hpm; subst hpm; exact RowE.nil _ _, hm.place⟩
  · -- else
    refine sw_skip (into ?_)
    refine sw_seq ?_
    refine sw_region ?_
    refine ow_make (acts_buildSlice (cs := ([] : List UInt8).map vU8) Tryd.underlying81 Tryd.sizeOf5 z8 rfl rfl (by kernel_rfl)) rfl (fun b5 hb5 => ?_)
    refine ow_val (val_move rfl) rfl ?_
    refine ow_append' (k := 0 + m) (acts_append (size := 1) (bytes := 1) 0 rfl rfl rfl (RowE.full (xs := []) rfl (by decide)) rfl Tryd.underlying81 hi hz hsz hby rfl (by decide) (fun w hm => hr.mem hm) (by rw [List.length_map, Nat.mul_one]; exact hpm) (one_u8s _) (by omega) (by omega)) rfl (fun a7 c7 e7 hr7 => ?_)
    refine ow_val (val_assign rfl) rfl ?_
    refine ow_nil (into ?_)
    exact sw_ret (fun w hm => ret_one _ rfl rfl ⟨e7, hr7.cong (by rw [Nat.zero_add]) (by omega) (by simp), hm⟩)

theorem wbytes_any (b : Nat) (a : Option Addr) (k c : Nat) (xs : List UInt8) (e : Ent) (w : World) (hm0 : Mem w (b :: keys [e]) [some (b, blk [.slice a k c] 115), e] w) (hrow : RowE (.slice a k c) 5 1 k (xs.map vU8) e) (hb : k ≤ 140737488355328) : Calls Tryd.prog 83 #[.pointer (some ⟨b, 0, none⟩)] w fun en w' => ∃ v, en = .returned v ∧ ∃ e', RowE v 5 1 k (xs.map vU8) e' ∧ Mem w [] [e'] w' := by
  have hxl : xs.length = k := by have := hrow.len; simpa using this
  refine calls_of_sw (vs := [.pointer (some ⟨b, 0, none⟩)]) Tryd.func83 rfl Tryd.ntmps83 rfl (SW.beginM hm0 ?_)
  refine sw_seq ?_
  refine sw_region ?_
  refine ow_val (val_assign rfl) rfl ?_
  refine ow_nil (into ?_)
  refine sw_seq ?_
  refine sw_seq ?_
  refine sw_region ?_
  refine ow_val (val_move rfl) rfl ?_
  refine ow_val (val_eql_nilptr Tryd.underlying126 rfl rfl) rfl ?_
  refine ow_nil (into ?_)
  refine sw_false rfl rfl ?_
  refine sw_skip (into ?_)
  refine sw_seq ?_
  refine sw_region ?_
  refine ow_val (val_move rfl) rfl ?_
  refine ow_val (val_nilCheck rfl) rfl ?_
  refine ow_val (val_fieldAddr (m := 0) (e := 0) rfl Tryd.underlying115 rfl rfl Tryd.sizeOf81 rfl) rfl ?_
  refine ow_val (val_load_at 0 rfl rfl Tryd.isAgg81 rfl) rfl ?_
  refine ow_call_row (E := 5) (size := 1) (k := k) (xs := xs.map vU8) (callsTo Tryd.func97 rfl (by kernel_rfl) rfl) rfl (fun w hm => clone_any a k c xs hxl (by omega) w (hrow.rdAt hm (i := 1) rfl)) (fun a9 c9 e9 hr9 => ?_)
  refine ow_val (val_assign rfl) rfl ?_
  refine ow_nil (into ?_)
  exact sw_ret (fun w hm => ret_one _ rfl rfl ⟨e9, hr9, hm.backKeys (l' := [some (b, blk [.slice a k c] 115), e]) hm0⟩)
end Go.Proofs.YtcdponddgnkecaaDoor
