/- Several texts in one, as they stand in wip/src. -/
import Derived.Test.YtdpomchhbbopbaaGr5
/- Walks: take, of a byte. -/
namespace Go.Proofs.Ytdpomchhbbopbaa
open Go Go.RowKit
set_option linter.unusedVariables false
set_option maxRecDepth 2000
theorem go_TakeByte {A B : Prop} (h : Held B → A := by
  intro hEnd
  repeat (first | refine OW_moveV (.int _ _) rfl ?_ | refine OW_moveV (.slice _ _ _) rfl ?_ | refine OW_moveV (.bool _) rfl ?_ | refine OW_moveV (.pointer _) rfl ?_ | refine OW_moveV (.string _) rfl ?_ | refine OW_moveV (.agg _) rfl ?_ | refine OW_moveV (.tuple _) rfl ?_ | refine OW_nil ?_ | refine thenE_normal ?_ | refine CW_seq ?_ | refine CW_region (by kernel_rfl) ?_ | refine OW_assignV (.int _ _) rfl ?_ | refine OW_assignV (.slice _ _ _) rfl ?_ | refine OW_assignV (.bool _) rfl ?_ | refine OW_assignV (.pointer _) rfl ?_ | refine OW_assignV (.string _) rfl ?_ | refine OW_assignV (.agg _) rfl ?_ | refine OW_assignV (.tuple _) rfl ?_ | refine OW_addI rfl rfl (by omega) ?_ | refine OW_subI rfl rfl (by omega) ?_ | refine OW_mulI rfl rfl (by omega) ?_ | refine OW_lss rfl rfl ?_ | refine OW_extract rfl rfl ?_ | refine OW_gtr rfl rfl ?_ | refine OW_leq rfl rfl ?_ | refine OW_geq rfl rfl ?_ | refine OW_eql rfl rfl ?_ | refine OW_neq rfl rfl ?_ | refine OW_not rfl ?_ | refine OW_pickT rfl _ rfl ?_ | refine OW_pickF rfl (.bool _) rfl ?_ | refine OW_pickB rfl rfl rfl ?_ | refine OW_move ?_ | refine OW_assign ?_ | refine OW_pass rfl ?_ | refine OW_take rfl ?_ | refine OW_lenS (by first | with_reducible exact und_bytes | with_reducible exact und_bytess) rfl ?_ | refine OW_convInt (by first | with_reducible exact und_u8 | with_reducible exact und_u64 | with_reducible exact und_int | with_reducible exact und_u32) (by first | with_reducible exact und_u8 | with_reducible exact und_u64 | with_reducible exact und_int | with_reducible exact und_u32) rfl ?_ | refine OW_add rfl rfl ?_ | refine OW_sub rfl rfl ?_ | refine OW_mul rfl rfl ?_ | refine OW_min2 rfl rfl ?_ | refine OW_max2 rfl rfl ?_ | refine OW_neg rfl ?_ | refine CW_block ?_ | refine CW_condT rfl ?_ | refine CW_condF rfl ?_ | refine CW_exit ?_ | refine CW_ret ?_ | refine CW_skip ?_ | refine LW_seq ?_ | refine LW_regC ?_ | refine LW_condC ?_ | refine LW_regF ?_ | refine LW_condF ?_ | refine FW_seq ?_ | refine FW_region (by kernel_rfl) ?_ | refine FW_block ?_ | refine FW_condT rfl ?_ | refine FW_condF rfl ?_ | refine FW_exit ?_ | refine FW_ret ?_ | refine FW_skip ?_ | refine LW_ret ?_ | refine LW_skip ?_ | refine thenE_exit ?_ | refine thenE_ret ?_ | refine inBlockE_normal ?_ | refine inBlockE_same ?_ | refine inBlockE_ret ?_ | refine inBlockE_ne (by rfl) ?_ | refine OW_eqlB (by with_reducible exact und_bool) rfl rfl ?_ | refine OW_neqB (by with_reducible exact und_bool) rfl rfl ?_ | refine OW_idxS (by with_reducible exact und_bytes) one_u8 rfl rfl _ rfl (by omega) ?_ | refine OW_idxS (by with_reducible exact und_bytess) one_bytes rfl rfl _ rfl (by omega) ?_ | refine OW_load1 (by first | with_reducible exact one_u8 | with_reducible exact one_bytes) rfl _ (by assumption) ?_ | refine OW_nilCheck rfl ?_ | refine OW_fieldF fld_R0 rfl ?_ | refine OW_fieldF fld_R1 rfl ?_ | refine OW_fieldF fld_R2 rfl ?_ | refine OW_load1 (by first | with_reducible exact one_bool | with_reducible exact one_errno) rfl _ (by assumption) ?_)
  exact hEnd.out) (k : B) : A := h ⟨k⟩
/-- take: what is read of the next n bytes by a function (f, with caps), and what is left. -/
theorem take_byte (w : World) (g : Nat) (S : Nat → Prop) (s : List UInt8 × Int) (h : RR w g S s) (n : Int) (hn : -9223372036854775808 ≤ n ∧ n ≤ 9223372036854775807) (f : FuncId) (fn : Func) (caps : List Value) (Rv : World → Value → Prop) (ok : Bool)
    (hf : Try.prog.funcs[f]? = some fn) (hnm : (fn.name == "runtime.NumGoroutine") = false) (hbd : fn.body.isNone = false)
    (hst : ∀ w1 w2 v, Keeps w1 w2 (· = g) → w.heap.size ≤ w1.heap.size → Rv w1 v → Rv w2 v)
    (hc : s.2 = 0 → 0 ≤ n → n ≤ s.1.length → ∀ w1 A, Ext w w1 → Bs w1 A (s.1.take n.toNat) → (s.1.take n.toNat).length = n.toNat → Calls Try.prog f ([Value.slice A n.toNat n.toNat] ++ caps).toArray w1 (fun en w' => ∃ v, en = .returned (.tuple #[v, .bool ok]) ∧ Ext w1 w' ∧ Rv w' v)) :
    Calls Try.prog 74 #[.pointer (some ⟨g, 0, none⟩), .int .i64 n, .func (.func f) #[] caps.toArray] w (fun en w' => ∃ v, en = .returned v ∧ Keeps w w' (· = g) ∧
      ((s.2 ≠ 0 ∧ v = .int .u8 0 ∧ RR w' g S s) ∨ (s.2 = 0 ∧ (n < 0 ∨ s.1.length < n) ∧ v = .int .u8 0 ∧ RR w' g S ([], 40)) ∨
       (s.2 = 0 ∧ 0 ≤ n ∧ n ≤ s.1.length ∧ ok = false ∧ v = .int .u8 0 ∧ RR w' g S ([], 40)) ∨ (s.2 = 0 ∧ 0 ≤ n ∧ n ≤ s.1.length ∧ ok = true ∧ Rv w' v ∧ RR w' g S (s.1.drop n.toNat, 0)))) := by
  have hll := h.len
  refine calls_of_CW Try.func74 rfl (by simp [Try.ntmps74]) ?_
  rw [Try.ntmps74]
  refine go_TakeByte (k := ?_)
  refine OW_callV Try.func88 (by kernel_rfl) rfl (fine_any w g S s h) rfl ?_
  intro w1 hx
  have h1 := h.ext hx
  obtain ⟨A, c, hB, hb, hcc, hS⟩ := h1.at_
  have m1 : w1.cell? ⟨g, 1, none⟩ = some (.slice A s.1.length c) := hB.cell 1
  by_cases hs : s.2 = 0
  rotate_left 1
  · rw [decide_eq_false hs]
    refine go_TakeByte (k := ?_)
    exact bodyE_ret1 rfl (.int .u8 0) rfl ⟨_, rfl, Keeps.of_ext hx _, .inl ⟨hs, rfl, h1⟩⟩
  rw [decide_eq_true hs]
  by_cases hneg : n < 0
  · refine go_TakeByte (k := ?_)
    rw [decide_eq_true hneg]
    refine go_TakeByte (k := ?_)
    refine OW_callC Try.func118 (by kernel_rfl) rfl (rBad_any w1 g S s h1) rfl ?_
    rintro en w3 ⟨rfl, hr, hk⟩
    refine ⟨_, rfl, ?_⟩
    refine go_TakeByte (k := ?_)
    exact bodyE_ret1 rfl (.int .u8 0) rfl ⟨_, rfl, (Keeps.of_ext hx _).trans' hk, .inr (.inl ⟨hs, .inl hneg, rfl, hr⟩)⟩
  by_cases hgt : (s.1.length : Int) < n
  · refine go_TakeByte (k := ?_)
    rw [decide_eq_false hneg]
    refine go_TakeByte (k := ?_)
    rw [decide_eq_true hgt]
    refine go_TakeByte (k := ?_)
    refine OW_callC Try.func118 (by kernel_rfl) rfl (rBad_any w1 g S s h1) rfl ?_
    rintro en w3 ⟨rfl, hr, hk⟩
    refine ⟨_, rfl, ?_⟩
    refine go_TakeByte (k := ?_)
    exact bodyE_ret1 rfl (.int .u8 0) rfl ⟨_, rfl, (Keeps.of_ext hx _).trans' hk, .inr (.inl ⟨hs, .inr hgt, rfl, hr⟩)⟩
  refine go_TakeByte (k := ?_)
  rw [decide_eq_false hneg]
  refine go_TakeByte (k := ?_)
  rw [decide_eq_false hgt]
  refine go_TakeByte (k := ?_)
  have hnN : (n.toNat : Int) = n := Int.toNat_of_nonneg (by omega)
  refine OW_slice (lv := 0) (hv := n) (mv := n) (by with_reducible exact und_bytes) one_u8 rfl rfl ⟨_, rfl⟩ ⟨_, rfl⟩ (fun _ => rfl) (by omega) ?_
  rw [show (0 : Int).toNat = 0 from rfl, Nat.sub_zero]
  have hbt := hb.cut n.toNat 0 n.toNat (by omega)
  rw [List.drop_zero] at hbt
  have hlt : (s.1.take n.toNat).length = n.toNat := by rw [List.length_take]; omega
  refine go_TakeByte (k := ?_)
  refine OW_callF hf hnm hbd rfl (hc hs (by omega) (by omega) w1 _ hx hbt hlt) rfl ?_
  rintro en w2 ⟨v, rfl, hx2, hv⟩
  refine ⟨_, rfl, ?_⟩
  have hB2 := hB.ext hx2
  have m1' : w2.cell? ⟨g, 1, none⟩ = some (.slice A s.1.length c) := hB2.cell 1
  have h2 := h1.ext hx2
  cases ok
  · refine go_TakeByte (k := ?_)
    refine OW_callC Try.func118 (by kernel_rfl) rfl (rBad_any w2 g S s h2) rfl ?_
    rintro en w3 ⟨rfl, hr, hk⟩
    refine ⟨_, rfl, ?_⟩
    refine go_TakeByte (k := ?_)
    exact bodyE_ret1 rfl (.int .u8 0) rfl ⟨_, rfl, (Keeps.of_ext (hx.trans' hx2) _).trans' hk, .inr (.inr (.inl ⟨hs, by omega, by omega, rfl, rfl, hr⟩))⟩
  · refine go_TakeByte (k := ?_)
    refine OW_slice (lv := n) (hv := s.1.length) (mv := c) (by with_reducible exact und_bytes) one_u8 rfl ⟨_, rfl⟩ rfl rfl (fun h => by cases h) (by omega) ?_
    rw [Int.toNat_natCast, Int.toNat_natCast]
    refine go_TakeByte (k := ?_)
    refine OW_storeB one_bytes rfl _ rfl rfl hB2 (by simp) ?_
    intro w3 hB3 hg3
    have hlen : (s.1.drop n.toNat).length = s.1.length - n.toNat := by simp
    have hB3 : Blk w3 g 60 #[.bool true, .slice (cutA A c n.toNat) (s.1.length - n.toNat) (c - n.toNat), .int .i64 s.2] := hB3
    have hk := Keeps.of_only (S := (· = g)) hg3 rfl
    refine go_TakeByte (k := ?_)
    refine bodyE_ret1 rfl v rfl ⟨_, rfl, (Keeps.of_ext (hx.trans' hx2) _).trans' hk, .inr (.inr (.inr ⟨hs, by omega, by omega, rfl, hst w2 w3 v hk (hx.trans' hx2).size hv, ?_⟩))⟩
    rw [← hlen, hs] at hB3
    have hbd := (hb.ext hx2).cut c n.toNat (s.1.length - n.toNat) (by omega)
    rw [List.take_of_length_le (by rw [hlen]; exact Nat.le_refl _)] at hbd
    refine ⟨h.in_, ⟨cutA A c n.toNat, c - n.toNat, hB3, hbd.keeps hk (fun ad ha => ?_), by rw [hlen]; omega, fun ad ha => ?_⟩, by rw [hlen]; omega, fun h => absurd rfl h, fun k hk2 => Nat.lt_of_lt_of_le (h2.bd k hk2) hk.size⟩
    · obtain ⟨ad0, ha0, hbk⟩ := cutA_block ha
      rw [hbk]; exact (hS ad0 ha0).2
    · obtain ⟨ad0, ha0, hbk⟩ := cutA_block ha
      rw [hbk]; exact hS ad0 ha0
end Go.Proofs.Ytdpomchhbbopbaa

/- Walks: take, of a number. -/
namespace Go.Proofs.Ytdpomchhbbopbaa
open Go Go.RowKit
set_option linter.unusedVariables false
set_option maxRecDepth 2000
theorem go_TakeInt {A B : Prop} (h : Held B → A := by
  intro hEnd
  repeat (first | refine OW_moveV (.int _ _) rfl ?_ | refine OW_moveV (.slice _ _ _) rfl ?_ | refine OW_moveV (.bool _) rfl ?_ | refine OW_moveV (.pointer _) rfl ?_ | refine OW_moveV (.string _) rfl ?_ | refine OW_moveV (.agg _) rfl ?_ | refine OW_moveV (.tuple _) rfl ?_ | refine OW_nil ?_ | refine thenE_normal ?_ | refine CW_seq ?_ | refine CW_region (by kernel_rfl) ?_ | refine OW_assignV (.int _ _) rfl ?_ | refine OW_assignV (.slice _ _ _) rfl ?_ | refine OW_assignV (.bool _) rfl ?_ | refine OW_assignV (.pointer _) rfl ?_ | refine OW_assignV (.string _) rfl ?_ | refine OW_assignV (.agg _) rfl ?_ | refine OW_assignV (.tuple _) rfl ?_ | refine OW_addI rfl rfl (by omega) ?_ | refine OW_subI rfl rfl (by omega) ?_ | refine OW_mulI rfl rfl (by omega) ?_ | refine OW_lss rfl rfl ?_ | refine OW_extract rfl rfl ?_ | refine OW_gtr rfl rfl ?_ | refine OW_leq rfl rfl ?_ | refine OW_geq rfl rfl ?_ | refine OW_eql rfl rfl ?_ | refine OW_neq rfl rfl ?_ | refine OW_not rfl ?_ | refine OW_pickT rfl _ rfl ?_ | refine OW_pickF rfl (.bool _) rfl ?_ | refine OW_pickB rfl rfl rfl ?_ | refine OW_move ?_ | refine OW_assign ?_ | refine OW_pass rfl ?_ | refine OW_take rfl ?_ | refine OW_lenS (by first | with_reducible exact und_bytes | with_reducible exact und_bytess) rfl ?_ | refine OW_convInt (by first | with_reducible exact und_u8 | with_reducible exact und_u64 | with_reducible exact und_int | with_reducible exact und_u32) (by first | with_reducible exact und_u8 | with_reducible exact und_u64 | with_reducible exact und_int | with_reducible exact und_u32) rfl ?_ | refine OW_add rfl rfl ?_ | refine OW_sub rfl rfl ?_ | refine OW_mul rfl rfl ?_ | refine OW_min2 rfl rfl ?_ | refine OW_max2 rfl rfl ?_ | refine OW_neg rfl ?_ | refine CW_block ?_ | refine CW_condT rfl ?_ | refine CW_condF rfl ?_ | refine CW_exit ?_ | refine CW_ret ?_ | refine CW_skip ?_ | refine LW_seq ?_ | refine LW_regC ?_ | refine LW_condC ?_ | refine LW_regF ?_ | refine LW_condF ?_ | refine FW_seq ?_ | refine FW_region (by kernel_rfl) ?_ | refine FW_block ?_ | refine FW_condT rfl ?_ | refine FW_condF rfl ?_ | refine FW_exit ?_ | refine FW_ret ?_ | refine FW_skip ?_ | refine LW_ret ?_ | refine LW_skip ?_ | refine thenE_exit ?_ | refine thenE_ret ?_ | refine inBlockE_normal ?_ | refine inBlockE_same ?_ | refine inBlockE_ret ?_ | refine inBlockE_ne (by rfl) ?_ | refine OW_eqlB (by with_reducible exact und_bool) rfl rfl ?_ | refine OW_neqB (by with_reducible exact und_bool) rfl rfl ?_ | refine OW_idxS (by with_reducible exact und_bytes) one_u8 rfl rfl _ rfl (by omega) ?_ | refine OW_idxS (by with_reducible exact und_bytess) one_bytes rfl rfl _ rfl (by omega) ?_ | refine OW_load1 (by first | with_reducible exact one_u8 | with_reducible exact one_bytes) rfl _ (by assumption) ?_ | refine OW_nilCheck rfl ?_ | refine OW_fieldF fld_R0 rfl ?_ | refine OW_fieldF fld_R1 rfl ?_ | refine OW_fieldF fld_R2 rfl ?_ | refine OW_load1 (by first | with_reducible exact one_bool | with_reducible exact one_errno) rfl _ (by assumption) ?_)
  exact hEnd.out) (k : B) : A := h ⟨k⟩
/-- take: what is read of the next n bytes by a function (f, with caps), and what is left. -/
theorem take_int (w : World) (g : Nat) (S : Nat → Prop) (s : List UInt8 × Int) (h : RR w g S s) (n : Int) (hn : -9223372036854775808 ≤ n ∧ n ≤ 9223372036854775807) (f : FuncId) (fn : Func) (caps : List Value) (Rv : World → Value → Prop) (ok : Bool)
    (hf : Try.prog.funcs[f]? = some fn) (hnm : (fn.name == "runtime.NumGoroutine") = false) (hbd : fn.body.isNone = false)
    (hst : ∀ w1 w2 v, Keeps w1 w2 (· = g) → w.heap.size ≤ w1.heap.size → Rv w1 v → Rv w2 v)
    (hc : s.2 = 0 → 0 ≤ n → n ≤ s.1.length → ∀ w1 A, Ext w w1 → Bs w1 A (s.1.take n.toNat) → (s.1.take n.toNat).length = n.toNat → Calls Try.prog f ([Value.slice A n.toNat n.toNat] ++ caps).toArray w1 (fun en w' => ∃ v, en = .returned (.tuple #[v, .bool ok]) ∧ Ext w1 w' ∧ Rv w' v)) :
    Calls Try.prog 76 #[.pointer (some ⟨g, 0, none⟩), .int .i64 n, .func (.func f) #[] caps.toArray] w (fun en w' => ∃ v, en = .returned v ∧ Keeps w w' (· = g) ∧
      ((s.2 ≠ 0 ∧ v = .int .i64 0 ∧ RR w' g S s) ∨ (s.2 = 0 ∧ (n < 0 ∨ s.1.length < n) ∧ v = .int .i64 0 ∧ RR w' g S ([], 40)) ∨
       (s.2 = 0 ∧ 0 ≤ n ∧ n ≤ s.1.length ∧ ok = false ∧ v = .int .i64 0 ∧ RR w' g S ([], 40)) ∨ (s.2 = 0 ∧ 0 ≤ n ∧ n ≤ s.1.length ∧ ok = true ∧ Rv w' v ∧ RR w' g S (s.1.drop n.toNat, 0)))) := by
  have hll := h.len
  refine calls_of_CW Try.func76 rfl (by simp [Try.ntmps76]) ?_
  rw [Try.ntmps76]
  refine go_TakeInt (k := ?_)
  refine OW_callV Try.func88 (by kernel_rfl) rfl (fine_any w g S s h) rfl ?_
  intro w1 hx
  have h1 := h.ext hx
  obtain ⟨A, c, hB, hb, hcc, hS⟩ := h1.at_
  have m1 : w1.cell? ⟨g, 1, none⟩ = some (.slice A s.1.length c) := hB.cell 1
  by_cases hs : s.2 = 0
  rotate_left 1
  · rw [decide_eq_false hs]
    refine go_TakeInt (k := ?_)
    exact bodyE_ret1 rfl (.int .i64 0) rfl ⟨_, rfl, Keeps.of_ext hx _, .inl ⟨hs, rfl, h1⟩⟩
  rw [decide_eq_true hs]
  by_cases hneg : n < 0
  · refine go_TakeInt (k := ?_)
    rw [decide_eq_true hneg]
    refine go_TakeInt (k := ?_)
    refine OW_callC Try.func118 (by kernel_rfl) rfl (rBad_any w1 g S s h1) rfl ?_
    rintro en w3 ⟨rfl, hr, hk⟩
    refine ⟨_, rfl, ?_⟩
    refine go_TakeInt (k := ?_)
    exact bodyE_ret1 rfl (.int .i64 0) rfl ⟨_, rfl, (Keeps.of_ext hx _).trans' hk, .inr (.inl ⟨hs, .inl hneg, rfl, hr⟩)⟩
  by_cases hgt : (s.1.length : Int) < n
  · refine go_TakeInt (k := ?_)
    rw [decide_eq_false hneg]
    refine go_TakeInt (k := ?_)
    rw [decide_eq_true hgt]
    refine go_TakeInt (k := ?_)
    refine OW_callC Try.func118 (by kernel_rfl) rfl (rBad_any w1 g S s h1) rfl ?_
    rintro en w3 ⟨rfl, hr, hk⟩
    refine ⟨_, rfl, ?_⟩
    refine go_TakeInt (k := ?_)
    exact bodyE_ret1 rfl (.int .i64 0) rfl ⟨_, rfl, (Keeps.of_ext hx _).trans' hk, .inr (.inl ⟨hs, .inr hgt, rfl, hr⟩)⟩
  refine go_TakeInt (k := ?_)
  rw [decide_eq_false hneg]
  refine go_TakeInt (k := ?_)
  rw [decide_eq_false hgt]
  refine go_TakeInt (k := ?_)
  have hnN : (n.toNat : Int) = n := Int.toNat_of_nonneg (by omega)
  refine OW_slice (lv := 0) (hv := n) (mv := n) (by with_reducible exact und_bytes) one_u8 rfl rfl ⟨_, rfl⟩ ⟨_, rfl⟩ (fun _ => rfl) (by omega) ?_
  rw [show (0 : Int).toNat = 0 from rfl, Nat.sub_zero]
  have hbt := hb.cut n.toNat 0 n.toNat (by omega)
  rw [List.drop_zero] at hbt
  have hlt : (s.1.take n.toNat).length = n.toNat := by rw [List.length_take]; omega
  refine go_TakeInt (k := ?_)
  refine OW_callF hf hnm hbd rfl (hc hs (by omega) (by omega) w1 _ hx hbt hlt) rfl ?_
  rintro en w2 ⟨v, rfl, hx2, hv⟩
  refine ⟨_, rfl, ?_⟩
  have hB2 := hB.ext hx2
  have m1' : w2.cell? ⟨g, 1, none⟩ = some (.slice A s.1.length c) := hB2.cell 1
  have h2 := h1.ext hx2
  cases ok
  · refine go_TakeInt (k := ?_)
    refine OW_callC Try.func118 (by kernel_rfl) rfl (rBad_any w2 g S s h2) rfl ?_
    rintro en w3 ⟨rfl, hr, hk⟩
    refine ⟨_, rfl, ?_⟩
    refine go_TakeInt (k := ?_)
    exact bodyE_ret1 rfl (.int .i64 0) rfl ⟨_, rfl, (Keeps.of_ext (hx.trans' hx2) _).trans' hk, .inr (.inr (.inl ⟨hs, by omega, by omega, rfl, rfl, hr⟩))⟩
  · refine go_TakeInt (k := ?_)
    refine OW_slice (lv := n) (hv := s.1.length) (mv := c) (by with_reducible exact und_bytes) one_u8 rfl ⟨_, rfl⟩ rfl rfl (fun h => by cases h) (by omega) ?_
    rw [Int.toNat_natCast, Int.toNat_natCast]
    refine go_TakeInt (k := ?_)
    refine OW_storeB one_bytes rfl _ rfl rfl hB2 (by simp) ?_
    intro w3 hB3 hg3
    have hlen : (s.1.drop n.toNat).length = s.1.length - n.toNat := by simp
    have hB3 : Blk w3 g 60 #[.bool true, .slice (cutA A c n.toNat) (s.1.length - n.toNat) (c - n.toNat), .int .i64 s.2] := hB3
    have hk := Keeps.of_only (S := (· = g)) hg3 rfl
    refine go_TakeInt (k := ?_)
    refine bodyE_ret1 rfl v rfl ⟨_, rfl, (Keeps.of_ext (hx.trans' hx2) _).trans' hk, .inr (.inr (.inr ⟨hs, by omega, by omega, rfl, hst w2 w3 v hk (hx.trans' hx2).size hv, ?_⟩))⟩
    rw [← hlen, hs] at hB3
    have hbd := (hb.ext hx2).cut c n.toNat (s.1.length - n.toNat) (by omega)
    rw [List.take_of_length_le (by rw [hlen]; exact Nat.le_refl _)] at hbd
    refine ⟨h.in_, ⟨cutA A c n.toNat, c - n.toNat, hB3, hbd.keeps hk (fun ad ha => ?_), by rw [hlen]; omega, fun ad ha => ?_⟩, by rw [hlen]; omega, fun h => absurd rfl h, fun k hk2 => Nat.lt_of_lt_of_le (h2.bd k hk2) hk.size⟩
    · obtain ⟨ad0, ha0, hbk⟩ := cutA_block ha
      rw [hbk]; exact (hS ad0 ha0).2
    · obtain ⟨ad0, ha0, hbk⟩ := cutA_block ha
      rw [hbk]; exact hS ad0 ha0
end Go.Proofs.Ytdpomchhbbopbaa

/- Walks: take, of a flag. -/
namespace Go.Proofs.Ytdpomchhbbopbaa
open Go Go.RowKit
set_option linter.unusedVariables false
set_option maxRecDepth 2000
theorem go_TakeBool {A B : Prop} (h : Held B → A := by
  intro hEnd
  repeat (first | refine OW_moveV (.int _ _) rfl ?_ | refine OW_moveV (.slice _ _ _) rfl ?_ | refine OW_moveV (.bool _) rfl ?_ | refine OW_moveV (.pointer _) rfl ?_ | refine OW_moveV (.string _) rfl ?_ | refine OW_moveV (.agg _) rfl ?_ | refine OW_moveV (.tuple _) rfl ?_ | refine OW_nil ?_ | refine thenE_normal ?_ | refine CW_seq ?_ | refine CW_region (by kernel_rfl) ?_ | refine OW_assignV (.int _ _) rfl ?_ | refine OW_assignV (.slice _ _ _) rfl ?_ | refine OW_assignV (.bool _) rfl ?_ | refine OW_assignV (.pointer _) rfl ?_ | refine OW_assignV (.string _) rfl ?_ | refine OW_assignV (.agg _) rfl ?_ | refine OW_assignV (.tuple _) rfl ?_ | refine OW_addI rfl rfl (by omega) ?_ | refine OW_subI rfl rfl (by omega) ?_ | refine OW_mulI rfl rfl (by omega) ?_ | refine OW_lss rfl rfl ?_ | refine OW_extract rfl rfl ?_ | refine OW_gtr rfl rfl ?_ | refine OW_leq rfl rfl ?_ | refine OW_geq rfl rfl ?_ | refine OW_eql rfl rfl ?_ | refine OW_neq rfl rfl ?_ | refine OW_not rfl ?_ | refine OW_pickT rfl _ rfl ?_ | refine OW_pickF rfl (.bool _) rfl ?_ | refine OW_pickB rfl rfl rfl ?_ | refine OW_move ?_ | refine OW_assign ?_ | refine OW_pass rfl ?_ | refine OW_take rfl ?_ | refine OW_lenS (by first | with_reducible exact und_bytes | with_reducible exact und_bytess) rfl ?_ | refine OW_convInt (by first | with_reducible exact und_u8 | with_reducible exact und_u64 | with_reducible exact und_int | with_reducible exact und_u32) (by first | with_reducible exact und_u8 | with_reducible exact und_u64 | with_reducible exact und_int | with_reducible exact und_u32) rfl ?_ | refine OW_add rfl rfl ?_ | refine OW_sub rfl rfl ?_ | refine OW_mul rfl rfl ?_ | refine OW_min2 rfl rfl ?_ | refine OW_max2 rfl rfl ?_ | refine OW_neg rfl ?_ | refine CW_block ?_ | refine CW_condT rfl ?_ | refine CW_condF rfl ?_ | refine CW_exit ?_ | refine CW_ret ?_ | refine CW_skip ?_ | refine LW_seq ?_ | refine LW_regC ?_ | refine LW_condC ?_ | refine LW_regF ?_ | refine LW_condF ?_ | refine FW_seq ?_ | refine FW_region (by kernel_rfl) ?_ | refine FW_block ?_ | refine FW_condT rfl ?_ | refine FW_condF rfl ?_ | refine FW_exit ?_ | refine FW_ret ?_ | refine FW_skip ?_ | refine LW_ret ?_ | refine LW_skip ?_ | refine thenE_exit ?_ | refine thenE_ret ?_ | refine inBlockE_normal ?_ | refine inBlockE_same ?_ | refine inBlockE_ret ?_ | refine inBlockE_ne (by rfl) ?_ | refine OW_eqlB (by with_reducible exact und_bool) rfl rfl ?_ | refine OW_neqB (by with_reducible exact und_bool) rfl rfl ?_ | refine OW_idxS (by with_reducible exact und_bytes) one_u8 rfl rfl _ rfl (by omega) ?_ | refine OW_idxS (by with_reducible exact und_bytess) one_bytes rfl rfl _ rfl (by omega) ?_ | refine OW_load1 (by first | with_reducible exact one_u8 | with_reducible exact one_bytes) rfl _ (by assumption) ?_ | refine OW_nilCheck rfl ?_ | refine OW_fieldF fld_R0 rfl ?_ | refine OW_fieldF fld_R1 rfl ?_ | refine OW_fieldF fld_R2 rfl ?_ | refine OW_load1 (by first | with_reducible exact one_bool | with_reducible exact one_errno) rfl _ (by assumption) ?_)
  exact hEnd.out) (k : B) : A := h ⟨k⟩
/-- take: what is read of the next n bytes by a function (f, with caps), and what is left. -/
theorem take_bool (w : World) (g : Nat) (S : Nat → Prop) (s : List UInt8 × Int) (h : RR w g S s) (n : Int) (hn : -9223372036854775808 ≤ n ∧ n ≤ 9223372036854775807) (f : FuncId) (fn : Func) (caps : List Value) (Rv : World → Value → Prop) (ok : Bool)
    (hf : Try.prog.funcs[f]? = some fn) (hnm : (fn.name == "runtime.NumGoroutine") = false) (hbd : fn.body.isNone = false)
    (hst : ∀ w1 w2 v, Keeps w1 w2 (· = g) → w.heap.size ≤ w1.heap.size → Rv w1 v → Rv w2 v)
    (hc : s.2 = 0 → 0 ≤ n → n ≤ s.1.length → ∀ w1 A, Ext w w1 → Bs w1 A (s.1.take n.toNat) → (s.1.take n.toNat).length = n.toNat → Calls Try.prog f ([Value.slice A n.toNat n.toNat] ++ caps).toArray w1 (fun en w' => ∃ v, en = .returned (.tuple #[v, .bool ok]) ∧ Ext w1 w' ∧ Rv w' v)) :
    Calls Try.prog 79 #[.pointer (some ⟨g, 0, none⟩), .int .i64 n, .func (.func f) #[] caps.toArray] w (fun en w' => ∃ v, en = .returned v ∧ Keeps w w' (· = g) ∧
      ((s.2 ≠ 0 ∧ v = .bool false ∧ RR w' g S s) ∨ (s.2 = 0 ∧ (n < 0 ∨ s.1.length < n) ∧ v = .bool false ∧ RR w' g S ([], 40)) ∨
       (s.2 = 0 ∧ 0 ≤ n ∧ n ≤ s.1.length ∧ ok = false ∧ v = .bool false ∧ RR w' g S ([], 40)) ∨ (s.2 = 0 ∧ 0 ≤ n ∧ n ≤ s.1.length ∧ ok = true ∧ Rv w' v ∧ RR w' g S (s.1.drop n.toNat, 0)))) := by
  have hll := h.len
  refine calls_of_CW Try.func79 rfl (by simp [Try.ntmps79]) ?_
  rw [Try.ntmps79]
  refine go_TakeBool (k := ?_)
  refine OW_callV Try.func88 (by kernel_rfl) rfl (fine_any w g S s h) rfl ?_
  intro w1 hx
  have h1 := h.ext hx
  obtain ⟨A, c, hB, hb, hcc, hS⟩ := h1.at_
  have m1 : w1.cell? ⟨g, 1, none⟩ = some (.slice A s.1.length c) := hB.cell 1
  by_cases hs : s.2 = 0
  rotate_left 1
  · rw [decide_eq_false hs]
    refine go_TakeBool (k := ?_)
    exact bodyE_ret1 rfl (.bool false) rfl ⟨_, rfl, Keeps.of_ext hx _, .inl ⟨hs, rfl, h1⟩⟩
  rw [decide_eq_true hs]
  by_cases hneg : n < 0
  · refine go_TakeBool (k := ?_)
    rw [decide_eq_true hneg]
    refine go_TakeBool (k := ?_)
    refine OW_callC Try.func118 (by kernel_rfl) rfl (rBad_any w1 g S s h1) rfl ?_
    rintro en w3 ⟨rfl, hr, hk⟩
    refine ⟨_, rfl, ?_⟩
    refine go_TakeBool (k := ?_)
    exact bodyE_ret1 rfl (.bool false) rfl ⟨_, rfl, (Keeps.of_ext hx _).trans' hk, .inr (.inl ⟨hs, .inl hneg, rfl, hr⟩)⟩
  by_cases hgt : (s.1.length : Int) < n
  · refine go_TakeBool (k := ?_)
    rw [decide_eq_false hneg]
    refine go_TakeBool (k := ?_)
    rw [decide_eq_true hgt]
    refine go_TakeBool (k := ?_)
    refine OW_callC Try.func118 (by kernel_rfl) rfl (rBad_any w1 g S s h1) rfl ?_
    rintro en w3 ⟨rfl, hr, hk⟩
    refine ⟨_, rfl, ?_⟩
    refine go_TakeBool (k := ?_)
    exact bodyE_ret1 rfl (.bool false) rfl ⟨_, rfl, (Keeps.of_ext hx _).trans' hk, .inr (.inl ⟨hs, .inr hgt, rfl, hr⟩)⟩
  refine go_TakeBool (k := ?_)
  rw [decide_eq_false hneg]
  refine go_TakeBool (k := ?_)
  rw [decide_eq_false hgt]
  refine go_TakeBool (k := ?_)
  have hnN : (n.toNat : Int) = n := Int.toNat_of_nonneg (by omega)
  refine OW_slice (lv := 0) (hv := n) (mv := n) (by with_reducible exact und_bytes) one_u8 rfl rfl ⟨_, rfl⟩ ⟨_, rfl⟩ (fun _ => rfl) (by omega) ?_
  rw [show (0 : Int).toNat = 0 from rfl, Nat.sub_zero]
  have hbt := hb.cut n.toNat 0 n.toNat (by omega)
  rw [List.drop_zero] at hbt
  have hlt : (s.1.take n.toNat).length = n.toNat := by rw [List.length_take]; omega
  refine go_TakeBool (k := ?_)
  refine OW_callF hf hnm hbd rfl (hc hs (by omega) (by omega) w1 _ hx hbt hlt) rfl ?_
  rintro en w2 ⟨v, rfl, hx2, hv⟩
  refine ⟨_, rfl, ?_⟩
  have hB2 := hB.ext hx2
  have m1' : w2.cell? ⟨g, 1, none⟩ = some (.slice A s.1.length c) := hB2.cell 1
  have h2 := h1.ext hx2
  cases ok
  · refine go_TakeBool (k := ?_)
    refine OW_callC Try.func118 (by kernel_rfl) rfl (rBad_any w2 g S s h2) rfl ?_
    rintro en w3 ⟨rfl, hr, hk⟩
    refine ⟨_, rfl, ?_⟩
    refine go_TakeBool (k := ?_)
    exact bodyE_ret1 rfl (.bool false) rfl ⟨_, rfl, (Keeps.of_ext (hx.trans' hx2) _).trans' hk, .inr (.inr (.inl ⟨hs, by omega, by omega, rfl, rfl, hr⟩))⟩
  · refine go_TakeBool (k := ?_)
    refine OW_slice (lv := n) (hv := s.1.length) (mv := c) (by with_reducible exact und_bytes) one_u8 rfl ⟨_, rfl⟩ rfl rfl (fun h => by cases h) (by omega) ?_
    rw [Int.toNat_natCast, Int.toNat_natCast]
    refine go_TakeBool (k := ?_)
    refine OW_storeB one_bytes rfl _ rfl rfl hB2 (by simp) ?_
    intro w3 hB3 hg3
    have hlen : (s.1.drop n.toNat).length = s.1.length - n.toNat := by simp
    have hB3 : Blk w3 g 60 #[.bool true, .slice (cutA A c n.toNat) (s.1.length - n.toNat) (c - n.toNat), .int .i64 s.2] := hB3
    have hk := Keeps.of_only (S := (· = g)) hg3 rfl
    refine go_TakeBool (k := ?_)
    refine bodyE_ret1 rfl v rfl ⟨_, rfl, (Keeps.of_ext (hx.trans' hx2) _).trans' hk, .inr (.inr (.inr ⟨hs, by omega, by omega, rfl, hst w2 w3 v hk (hx.trans' hx2).size hv, ?_⟩))⟩
    rw [← hlen, hs] at hB3
    have hbd := (hb.ext hx2).cut c n.toNat (s.1.length - n.toNat) (by omega)
    rw [List.take_of_length_le (by rw [hlen]; exact Nat.le_refl _)] at hbd
    refine ⟨h.in_, ⟨cutA A c n.toNat, c - n.toNat, hB3, hbd.keeps hk (fun ad ha => ?_), by rw [hlen]; omega, fun ad ha => ?_⟩, by rw [hlen]; omega, fun h => absurd rfl h, fun k hk2 => Nat.lt_of_lt_of_le (h2.bd k hk2) hk.size⟩
    · obtain ⟨ad0, ha0, hbk⟩ := cutA_block ha
      rw [hbk]; exact (hS ad0 ha0).2
    · obtain ⟨ad0, ha0, hbk⟩ := cutA_block ha
      rw [hbk]; exact hS ad0 ha0
end Go.Proofs.Ytdpomchhbbopbaa

/- Walks: take, of bytes. -/
namespace Go.Proofs.Ytdpomchhbbopbaa
open Go Go.RowKit
set_option linter.unusedVariables false
set_option maxRecDepth 2000
theorem go_TakeBytes {A B : Prop} (h : Held B → A := by
  intro hEnd
  repeat (first | refine OW_moveV (.int _ _) rfl ?_ | refine OW_moveV (.slice _ _ _) rfl ?_ | refine OW_moveV (.bool _) rfl ?_ | refine OW_moveV (.pointer _) rfl ?_ | refine OW_moveV (.string _) rfl ?_ | refine OW_moveV (.agg _) rfl ?_ | refine OW_moveV (.tuple _) rfl ?_ | refine OW_nil ?_ | refine thenE_normal ?_ | refine CW_seq ?_ | refine CW_region (by kernel_rfl) ?_ | refine OW_assignV (.int _ _) rfl ?_ | refine OW_assignV (.slice _ _ _) rfl ?_ | refine OW_assignV (.bool _) rfl ?_ | refine OW_assignV (.pointer _) rfl ?_ | refine OW_assignV (.string _) rfl ?_ | refine OW_assignV (.agg _) rfl ?_ | refine OW_assignV (.tuple _) rfl ?_ | refine OW_addI rfl rfl (by omega) ?_ | refine OW_subI rfl rfl (by omega) ?_ | refine OW_mulI rfl rfl (by omega) ?_ | refine OW_lss rfl rfl ?_ | refine OW_extract rfl rfl ?_ | refine OW_gtr rfl rfl ?_ | refine OW_leq rfl rfl ?_ | refine OW_geq rfl rfl ?_ | refine OW_eql rfl rfl ?_ | refine OW_neq rfl rfl ?_ | refine OW_not rfl ?_ | refine OW_pickT rfl _ rfl ?_ | refine OW_pickF rfl (.bool _) rfl ?_ | refine OW_pickB rfl rfl rfl ?_ | refine OW_move ?_ | refine OW_assign ?_ | refine OW_pass rfl ?_ | refine OW_take rfl ?_ | refine OW_lenS (by first | with_reducible exact und_bytes | with_reducible exact und_bytess) rfl ?_ | refine OW_convInt (by first | with_reducible exact und_u8 | with_reducible exact und_u64 | with_reducible exact und_int | with_reducible exact und_u32) (by first | with_reducible exact und_u8 | with_reducible exact und_u64 | with_reducible exact und_int | with_reducible exact und_u32) rfl ?_ | refine OW_add rfl rfl ?_ | refine OW_sub rfl rfl ?_ | refine OW_mul rfl rfl ?_ | refine OW_min2 rfl rfl ?_ | refine OW_max2 rfl rfl ?_ | refine OW_neg rfl ?_ | refine CW_block ?_ | refine CW_condT rfl ?_ | refine CW_condF rfl ?_ | refine CW_exit ?_ | refine CW_ret ?_ | refine CW_skip ?_ | refine LW_seq ?_ | refine LW_regC ?_ | refine LW_condC ?_ | refine LW_regF ?_ | refine LW_condF ?_ | refine FW_seq ?_ | refine FW_region (by kernel_rfl) ?_ | refine FW_block ?_ | refine FW_condT rfl ?_ | refine FW_condF rfl ?_ | refine FW_exit ?_ | refine FW_ret ?_ | refine FW_skip ?_ | refine LW_ret ?_ | refine LW_skip ?_ | refine thenE_exit ?_ | refine thenE_ret ?_ | refine inBlockE_normal ?_ | refine inBlockE_same ?_ | refine inBlockE_ret ?_ | refine inBlockE_ne (by rfl) ?_ | refine OW_eqlB (by with_reducible exact und_bool) rfl rfl ?_ | refine OW_neqB (by with_reducible exact und_bool) rfl rfl ?_ | refine OW_idxS (by with_reducible exact und_bytes) one_u8 rfl rfl _ rfl (by omega) ?_ | refine OW_idxS (by with_reducible exact und_bytess) one_bytes rfl rfl _ rfl (by omega) ?_ | refine OW_load1 (by first | with_reducible exact one_u8 | with_reducible exact one_bytes) rfl _ (by assumption) ?_ | refine OW_nilCheck rfl ?_ | refine OW_fieldF fld_R0 rfl ?_ | refine OW_fieldF fld_R1 rfl ?_ | refine OW_fieldF fld_R2 rfl ?_ | refine OW_load1 (by first | with_reducible exact one_bool | with_reducible exact one_errno) rfl _ (by assumption) ?_)
  exact hEnd.out) (k : B) : A := h ⟨k⟩
/-- take: what is read of the next n bytes by a function (f, with caps), and what is left. -/
theorem take_bytes (w : World) (g : Nat) (S : Nat → Prop) (s : List UInt8 × Int) (h : RR w g S s) (n : Int) (hn : -9223372036854775808 ≤ n ∧ n ≤ 9223372036854775807) (f : FuncId) (fn : Func) (caps : List Value) (Rv : World → Value → Prop) (ok : Bool)
    (hf : Try.prog.funcs[f]? = some fn) (hnm : (fn.name == "runtime.NumGoroutine") = false) (hbd : fn.body.isNone = false)
    (hst : ∀ w1 w2 v, Keeps w1 w2 (· = g) → w.heap.size ≤ w1.heap.size → Rv w1 v → Rv w2 v)
    (hc : s.2 = 0 → 0 ≤ n → n ≤ s.1.length → ∀ w1 A, Ext w w1 → Bs w1 A (s.1.take n.toNat) → (s.1.take n.toNat).length = n.toNat → Calls Try.prog f ([Value.slice A n.toNat n.toNat] ++ caps).toArray w1 (fun en w' => ∃ v, en = .returned (.tuple #[v, .bool ok]) ∧ Ext w1 w' ∧ Rv w' v)) :
    Calls Try.prog 83 #[.pointer (some ⟨g, 0, none⟩), .int .i64 n, .func (.func f) #[] caps.toArray] w (fun en w' => ∃ v, en = .returned v ∧ Keeps w w' (· = g) ∧
      ((s.2 ≠ 0 ∧ v = .slice none 0 0 ∧ RR w' g S s) ∨ (s.2 = 0 ∧ (n < 0 ∨ s.1.length < n) ∧ v = .slice none 0 0 ∧ RR w' g S ([], 40)) ∨
       (s.2 = 0 ∧ 0 ≤ n ∧ n ≤ s.1.length ∧ ok = false ∧ v = .slice none 0 0 ∧ RR w' g S ([], 40)) ∨ (s.2 = 0 ∧ 0 ≤ n ∧ n ≤ s.1.length ∧ ok = true ∧ Rv w' v ∧ RR w' g S (s.1.drop n.toNat, 0)))) := by
  have hll := h.len
  refine calls_of_CW Try.func83 rfl (by simp [Try.ntmps83]) ?_
  rw [Try.ntmps83]
  refine go_TakeBytes (k := ?_)
  refine OW_callV Try.func88 (by kernel_rfl) rfl (fine_any w g S s h) rfl ?_
  intro w1 hx
  have h1 := h.ext hx
  obtain ⟨A, c, hB, hb, hcc, hS⟩ := h1.at_
  have m1 : w1.cell? ⟨g, 1, none⟩ = some (.slice A s.1.length c) := hB.cell 1
  by_cases hs : s.2 = 0
  rotate_left 1
  · rw [decide_eq_false hs]
    refine go_TakeBytes (k := ?_)
    exact bodyE_ret1 rfl (.slice none 0 0) rfl ⟨_, rfl, Keeps.of_ext hx _, .inl ⟨hs, rfl, h1⟩⟩
  rw [decide_eq_true hs]
  by_cases hneg : n < 0
  · refine go_TakeBytes (k := ?_)
    rw [decide_eq_true hneg]
    refine go_TakeBytes (k := ?_)
    refine OW_callC Try.func118 (by kernel_rfl) rfl (rBad_any w1 g S s h1) rfl ?_
    rintro en w3 ⟨rfl, hr, hk⟩
    refine ⟨_, rfl, ?_⟩
    refine go_TakeBytes (k := ?_)
    exact bodyE_ret1 rfl (.slice none 0 0) rfl ⟨_, rfl, (Keeps.of_ext hx _).trans' hk, .inr (.inl ⟨hs, .inl hneg, rfl, hr⟩)⟩
  by_cases hgt : (s.1.length : Int) < n
  · refine go_TakeBytes (k := ?_)
    rw [decide_eq_false hneg]
    refine go_TakeBytes (k := ?_)
    rw [decide_eq_true hgt]
    refine go_TakeBytes (k := ?_)
    refine OW_callC Try.func118 (by kernel_rfl) rfl (rBad_any w1 g S s h1) rfl ?_
    rintro en w3 ⟨rfl, hr, hk⟩
    refine ⟨_, rfl, ?_⟩
    refine go_TakeBytes (k := ?_)
    exact bodyE_ret1 rfl (.slice none 0 0) rfl ⟨_, rfl, (Keeps.of_ext hx _).trans' hk, .inr (.inl ⟨hs, .inr hgt, rfl, hr⟩)⟩
  refine go_TakeBytes (k := ?_)
  rw [decide_eq_false hneg]
  refine go_TakeBytes (k := ?_)
  rw [decide_eq_false hgt]
  refine go_TakeBytes (k := ?_)
  have hnN : (n.toNat : Int) = n := Int.toNat_of_nonneg (by omega)
  refine OW_slice (lv := 0) (hv := n) (mv := n) (by with_reducible exact und_bytes) one_u8 rfl rfl ⟨_, rfl⟩ ⟨_, rfl⟩ (fun _ => rfl) (by omega) ?_
  rw [show (0 : Int).toNat = 0 from rfl, Nat.sub_zero]
  have hbt := hb.cut n.toNat 0 n.toNat (by omega)
  rw [List.drop_zero] at hbt
  have hlt : (s.1.take n.toNat).length = n.toNat := by rw [List.length_take]; omega
  refine go_TakeBytes (k := ?_)
  refine OW_callF hf hnm hbd rfl (hc hs (by omega) (by omega) w1 _ hx hbt hlt) rfl ?_
  rintro en w2 ⟨v, rfl, hx2, hv⟩
  refine ⟨_, rfl, ?_⟩
  have hB2 := hB.ext hx2
  have m1' : w2.cell? ⟨g, 1, none⟩ = some (.slice A s.1.length c) := hB2.cell 1
  have h2 := h1.ext hx2
  cases ok
  · refine go_TakeBytes (k := ?_)
    refine OW_callC Try.func118 (by kernel_rfl) rfl (rBad_any w2 g S s h2) rfl ?_
    rintro en w3 ⟨rfl, hr, hk⟩
    refine ⟨_, rfl, ?_⟩
    refine go_TakeBytes (k := ?_)
    exact bodyE_ret1 rfl (.slice none 0 0) rfl ⟨_, rfl, (Keeps.of_ext (hx.trans' hx2) _).trans' hk, .inr (.inr (.inl ⟨hs, by omega, by omega, rfl, rfl, hr⟩))⟩
  · refine go_TakeBytes (k := ?_)
    refine OW_slice (lv := n) (hv := s.1.length) (mv := c) (by with_reducible exact und_bytes) one_u8 rfl ⟨_, rfl⟩ rfl rfl (fun h => by cases h) (by omega) ?_
    rw [Int.toNat_natCast, Int.toNat_natCast]
    refine go_TakeBytes (k := ?_)
    refine OW_storeB one_bytes rfl _ rfl rfl hB2 (by simp) ?_
    intro w3 hB3 hg3
    have hlen : (s.1.drop n.toNat).length = s.1.length - n.toNat := by simp
    have hB3 : Blk w3 g 60 #[.bool true, .slice (cutA A c n.toNat) (s.1.length - n.toNat) (c - n.toNat), .int .i64 s.2] := hB3
    have hk := Keeps.of_only (S := (· = g)) hg3 rfl
    refine go_TakeBytes (k := ?_)
    refine bodyE_ret1 rfl v rfl ⟨_, rfl, (Keeps.of_ext (hx.trans' hx2) _).trans' hk, .inr (.inr (.inr ⟨hs, by omega, by omega, rfl, hst w2 w3 v hk (hx.trans' hx2).size hv, ?_⟩))⟩
    rw [← hlen, hs] at hB3
    have hbd := (hb.ext hx2).cut c n.toNat (s.1.length - n.toNat) (by omega)
    rw [List.take_of_length_le (by rw [hlen]; exact Nat.le_refl _)] at hbd
    refine ⟨h.in_, ⟨cutA A c n.toNat, c - n.toNat, hB3, hbd.keeps hk (fun ad ha => ?_), by rw [hlen]; omega, fun ad ha => ?_⟩, by rw [hlen]; omega, fun h => absurd rfl h, fun k hk2 => Nat.lt_of_lt_of_le (h2.bd k hk2) hk.size⟩
    · obtain ⟨ad0, ha0, hbk⟩ := cutA_block ha
      rw [hbk]; exact (hS ad0 ha0).2
    · obtain ⟨ad0, ha0, hbk⟩ := cutA_block ha
      rw [hbk]; exact hS ad0 ha0
end Go.Proofs.Ytdpomchhbbopbaa

/- Walks: the Reader's own methods, each by what is read and what is left. -/
namespace Go.Proofs.Ytdpomchhbbopbaa
open Go Go.RowKit
set_option linter.unusedVariables false
set_option maxRecDepth 2000

theorem go_WireR2 {A B : Prop} (h : Held B → A := by
  intro hEnd
  repeat (first | refine OW_moveV (.int _ _) rfl ?_ | refine OW_moveV (.slice _ _ _) rfl ?_ | refine OW_moveV (.bool _) rfl ?_ | refine OW_moveV (.pointer _) rfl ?_ | refine OW_moveV (.string _) rfl ?_ | refine OW_moveV (.agg _) rfl ?_ | refine OW_moveV (.tuple _) rfl ?_ | refine OW_nil ?_ | refine thenE_normal ?_ | refine CW_seq ?_ | refine CW_region (by kernel_rfl) ?_ | refine OW_assignV (.int _ _) rfl ?_ | refine OW_assignV (.slice _ _ _) rfl ?_ | refine OW_assignV (.bool _) rfl ?_ | refine OW_assignV (.pointer _) rfl ?_ | refine OW_assignV (.string _) rfl ?_ | refine OW_assignV (.agg _) rfl ?_ | refine OW_assignV (.tuple _) rfl ?_ | refine OW_addI rfl rfl (by omega) ?_ | refine OW_subI rfl rfl (by omega) ?_ | refine OW_mulI rfl rfl (by omega) ?_ | refine OW_lss rfl rfl ?_ | refine OW_extract rfl rfl ?_ | refine OW_gtr rfl rfl ?_ | refine OW_leq rfl rfl ?_ | refine OW_geq rfl rfl ?_ | refine OW_eql rfl rfl ?_ | refine OW_neq rfl rfl ?_ | refine OW_not rfl ?_ | refine OW_pickT rfl _ rfl ?_ | refine OW_pickF rfl (.bool _) rfl ?_ | refine OW_pickB rfl rfl rfl ?_ | refine OW_move ?_ | refine OW_assign ?_ | refine OW_pass rfl ?_ | refine OW_take rfl ?_ | refine OW_lenS (by first | with_reducible exact und_bytes | with_reducible exact und_bytess) rfl ?_ | refine OW_convInt (by first | with_reducible exact und_u8 | with_reducible exact und_u64 | with_reducible exact und_int | with_reducible exact und_u32) (by first | with_reducible exact und_u8 | with_reducible exact und_u64 | with_reducible exact und_int | with_reducible exact und_u32) rfl ?_ | refine OW_add rfl rfl ?_ | refine OW_sub rfl rfl ?_ | refine OW_mul rfl rfl ?_ | refine OW_min2 rfl rfl ?_ | refine OW_max2 rfl rfl ?_ | refine OW_neg rfl ?_ | refine CW_block ?_ | refine CW_condT rfl ?_ | refine CW_condF rfl ?_ | refine CW_exit ?_ | refine CW_ret ?_ | refine CW_skip ?_ | refine LW_seq ?_ | refine LW_regC ?_ | refine LW_condC ?_ | refine LW_regF ?_ | refine LW_condF ?_ | refine FW_seq ?_ | refine FW_region (by kernel_rfl) ?_ | refine FW_block ?_ | refine FW_condT rfl ?_ | refine FW_condF rfl ?_ | refine FW_exit ?_ | refine FW_ret ?_ | refine FW_skip ?_ | refine LW_ret ?_ | refine LW_skip ?_ | refine thenE_exit ?_ | refine thenE_ret ?_ | refine inBlockE_normal ?_ | refine inBlockE_same ?_ | refine inBlockE_ret ?_ | refine inBlockE_ne (by rfl) ?_ | refine OW_eqlB (by with_reducible exact und_bool) rfl rfl ?_ | refine OW_neqB (by with_reducible exact und_bool) rfl rfl ?_ | refine OW_idxS (by with_reducible exact und_bytes) one_u8 rfl rfl _ rfl (by omega) ?_ | refine OW_idxS (by with_reducible exact und_bytess) one_bytes rfl rfl _ rfl (by omega) ?_ | refine OW_load1 (by first | with_reducible exact one_u8 | with_reducible exact one_bytes) rfl _ (by assumption) ?_ | refine OW_nilCheck rfl ?_ | refine OW_fieldF fld_R0 rfl ?_ | refine OW_fieldF fld_R1 rfl ?_ | refine OW_fieldF fld_R2 rfl ?_ | refine OW_idxL 0 (by with_reducible exact und_bytes) one_u8 rfl rfl (by decide) ?_)
  exact hEnd.out) (k : B) : A := h ⟨k⟩
/-- A reader after so many bytes, which were good or not. -/
def stepS (s : List UInt8 × Int) (n : Int) (ok : Bool) : List UInt8 × Int := if s.2 ≠ 0 then s else if n < 0 ∨ (s.1.length : Int) < n then ([], 40) else if ok then (s.1.drop n.toNat, 0) else ([], 40)
def fits (s : List UInt8 × Int) (n : Int) : Bool := decide (s.2 = 0 ∧ 0 ≤ n ∧ n ≤ s.1.length)
/-- What a reader's call comes to. -/
def RPost (w : World) (g : Nat) (S : Nat → Prop) (v : Value) (s : List UInt8 × Int) : Ending → World → Prop := fun en w' => en = .returned v ∧ RR w' g S s ∧ Keeps w w' (· = g)
theorem take_sum {w : World} {g : Nat} {S : Nat → Prop} {s : List UInt8 × Int} {n : Int} {ok : Bool} {zero x v0 : Value} {en : Ending} {w' : World} (hv : (if fits s n && ok then x else zero) = v0)
    (h : ∃ v, en = .returned v ∧ Keeps w w' (· = g) ∧ ((s.2 ≠ 0 ∧ v = zero ∧ RR w' g S s) ∨ (s.2 = 0 ∧ (n < 0 ∨ s.1.length < n) ∧ v = zero ∧ RR w' g S ([], 40)) ∨
       (s.2 = 0 ∧ 0 ≤ n ∧ n ≤ s.1.length ∧ ok = false ∧ v = zero ∧ RR w' g S ([], 40)) ∨ (s.2 = 0 ∧ 0 ≤ n ∧ n ≤ s.1.length ∧ ok = true ∧ v = x ∧ RR w' g S (s.1.drop n.toNat, 0)))) : RPost w g S v0 (stepS s n ok) en w' := by
  obtain ⟨v, he, hk, h | h | h | h⟩ := h
  · obtain ⟨h1, h2, h3⟩ := h
    subst h2
    have hf : fits s n = false := decide_eq_false fun hh => h1 hh.1
    rw [hf] at hv
    refine ⟨by rw [he, ← hv]; rfl, ?_, hk⟩
    unfold stepS; rw [if_pos h1]; exact h3
  · obtain ⟨h1, h2, h3, h4⟩ := h
    subst h3
    have hf : fits s n = false := decide_eq_false fun hh => by omega
    rw [hf] at hv
    refine ⟨by rw [he, ← hv]; rfl, ?_, hk⟩
    unfold stepS; rw [if_neg (by simpa using h1), if_pos h2]; exact h4
  · obtain ⟨h1, h2, h3, h4, h5, h6⟩ := h
    subst h4; subst h5
    rw [Bool.and_false] at hv
    refine ⟨by rw [he, ← hv]; rfl, ?_, hk⟩
    unfold stepS; rw [if_neg (by simpa using h1), if_neg (by omega)]; exact h6
  · obtain ⟨h1, h2, h3, h4, h5, h6⟩ := h
    subst h4; subst h5
    have hf : fits s n = true := decide_eq_true ⟨h1, h2, h3⟩
    rw [hf] at hv
    refine ⟨by rw [he, ← hv]; rfl, ?_, hk⟩
    unfold stepS; rw [if_neg (by simpa using h1), if_neg (by omega)]; exact h6

set_option maxHeartbeats 8000000 in
theorem cByte_any (w : World) (A : Option Addr) (b : UInt8) (hb : Bs w A [b]) : Calls Try.prog 75 #[.slice A 1 1] w (RetV w (.tuple #[bv b, .bool true])) := by
  obtain ⟨ad, hA, hc⟩ := hb 0 (bv b) rfl
  subst hA
  have hc : w.cell? (ad.add 0) = some (.int .u8 (b.toNat : Int)) := hc
  refine calls_of_CW Try.func75 rfl (by simp [Try.ntmps75]) ?_
  rw [Try.ntmps75]
  refine go_WireR2 (k := ?_)
  exact bodyE_ret2 rfl (bv b) (.bool true) rfl rfl ⟨rfl, Ext.rfl' w⟩
theorem one_of {l : List UInt8} (h : l.length = 1) : l = [l.headD 0] := by
  match l, h with
  | [x], _ => rfl
set_option maxHeartbeats 8000000 in
theorem rByte_any (w : World) (g : Nat) (S : Nat → Prop) (s : List UInt8 × Int) (h : RR w g S s) : Calls Try.prog 33 #[.pointer (some ⟨g, 0, none⟩)] w (RPost w g S (bv (if fits s 1 then s.1.headD 0 else 0)) (stepS s 1 true)) := by
  have T := take_byte w g S s h 1 (by omega) _ _ [] (fun _ v => v = bv (s.1.headD 0)) true Try.func75 (by kernel_rfl) rfl (fun _ _ _ _ _ h => h)
    (fun _ _ hl w1 A hx hb hlen => by
      have h1 : s.1.take (1 : Int).toNat = [s.1.headD 0] := by
        rw [one_of (l := s.1.take (1 : Int).toNat) hlen]
        cases s.1 <;> rfl
      rw [h1] at hb
      exact (cByte_any w1 A _ hb).mono (fun en w' hh => ⟨_, hh.1, hh.2, rfl⟩))
  refine calls_of_CW Try.func33 rfl (by simp [Try.ntmps33]) ?_
  rw [Try.ntmps33]
  refine go_WireR2 (k := ?_)
  refine OW_callC Try.func74 (by kernel_rfl) rfl (T.mono (fun en w' hh => take_sum (v0 := bv (if fits s 1 then s.1.headD 0 else 0)) (by rw [Bool.and_true]; cases fits s 1 <;> rfl) hh)) rfl ?_
  rintro en w3 ⟨rfl, hr, hk⟩
  refine ⟨_, rfl, ?_⟩
  refine go_WireR2 (k := ?_)
  exact bodyE_ret1 rfl _ rfl ⟨rfl, hr, hk⟩

theorem wrap_i64_of (n : Int) (h : -9223372036854775808 ≤ n ∧ n ≤ 9223372036854775807) : IntKind.i64.wrap n = n := by
  simp [IntKind.wrap, IntKind.signed, IntKind.bits]; omega
/-- The number of eight bytes, as an int. -/
def i64L (l : List UInt8) : Int := IntKind.i64.wrap (loadL l : Int)
theorem ldV_all (l : List UInt8) (n : Nat) (h : l.length = n) : ldV l 0 n = loadL l := by
  unfold ldV ldL
  rw [if_pos ⟨Int.le_refl 0, by rw [h]; simp⟩]
  simp [← h]
set_option maxHeartbeats 8000000 in
theorem cInt_any (w : World) (A : Option Addr) (l : List UInt8) (hb : Bs w A l) (hl : l.length = 8) : Calls Try.prog 77 #[.slice A 8 8] w (RetV w (.tuple #[.int .i64 (i64L l), .bool true])) := by
  have T := load64_any w A l 8 0 hb (by omega) (by omega) (by omega)
  rw [ldV_all l 8 hl, hl] at T
  refine calls_of_CW Try.func77 rfl (by simp [Try.ntmps77]) ?_
  rw [Try.ntmps77]
  refine go_WireR2 (k := ?_)
  refine OW_callV Try.func78 (by kernel_rfl) rfl T rfl ?_
  intro w1 hx
  refine go_WireR2 (k := ?_)
  exact bodyE_ret2 rfl (.int .i64 (i64L l)) (.bool true) rfl rfl ⟨rfl, hx⟩
set_option maxHeartbeats 8000000 in
theorem rInt_any (w : World) (g : Nat) (S : Nat → Prop) (s : List UInt8 × Int) (h : RR w g S s) : Calls Try.prog 34 #[.pointer (some ⟨g, 0, none⟩)] w (RPost w g S (.int .i64 (if fits s 8 then i64L (s.1.take 8) else 0)) (stepS s 8 true)) := by
  have T := take_int w g S s h 8 (by omega) _ _ [] (fun _ v => v = .int .i64 (i64L (s.1.take 8))) true Try.func77 (by kernel_rfl) rfl (fun _ _ _ _ _ h => h)
    (fun _ _ hl w1 A hx hb hlen => (cInt_any w1 A _ hb hlen).mono (fun en w' hh => ⟨_, hh.1, hh.2, rfl⟩))
  refine calls_of_CW Try.func34 rfl (by simp [Try.ntmps34]) ?_
  rw [Try.ntmps34]
  refine go_WireR2 (k := ?_)
  refine OW_callC Try.func76 (by kernel_rfl) rfl (T.mono (fun en w' hh => take_sum (v0 := .int .i64 (if fits s 8 then i64L (s.1.take 8) else 0)) (by rw [Bool.and_true]; cases fits s 8 <;> rfl) hh)) rfl ?_
  rintro en w3 ⟨rfl, hr, hk⟩
  refine ⟨_, rfl, ?_⟩
  refine go_WireR2 (k := ?_)
  exact bodyE_ret1 rfl _ rfl ⟨rfl, hr, hk⟩
end Go.Proofs.Ytdpomchhbbopbaa
