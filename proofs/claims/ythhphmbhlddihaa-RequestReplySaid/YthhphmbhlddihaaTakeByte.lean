/- Walks: take, of a byte. -/
import Derived.Test.YthhphmbhlddihaaWireR
namespace Go.Proofs.Ythhphmbhlddihaa
open Go Go.RowKit
set_option linter.unusedVariables false
set_option maxRecDepth 2000
theorem go_TakeByte {A B : Prop} (h : Held B → A := by
  intro hEnd
  repeat (first | refine OW_moveV (.int _ _) rfl ?_ | refine OW_moveV (.slice _ _ _) rfl ?_ | refine OW_moveV (.bool _) rfl ?_ | refine OW_moveV (.pointer _) rfl ?_ | refine OW_moveV (.string _) rfl ?_ | refine OW_moveV (.agg _) rfl ?_ | refine OW_moveV (.tuple _) rfl ?_ | refine OW_nil ?_ | refine thenE_normal ?_ | refine CW_seq ?_ | refine CW_region (by kernel_rfl) ?_ | refine OW_assignV (.int _ _) rfl ?_ | refine OW_assignV (.slice _ _ _) rfl ?_ | refine OW_assignV (.bool _) rfl ?_ | refine OW_assignV (.pointer _) rfl ?_ | refine OW_assignV (.string _) rfl ?_ | refine OW_assignV (.agg _) rfl ?_ | refine OW_assignV (.tuple _) rfl ?_ | refine OW_addI rfl rfl (by omega) ?_ | refine OW_subI rfl rfl (by omega) ?_ | refine OW_mulI rfl rfl (by omega) ?_ | refine OW_lss rfl rfl ?_ | refine OW_extract rfl rfl ?_ | refine OW_gtr rfl rfl ?_ | refine OW_leq rfl rfl ?_ | refine OW_geq rfl rfl ?_ | refine OW_eql rfl rfl ?_ | refine OW_neq rfl rfl ?_ | refine OW_not rfl ?_ | refine OW_pickT rfl _ rfl ?_ | refine OW_pickF rfl (.bool _) rfl ?_ | refine OW_pickB rfl rfl rfl ?_ | refine OW_move ?_ | refine OW_assign ?_ | refine OW_pass rfl ?_ | refine OW_take rfl ?_ | refine OW_lenS (by first | with_reducible exact und_bytes | with_reducible exact und_bytess) rfl ?_ | refine OW_convInt (by first | with_reducible exact und_u8 | with_reducible exact und_u64 | with_reducible exact und_int | with_reducible exact und_u32) (by first | with_reducible exact und_u8 | with_reducible exact und_u64 | with_reducible exact und_int | with_reducible exact und_u32) rfl ?_ | refine OW_add rfl rfl ?_ | refine OW_sub rfl rfl ?_ | refine OW_mul rfl rfl ?_ | refine OW_min2 rfl rfl ?_ | refine OW_max2 rfl rfl ?_ | refine OW_neg rfl ?_ | refine CW_block ?_ | refine CW_condT rfl ?_ | refine CW_condF rfl ?_ | refine CW_exit ?_ | refine CW_ret ?_ | refine CW_skip ?_ | refine LW_seq ?_ | refine LW_regC ?_ | refine LW_condC ?_ | refine LW_regF ?_ | refine LW_condF ?_ | refine FW_seq ?_ | refine FW_region (by kernel_rfl) ?_ | refine FW_block ?_ | refine FW_condT rfl ?_ | refine FW_condF rfl ?_ | refine FW_exit ?_ | refine FW_ret ?_ | refine FW_skip ?_ | refine LW_ret ?_ | refine LW_skip ?_ | refine thenE_exit ?_ | refine thenE_ret ?_ | refine inBlockE_normal ?_ | refine inBlockE_same ?_ | refine inBlockE_ret ?_ | refine inBlockE_ne (by rfl) ?_ | refine OW_eqlB (by with_reducible exact und_bool) rfl rfl ?_ | refine OW_neqB (by with_reducible exact und_bool) rfl rfl ?_ | refine OW_idxS (by with_reducible exact und_bytes) one_u8 rfl rfl _ rfl (by omega) ?_ | refine OW_idxS (by with_reducible exact und_bytess) one_bytes rfl rfl _ rfl (by omega) ?_ | refine OW_load1 (by first | with_reducible exact one_u8 | with_reducible exact one_bytes) rfl _ (by assumption) ?_ | refine OW_nilCheck rfl ?_ | refine OW_fieldF fld_R0 rfl ?_ | refine OW_fieldF fld_R1 rfl ?_ | refine OW_fieldF fld_R2 rfl ?_ | refine OW_load1 (by first | with_reducible exact one_bool | with_reducible exact one_errno) rfl _ (by assumption) ?_)
  exact hEnd.out) (k : B) : A := h ⟨k⟩
/-- take: what is read of the next n bytes by a function (f, with caps), and what is left. -/
theorem take_byte (w : World) (g : Nat) (S : Nat → Prop) (s : List UInt8 × Int) (h : RR w g S s) (n : Int) (hn : -9223372036854775808 ≤ n ∧ n ≤ 9223372036854775807) (f : FuncId) (fn : Func) (caps : List Value) (Rv : World → Value → Prop) (ok : Bool)
    (hf : Try.prog.funcs[f]? = some fn) (hnm : (fn.name == "runtime.NumGoroutine") = false) (hbd : fn.body.isNone = false)
    (hst : ∀ w1 w2 v, Keeps w1 w2 (· = g) → w.heap.size ≤ w1.heap.size → Rv w1 v → Rv w2 v)
    (hc : s.2 = 0 → 0 ≤ n → n ≤ s.1.length → ∀ w1 A, Ext w w1 → Bs w1 A (s.1.take n.toNat) → (s.1.take n.toNat).length = n.toNat → Calls Try.prog f ([Value.slice A n.toNat n.toNat] ++ caps).toArray w1 (fun en w' => ∃ v, en = .returned (.tuple #[v, .bool ok]) ∧ Ext w1 w' ∧ Rv w' v)) :
    Calls Try.prog 59 #[.pointer (some ⟨g, 0, none⟩), .int .i64 n, .func (.func f) #[] caps.toArray] w (fun en w' => ∃ v, en = .returned v ∧ Keeps w w' (· = g) ∧
      ((s.2 ≠ 0 ∧ v = .int .u8 0 ∧ RR w' g S s) ∨ (s.2 = 0 ∧ (n < 0 ∨ s.1.length < n) ∧ v = .int .u8 0 ∧ RR w' g S ([], 40)) ∨
       (s.2 = 0 ∧ 0 ≤ n ∧ n ≤ s.1.length ∧ ok = false ∧ v = .int .u8 0 ∧ RR w' g S ([], 40)) ∨ (s.2 = 0 ∧ 0 ≤ n ∧ n ≤ s.1.length ∧ ok = true ∧ Rv w' v ∧ RR w' g S (s.1.drop n.toNat, 0)))) := by
  have hll := h.len
  refine calls_of_CW Try.func59 rfl (by simp [Try.ntmps59]) ?_
  rw [Try.ntmps59]
  refine go_TakeByte (k := ?_)
  refine OW_callV Try.func73 (by kernel_rfl) rfl (fine_any w g S s h) rfl ?_
  intro w1 hx
  have h1 := h.ext hx
  obtain ⟨A, c, hB, hb, hcc, hS⟩ := h1.at_
  have m1 : w1.cell? ⟨g, 1, none⟩ = some (.slice A s.1.length c) := hB.cell 1
  by_cases hs : s.2 = 0
  rotate_left 1
  · rw [decide_eq_false hs]
    refine go_TakeByte (k := ?_)
    exact bodyE_ret1 rfl (.int .u8 0) rfl ⟨_, rfl, Keeps.of_ext hx _, .inl ⟨hs, rfl, h1⟩⟩
  rw [decide_eq_true hs]
  by_cases hneg : n < 0
  · refine go_TakeByte (k := ?_)
    rw [decide_eq_true hneg]
    refine go_TakeByte (k := ?_)
    refine OW_callC Try.func93 (by kernel_rfl) rfl (rBad_any w1 g S s h1) rfl ?_
    rintro en w3 ⟨rfl, hr, hk⟩
    refine ⟨_, rfl, ?_⟩
    refine go_TakeByte (k := ?_)
    exact bodyE_ret1 rfl (.int .u8 0) rfl ⟨_, rfl, (Keeps.of_ext hx _).trans' hk, .inr (.inl ⟨hs, .inl hneg, rfl, hr⟩)⟩
  by_cases hgt : (s.1.length : Int) < n
  · refine go_TakeByte (k := ?_)
    rw [decide_eq_false hneg]
    refine go_TakeByte (k := ?_)
    rw [decide_eq_true hgt]
    refine go_TakeByte (k := ?_)
    refine OW_callC Try.func93 (by kernel_rfl) rfl (rBad_any w1 g S s h1) rfl ?_
    rintro en w3 ⟨rfl, hr, hk⟩
    refine ⟨_, rfl, ?_⟩
    refine go_TakeByte (k := ?_)
    exact bodyE_ret1 rfl (.int .u8 0) rfl ⟨_, rfl, (Keeps.of_ext hx _).trans' hk, .inr (.inl ⟨hs, .inr hgt, rfl, hr⟩)⟩
  refine go_TakeByte (k := ?_)
  rw [decide_eq_false hneg]
  refine go_TakeByte (k := ?_)
  rw [decide_eq_false hgt]
  refine go_TakeByte (k := ?_)
  have hnN : (n.toNat : Int) = n := Int.toNat_of_nonneg (by omega)
  refine OW_slice (lv := 0) (hv := n) (mv := n) (by with_reducible exact und_bytes) one_u8 rfl rfl ⟨_, rfl⟩ ⟨_, rfl⟩ (fun _ => rfl) (by omega) ?_
  rw [show (0 : Int).toNat = 0 from rfl, Nat.sub_zero]
  have hbt := hb.cut n.toNat 0 n.toNat (by omega)
  rw [List.drop_zero] at hbt
  have hlt : (s.1.take n.toNat).length = n.toNat := by rw [List.length_take]; omega
  refine go_TakeByte (k := ?_)
  refine OW_callF hf hnm hbd rfl (hc hs (by omega) (by omega) w1 _ hx hbt hlt) rfl ?_
  rintro en w2 ⟨v, rfl, hx2, hv⟩
  refine ⟨_, rfl, ?_⟩
  have hB2 := hB.ext hx2
  have m1' : w2.cell? ⟨g, 1, none⟩ = some (.slice A s.1.length c) := hB2.cell 1
  have h2 := h1.ext hx2
  cases ok
  · refine go_TakeByte (k := ?_)
    refine OW_callC Try.func93 (by kernel_rfl) rfl (rBad_any w2 g S s h2) rfl ?_
    rintro en w3 ⟨rfl, hr, hk⟩
    refine ⟨_, rfl, ?_⟩
    refine go_TakeByte (k := ?_)
    exact bodyE_ret1 rfl (.int .u8 0) rfl ⟨_, rfl, (Keeps.of_ext (hx.trans' hx2) _).trans' hk, .inr (.inr (.inl ⟨hs, by omega, by omega, rfl, rfl, hr⟩))⟩
  · refine go_TakeByte (k := ?_)
    refine OW_slice (lv := n) (hv := s.1.length) (mv := c) (by with_reducible exact und_bytes) one_u8 rfl ⟨_, rfl⟩ rfl rfl (fun h => by cases h) (by omega) ?_
    rw [Int.toNat_natCast, Int.toNat_natCast]
    refine go_TakeByte (k := ?_)
    refine OW_storeB one_bytes rfl _ rfl rfl hB2 (by simp) ?_
    intro w3 hB3 hg3
    have hlen : (s.1.drop n.toNat).length = s.1.length - n.toNat := by simp
    have hB3 : Blk w3 g 36 #[.bool true, .slice (cutA A c n.toNat) (s.1.length - n.toNat) (c - n.toNat), .int .i64 s.2] := hB3
    have hk := Keeps.of_only (S := (· = g)) hg3 rfl
    refine go_TakeByte (k := ?_)
    refine bodyE_ret1 rfl v rfl ⟨_, rfl, (Keeps.of_ext (hx.trans' hx2) _).trans' hk, .inr (.inr (.inr ⟨hs, by omega, by omega, rfl, hst w2 w3 v hk (hx.trans' hx2).size hv, ?_⟩))⟩
    rw [← hlen, hs] at hB3
    have hbd := (hb.ext hx2).cut c n.toNat (s.1.length - n.toNat) (by omega)
    rw [List.take_of_length_le (by rw [hlen]; exact Nat.le_refl _)] at hbd
    refine ⟨h.in_, ⟨cutA A c n.toNat, c - n.toNat, hB3, hbd.keeps hk (fun ad ha => ?_), by rw [hlen]; omega, fun ad ha => ?_⟩, by rw [hlen]; omega, fun h => absurd rfl h, fun k hk2 => Nat.lt_of_lt_of_le (h2.bd k hk2) hk.size⟩
    · obtain ⟨ad0, ha0, hbk⟩ := cutA_block ha
      rw [hbk]; exact (hS ad0 ha0).2
    · obtain ⟨ad0, ha0, hbk⟩ := cutA_block ha
      rw [hbk]; exact hS ad0 ha0
end Go.Proofs.Ythhphmbhlddihaa
