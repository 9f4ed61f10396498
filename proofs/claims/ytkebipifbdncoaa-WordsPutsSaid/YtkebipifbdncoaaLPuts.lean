/- WordsPuts: any number's bytes are what the chapter says, and the caller's own. No condition. -/
import Derived.Test.YtkebipifbdncoaaWords5
import Derived.Test.YtkebipifbdncoaaInc
import Derived.Test.YtkebipifbdncoaaRefPut
import Derived.Test.YtkebipifbdncoaaFrame
namespace Go.Proofs.Ytkebipifbdncoaa.lawWordsPuts
open Go.ChangeShapes Go.WideShapes Go.ChangeAt Go.RowKit
set_option linter.unusedVariables false
theorem walk (w : World) (x : Nat) (hx : x < 4294967296) (y : Nat) (hy : y < 18446744073709551616) :
    Calls Try.prog 4 #[.int .u32 x, .int .u64 y] w (RetV w (.bool true)) := by
  refine calls_of_CW Try.func4 rfl (by simp [Try.ntmps4]) ?_
  rw [Try.ntmps4]
  repeat (first
      | refine OW_moveV (.int _ _) rfl ?_
      | refine OW_moveV (.slice _ _ _) rfl ?_
      | refine OW_moveV (.bool _) rfl ?_
      | refine OW_moveV (.pointer _) rfl ?_
      | refine OW_moveV (.string _) rfl ?_
      | refine OW_moveV (.agg _) rfl ?_
      | refine OW_moveV (.tuple _) rfl ?_
      | refine OW_nil ?_
      | refine thenE_normal ?_
      | refine CW_seq ?_
      | refine CW_region (by kernel_rfl) ?_
      | refine OW_assignV (.int _ _) rfl ?_
      | refine OW_assignV (.slice _ _ _) rfl ?_
      | refine OW_assignV (.bool _) rfl ?_
      | refine OW_assignV (.pointer _) rfl ?_
      | refine OW_assignV (.string _) rfl ?_
      | refine OW_assignV (.agg _) rfl ?_
      | refine OW_assignV (.tuple _) rfl ?_
      | refine OW_addI rfl rfl (by omega) ?_
      | refine OW_subI rfl rfl (by omega) ?_
      | refine OW_mulI rfl rfl (by omega) ?_
      | refine OW_lss rfl rfl ?_
      | refine OW_extract rfl rfl ?_
      | refine OW_gtr rfl rfl ?_
      | refine OW_leq rfl rfl ?_
      | refine OW_geq rfl rfl ?_
      | refine OW_eql rfl rfl ?_
      | refine OW_neq rfl rfl ?_
      | refine OW_not rfl ?_
      | refine OW_pickT rfl _ rfl ?_
      | refine OW_pickF rfl (.bool _) rfl ?_
      | refine OW_pickB rfl rfl rfl ?_
      | refine OW_move ?_
      | refine OW_assign ?_
      | refine OW_pass rfl ?_
      | refine OW_take rfl ?_
      | refine OW_lenS (by first | with_reducible exact und_bytes | with_reducible exact und_bytess) rfl ?_
      | refine OW_convInt (by first | with_reducible exact und_u8 | with_reducible exact und_u64 | with_reducible exact und_int | with_reducible exact und_u32) (by first | with_reducible exact und_u8 | with_reducible exact und_u64 | with_reducible exact und_int | with_reducible exact und_u32) rfl ?_
      | refine OW_add rfl rfl ?_
      | refine OW_sub rfl rfl ?_
      | refine OW_mul rfl rfl ?_
      | refine OW_min2 rfl rfl ?_
      | refine OW_max2 rfl rfl ?_
      | refine OW_neg rfl ?_
      | refine CW_block ?_
      | refine CW_condT rfl ?_
      | refine CW_condF rfl ?_
      | refine CW_exit ?_
      | refine CW_ret ?_
      | refine CW_skip ?_
      | refine thenE_exit ?_
      | refine thenE_ret ?_
      | refine inBlockE_normal ?_
      | refine inBlockE_same ?_
      | refine inBlockE_ret ?_
      | refine inBlockE_ne (by rfl) ?_
      | refine OW_eqlB (by with_reducible exact und_bool) rfl rfl ?_
      | refine OW_neqB (by with_reducible exact und_bool) rfl rfl ?_
      | refine OW_idxS (by with_reducible exact und_bytes) one_u8 rfl rfl _ rfl (by omega) ?_
      | refine OW_idxS (by with_reducible exact und_bytess) one_bytes rfl rfl _ rfl (by omega) ?_
      | refine OW_load1 (by first | with_reducible exact one_u8 | with_reducible exact one_bytes) rfl _ (by assumption) ?_)
  refine CW_loop (fun e' w' => ∃ k : Nat, k ≤ 2 ∧ e' 0 = .int .u32 x ∧ e' 1 = .int .u64 y ∧ e' 5 = .int .i64 k ∧ Ext w w') (fun e' _ => 2 - (intOf (e' 5)).toNat) ?_ ?_
  · exact ⟨0, Nat.zero_le _, rfl, rfl, rfl, Ext.rfl' w⟩
  · rintro e0 w0 ⟨t, ht, q0, q1, q5, hw0⟩
    rw [upd_self q0, upd_self q1, upd_self q5]
    repeat (first
        | refine OW_moveV (.int _ _) rfl ?_
        | refine OW_moveV (.slice _ _ _) rfl ?_
        | refine OW_moveV (.bool _) rfl ?_
        | refine OW_moveV (.pointer _) rfl ?_
        | refine OW_moveV (.string _) rfl ?_
        | refine OW_moveV (.agg _) rfl ?_
        | refine OW_moveV (.tuple _) rfl ?_
        | refine OW_nil ?_
        | refine thenE_normal ?_
        | refine CW_seq ?_
        | refine CW_region (by kernel_rfl) ?_
        | refine OW_assignV (.int _ _) rfl ?_
        | refine OW_assignV (.slice _ _ _) rfl ?_
        | refine OW_assignV (.bool _) rfl ?_
        | refine OW_assignV (.pointer _) rfl ?_
        | refine OW_assignV (.string _) rfl ?_
        | refine OW_assignV (.agg _) rfl ?_
        | refine OW_assignV (.tuple _) rfl ?_
        | refine OW_addI rfl rfl (by omega) ?_
        | refine OW_subI rfl rfl (by omega) ?_
        | refine OW_mulI rfl rfl (by omega) ?_
        | refine OW_lss rfl rfl ?_
        | refine OW_extract rfl rfl ?_
        | refine OW_gtr rfl rfl ?_
        | refine OW_leq rfl rfl ?_
        | refine OW_geq rfl rfl ?_
        | refine OW_eql rfl rfl ?_
        | refine OW_neq rfl rfl ?_
        | refine OW_not rfl ?_
        | refine OW_pickT rfl _ rfl ?_
        | refine OW_pickF rfl (.bool _) rfl ?_
        | refine OW_pickB rfl rfl rfl ?_
        | refine OW_move ?_
        | refine OW_assign ?_
        | refine OW_pass rfl ?_
        | refine OW_take rfl ?_
        | refine OW_lenS (by first | with_reducible exact und_bytes | with_reducible exact und_bytess) rfl ?_
        | refine OW_convInt (by first | with_reducible exact und_u8 | with_reducible exact und_u64 | with_reducible exact und_int | with_reducible exact und_u32) (by first | with_reducible exact und_u8 | with_reducible exact und_u64 | with_reducible exact und_int | with_reducible exact und_u32) rfl ?_
        | refine OW_add rfl rfl ?_
        | refine OW_sub rfl rfl ?_
        | refine OW_mul rfl rfl ?_
        | refine OW_min2 rfl rfl ?_
        | refine OW_max2 rfl rfl ?_
        | refine OW_neg rfl ?_
        | refine CW_block ?_
        | refine CW_condT rfl ?_
        | refine CW_condF rfl ?_
        | refine CW_exit ?_
        | refine CW_ret ?_
        | refine CW_skip ?_
        | refine thenE_exit ?_
        | refine thenE_ret ?_
        | refine inBlockE_normal ?_
        | refine inBlockE_same ?_
        | refine inBlockE_ret ?_
        | refine inBlockE_ne (by rfl) ?_
        | refine OW_eqlB (by with_reducible exact und_bool) rfl rfl ?_
        | refine OW_neqB (by with_reducible exact und_bool) rfl rfl ?_
        | refine OW_idxS (by with_reducible exact und_bytes) one_u8 rfl rfl _ rfl (by omega) ?_
        | refine OW_idxS (by with_reducible exact und_bytess) one_bytes rfl rfl _ rfl (by omega) ?_
        | refine OW_load1 (by first | with_reducible exact one_u8 | with_reducible exact one_bytes) rfl _ (by assumption) ?_)
    refine CW_cond _ rfl (fun h => ?_) (fun h => ?_)
    · have hlt : t < 2 := by simp at h; omega
      repeat (first
          | refine OW_moveV (.int _ _) rfl ?_
          | refine OW_moveV (.slice _ _ _) rfl ?_
          | refine OW_moveV (.bool _) rfl ?_
          | refine OW_moveV (.pointer _) rfl ?_
          | refine OW_moveV (.string _) rfl ?_
          | refine OW_moveV (.agg _) rfl ?_
          | refine OW_moveV (.tuple _) rfl ?_
          | refine OW_nil ?_
          | refine thenE_normal ?_
          | refine CW_seq ?_
          | refine CW_region (by kernel_rfl) ?_
          | refine OW_assignV (.int _ _) rfl ?_
          | refine OW_assignV (.slice _ _ _) rfl ?_
          | refine OW_assignV (.bool _) rfl ?_
          | refine OW_assignV (.pointer _) rfl ?_
          | refine OW_assignV (.string _) rfl ?_
          | refine OW_assignV (.agg _) rfl ?_
          | refine OW_assignV (.tuple _) rfl ?_
          | refine OW_addI rfl rfl (by omega) ?_
          | refine OW_subI rfl rfl (by omega) ?_
          | refine OW_mulI rfl rfl (by omega) ?_
          | refine OW_lss rfl rfl ?_
          | refine OW_extract rfl rfl ?_
          | refine OW_gtr rfl rfl ?_
          | refine OW_leq rfl rfl ?_
          | refine OW_geq rfl rfl ?_
          | refine OW_eql rfl rfl ?_
          | refine OW_neq rfl rfl ?_
          | refine OW_not rfl ?_
          | refine OW_pickT rfl _ rfl ?_
          | refine OW_pickF rfl (.bool _) rfl ?_
          | refine OW_pickB rfl rfl rfl ?_
          | refine OW_move ?_
          | refine OW_assign ?_
          | refine OW_pass rfl ?_
          | refine OW_take rfl ?_
          | refine OW_lenS (by first | with_reducible exact und_bytes | with_reducible exact und_bytess) rfl ?_
          | refine OW_convInt (by first | with_reducible exact und_u8 | with_reducible exact und_u64 | with_reducible exact und_int | with_reducible exact und_u32) (by first | with_reducible exact und_u8 | with_reducible exact und_u64 | with_reducible exact und_int | with_reducible exact und_u32) rfl ?_
          | refine OW_add rfl rfl ?_
          | refine OW_sub rfl rfl ?_
          | refine OW_mul rfl rfl ?_
          | refine OW_min2 rfl rfl ?_
          | refine OW_max2 rfl rfl ?_
          | refine OW_neg rfl ?_
          | refine CW_block ?_
          | refine CW_condT rfl ?_
          | refine CW_condF rfl ?_
          | refine CW_exit ?_
          | refine CW_ret ?_
          | refine CW_skip ?_
          | refine thenE_exit ?_
          | refine thenE_ret ?_
          | refine inBlockE_normal ?_
          | refine inBlockE_same ?_
          | refine inBlockE_ret ?_
          | refine inBlockE_ne (by rfl) ?_
          | refine OW_eqlB (by with_reducible exact und_bool) rfl rfl ?_
          | refine OW_neqB (by with_reducible exact und_bool) rfl rfl ?_
          | refine OW_idxS (by with_reducible exact und_bytes) one_u8 rfl rfl _ rfl (by omega) ?_
          | refine OW_idxS (by with_reducible exact und_bytess) one_bytes rfl rfl _ rfl (by omega) ?_
          | refine OW_load1 (by first | with_reducible exact one_u8 | with_reducible exact one_bytes) rfl _ (by assumption) ?_)
      refine OW_callBs Try.func15 (by kernel_rfl) rfl (put32_any _ x hx) rfl ?_
      intro w1 A1 c1 h1
      repeat (first
          | refine OW_moveV (.int _ _) rfl ?_
          | refine OW_moveV (.slice _ _ _) rfl ?_
          | refine OW_moveV (.bool _) rfl ?_
          | refine OW_moveV (.pointer _) rfl ?_
          | refine OW_moveV (.string _) rfl ?_
          | refine OW_moveV (.agg _) rfl ?_
          | refine OW_moveV (.tuple _) rfl ?_
          | refine OW_nil ?_
          | refine thenE_normal ?_
          | refine CW_seq ?_
          | refine CW_region (by kernel_rfl) ?_
          | refine OW_assignV (.int _ _) rfl ?_
          | refine OW_assignV (.slice _ _ _) rfl ?_
          | refine OW_assignV (.bool _) rfl ?_
          | refine OW_assignV (.pointer _) rfl ?_
          | refine OW_assignV (.string _) rfl ?_
          | refine OW_assignV (.agg _) rfl ?_
          | refine OW_assignV (.tuple _) rfl ?_
          | refine OW_addI rfl rfl (by omega) ?_
          | refine OW_subI rfl rfl (by omega) ?_
          | refine OW_mulI rfl rfl (by omega) ?_
          | refine OW_lss rfl rfl ?_
          | refine OW_extract rfl rfl ?_
          | refine OW_gtr rfl rfl ?_
          | refine OW_leq rfl rfl ?_
          | refine OW_geq rfl rfl ?_
          | refine OW_eql rfl rfl ?_
          | refine OW_neq rfl rfl ?_
          | refine OW_not rfl ?_
          | refine OW_pickT rfl _ rfl ?_
          | refine OW_pickF rfl (.bool _) rfl ?_
          | refine OW_pickB rfl rfl rfl ?_
          | refine OW_move ?_
          | refine OW_assign ?_
          | refine OW_pass rfl ?_
          | refine OW_take rfl ?_
          | refine OW_lenS (by first | with_reducible exact und_bytes | with_reducible exact und_bytess) rfl ?_
          | refine OW_convInt (by first | with_reducible exact und_u8 | with_reducible exact und_u64 | with_reducible exact und_int | with_reducible exact und_u32) (by first | with_reducible exact und_u8 | with_reducible exact und_u64 | with_reducible exact und_int | with_reducible exact und_u32) rfl ?_
          | refine OW_add rfl rfl ?_
          | refine OW_sub rfl rfl ?_
          | refine OW_mul rfl rfl ?_
          | refine OW_min2 rfl rfl ?_
          | refine OW_max2 rfl rfl ?_
          | refine OW_neg rfl ?_
          | refine CW_block ?_
          | refine CW_condT rfl ?_
          | refine CW_condF rfl ?_
          | refine CW_exit ?_
          | refine CW_ret ?_
          | refine CW_skip ?_
          | refine thenE_exit ?_
          | refine thenE_ret ?_
          | refine inBlockE_normal ?_
          | refine inBlockE_same ?_
          | refine inBlockE_ret ?_
          | refine inBlockE_ne (by rfl) ?_
          | refine OW_eqlB (by with_reducible exact und_bool) rfl rfl ?_
          | refine OW_neqB (by with_reducible exact und_bool) rfl rfl ?_
          | refine OW_idxS (by with_reducible exact und_bytes) one_u8 rfl rfl _ rfl (by omega) ?_
          | refine OW_idxS (by with_reducible exact und_bytess) one_bytes rfl rfl _ rfl (by omega) ?_
          | refine OW_load1 (by first | with_reducible exact one_u8 | with_reducible exact one_bytes) rfl _ (by assumption) ?_)
      refine OW_callBs Try.func16 (by kernel_rfl) rfl (put64_any _ y hy) rfl ?_
      intro w2 A2 c2 h2
      repeat (first
          | refine OW_moveV (.int _ _) rfl ?_
          | refine OW_moveV (.slice _ _ _) rfl ?_
          | refine OW_moveV (.bool _) rfl ?_
          | refine OW_moveV (.pointer _) rfl ?_
          | refine OW_moveV (.string _) rfl ?_
          | refine OW_moveV (.agg _) rfl ?_
          | refine OW_moveV (.tuple _) rfl ?_
          | refine OW_nil ?_
          | refine thenE_normal ?_
          | refine CW_seq ?_
          | refine CW_region (by kernel_rfl) ?_
          | refine OW_assignV (.int _ _) rfl ?_
          | refine OW_assignV (.slice _ _ _) rfl ?_
          | refine OW_assignV (.bool _) rfl ?_
          | refine OW_assignV (.pointer _) rfl ?_
          | refine OW_assignV (.string _) rfl ?_
          | refine OW_assignV (.agg _) rfl ?_
          | refine OW_assignV (.tuple _) rfl ?_
          | refine OW_addI rfl rfl (by omega) ?_
          | refine OW_subI rfl rfl (by omega) ?_
          | refine OW_mulI rfl rfl (by omega) ?_
          | refine OW_lss rfl rfl ?_
          | refine OW_extract rfl rfl ?_
          | refine OW_gtr rfl rfl ?_
          | refine OW_leq rfl rfl ?_
          | refine OW_geq rfl rfl ?_
          | refine OW_eql rfl rfl ?_
          | refine OW_neq rfl rfl ?_
          | refine OW_not rfl ?_
          | refine OW_pickT rfl _ rfl ?_
          | refine OW_pickF rfl (.bool _) rfl ?_
          | refine OW_pickB rfl rfl rfl ?_
          | refine OW_move ?_
          | refine OW_assign ?_
          | refine OW_pass rfl ?_
          | refine OW_take rfl ?_
          | refine OW_lenS (by first | with_reducible exact und_bytes | with_reducible exact und_bytess) rfl ?_
          | refine OW_convInt (by first | with_reducible exact und_u8 | with_reducible exact und_u64 | with_reducible exact und_int | with_reducible exact und_u32) (by first | with_reducible exact und_u8 | with_reducible exact und_u64 | with_reducible exact und_int | with_reducible exact und_u32) rfl ?_
          | refine OW_add rfl rfl ?_
          | refine OW_sub rfl rfl ?_
          | refine OW_mul rfl rfl ?_
          | refine OW_min2 rfl rfl ?_
          | refine OW_max2 rfl rfl ?_
          | refine OW_neg rfl ?_
          | refine CW_block ?_
          | refine CW_condT rfl ?_
          | refine CW_condF rfl ?_
          | refine CW_exit ?_
          | refine CW_ret ?_
          | refine CW_skip ?_
          | refine thenE_exit ?_
          | refine thenE_ret ?_
          | refine inBlockE_normal ?_
          | refine inBlockE_same ?_
          | refine inBlockE_ret ?_
          | refine inBlockE_ne (by rfl) ?_
          | refine OW_eqlB (by with_reducible exact und_bool) rfl rfl ?_
          | refine OW_neqB (by with_reducible exact und_bool) rfl rfl ?_
          | refine OW_idxS (by with_reducible exact und_bytes) one_u8 rfl rfl _ rfl (by omega) ?_
          | refine OW_idxS (by with_reducible exact und_bytess) one_bytes rfl rfl _ rfl (by omega) ?_
          | refine OW_load1 (by first | with_reducible exact one_u8 | with_reducible exact one_bytes) rfl _ (by assumption) ?_)
      rw [wrap_u64_lt _ (by omega)]
      refine OW_callBs Try.func18 (by kernel_rfl) rfl (refPut_any _ x 4 4 rfl (by decide) (by omega)) rfl ?_
      intro w3 A3 c3 h3
      refine OW_callV Try.func17 (by kernel_rfl) rfl (refSame_any _ A1 A3 (putL x 4) (putL x 4) c1 c3 (h1.bs.ext (h2.ext.trans' h3.ext)) h3.bs (by rw [putL_length]; omega)) rfl ?_
      intro w4 hw4
      rw [beq_self_eq_true]
      repeat (first
          | refine OW_moveV (.int _ _) rfl ?_
          | refine OW_moveV (.slice _ _ _) rfl ?_
          | refine OW_moveV (.bool _) rfl ?_
          | refine OW_moveV (.pointer _) rfl ?_
          | refine OW_moveV (.string _) rfl ?_
          | refine OW_moveV (.agg _) rfl ?_
          | refine OW_moveV (.tuple _) rfl ?_
          | refine OW_nil ?_
          | refine thenE_normal ?_
          | refine CW_seq ?_
          | refine CW_region (by kernel_rfl) ?_
          | refine OW_assignV (.int _ _) rfl ?_
          | refine OW_assignV (.slice _ _ _) rfl ?_
          | refine OW_assignV (.bool _) rfl ?_
          | refine OW_assignV (.pointer _) rfl ?_
          | refine OW_assignV (.string _) rfl ?_
          | refine OW_assignV (.agg _) rfl ?_
          | refine OW_assignV (.tuple _) rfl ?_
          | refine OW_addI rfl rfl (by omega) ?_
          | refine OW_subI rfl rfl (by omega) ?_
          | refine OW_mulI rfl rfl (by omega) ?_
          | refine OW_lss rfl rfl ?_
          | refine OW_extract rfl rfl ?_
          | refine OW_gtr rfl rfl ?_
          | refine OW_leq rfl rfl ?_
          | refine OW_geq rfl rfl ?_
          | refine OW_eql rfl rfl ?_
          | refine OW_neq rfl rfl ?_
          | refine OW_not rfl ?_
          | refine OW_pickT rfl _ rfl ?_
          | refine OW_pickF rfl (.bool _) rfl ?_
          | refine OW_pickB rfl rfl rfl ?_
          | refine OW_move ?_
          | refine OW_assign ?_
          | refine OW_pass rfl ?_
          | refine OW_take rfl ?_
          | refine OW_lenS (by first | with_reducible exact und_bytes | with_reducible exact und_bytess) rfl ?_
          | refine OW_convInt (by first | with_reducible exact und_u8 | with_reducible exact und_u64 | with_reducible exact und_int | with_reducible exact und_u32) (by first | with_reducible exact und_u8 | with_reducible exact und_u64 | with_reducible exact und_int | with_reducible exact und_u32) rfl ?_
          | refine OW_add rfl rfl ?_
          | refine OW_sub rfl rfl ?_
          | refine OW_mul rfl rfl ?_
          | refine OW_min2 rfl rfl ?_
          | refine OW_max2 rfl rfl ?_
          | refine OW_neg rfl ?_
          | refine CW_block ?_
          | refine CW_condT rfl ?_
          | refine CW_condF rfl ?_
          | refine CW_exit ?_
          | refine CW_ret ?_
          | refine CW_skip ?_
          | refine thenE_exit ?_
          | refine thenE_ret ?_
          | refine inBlockE_normal ?_
          | refine inBlockE_same ?_
          | refine inBlockE_ret ?_
          | refine inBlockE_ne (by rfl) ?_
          | refine OW_eqlB (by with_reducible exact und_bool) rfl rfl ?_
          | refine OW_neqB (by with_reducible exact und_bool) rfl rfl ?_
          | refine OW_idxS (by with_reducible exact und_bytes) one_u8 rfl rfl _ rfl (by omega) ?_
          | refine OW_idxS (by with_reducible exact und_bytess) one_bytes rfl rfl _ rfl (by omega) ?_
          | refine OW_load1 (by first | with_reducible exact one_u8 | with_reducible exact one_bytes) rfl _ (by assumption) ?_)
      refine OW_callBs Try.func18 (by kernel_rfl) rfl (refPut_any _ y 8 8 rfl (by decide) (by omega)) rfl ?_
      intro w5 A5 c5 h5
      repeat (first
          | refine OW_moveV (.int _ _) rfl ?_
          | refine OW_moveV (.slice _ _ _) rfl ?_
          | refine OW_moveV (.bool _) rfl ?_
          | refine OW_moveV (.pointer _) rfl ?_
          | refine OW_moveV (.string _) rfl ?_
          | refine OW_moveV (.agg _) rfl ?_
          | refine OW_moveV (.tuple _) rfl ?_
          | refine OW_nil ?_
          | refine thenE_normal ?_
          | refine CW_seq ?_
          | refine CW_region (by kernel_rfl) ?_
          | refine OW_assignV (.int _ _) rfl ?_
          | refine OW_assignV (.slice _ _ _) rfl ?_
          | refine OW_assignV (.bool _) rfl ?_
          | refine OW_assignV (.pointer _) rfl ?_
          | refine OW_assignV (.string _) rfl ?_
          | refine OW_assignV (.agg _) rfl ?_
          | refine OW_assignV (.tuple _) rfl ?_
          | refine OW_addI rfl rfl (by omega) ?_
          | refine OW_subI rfl rfl (by omega) ?_
          | refine OW_mulI rfl rfl (by omega) ?_
          | refine OW_lss rfl rfl ?_
          | refine OW_extract rfl rfl ?_
          | refine OW_gtr rfl rfl ?_
          | refine OW_leq rfl rfl ?_
          | refine OW_geq rfl rfl ?_
          | refine OW_eql rfl rfl ?_
          | refine OW_neq rfl rfl ?_
          | refine OW_not rfl ?_
          | refine OW_pickT rfl _ rfl ?_
          | refine OW_pickF rfl (.bool _) rfl ?_
          | refine OW_pickB rfl rfl rfl ?_
          | refine OW_move ?_
          | refine OW_assign ?_
          | refine OW_pass rfl ?_
          | refine OW_take rfl ?_
          | refine OW_lenS (by first | with_reducible exact und_bytes | with_reducible exact und_bytess) rfl ?_
          | refine OW_convInt (by first | with_reducible exact und_u8 | with_reducible exact und_u64 | with_reducible exact und_int | with_reducible exact und_u32) (by first | with_reducible exact und_u8 | with_reducible exact und_u64 | with_reducible exact und_int | with_reducible exact und_u32) rfl ?_
          | refine OW_add rfl rfl ?_
          | refine OW_sub rfl rfl ?_
          | refine OW_mul rfl rfl ?_
          | refine OW_min2 rfl rfl ?_
          | refine OW_max2 rfl rfl ?_
          | refine OW_neg rfl ?_
          | refine CW_block ?_
          | refine CW_condT rfl ?_
          | refine CW_condF rfl ?_
          | refine CW_exit ?_
          | refine CW_ret ?_
          | refine CW_skip ?_
          | refine thenE_exit ?_
          | refine thenE_ret ?_
          | refine inBlockE_normal ?_
          | refine inBlockE_same ?_
          | refine inBlockE_ret ?_
          | refine inBlockE_ne (by rfl) ?_
          | refine OW_eqlB (by with_reducible exact und_bool) rfl rfl ?_
          | refine OW_neqB (by with_reducible exact und_bool) rfl rfl ?_
          | refine OW_idxS (by with_reducible exact und_bytes) one_u8 rfl rfl _ rfl (by omega) ?_
          | refine OW_idxS (by with_reducible exact und_bytess) one_bytes rfl rfl _ rfl (by omega) ?_
          | refine OW_load1 (by first | with_reducible exact one_u8 | with_reducible exact one_bytes) rfl _ (by assumption) ?_)
      refine OW_callV Try.func17 (by kernel_rfl) rfl (refSame_any _ A2 A5 (putL y 8) (putL y 8) c2 c5 (h2.bs.ext ((h3.ext.trans' hw4).trans' h5.ext)) h5.bs (by rw [putL_length]; omega)) rfl ?_
      intro w6 hw6
      rw [beq_self_eq_true]
      repeat (first
          | refine OW_moveV (.int _ _) rfl ?_
          | refine OW_moveV (.slice _ _ _) rfl ?_
          | refine OW_moveV (.bool _) rfl ?_
          | refine OW_moveV (.pointer _) rfl ?_
          | refine OW_moveV (.string _) rfl ?_
          | refine OW_moveV (.agg _) rfl ?_
          | refine OW_moveV (.tuple _) rfl ?_
          | refine OW_nil ?_
          | refine thenE_normal ?_
          | refine CW_seq ?_
          | refine CW_region (by kernel_rfl) ?_
          | refine OW_assignV (.int _ _) rfl ?_
          | refine OW_assignV (.slice _ _ _) rfl ?_
          | refine OW_assignV (.bool _) rfl ?_
          | refine OW_assignV (.pointer _) rfl ?_
          | refine OW_assignV (.string _) rfl ?_
          | refine OW_assignV (.agg _) rfl ?_
          | refine OW_assignV (.tuple _) rfl ?_
          | refine OW_addI rfl rfl (by omega) ?_
          | refine OW_subI rfl rfl (by omega) ?_
          | refine OW_mulI rfl rfl (by omega) ?_
          | refine OW_lss rfl rfl ?_
          | refine OW_extract rfl rfl ?_
          | refine OW_gtr rfl rfl ?_
          | refine OW_leq rfl rfl ?_
          | refine OW_geq rfl rfl ?_
          | refine OW_eql rfl rfl ?_
          | refine OW_neq rfl rfl ?_
          | refine OW_not rfl ?_
          | refine OW_pickT rfl _ rfl ?_
          | refine OW_pickF rfl (.bool _) rfl ?_
          | refine OW_pickB rfl rfl rfl ?_
          | refine OW_move ?_
          | refine OW_assign ?_
          | refine OW_pass rfl ?_
          | refine OW_take rfl ?_
          | refine OW_lenS (by first | with_reducible exact und_bytes | with_reducible exact und_bytess) rfl ?_
          | refine OW_convInt (by first | with_reducible exact und_u8 | with_reducible exact und_u64 | with_reducible exact und_int | with_reducible exact und_u32) (by first | with_reducible exact und_u8 | with_reducible exact und_u64 | with_reducible exact und_int | with_reducible exact und_u32) rfl ?_
          | refine OW_add rfl rfl ?_
          | refine OW_sub rfl rfl ?_
          | refine OW_mul rfl rfl ?_
          | refine OW_min2 rfl rfl ?_
          | refine OW_max2 rfl rfl ?_
          | refine OW_neg rfl ?_
          | refine CW_block ?_
          | refine CW_condT rfl ?_
          | refine CW_condF rfl ?_
          | refine CW_exit ?_
          | refine CW_ret ?_
          | refine CW_skip ?_
          | refine thenE_exit ?_
          | refine thenE_ret ?_
          | refine inBlockE_normal ?_
          | refine inBlockE_same ?_
          | refine inBlockE_ret ?_
          | refine inBlockE_ne (by rfl) ?_
          | refine OW_eqlB (by with_reducible exact und_bool) rfl rfl ?_
          | refine OW_neqB (by with_reducible exact und_bool) rfl rfl ?_
          | refine OW_idxS (by with_reducible exact und_bytes) one_u8 rfl rfl _ rfl (by omega) ?_
          | refine OW_idxS (by with_reducible exact und_bytess) one_bytes rfl rfl _ rfl (by omega) ?_
          | refine OW_load1 (by first | with_reducible exact one_u8 | with_reducible exact one_bytes) rfl _ (by assumption) ?_)
      have x26 := ((h3.ext.trans' hw4).trans' h5.ext).trans' hw6
      have o1 := own_ext h1.own (h2.ext.trans' x26)
      have o2 := own_ext h2.own x26
      have x06 := (h1.ext.trans' h2.ext).trans' x26
      have l1 := own_lt h1.own (Ext.rfl' w1)
      have n4 := putL_length x 4
      have n8 := putL_length y 8
      generalize hp4 : putL x 4 = p4 at *
      generalize hp8 : putL y 8 = p8 at *
      refine CW_loop (fun e' w' => ∃ (k : Nat) (zs : List UInt8), k ≤ p4.length ∧ zs.length = p4.length ∧ e' 6 = .slice A1 p4.length c1 ∧ e' 8 = .int .i64 k ∧ e' 0 = .int .u32 x ∧ e' 1 = .int .u64 y ∧ e' 5 = .int .i64 t ∧ e' 7 = .slice A2 p8.length c2 ∧ w'.ownsRow w0.heap.size 5 1 (.slice A1 p4.length c1) p4.length (zs.map bv) ∧ w6.grownBy w' (Value.ownBlock (.slice A1 p4.length c1))) (fun e' _ => p4.length - (intOf (e' 8)).toNat) ?_ ?_
      · exact ⟨0, p4, Nat.zero_le _, rfl, rfl, rfl, rfl, rfl, rfl, rfl, o1, World.grownBy.refl _ _⟩
      rintro ea wa ⟨ka, za, hak, haz, has, hai, qa_0, qa_1, qa_5, qa_7, hao, hag⟩
      rw [upd_self has, upd_self hai, upd_self qa_0, upd_self qa_1, upd_self qa_5, upd_self qa_7]
      repeat (first
          | refine OW_moveV (.int _ _) rfl ?_
          | refine OW_moveV (.slice _ _ _) rfl ?_
          | refine OW_moveV (.bool _) rfl ?_
          | refine OW_moveV (.pointer _) rfl ?_
          | refine OW_moveV (.string _) rfl ?_
          | refine OW_moveV (.agg _) rfl ?_
          | refine OW_moveV (.tuple _) rfl ?_
          | refine OW_nil ?_
          | refine thenE_normal ?_
          | refine CW_seq ?_
          | refine CW_region (by kernel_rfl) ?_
          | refine OW_assignV (.int _ _) rfl ?_
          | refine OW_assignV (.slice _ _ _) rfl ?_
          | refine OW_assignV (.bool _) rfl ?_
          | refine OW_assignV (.pointer _) rfl ?_
          | refine OW_assignV (.string _) rfl ?_
          | refine OW_assignV (.agg _) rfl ?_
          | refine OW_assignV (.tuple _) rfl ?_
          | refine OW_addI rfl rfl (by omega) ?_
          | refine OW_subI rfl rfl (by omega) ?_
          | refine OW_mulI rfl rfl (by omega) ?_
          | refine OW_lss rfl rfl ?_
          | refine OW_extract rfl rfl ?_
          | refine OW_gtr rfl rfl ?_
          | refine OW_leq rfl rfl ?_
          | refine OW_geq rfl rfl ?_
          | refine OW_eql rfl rfl ?_
          | refine OW_neq rfl rfl ?_
          | refine OW_not rfl ?_
          | refine OW_pickT rfl _ rfl ?_
          | refine OW_pickF rfl (.bool _) rfl ?_
          | refine OW_pickB rfl rfl rfl ?_
          | refine OW_move ?_
          | refine OW_assign ?_
          | refine OW_pass rfl ?_
          | refine OW_take rfl ?_
          | refine OW_lenS (by first | with_reducible exact und_bytes | with_reducible exact und_bytess) rfl ?_
          | refine OW_convInt (by first | with_reducible exact und_u8 | with_reducible exact und_u64 | with_reducible exact und_int | with_reducible exact und_u32) (by first | with_reducible exact und_u8 | with_reducible exact und_u64 | with_reducible exact und_int | with_reducible exact und_u32) rfl ?_
          | refine OW_add rfl rfl ?_
          | refine OW_sub rfl rfl ?_
          | refine OW_mul rfl rfl ?_
          | refine OW_min2 rfl rfl ?_
          | refine OW_max2 rfl rfl ?_
          | refine OW_neg rfl ?_
          | refine CW_block ?_
          | refine CW_condT rfl ?_
          | refine CW_condF rfl ?_
          | refine CW_exit ?_
          | refine CW_ret ?_
          | refine CW_skip ?_
          | refine thenE_exit ?_
          | refine thenE_ret ?_
          | refine inBlockE_normal ?_
          | refine inBlockE_same ?_
          | refine inBlockE_ret ?_
          | refine inBlockE_ne (by rfl) ?_
          | refine OW_eqlB (by with_reducible exact und_bool) rfl rfl ?_
          | refine OW_neqB (by with_reducible exact und_bool) rfl rfl ?_
          | refine OW_idxS (by with_reducible exact und_bytes) one_u8 rfl rfl _ rfl (by omega) ?_
          | refine OW_idxS (by with_reducible exact und_bytess) one_bytes rfl rfl _ rfl (by omega) ?_
          | refine OW_load1 (by first | with_reducible exact one_u8 | with_reducible exact one_bytes) rfl _ (by assumption) ?_)
      refine CW_cond _ rfl (fun hh => ?_) (fun _ => ?_)
      · have hlt : ka < p4.length := by simpa using hh
        obtain ⟨g, cur, hA, hg, _⟩ := own_blk hao (by omega)
        subst hA
        have hcell := inc_cell hao haz hlt
        have hst := inc_step hao haz hlt (za[ka]'(by omega) + 1)
        repeat (first
            | refine OW_moveV (.int _ _) rfl ?_
            | refine OW_moveV (.slice _ _ _) rfl ?_
            | refine OW_moveV (.bool _) rfl ?_
            | refine OW_moveV (.pointer _) rfl ?_
            | refine OW_moveV (.string _) rfl ?_
            | refine OW_moveV (.agg _) rfl ?_
            | refine OW_moveV (.tuple _) rfl ?_
            | refine OW_nil ?_
            | refine thenE_normal ?_
            | refine CW_seq ?_
            | refine CW_region (by kernel_rfl) ?_
            | refine OW_assignV (.int _ _) rfl ?_
            | refine OW_assignV (.slice _ _ _) rfl ?_
            | refine OW_assignV (.bool _) rfl ?_
            | refine OW_assignV (.pointer _) rfl ?_
            | refine OW_assignV (.string _) rfl ?_
            | refine OW_assignV (.agg _) rfl ?_
            | refine OW_assignV (.tuple _) rfl ?_
            | refine OW_addI rfl rfl (by omega) ?_
            | refine OW_subI rfl rfl (by omega) ?_
            | refine OW_mulI rfl rfl (by omega) ?_
            | refine OW_lss rfl rfl ?_
            | refine OW_extract rfl rfl ?_
            | refine OW_gtr rfl rfl ?_
            | refine OW_leq rfl rfl ?_
            | refine OW_geq rfl rfl ?_
            | refine OW_eql rfl rfl ?_
            | refine OW_neq rfl rfl ?_
            | refine OW_not rfl ?_
            | refine OW_pickT rfl _ rfl ?_
            | refine OW_pickF rfl (.bool _) rfl ?_
            | refine OW_pickB rfl rfl rfl ?_
            | refine OW_move ?_
            | refine OW_assign ?_
            | refine OW_pass rfl ?_
            | refine OW_take rfl ?_
            | refine OW_lenS (by first | with_reducible exact und_bytes | with_reducible exact und_bytess) rfl ?_
            | refine OW_convInt (by first | with_reducible exact und_u8 | with_reducible exact und_u64 | with_reducible exact und_int | with_reducible exact und_u32) (by first | with_reducible exact und_u8 | with_reducible exact und_u64 | with_reducible exact und_int | with_reducible exact und_u32) rfl ?_
            | refine OW_add rfl rfl ?_
            | refine OW_sub rfl rfl ?_
            | refine OW_mul rfl rfl ?_
            | refine OW_min2 rfl rfl ?_
            | refine OW_max2 rfl rfl ?_
            | refine OW_neg rfl ?_
            | refine CW_block ?_
            | refine CW_condT rfl ?_
            | refine CW_condF rfl ?_
            | refine CW_exit ?_
            | refine CW_ret ?_
            | refine CW_skip ?_
            | refine thenE_exit ?_
            | refine thenE_ret ?_
            | refine inBlockE_normal ?_
            | refine inBlockE_same ?_
            | refine inBlockE_ret ?_
            | refine inBlockE_ne (by rfl) ?_
            | refine OW_eqlB (by with_reducible exact und_bool) rfl rfl ?_
            | refine OW_neqB (by with_reducible exact und_bool) rfl rfl ?_
            | refine OW_idxS (by with_reducible exact und_bytes) one_u8 rfl rfl _ rfl (by omega) ?_
            | refine OW_idxS (by with_reducible exact und_bytess) one_bytes rfl rfl _ rfl (by omega) ?_
            | refine OW_load1 (by first | with_reducible exact one_u8 | with_reducible exact one_bytes) rfl _ (by assumption) ?_)
        rw [inc_u8]
        repeat (first
            | refine OW_moveV (.int _ _) rfl ?_
            | refine OW_moveV (.slice _ _ _) rfl ?_
            | refine OW_moveV (.bool _) rfl ?_
            | refine OW_moveV (.pointer _) rfl ?_
            | refine OW_moveV (.string _) rfl ?_
            | refine OW_moveV (.agg _) rfl ?_
            | refine OW_moveV (.tuple _) rfl ?_
            | refine OW_nil ?_
            | refine thenE_normal ?_
            | refine CW_seq ?_
            | refine CW_region (by kernel_rfl) ?_
            | refine OW_assignV (.int _ _) rfl ?_
            | refine OW_assignV (.slice _ _ _) rfl ?_
            | refine OW_assignV (.bool _) rfl ?_
            | refine OW_assignV (.pointer _) rfl ?_
            | refine OW_assignV (.string _) rfl ?_
            | refine OW_assignV (.agg _) rfl ?_
            | refine OW_assignV (.tuple _) rfl ?_
            | refine OW_addI rfl rfl (by omega) ?_
            | refine OW_subI rfl rfl (by omega) ?_
            | refine OW_mulI rfl rfl (by omega) ?_
            | refine OW_lss rfl rfl ?_
            | refine OW_extract rfl rfl ?_
            | refine OW_gtr rfl rfl ?_
            | refine OW_leq rfl rfl ?_
            | refine OW_geq rfl rfl ?_
            | refine OW_eql rfl rfl ?_
            | refine OW_neq rfl rfl ?_
            | refine OW_not rfl ?_
            | refine OW_pickT rfl _ rfl ?_
            | refine OW_pickF rfl (.bool _) rfl ?_
            | refine OW_pickB rfl rfl rfl ?_
            | refine OW_move ?_
            | refine OW_assign ?_
            | refine OW_pass rfl ?_
            | refine OW_take rfl ?_
            | refine OW_lenS (by first | with_reducible exact und_bytes | with_reducible exact und_bytess) rfl ?_
            | refine OW_convInt (by first | with_reducible exact und_u8 | with_reducible exact und_u64 | with_reducible exact und_int | with_reducible exact und_u32) (by first | with_reducible exact und_u8 | with_reducible exact und_u64 | with_reducible exact und_int | with_reducible exact und_u32) rfl ?_
            | refine OW_add rfl rfl ?_
            | refine OW_sub rfl rfl ?_
            | refine OW_mul rfl rfl ?_
            | refine OW_min2 rfl rfl ?_
            | refine OW_max2 rfl rfl ?_
            | refine OW_neg rfl ?_
            | refine CW_block ?_
            | refine CW_condT rfl ?_
            | refine CW_condF rfl ?_
            | refine CW_exit ?_
            | refine CW_ret ?_
            | refine CW_skip ?_
            | refine thenE_exit ?_
            | refine thenE_ret ?_
            | refine inBlockE_normal ?_
            | refine inBlockE_same ?_
            | refine inBlockE_ret ?_
            | refine inBlockE_ne (by rfl) ?_
            | refine OW_eqlB (by with_reducible exact und_bool) rfl rfl ?_
            | refine OW_neqB (by with_reducible exact und_bool) rfl rfl ?_
            | refine OW_idxS (by with_reducible exact und_bytes) one_u8 rfl rfl _ rfl (by omega) ?_
            | refine OW_idxS (by with_reducible exact und_bytess) one_bytes rfl rfl _ rfl (by omega) ?_
            | refine OW_load1 (by first | with_reducible exact one_u8 | with_reducible exact one_bytes) rfl _ (by assumption) ?_)
        rw [add0] at hcell ⊢
        refine OW_store1 one_u8 rfl (bv (za[ka]'(by omega) + 1)) (bv (za[ka]'(by omega))) rfl rfl hcell (hao.frozenAt ka) ?_
        repeat (first
            | refine OW_moveV (.int _ _) rfl ?_
            | refine OW_moveV (.slice _ _ _) rfl ?_
            | refine OW_moveV (.bool _) rfl ?_
            | refine OW_moveV (.pointer _) rfl ?_
            | refine OW_moveV (.string _) rfl ?_
            | refine OW_moveV (.agg _) rfl ?_
            | refine OW_moveV (.tuple _) rfl ?_
            | refine OW_nil ?_
            | refine thenE_normal ?_
            | refine CW_seq ?_
            | refine CW_region (by kernel_rfl) ?_
            | refine OW_assignV (.int _ _) rfl ?_
            | refine OW_assignV (.slice _ _ _) rfl ?_
            | refine OW_assignV (.bool _) rfl ?_
            | refine OW_assignV (.pointer _) rfl ?_
            | refine OW_assignV (.string _) rfl ?_
            | refine OW_assignV (.agg _) rfl ?_
            | refine OW_assignV (.tuple _) rfl ?_
            | refine OW_addI rfl rfl (by omega) ?_
            | refine OW_subI rfl rfl (by omega) ?_
            | refine OW_mulI rfl rfl (by omega) ?_
            | refine OW_lss rfl rfl ?_
            | refine OW_extract rfl rfl ?_
            | refine OW_gtr rfl rfl ?_
            | refine OW_leq rfl rfl ?_
            | refine OW_geq rfl rfl ?_
            | refine OW_eql rfl rfl ?_
            | refine OW_neq rfl rfl ?_
            | refine OW_not rfl ?_
            | refine OW_pickT rfl _ rfl ?_
            | refine OW_pickF rfl (.bool _) rfl ?_
            | refine OW_pickB rfl rfl rfl ?_
            | refine OW_move ?_
            | refine OW_assign ?_
            | refine OW_pass rfl ?_
            | refine OW_take rfl ?_
            | refine OW_lenS (by first | with_reducible exact und_bytes | with_reducible exact und_bytess) rfl ?_
            | refine OW_convInt (by first | with_reducible exact und_u8 | with_reducible exact und_u64 | with_reducible exact und_int | with_reducible exact und_u32) (by first | with_reducible exact und_u8 | with_reducible exact und_u64 | with_reducible exact und_int | with_reducible exact und_u32) rfl ?_
            | refine OW_add rfl rfl ?_
            | refine OW_sub rfl rfl ?_
            | refine OW_mul rfl rfl ?_
            | refine OW_min2 rfl rfl ?_
            | refine OW_max2 rfl rfl ?_
            | refine OW_neg rfl ?_
            | refine CW_block ?_
            | refine CW_condT rfl ?_
            | refine CW_condF rfl ?_
            | refine CW_exit ?_
            | refine CW_ret ?_
            | refine CW_skip ?_
            | refine thenE_exit ?_
            | refine thenE_ret ?_
            | refine inBlockE_normal ?_
            | refine inBlockE_same ?_
            | refine inBlockE_ret ?_
            | refine inBlockE_ne (by rfl) ?_
            | refine OW_eqlB (by with_reducible exact und_bool) rfl rfl ?_
            | refine OW_neqB (by with_reducible exact und_bool) rfl rfl ?_
            | refine OW_idxS (by with_reducible exact und_bytes) one_u8 rfl rfl _ rfl (by omega) ?_
            | refine OW_idxS (by with_reducible exact und_bytess) one_bytes rfl rfl _ rfl (by omega) ?_
            | refine OW_load1 (by first | with_reducible exact one_u8 | with_reducible exact one_bytes) rfl _ (by assumption) ?_)
        refine ⟨⟨ka + 1, _, by omega, by simp [haz], rfl, rfl, rfl, rfl, rfl, rfl, hst.1, grown_trans' hag hst.2⟩, ?_⟩
        show p4.length - ((ka : Int) + 1).toNat < p4.length - (ka : Int).toNat
        omega
      have o2a := keep_own o2 hag l1
      have x0a := ext_grown x06 o1 hag
      have o2b := own_mono o2a h1.ext.size
      repeat (first
          | refine OW_moveV (.int _ _) rfl ?_
          | refine OW_moveV (.slice _ _ _) rfl ?_
          | refine OW_moveV (.bool _) rfl ?_
          | refine OW_moveV (.pointer _) rfl ?_
          | refine OW_moveV (.string _) rfl ?_
          | refine OW_moveV (.agg _) rfl ?_
          | refine OW_moveV (.tuple _) rfl ?_
          | refine OW_nil ?_
          | refine thenE_normal ?_
          | refine CW_seq ?_
          | refine CW_region (by kernel_rfl) ?_
          | refine OW_assignV (.int _ _) rfl ?_
          | refine OW_assignV (.slice _ _ _) rfl ?_
          | refine OW_assignV (.bool _) rfl ?_
          | refine OW_assignV (.pointer _) rfl ?_
          | refine OW_assignV (.string _) rfl ?_
          | refine OW_assignV (.agg _) rfl ?_
          | refine OW_assignV (.tuple _) rfl ?_
          | refine OW_addI rfl rfl (by omega) ?_
          | refine OW_subI rfl rfl (by omega) ?_
          | refine OW_mulI rfl rfl (by omega) ?_
          | refine OW_lss rfl rfl ?_
          | refine OW_extract rfl rfl ?_
          | refine OW_gtr rfl rfl ?_
          | refine OW_leq rfl rfl ?_
          | refine OW_geq rfl rfl ?_
          | refine OW_eql rfl rfl ?_
          | refine OW_neq rfl rfl ?_
          | refine OW_not rfl ?_
          | refine OW_pickT rfl _ rfl ?_
          | refine OW_pickF rfl (.bool _) rfl ?_
          | refine OW_pickB rfl rfl rfl ?_
          | refine OW_move ?_
          | refine OW_assign ?_
          | refine OW_pass rfl ?_
          | refine OW_take rfl ?_
          | refine OW_lenS (by first | with_reducible exact und_bytes | with_reducible exact und_bytess) rfl ?_
          | refine OW_convInt (by first | with_reducible exact und_u8 | with_reducible exact und_u64 | with_reducible exact und_int | with_reducible exact und_u32) (by first | with_reducible exact und_u8 | with_reducible exact und_u64 | with_reducible exact und_int | with_reducible exact und_u32) rfl ?_
          | refine OW_add rfl rfl ?_
          | refine OW_sub rfl rfl ?_
          | refine OW_mul rfl rfl ?_
          | refine OW_min2 rfl rfl ?_
          | refine OW_max2 rfl rfl ?_
          | refine OW_neg rfl ?_
          | refine CW_block ?_
          | refine CW_condT rfl ?_
          | refine CW_condF rfl ?_
          | refine CW_exit ?_
          | refine CW_ret ?_
          | refine CW_skip ?_
          | refine thenE_exit ?_
          | refine thenE_ret ?_
          | refine inBlockE_normal ?_
          | refine inBlockE_same ?_
          | refine inBlockE_ret ?_
          | refine inBlockE_ne (by rfl) ?_
          | refine OW_eqlB (by with_reducible exact und_bool) rfl rfl ?_
          | refine OW_neqB (by with_reducible exact und_bool) rfl rfl ?_
          | refine OW_idxS (by with_reducible exact und_bytes) one_u8 rfl rfl _ rfl (by omega) ?_
          | refine OW_idxS (by with_reducible exact und_bytess) one_bytes rfl rfl _ rfl (by omega) ?_
          | refine OW_load1 (by first | with_reducible exact one_u8 | with_reducible exact one_bytes) rfl _ (by assumption) ?_)
      refine CW_loop (fun e' w' => ∃ (k : Nat) (zs : List UInt8), k ≤ p8.length ∧ zs.length = p8.length ∧ e' 7 = .slice A2 p8.length c2 ∧ e' 9 = .int .i64 k ∧ e' 0 = .int .u32 x ∧ e' 1 = .int .u64 y ∧ e' 5 = .int .i64 t ∧ w'.ownsRow w0.heap.size 5 1 (.slice A2 p8.length c2) p8.length (zs.map bv) ∧ wa.grownBy w' (Value.ownBlock (.slice A2 p8.length c2))) (fun e' _ => p8.length - (intOf (e' 9)).toNat) ?_ ?_
      · exact ⟨0, p8, Nat.zero_le _, rfl, rfl, rfl, rfl, rfl, rfl, o2b, World.grownBy.refl _ _⟩
      rintro eb wb ⟨kb, zb, hbk, hbz, hbs, hbi, qb_0, qb_1, qb_5, hbo, hbg⟩
      rw [upd_self hbs, upd_self hbi, upd_self qb_0, upd_self qb_1, upd_self qb_5]
      repeat (first
          | refine OW_moveV (.int _ _) rfl ?_
          | refine OW_moveV (.slice _ _ _) rfl ?_
          | refine OW_moveV (.bool _) rfl ?_
          | refine OW_moveV (.pointer _) rfl ?_
          | refine OW_moveV (.string _) rfl ?_
          | refine OW_moveV (.agg _) rfl ?_
          | refine OW_moveV (.tuple _) rfl ?_
          | refine OW_nil ?_
          | refine thenE_normal ?_
          | refine CW_seq ?_
          | refine CW_region (by kernel_rfl) ?_
          | refine OW_assignV (.int _ _) rfl ?_
          | refine OW_assignV (.slice _ _ _) rfl ?_
          | refine OW_assignV (.bool _) rfl ?_
          | refine OW_assignV (.pointer _) rfl ?_
          | refine OW_assignV (.string _) rfl ?_
          | refine OW_assignV (.agg _) rfl ?_
          | refine OW_assignV (.tuple _) rfl ?_
          | refine OW_addI rfl rfl (by omega) ?_
          | refine OW_subI rfl rfl (by omega) ?_
          | refine OW_mulI rfl rfl (by omega) ?_
          | refine OW_lss rfl rfl ?_
          | refine OW_extract rfl rfl ?_
          | refine OW_gtr rfl rfl ?_
          | refine OW_leq rfl rfl ?_
          | refine OW_geq rfl rfl ?_
          | refine OW_eql rfl rfl ?_
          | refine OW_neq rfl rfl ?_
          | refine OW_not rfl ?_
          | refine OW_pickT rfl _ rfl ?_
          | refine OW_pickF rfl (.bool _) rfl ?_
          | refine OW_pickB rfl rfl rfl ?_
          | refine OW_move ?_
          | refine OW_assign ?_
          | refine OW_pass rfl ?_
          | refine OW_take rfl ?_
          | refine OW_lenS (by first | with_reducible exact und_bytes | with_reducible exact und_bytess) rfl ?_
          | refine OW_convInt (by first | with_reducible exact und_u8 | with_reducible exact und_u64 | with_reducible exact und_int | with_reducible exact und_u32) (by first | with_reducible exact und_u8 | with_reducible exact und_u64 | with_reducible exact und_int | with_reducible exact und_u32) rfl ?_
          | refine OW_add rfl rfl ?_
          | refine OW_sub rfl rfl ?_
          | refine OW_mul rfl rfl ?_
          | refine OW_min2 rfl rfl ?_
          | refine OW_max2 rfl rfl ?_
          | refine OW_neg rfl ?_
          | refine CW_block ?_
          | refine CW_condT rfl ?_
          | refine CW_condF rfl ?_
          | refine CW_exit ?_
          | refine CW_ret ?_
          | refine CW_skip ?_
          | refine thenE_exit ?_
          | refine thenE_ret ?_
          | refine inBlockE_normal ?_
          | refine inBlockE_same ?_
          | refine inBlockE_ret ?_
          | refine inBlockE_ne (by rfl) ?_
          | refine OW_eqlB (by with_reducible exact und_bool) rfl rfl ?_
          | refine OW_neqB (by with_reducible exact und_bool) rfl rfl ?_
          | refine OW_idxS (by with_reducible exact und_bytes) one_u8 rfl rfl _ rfl (by omega) ?_
          | refine OW_idxS (by with_reducible exact und_bytess) one_bytes rfl rfl _ rfl (by omega) ?_
          | refine OW_load1 (by first | with_reducible exact one_u8 | with_reducible exact one_bytes) rfl _ (by assumption) ?_)
      refine CW_cond _ rfl (fun hh => ?_) (fun _ => ?_)
      · have hlt : kb < p8.length := by simpa using hh
        obtain ⟨g, cur, hA, hg, _⟩ := own_blk hbo (by omega)
        subst hA
        have hcell := inc_cell hbo hbz hlt
        have hst := inc_step hbo hbz hlt (zb[kb]'(by omega) + 1)
        repeat (first
            | refine OW_moveV (.int _ _) rfl ?_
            | refine OW_moveV (.slice _ _ _) rfl ?_
            | refine OW_moveV (.bool _) rfl ?_
            | refine OW_moveV (.pointer _) rfl ?_
            | refine OW_moveV (.string _) rfl ?_
            | refine OW_moveV (.agg _) rfl ?_
            | refine OW_moveV (.tuple _) rfl ?_
            | refine OW_nil ?_
            | refine thenE_normal ?_
            | refine CW_seq ?_
            | refine CW_region (by kernel_rfl) ?_
            | refine OW_assignV (.int _ _) rfl ?_
            | refine OW_assignV (.slice _ _ _) rfl ?_
            | refine OW_assignV (.bool _) rfl ?_
            | refine OW_assignV (.pointer _) rfl ?_
            | refine OW_assignV (.string _) rfl ?_
            | refine OW_assignV (.agg _) rfl ?_
            | refine OW_assignV (.tuple _) rfl ?_
            | refine OW_addI rfl rfl (by omega) ?_
            | refine OW_subI rfl rfl (by omega) ?_
            | refine OW_mulI rfl rfl (by omega) ?_
            | refine OW_lss rfl rfl ?_
            | refine OW_extract rfl rfl ?_
            | refine OW_gtr rfl rfl ?_
            | refine OW_leq rfl rfl ?_
            | refine OW_geq rfl rfl ?_
            | refine OW_eql rfl rfl ?_
            | refine OW_neq rfl rfl ?_
            | refine OW_not rfl ?_
            | refine OW_pickT rfl _ rfl ?_
            | refine OW_pickF rfl (.bool _) rfl ?_
            | refine OW_pickB rfl rfl rfl ?_
            | refine OW_move ?_
            | refine OW_assign ?_
            | refine OW_pass rfl ?_
            | refine OW_take rfl ?_
            | refine OW_lenS (by first | with_reducible exact und_bytes | with_reducible exact und_bytess) rfl ?_
            | refine OW_convInt (by first | with_reducible exact und_u8 | with_reducible exact und_u64 | with_reducible exact und_int | with_reducible exact und_u32) (by first | with_reducible exact und_u8 | with_reducible exact und_u64 | with_reducible exact und_int | with_reducible exact und_u32) rfl ?_
            | refine OW_add rfl rfl ?_
            | refine OW_sub rfl rfl ?_
            | refine OW_mul rfl rfl ?_
            | refine OW_min2 rfl rfl ?_
            | refine OW_max2 rfl rfl ?_
            | refine OW_neg rfl ?_
            | refine CW_block ?_
            | refine CW_condT rfl ?_
            | refine CW_condF rfl ?_
            | refine CW_exit ?_
            | refine CW_ret ?_
            | refine CW_skip ?_
            | refine thenE_exit ?_
            | refine thenE_ret ?_
            | refine inBlockE_normal ?_
            | refine inBlockE_same ?_
            | refine inBlockE_ret ?_
            | refine inBlockE_ne (by rfl) ?_
            | refine OW_eqlB (by with_reducible exact und_bool) rfl rfl ?_
            | refine OW_neqB (by with_reducible exact und_bool) rfl rfl ?_
            | refine OW_idxS (by with_reducible exact und_bytes) one_u8 rfl rfl _ rfl (by omega) ?_
            | refine OW_idxS (by with_reducible exact und_bytess) one_bytes rfl rfl _ rfl (by omega) ?_
            | refine OW_load1 (by first | with_reducible exact one_u8 | with_reducible exact one_bytes) rfl _ (by assumption) ?_)
        rw [inc_u8]
        repeat (first
            | refine OW_moveV (.int _ _) rfl ?_
            | refine OW_moveV (.slice _ _ _) rfl ?_
            | refine OW_moveV (.bool _) rfl ?_
            | refine OW_moveV (.pointer _) rfl ?_
            | refine OW_moveV (.string _) rfl ?_
            | refine OW_moveV (.agg _) rfl ?_
            | refine OW_moveV (.tuple _) rfl ?_
            | refine OW_nil ?_
            | refine thenE_normal ?_
            | refine CW_seq ?_
            | refine CW_region (by kernel_rfl) ?_
            | refine OW_assignV (.int _ _) rfl ?_
            | refine OW_assignV (.slice _ _ _) rfl ?_
            | refine OW_assignV (.bool _) rfl ?_
            | refine OW_assignV (.pointer _) rfl ?_
            | refine OW_assignV (.string _) rfl ?_
            | refine OW_assignV (.agg _) rfl ?_
            | refine OW_assignV (.tuple _) rfl ?_
            | refine OW_addI rfl rfl (by omega) ?_
            | refine OW_subI rfl rfl (by omega) ?_
            | refine OW_mulI rfl rfl (by omega) ?_
            | refine OW_lss rfl rfl ?_
            | refine OW_extract rfl rfl ?_
            | refine OW_gtr rfl rfl ?_
            | refine OW_leq rfl rfl ?_
            | refine OW_geq rfl rfl ?_
            | refine OW_eql rfl rfl ?_
            | refine OW_neq rfl rfl ?_
            | refine OW_not rfl ?_
            | refine OW_pickT rfl _ rfl ?_
            | refine OW_pickF rfl (.bool _) rfl ?_
            | refine OW_pickB rfl rfl rfl ?_
            | refine OW_move ?_
            | refine OW_assign ?_
            | refine OW_pass rfl ?_
            | refine OW_take rfl ?_
            | refine OW_lenS (by first | with_reducible exact und_bytes | with_reducible exact und_bytess) rfl ?_
            | refine OW_convInt (by first | with_reducible exact und_u8 | with_reducible exact und_u64 | with_reducible exact und_int | with_reducible exact und_u32) (by first | with_reducible exact und_u8 | with_reducible exact und_u64 | with_reducible exact und_int | with_reducible exact und_u32) rfl ?_
            | refine OW_add rfl rfl ?_
            | refine OW_sub rfl rfl ?_
            | refine OW_mul rfl rfl ?_
            | refine OW_min2 rfl rfl ?_
            | refine OW_max2 rfl rfl ?_
            | refine OW_neg rfl ?_
            | refine CW_block ?_
            | refine CW_condT rfl ?_
            | refine CW_condF rfl ?_
            | refine CW_exit ?_
            | refine CW_ret ?_
            | refine CW_skip ?_
            | refine thenE_exit ?_
            | refine thenE_ret ?_
            | refine inBlockE_normal ?_
            | refine inBlockE_same ?_
            | refine inBlockE_ret ?_
            | refine inBlockE_ne (by rfl) ?_
            | refine OW_eqlB (by with_reducible exact und_bool) rfl rfl ?_
            | refine OW_neqB (by with_reducible exact und_bool) rfl rfl ?_
            | refine OW_idxS (by with_reducible exact und_bytes) one_u8 rfl rfl _ rfl (by omega) ?_
            | refine OW_idxS (by with_reducible exact und_bytess) one_bytes rfl rfl _ rfl (by omega) ?_
            | refine OW_load1 (by first | with_reducible exact one_u8 | with_reducible exact one_bytes) rfl _ (by assumption) ?_)
        rw [add0] at hcell ⊢
        refine OW_store1 one_u8 rfl (bv (zb[kb]'(by omega) + 1)) (bv (zb[kb]'(by omega))) rfl rfl hcell (hbo.frozenAt kb) ?_
        repeat (first
            | refine OW_moveV (.int _ _) rfl ?_
            | refine OW_moveV (.slice _ _ _) rfl ?_
            | refine OW_moveV (.bool _) rfl ?_
            | refine OW_moveV (.pointer _) rfl ?_
            | refine OW_moveV (.string _) rfl ?_
            | refine OW_moveV (.agg _) rfl ?_
            | refine OW_moveV (.tuple _) rfl ?_
            | refine OW_nil ?_
            | refine thenE_normal ?_
            | refine CW_seq ?_
            | refine CW_region (by kernel_rfl) ?_
            | refine OW_assignV (.int _ _) rfl ?_
            | refine OW_assignV (.slice _ _ _) rfl ?_
            | refine OW_assignV (.bool _) rfl ?_
            | refine OW_assignV (.pointer _) rfl ?_
            | refine OW_assignV (.string _) rfl ?_
            | refine OW_assignV (.agg _) rfl ?_
            | refine OW_assignV (.tuple _) rfl ?_
            | refine OW_addI rfl rfl (by omega) ?_
            | refine OW_subI rfl rfl (by omega) ?_
            | refine OW_mulI rfl rfl (by omega) ?_
            | refine OW_lss rfl rfl ?_
            | refine OW_extract rfl rfl ?_
            | refine OW_gtr rfl rfl ?_
            | refine OW_leq rfl rfl ?_
            | refine OW_geq rfl rfl ?_
            | refine OW_eql rfl rfl ?_
            | refine OW_neq rfl rfl ?_
            | refine OW_not rfl ?_
            | refine OW_pickT rfl _ rfl ?_
            | refine OW_pickF rfl (.bool _) rfl ?_
            | refine OW_pickB rfl rfl rfl ?_
            | refine OW_move ?_
            | refine OW_assign ?_
            | refine OW_pass rfl ?_
            | refine OW_take rfl ?_
            | refine OW_lenS (by first | with_reducible exact und_bytes | with_reducible exact und_bytess) rfl ?_
            | refine OW_convInt (by first | with_reducible exact und_u8 | with_reducible exact und_u64 | with_reducible exact und_int | with_reducible exact und_u32) (by first | with_reducible exact und_u8 | with_reducible exact und_u64 | with_reducible exact und_int | with_reducible exact und_u32) rfl ?_
            | refine OW_add rfl rfl ?_
            | refine OW_sub rfl rfl ?_
            | refine OW_mul rfl rfl ?_
            | refine OW_min2 rfl rfl ?_
            | refine OW_max2 rfl rfl ?_
            | refine OW_neg rfl ?_
            | refine CW_block ?_
            | refine CW_condT rfl ?_
            | refine CW_condF rfl ?_
            | refine CW_exit ?_
            | refine CW_ret ?_
            | refine CW_skip ?_
            | refine thenE_exit ?_
            | refine thenE_ret ?_
            | refine inBlockE_normal ?_
            | refine inBlockE_same ?_
            | refine inBlockE_ret ?_
            | refine inBlockE_ne (by rfl) ?_
            | refine OW_eqlB (by with_reducible exact und_bool) rfl rfl ?_
            | refine OW_neqB (by with_reducible exact und_bool) rfl rfl ?_
            | refine OW_idxS (by with_reducible exact und_bytes) one_u8 rfl rfl _ rfl (by omega) ?_
            | refine OW_idxS (by with_reducible exact und_bytess) one_bytes rfl rfl _ rfl (by omega) ?_
            | refine OW_load1 (by first | with_reducible exact one_u8 | with_reducible exact one_bytes) rfl _ (by assumption) ?_)
        refine ⟨⟨kb + 1, _, by omega, by simp [hbz], rfl, rfl, rfl, rfl, rfl, hst.1, grown_trans' hbg hst.2⟩, ?_⟩
        show p8.length - ((kb : Int) + 1).toNat < p8.length - (kb : Int).toNat
        omega
      have x0b := ext_grown x0a o2b hbg
      repeat (first
          | refine OW_moveV (.int _ _) rfl ?_
          | refine OW_moveV (.slice _ _ _) rfl ?_
          | refine OW_moveV (.bool _) rfl ?_
          | refine OW_moveV (.pointer _) rfl ?_
          | refine OW_moveV (.string _) rfl ?_
          | refine OW_moveV (.agg _) rfl ?_
          | refine OW_moveV (.tuple _) rfl ?_
          | refine OW_nil ?_
          | refine thenE_normal ?_
          | refine CW_seq ?_
          | refine CW_region (by kernel_rfl) ?_
          | refine OW_assignV (.int _ _) rfl ?_
          | refine OW_assignV (.slice _ _ _) rfl ?_
          | refine OW_assignV (.bool _) rfl ?_
          | refine OW_assignV (.pointer _) rfl ?_
          | refine OW_assignV (.string _) rfl ?_
          | refine OW_assignV (.agg _) rfl ?_
          | refine OW_assignV (.tuple _) rfl ?_
          | refine OW_addI rfl rfl (by omega) ?_
          | refine OW_subI rfl rfl (by omega) ?_
          | refine OW_mulI rfl rfl (by omega) ?_
          | refine OW_lss rfl rfl ?_
          | refine OW_extract rfl rfl ?_
          | refine OW_gtr rfl rfl ?_
          | refine OW_leq rfl rfl ?_
          | refine OW_geq rfl rfl ?_
          | refine OW_eql rfl rfl ?_
          | refine OW_neq rfl rfl ?_
          | refine OW_not rfl ?_
          | refine OW_pickT rfl _ rfl ?_
          | refine OW_pickF rfl (.bool _) rfl ?_
          | refine OW_pickB rfl rfl rfl ?_
          | refine OW_move ?_
          | refine OW_assign ?_
          | refine OW_pass rfl ?_
          | refine OW_take rfl ?_
          | refine OW_lenS (by first | with_reducible exact und_bytes | with_reducible exact und_bytess) rfl ?_
          | refine OW_convInt (by first | with_reducible exact und_u8 | with_reducible exact und_u64 | with_reducible exact und_int | with_reducible exact und_u32) (by first | with_reducible exact und_u8 | with_reducible exact und_u64 | with_reducible exact und_int | with_reducible exact und_u32) rfl ?_
          | refine OW_add rfl rfl ?_
          | refine OW_sub rfl rfl ?_
          | refine OW_mul rfl rfl ?_
          | refine OW_min2 rfl rfl ?_
          | refine OW_max2 rfl rfl ?_
          | refine OW_neg rfl ?_
          | refine CW_block ?_
          | refine CW_condT rfl ?_
          | refine CW_condF rfl ?_
          | refine CW_exit ?_
          | refine CW_ret ?_
          | refine CW_skip ?_
          | refine thenE_exit ?_
          | refine thenE_ret ?_
          | refine inBlockE_normal ?_
          | refine inBlockE_same ?_
          | refine inBlockE_ret ?_
          | refine inBlockE_ne (by rfl) ?_
          | refine OW_eqlB (by with_reducible exact und_bool) rfl rfl ?_
          | refine OW_neqB (by with_reducible exact und_bool) rfl rfl ?_
          | refine OW_idxS (by with_reducible exact und_bytes) one_u8 rfl rfl _ rfl (by omega) ?_
          | refine OW_idxS (by with_reducible exact und_bytess) one_bytes rfl rfl _ rfl (by omega) ?_
          | refine OW_load1 (by first | with_reducible exact one_u8 | with_reducible exact one_bytes) rfl _ (by assumption) ?_)
      refine ⟨⟨t + 1, by omega, rfl, rfl, rfl, hw0.trans' x0b⟩, ?_⟩
      show 2 - ((t : Int) + 1).toNat < 2 - (t : Int).toNat
      omega
    · repeat (first
          | refine OW_moveV (.int _ _) rfl ?_
          | refine OW_moveV (.slice _ _ _) rfl ?_
          | refine OW_moveV (.bool _) rfl ?_
          | refine OW_moveV (.pointer _) rfl ?_
          | refine OW_moveV (.string _) rfl ?_
          | refine OW_moveV (.agg _) rfl ?_
          | refine OW_moveV (.tuple _) rfl ?_
          | refine OW_nil ?_
          | refine thenE_normal ?_
          | refine CW_seq ?_
          | refine CW_region (by kernel_rfl) ?_
          | refine OW_assignV (.int _ _) rfl ?_
          | refine OW_assignV (.slice _ _ _) rfl ?_
          | refine OW_assignV (.bool _) rfl ?_
          | refine OW_assignV (.pointer _) rfl ?_
          | refine OW_assignV (.string _) rfl ?_
          | refine OW_assignV (.agg _) rfl ?_
          | refine OW_assignV (.tuple _) rfl ?_
          | refine OW_addI rfl rfl (by omega) ?_
          | refine OW_subI rfl rfl (by omega) ?_
          | refine OW_mulI rfl rfl (by omega) ?_
          | refine OW_lss rfl rfl ?_
          | refine OW_extract rfl rfl ?_
          | refine OW_gtr rfl rfl ?_
          | refine OW_leq rfl rfl ?_
          | refine OW_geq rfl rfl ?_
          | refine OW_eql rfl rfl ?_
          | refine OW_neq rfl rfl ?_
          | refine OW_not rfl ?_
          | refine OW_pickT rfl _ rfl ?_
          | refine OW_pickF rfl (.bool _) rfl ?_
          | refine OW_pickB rfl rfl rfl ?_
          | refine OW_move ?_
          | refine OW_assign ?_
          | refine OW_pass rfl ?_
          | refine OW_take rfl ?_
          | refine OW_lenS (by first | with_reducible exact und_bytes | with_reducible exact und_bytess) rfl ?_
          | refine OW_convInt (by first | with_reducible exact und_u8 | with_reducible exact und_u64 | with_reducible exact und_int | with_reducible exact und_u32) (by first | with_reducible exact und_u8 | with_reducible exact und_u64 | with_reducible exact und_int | with_reducible exact und_u32) rfl ?_
          | refine OW_add rfl rfl ?_
          | refine OW_sub rfl rfl ?_
          | refine OW_mul rfl rfl ?_
          | refine OW_min2 rfl rfl ?_
          | refine OW_max2 rfl rfl ?_
          | refine OW_neg rfl ?_
          | refine CW_block ?_
          | refine CW_condT rfl ?_
          | refine CW_condF rfl ?_
          | refine CW_exit ?_
          | refine CW_ret ?_
          | refine CW_skip ?_
          | refine thenE_exit ?_
          | refine thenE_ret ?_
          | refine inBlockE_normal ?_
          | refine inBlockE_same ?_
          | refine inBlockE_ret ?_
          | refine inBlockE_ne (by rfl) ?_
          | refine OW_eqlB (by with_reducible exact und_bool) rfl rfl ?_
          | refine OW_neqB (by with_reducible exact und_bool) rfl rfl ?_
          | refine OW_idxS (by with_reducible exact und_bytes) one_u8 rfl rfl _ rfl (by omega) ?_
          | refine OW_idxS (by with_reducible exact und_bytess) one_bytes rfl rfl _ rfl (by omega) ?_
          | refine OW_load1 (by first | with_reducible exact one_u8 | with_reducible exact one_bytes) rfl _ (by assumption) ?_)
      exact bodyE_ret1 rfl (.bool true) rfl ⟨rfl, hw0⟩
set_option maxRecDepth 100000 in
theorem lifted (os : Os) (started : os.Started) (H : Type) (enc : TypeId × Value → H) :
    ReturnsInHanded {} Try.checked os 4 .any (Rows.wordsPutsSpec.pre6 enc Try.prog Try.f4 Rows.wordsPutsRow.domain false) (Rows.wordsPutsSpec.post enc Try.prog Try.f4 false true false false) := by
  refine returnsInHanded_of_change (C := Try.checked) ownP started (by kernel_rfl) Try.func4
    (ChangeSpec.witness6 (enc := enc) (C := Try.checked) false ⟨#[], #[.int .u32 0, .int .u64 0], []⟩ 8 (by kernel_rfl) (by kernel_rfl) (by kernel_rfl) (by kernel_rfl)) ?_
  intro W base args ds gs before hval0 hW hcnd _
  have hval : ∀ (j : Nat) t v, Try.f4.params[j]? = some t → args[j]? = some v → Value.okWide Try.prog W .any base t v := hval0
  have hW' := hW
  obtain ⟨p, q, hA0, hV, rfl, hfz, hnd⟩ := hW
  have hA : DataW.TrodAll enc Try.prog W 0 (fun _ => true) true Try.f4.params.toList args.toList ds p := hA0
  rw [Try.params4] at hA hval
  obtain ⟨v0, vs0, d0, ds0, p0, q0, hargs, rfl, rfl, h0, r0⟩ := trodAll_cons hA
  obtain ⟨v1, vs1, d1, ds1, p1, q1, rfl, rfl, rfl, h1, r1⟩ := trodAll_cons r0
  obtain ⟨rfl, rfl, rfl⟩ := trodAll_nil r1
  obtain rfl : args = #[v0, v1] := by cases args; simp_all
  obtain ⟨rfl, rfl⟩ := trodVars_none hV
  have k0 := h0
  have lt0 : ∀ x ∈ p0, x.block < W.heap.size := by obtain ⟨m, hm⟩ := k0; exact DataW.trod_lt m _ _ _ hm
  have k1 := h1
  have lt1 : ∀ x ∈ p1, x.block < W.heap.size := by obtain ⟨m, hm⟩ := k1; exact DataW.trod_lt m _ _ _ hm
  obtain ⟨z0, rfl, rfl, rfl, w0⟩ := open_int Try.underlying22 (hval 0 22 v0 rfl rfl) h0
  obtain ⟨a0, rfl, b0⟩ := nat_u32 w0
  obtain ⟨z1, rfl, rfl, rfl, w1⟩ := open_int Try.underlying25 (hval 1 25 v1 rfl rfl) h1
  obtain ⟨a1, rfl, b1⟩ := nat_u64 w1
  clear hA0 hval0
  refine (walk W a0 b0 a1 b1).mono fun e W' ⟨he, bel⟩ => ?_
  subst he
  exact ⟨_, rfl, _, _, _, [], _, [], hW', trodAll_mk1 (shut_bool Try.underlying4 _), (trodAll_cons_mk (Below.trod laidP (by kernel_rfl) (of_decide_eq_true (by kernel_rfl)) k0 bel lt0) (trodAll_cons_mk (Below.trod laidP (by kernel_rfl) (of_decide_eq_true (by kernel_rfl)) k1 bel lt1) trodAll_mk0)), rfl, bel.frame _, fun h => by cases h⟩
theorem over : Rows.wordsPutsRow.holds Try.pinned (OpenSpec.ofChange Rows.wordsPutsSpec) :=
  OpenClaim.holds_of_wide 4 Try.f4 rfl rfl rfl rfl rfl rfl rfl ⟨rfl, rfl, rfl, rfl, rfl⟩ rfl rfl rfl rfl rfl (by kernel_rfl) Try.func4 (by kernel_rfl)
    (of_decide_eq_true (by kernel_rfl)) (by unfold Func.isWrapper; first | (rw [if_pos (by decide +kernel)]; kernel_rfl) | (rw [if_neg (by decide +kernel)]; exact ⟨rfl, rfl⟩))
    (fun os started H enc _ => lifted os started H enc)
theorem proved : Rows.WordsPutsSaid := over
#print axioms proved
end Go.Proofs.Ytkebipifbdncoaa.lawWordsPuts
