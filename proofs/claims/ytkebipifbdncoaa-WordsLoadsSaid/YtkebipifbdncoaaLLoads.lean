/- WordsLoads: the number at any place of any bytes is what the chapter says; the bytes stay. No condition. -/
import Derived.Test.YtkebipifbdncoaaWords5
import Derived.Test.YtkebipifbdncoaaFrame
namespace Go.Proofs.Ytkebipifbdncoaa.lawWordsLoads
open Go.ChangeShapes Go.WideShapes Go.ChangeAt Go.RowKit
set_option linter.unusedVariables false
theorem walk (w : World) (A : Option Addr) (c : Nat) (b : List UInt8) (hb : Bs w A b) (hc : b.length ≤ c) (n : Int) (hn : -9223372036854775808 ≤ n ∧ n ≤ 9223372036854775807) :
    Calls Try.prog 5 #[.slice A b.length c, .int .i64 n] w (RetV w (.bool true)) := by
  refine calls_of_CW Try.func5 rfl (by simp [Try.ntmps5]) ?_
  rw [Try.ntmps5]
  repeat (first
      | refine OW_moveV (.int _ _) rfl ?_
      | refine OW_moveV (.slice _ _ _) rfl ?_
      | refine OW_moveV (.bool _) rfl ?_
      | refine OW_moveV (.pointer _) rfl ?_
      | refine OW_moveV (.string _) rfl ?_
      | refine OW_moveV (.agg _) rfl ?_
      | refine OW_moveV (.tuple _) rfl ?_
      | refine OW_nil ?_
      | refine thenE_normal ?_
      | refine CW_seq ?_
      | refine CW_region (by kernel_rfl) ?_
      | refine OW_assignV (.int _ _) rfl ?_
      | refine OW_assignV (.slice _ _ _) rfl ?_
      | refine OW_assignV (.bool _) rfl ?_
      | refine OW_assignV (.pointer _) rfl ?_
      | refine OW_assignV (.string _) rfl ?_
      | refine OW_assignV (.agg _) rfl ?_
      | refine OW_assignV (.tuple _) rfl ?_
      | refine OW_addI rfl rfl (by omega) ?_
      | refine OW_subI rfl rfl (by omega) ?_
      | refine OW_mulI rfl rfl (by omega) ?_
      | refine OW_lss rfl rfl ?_
      | refine OW_extract rfl rfl ?_
      | refine OW_gtr rfl rfl ?_
      | refine OW_leq rfl rfl ?_
      | refine OW_geq rfl rfl ?_
      | refine OW_eql rfl rfl ?_
      | refine OW_neq rfl rfl ?_
      | refine OW_not rfl ?_
      | refine OW_pickT rfl _ rfl ?_
      | refine OW_pickF rfl (.bool _) rfl ?_
      | refine OW_pickB rfl rfl rfl ?_
      | refine OW_move ?_
      | refine OW_assign ?_
      | refine OW_pass rfl ?_
      | refine OW_take rfl ?_
      | refine OW_lenS (by first | with_reducible exact und_bytes | with_reducible exact und_bytess) rfl ?_
      | refine OW_convInt (by first | with_reducible exact und_u8 | with_reducible exact und_u64 | with_reducible exact und_int | with_reducible exact und_u32) (by first | with_reducible exact und_u8 | with_reducible exact und_u64 | with_reducible exact und_int | with_reducible exact und_u32) rfl ?_
      | refine OW_add rfl rfl ?_
      | refine OW_sub rfl rfl ?_
      | refine OW_mul rfl rfl ?_
      | refine OW_min2 rfl rfl ?_
      | refine OW_max2 rfl rfl ?_
      | refine OW_neg rfl ?_
      | refine CW_block ?_
      | refine CW_condT rfl ?_
      | refine CW_condF rfl ?_
      | refine CW_exit ?_
      | refine CW_ret ?_
      | refine CW_skip ?_
      | refine thenE_exit ?_
      | refine thenE_ret ?_
      | refine inBlockE_normal ?_
      | refine inBlockE_same ?_
      | refine inBlockE_ret ?_
      | refine inBlockE_ne (by rfl) ?_
      | refine OW_eqlB (by with_reducible exact und_bool) rfl rfl ?_
      | refine OW_neqB (by with_reducible exact und_bool) rfl rfl ?_
      | refine OW_idxS (by with_reducible exact und_bytes) one_u8 rfl rfl _ rfl (by omega) ?_
      | refine OW_idxS (by with_reducible exact und_bytess) one_bytes rfl rfl _ rfl (by omega) ?_
      | refine OW_load1 (by first | with_reducible exact one_u8 | with_reducible exact one_bytes) rfl _ (by assumption) ?_)
  refine CW_cond _ rfl (fun h => ?_) (fun h => ?_)
  · repeat (first
        | refine OW_moveV (.int _ _) rfl ?_
        | refine OW_moveV (.slice _ _ _) rfl ?_
        | refine OW_moveV (.bool _) rfl ?_
        | refine OW_moveV (.pointer _) rfl ?_
        | refine OW_moveV (.string _) rfl ?_
        | refine OW_moveV (.agg _) rfl ?_
        | refine OW_moveV (.tuple _) rfl ?_
        | refine OW_nil ?_
        | refine thenE_normal ?_
        | refine CW_seq ?_
        | refine CW_region (by kernel_rfl) ?_
        | refine OW_assignV (.int _ _) rfl ?_
        | refine OW_assignV (.slice _ _ _) rfl ?_
        | refine OW_assignV (.bool _) rfl ?_
        | refine OW_assignV (.pointer _) rfl ?_
        | refine OW_assignV (.string _) rfl ?_
        | refine OW_assignV (.agg _) rfl ?_
        | refine OW_assignV (.tuple _) rfl ?_
        | refine OW_addI rfl rfl (by omega) ?_
        | refine OW_subI rfl rfl (by omega) ?_
        | refine OW_mulI rfl rfl (by omega) ?_
        | refine OW_lss rfl rfl ?_
        | refine OW_extract rfl rfl ?_
        | refine OW_gtr rfl rfl ?_
        | refine OW_leq rfl rfl ?_
        | refine OW_geq rfl rfl ?_
        | refine OW_eql rfl rfl ?_
        | refine OW_neq rfl rfl ?_
        | refine OW_not rfl ?_
        | refine OW_pickT rfl _ rfl ?_
        | refine OW_pickF rfl (.bool _) rfl ?_
        | refine OW_pickB rfl rfl rfl ?_
        | refine OW_move ?_
        | refine OW_assign ?_
        | refine OW_pass rfl ?_
        | refine OW_take rfl ?_
        | refine OW_lenS (by first | with_reducible exact und_bytes | with_reducible exact und_bytess) rfl ?_
        | refine OW_convInt (by first | with_reducible exact und_u8 | with_reducible exact und_u64 | with_reducible exact und_int | with_reducible exact und_u32) (by first | with_reducible exact und_u8 | with_reducible exact und_u64 | with_reducible exact und_int | with_reducible exact und_u32) rfl ?_
        | refine OW_add rfl rfl ?_
        | refine OW_sub rfl rfl ?_
        | refine OW_mul rfl rfl ?_
        | refine OW_min2 rfl rfl ?_
        | refine OW_max2 rfl rfl ?_
        | refine OW_neg rfl ?_
        | refine CW_block ?_
        | refine CW_condT rfl ?_
        | refine CW_condF rfl ?_
        | refine CW_exit ?_
        | refine CW_ret ?_
        | refine CW_skip ?_
        | refine thenE_exit ?_
        | refine thenE_ret ?_
        | refine inBlockE_normal ?_
        | refine inBlockE_same ?_
        | refine inBlockE_ret ?_
        | refine inBlockE_ne (by rfl) ?_
        | refine OW_eqlB (by with_reducible exact und_bool) rfl rfl ?_
        | refine OW_neqB (by with_reducible exact und_bool) rfl rfl ?_
        | refine OW_idxS (by with_reducible exact und_bytes) one_u8 rfl rfl _ rfl (by omega) ?_
        | refine OW_idxS (by with_reducible exact und_bytess) one_bytes rfl rfl _ rfl (by omega) ?_
        | refine OW_load1 (by first | with_reducible exact one_u8 | with_reducible exact one_bytes) rfl _ (by assumption) ?_)
    exact bodyE_ret1 rfl (.bool true) rfl ⟨rfl, Ext.rfl' w⟩
  · have hl : b.length ≤ 5000 := by simp at h; omega
    repeat (first
        | refine OW_moveV (.int _ _) rfl ?_
        | refine OW_moveV (.slice _ _ _) rfl ?_
        | refine OW_moveV (.bool _) rfl ?_
        | refine OW_moveV (.pointer _) rfl ?_
        | refine OW_moveV (.string _) rfl ?_
        | refine OW_moveV (.agg _) rfl ?_
        | refine OW_moveV (.tuple _) rfl ?_
        | refine OW_nil ?_
        | refine thenE_normal ?_
        | refine CW_seq ?_
        | refine CW_region (by kernel_rfl) ?_
        | refine OW_assignV (.int _ _) rfl ?_
        | refine OW_assignV (.slice _ _ _) rfl ?_
        | refine OW_assignV (.bool _) rfl ?_
        | refine OW_assignV (.pointer _) rfl ?_
        | refine OW_assignV (.string _) rfl ?_
        | refine OW_assignV (.agg _) rfl ?_
        | refine OW_assignV (.tuple _) rfl ?_
        | refine OW_addI rfl rfl (by omega) ?_
        | refine OW_subI rfl rfl (by omega) ?_
        | refine OW_mulI rfl rfl (by omega) ?_
        | refine OW_lss rfl rfl ?_
        | refine OW_extract rfl rfl ?_
        | refine OW_gtr rfl rfl ?_
        | refine OW_leq rfl rfl ?_
        | refine OW_geq rfl rfl ?_
        | refine OW_eql rfl rfl ?_
        | refine OW_neq rfl rfl ?_
        | refine OW_not rfl ?_
        | refine OW_pickT rfl _ rfl ?_
        | refine OW_pickF rfl (.bool _) rfl ?_
        | refine OW_pickB rfl rfl rfl ?_
        | refine OW_move ?_
        | refine OW_assign ?_
        | refine OW_pass rfl ?_
        | refine OW_take rfl ?_
        | refine OW_lenS (by first | with_reducible exact und_bytes | with_reducible exact und_bytess) rfl ?_
        | refine OW_convInt (by first | with_reducible exact und_u8 | with_reducible exact und_u64 | with_reducible exact und_int | with_reducible exact und_u32) (by first | with_reducible exact und_u8 | with_reducible exact und_u64 | with_reducible exact und_int | with_reducible exact und_u32) rfl ?_
        | refine OW_add rfl rfl ?_
        | refine OW_sub rfl rfl ?_
        | refine OW_mul rfl rfl ?_
        | refine OW_min2 rfl rfl ?_
        | refine OW_max2 rfl rfl ?_
        | refine OW_neg rfl ?_
        | refine CW_block ?_
        | refine CW_condT rfl ?_
        | refine CW_condF rfl ?_
        | refine CW_exit ?_
        | refine CW_ret ?_
        | refine CW_skip ?_
        | refine thenE_exit ?_
        | refine thenE_ret ?_
        | refine inBlockE_normal ?_
        | refine inBlockE_same ?_
        | refine inBlockE_ret ?_
        | refine inBlockE_ne (by rfl) ?_
        | refine OW_eqlB (by with_reducible exact und_bool) rfl rfl ?_
        | refine OW_neqB (by with_reducible exact und_bool) rfl rfl ?_
        | refine OW_idxS (by with_reducible exact und_bytes) one_u8 rfl rfl _ rfl (by omega) ?_
        | refine OW_idxS (by with_reducible exact und_bytess) one_bytes rfl rfl _ rfl (by omega) ?_
        | refine OW_load1 (by first | with_reducible exact one_u8 | with_reducible exact one_bytes) rfl _ (by assumption) ?_)
    refine OW_callBs Try.func19 (by kernel_rfl) rfl (refCopy_any _ A b c hb (by omega)) rfl ?_
    intro w1 A1 c1 h1
    repeat (first
        | refine OW_moveV (.int _ _) rfl ?_
        | refine OW_moveV (.slice _ _ _) rfl ?_
        | refine OW_moveV (.bool _) rfl ?_
        | refine OW_moveV (.pointer _) rfl ?_
        | refine OW_moveV (.string _) rfl ?_
        | refine OW_moveV (.agg _) rfl ?_
        | refine OW_moveV (.tuple _) rfl ?_
        | refine OW_nil ?_
        | refine thenE_normal ?_
        | refine CW_seq ?_
        | refine CW_region (by kernel_rfl) ?_
        | refine OW_assignV (.int _ _) rfl ?_
        | refine OW_assignV (.slice _ _ _) rfl ?_
        | refine OW_assignV (.bool _) rfl ?_
        | refine OW_assignV (.pointer _) rfl ?_
        | refine OW_assignV (.string _) rfl ?_
        | refine OW_assignV (.agg _) rfl ?_
        | refine OW_assignV (.tuple _) rfl ?_
        | refine OW_addI rfl rfl (by omega) ?_
        | refine OW_subI rfl rfl (by omega) ?_
        | refine OW_mulI rfl rfl (by omega) ?_
        | refine OW_lss rfl rfl ?_
        | refine OW_extract rfl rfl ?_
        | refine OW_gtr rfl rfl ?_
        | refine OW_leq rfl rfl ?_
        | refine OW_geq rfl rfl ?_
        | refine OW_eql rfl rfl ?_
        | refine OW_neq rfl rfl ?_
        | refine OW_not rfl ?_
        | refine OW_pickT rfl _ rfl ?_
        | refine OW_pickF rfl (.bool _) rfl ?_
        | refine OW_pickB rfl rfl rfl ?_
        | refine OW_move ?_
        | refine OW_assign ?_
        | refine OW_pass rfl ?_
        | refine OW_take rfl ?_
        | refine OW_lenS (by first | with_reducible exact und_bytes | with_reducible exact und_bytess) rfl ?_
        | refine OW_convInt (by first | with_reducible exact und_u8 | with_reducible exact und_u64 | with_reducible exact und_int | with_reducible exact und_u32) (by first | with_reducible exact und_u8 | with_reducible exact und_u64 | with_reducible exact und_int | with_reducible exact und_u32) rfl ?_
        | refine OW_add rfl rfl ?_
        | refine OW_sub rfl rfl ?_
        | refine OW_mul rfl rfl ?_
        | refine OW_min2 rfl rfl ?_
        | refine OW_max2 rfl rfl ?_
        | refine OW_neg rfl ?_
        | refine CW_block ?_
        | refine CW_condT rfl ?_
        | refine CW_condF rfl ?_
        | refine CW_exit ?_
        | refine CW_ret ?_
        | refine CW_skip ?_
        | refine thenE_exit ?_
        | refine thenE_ret ?_
        | refine inBlockE_normal ?_
        | refine inBlockE_same ?_
        | refine inBlockE_ret ?_
        | refine inBlockE_ne (by rfl) ?_
        | refine OW_eqlB (by with_reducible exact und_bool) rfl rfl ?_
        | refine OW_neqB (by with_reducible exact und_bool) rfl rfl ?_
        | refine OW_idxS (by with_reducible exact und_bytes) one_u8 rfl rfl _ rfl (by omega) ?_
        | refine OW_idxS (by with_reducible exact und_bytess) one_bytes rfl rfl _ rfl (by omega) ?_
        | refine OW_load1 (by first | with_reducible exact one_u8 | with_reducible exact one_bytes) rfl _ (by assumption) ?_)
    refine OW_callV Try.func20 (by kernel_rfl) rfl (load32_any _ A1 b c1 n h1.bs h1.cap (by omega) hn) rfl ?_
    intro w2 hw2
    repeat (first
        | refine OW_moveV (.int _ _) rfl ?_
        | refine OW_moveV (.slice _ _ _) rfl ?_
        | refine OW_moveV (.bool _) rfl ?_
        | refine OW_moveV (.pointer _) rfl ?_
        | refine OW_moveV (.string _) rfl ?_
        | refine OW_moveV (.agg _) rfl ?_
        | refine OW_moveV (.tuple _) rfl ?_
        | refine OW_nil ?_
        | refine thenE_normal ?_
        | refine CW_seq ?_
        | refine CW_region (by kernel_rfl) ?_
        | refine OW_assignV (.int _ _) rfl ?_
        | refine OW_assignV (.slice _ _ _) rfl ?_
        | refine OW_assignV (.bool _) rfl ?_
        | refine OW_assignV (.pointer _) rfl ?_
        | refine OW_assignV (.string _) rfl ?_
        | refine OW_assignV (.agg _) rfl ?_
        | refine OW_assignV (.tuple _) rfl ?_
        | refine OW_addI rfl rfl (by omega) ?_
        | refine OW_subI rfl rfl (by omega) ?_
        | refine OW_mulI rfl rfl (by omega) ?_
        | refine OW_lss rfl rfl ?_
        | refine OW_extract rfl rfl ?_
        | refine OW_gtr rfl rfl ?_
        | refine OW_leq rfl rfl ?_
        | refine OW_geq rfl rfl ?_
        | refine OW_eql rfl rfl ?_
        | refine OW_neq rfl rfl ?_
        | refine OW_not rfl ?_
        | refine OW_pickT rfl _ rfl ?_
        | refine OW_pickF rfl (.bool _) rfl ?_
        | refine OW_pickB rfl rfl rfl ?_
        | refine OW_move ?_
        | refine OW_assign ?_
        | refine OW_pass rfl ?_
        | refine OW_take rfl ?_
        | refine OW_lenS (by first | with_reducible exact und_bytes | with_reducible exact und_bytess) rfl ?_
        | refine OW_convInt (by first | with_reducible exact und_u8 | with_reducible exact und_u64 | with_reducible exact und_int | with_reducible exact und_u32) (by first | with_reducible exact und_u8 | with_reducible exact und_u64 | with_reducible exact und_int | with_reducible exact und_u32) rfl ?_
        | refine OW_add rfl rfl ?_
        | refine OW_sub rfl rfl ?_
        | refine OW_mul rfl rfl ?_
        | refine OW_min2 rfl rfl ?_
        | refine OW_max2 rfl rfl ?_
        | refine OW_neg rfl ?_
        | refine CW_block ?_
        | refine CW_condT rfl ?_
        | refine CW_condF rfl ?_
        | refine CW_exit ?_
        | refine CW_ret ?_
        | refine CW_skip ?_
        | refine thenE_exit ?_
        | refine thenE_ret ?_
        | refine inBlockE_normal ?_
        | refine inBlockE_same ?_
        | refine inBlockE_ret ?_
        | refine inBlockE_ne (by rfl) ?_
        | refine OW_eqlB (by with_reducible exact und_bool) rfl rfl ?_
        | refine OW_neqB (by with_reducible exact und_bool) rfl rfl ?_
        | refine OW_idxS (by with_reducible exact und_bytes) one_u8 rfl rfl _ rfl (by omega) ?_
        | refine OW_idxS (by with_reducible exact und_bytess) one_bytes rfl rfl _ rfl (by omega) ?_
        | refine OW_load1 (by first | with_reducible exact one_u8 | with_reducible exact one_bytes) rfl _ (by assumption) ?_)
    refine OW_callV Try.func21 (by kernel_rfl) rfl (load64_any _ A1 b c1 n (h1.bs.ext hw2) h1.cap (by omega) hn) rfl ?_
    intro w3 hw3
    repeat (first
        | refine OW_moveV (.int _ _) rfl ?_
        | refine OW_moveV (.slice _ _ _) rfl ?_
        | refine OW_moveV (.bool _) rfl ?_
        | refine OW_moveV (.pointer _) rfl ?_
        | refine OW_moveV (.string _) rfl ?_
        | refine OW_moveV (.agg _) rfl ?_
        | refine OW_moveV (.tuple _) rfl ?_
        | refine OW_nil ?_
        | refine thenE_normal ?_
        | refine CW_seq ?_
        | refine CW_region (by kernel_rfl) ?_
        | refine OW_assignV (.int _ _) rfl ?_
        | refine OW_assignV (.slice _ _ _) rfl ?_
        | refine OW_assignV (.bool _) rfl ?_
        | refine OW_assignV (.pointer _) rfl ?_
        | refine OW_assignV (.string _) rfl ?_
        | refine OW_assignV (.agg _) rfl ?_
        | refine OW_assignV (.tuple _) rfl ?_
        | refine OW_addI rfl rfl (by omega) ?_
        | refine OW_subI rfl rfl (by omega) ?_
        | refine OW_mulI rfl rfl (by omega) ?_
        | refine OW_lss rfl rfl ?_
        | refine OW_extract rfl rfl ?_
        | refine OW_gtr rfl rfl ?_
        | refine OW_leq rfl rfl ?_
        | refine OW_geq rfl rfl ?_
        | refine OW_eql rfl rfl ?_
        | refine OW_neq rfl rfl ?_
        | refine OW_not rfl ?_
        | refine OW_pickT rfl _ rfl ?_
        | refine OW_pickF rfl (.bool _) rfl ?_
        | refine OW_pickB rfl rfl rfl ?_
        | refine OW_move ?_
        | refine OW_assign ?_
        | refine OW_pass rfl ?_
        | refine OW_take rfl ?_
        | refine OW_lenS (by first | with_reducible exact und_bytes | with_reducible exact und_bytess) rfl ?_
        | refine OW_convInt (by first | with_reducible exact und_u8 | with_reducible exact und_u64 | with_reducible exact und_int | with_reducible exact und_u32) (by first | with_reducible exact und_u8 | with_reducible exact und_u64 | with_reducible exact und_int | with_reducible exact und_u32) rfl ?_
        | refine OW_add rfl rfl ?_
        | refine OW_sub rfl rfl ?_
        | refine OW_mul rfl rfl ?_
        | refine OW_min2 rfl rfl ?_
        | refine OW_max2 rfl rfl ?_
        | refine OW_neg rfl ?_
        | refine CW_block ?_
        | refine CW_condT rfl ?_
        | refine CW_condF rfl ?_
        | refine CW_exit ?_
        | refine CW_ret ?_
        | refine CW_skip ?_
        | refine thenE_exit ?_
        | refine thenE_ret ?_
        | refine inBlockE_normal ?_
        | refine inBlockE_same ?_
        | refine inBlockE_ret ?_
        | refine inBlockE_ne (by rfl) ?_
        | refine OW_eqlB (by with_reducible exact und_bool) rfl rfl ?_
        | refine OW_neqB (by with_reducible exact und_bool) rfl rfl ?_
        | refine OW_idxS (by with_reducible exact und_bytes) one_u8 rfl rfl _ rfl (by omega) ?_
        | refine OW_idxS (by with_reducible exact und_bytess) one_bytes rfl rfl _ rfl (by omega) ?_
        | refine OW_load1 (by first | with_reducible exact one_u8 | with_reducible exact one_bytes) rfl _ (by assumption) ?_)
    have e3 := (h1.ext.trans' hw2).trans' hw3
    refine OW_callV Try.func22 (by kernel_rfl) rfl (refLoad_any _ A b c n 4 4 rfl (by decide) (hb.ext e3) (by omega) hn) rfl ?_
    intro w4 hw4
    repeat (first
        | refine OW_moveV (.int _ _) rfl ?_
        | refine OW_moveV (.slice _ _ _) rfl ?_
        | refine OW_moveV (.bool _) rfl ?_
        | refine OW_moveV (.pointer _) rfl ?_
        | refine OW_moveV (.string _) rfl ?_
        | refine OW_moveV (.agg _) rfl ?_
        | refine OW_moveV (.tuple _) rfl ?_
        | refine OW_nil ?_
        | refine thenE_normal ?_
        | refine CW_seq ?_
        | refine CW_region (by kernel_rfl) ?_
        | refine OW_assignV (.int _ _) rfl ?_
        | refine OW_assignV (.slice _ _ _) rfl ?_
        | refine OW_assignV (.bool _) rfl ?_
        | refine OW_assignV (.pointer _) rfl ?_
        | refine OW_assignV (.string _) rfl ?_
        | refine OW_assignV (.agg _) rfl ?_
        | refine OW_assignV (.tuple _) rfl ?_
        | refine OW_addI rfl rfl (by omega) ?_
        | refine OW_subI rfl rfl (by omega) ?_
        | refine OW_mulI rfl rfl (by omega) ?_
        | refine OW_lss rfl rfl ?_
        | refine OW_extract rfl rfl ?_
        | refine OW_gtr rfl rfl ?_
        | refine OW_leq rfl rfl ?_
        | refine OW_geq rfl rfl ?_
        | refine OW_eql rfl rfl ?_
        | refine OW_neq rfl rfl ?_
        | refine OW_not rfl ?_
        | refine OW_pickT rfl _ rfl ?_
        | refine OW_pickF rfl (.bool _) rfl ?_
        | refine OW_pickB rfl rfl rfl ?_
        | refine OW_move ?_
        | refine OW_assign ?_
        | refine OW_pass rfl ?_
        | refine OW_take rfl ?_
        | refine OW_lenS (by first | with_reducible exact und_bytes | with_reducible exact und_bytess) rfl ?_
        | refine OW_convInt (by first | with_reducible exact und_u8 | with_reducible exact und_u64 | with_reducible exact und_int | with_reducible exact und_u32) (by first | with_reducible exact und_u8 | with_reducible exact und_u64 | with_reducible exact und_int | with_reducible exact und_u32) rfl ?_
        | refine OW_add rfl rfl ?_
        | refine OW_sub rfl rfl ?_
        | refine OW_mul rfl rfl ?_
        | refine OW_min2 rfl rfl ?_
        | refine OW_max2 rfl rfl ?_
        | refine OW_neg rfl ?_
        | refine CW_block ?_
        | refine CW_condT rfl ?_
        | refine CW_condF rfl ?_
        | refine CW_exit ?_
        | refine CW_ret ?_
        | refine CW_skip ?_
        | refine thenE_exit ?_
        | refine thenE_ret ?_
        | refine inBlockE_normal ?_
        | refine inBlockE_same ?_
        | refine inBlockE_ret ?_
        | refine inBlockE_ne (by rfl) ?_
        | refine OW_eqlB (by with_reducible exact und_bool) rfl rfl ?_
        | refine OW_neqB (by with_reducible exact und_bool) rfl rfl ?_
        | refine OW_idxS (by with_reducible exact und_bytes) one_u8 rfl rfl _ rfl (by omega) ?_
        | refine OW_idxS (by with_reducible exact und_bytess) one_bytes rfl rfl _ rfl (by omega) ?_
        | refine OW_load1 (by first | with_reducible exact one_u8 | with_reducible exact one_bytes) rfl _ (by assumption) ?_)
    have e4 := e3.trans' hw4
    refine OW_callV Try.func22 (by kernel_rfl) rfl (refLoad_any _ A b c n 8 8 rfl (by decide) (hb.ext e4) (by omega) hn) rfl ?_
    intro w5 hw5
    have e5 := e4.trans' hw5
    repeat (first
        | refine OW_moveV (.int _ _) rfl ?_
        | refine OW_moveV (.slice _ _ _) rfl ?_
        | refine OW_moveV (.bool _) rfl ?_
        | refine OW_moveV (.pointer _) rfl ?_
        | refine OW_moveV (.string _) rfl ?_
        | refine OW_moveV (.agg _) rfl ?_
        | refine OW_moveV (.tuple _) rfl ?_
        | refine OW_nil ?_
        | refine thenE_normal ?_
        | refine CW_seq ?_
        | refine CW_region (by kernel_rfl) ?_
        | refine OW_assignV (.int _ _) rfl ?_
        | refine OW_assignV (.slice _ _ _) rfl ?_
        | refine OW_assignV (.bool _) rfl ?_
        | refine OW_assignV (.pointer _) rfl ?_
        | refine OW_assignV (.string _) rfl ?_
        | refine OW_assignV (.agg _) rfl ?_
        | refine OW_assignV (.tuple _) rfl ?_
        | refine OW_addI rfl rfl (by omega) ?_
        | refine OW_subI rfl rfl (by omega) ?_
        | refine OW_mulI rfl rfl (by omega) ?_
        | refine OW_lss rfl rfl ?_
        | refine OW_extract rfl rfl ?_
        | refine OW_gtr rfl rfl ?_
        | refine OW_leq rfl rfl ?_
        | refine OW_geq rfl rfl ?_
        | refine OW_eql rfl rfl ?_
        | refine OW_neq rfl rfl ?_
        | refine OW_not rfl ?_
        | refine OW_pickT rfl _ rfl ?_
        | refine OW_pickF rfl (.bool _) rfl ?_
        | refine OW_pickB rfl rfl rfl ?_
        | refine OW_move ?_
        | refine OW_assign ?_
        | refine OW_pass rfl ?_
        | refine OW_take rfl ?_
        | refine OW_lenS (by first | with_reducible exact und_bytes | with_reducible exact und_bytess) rfl ?_
        | refine OW_convInt (by first | with_reducible exact und_u8 | with_reducible exact und_u64 | with_reducible exact und_int | with_reducible exact und_u32) (by first | with_reducible exact und_u8 | with_reducible exact und_u64 | with_reducible exact und_int | with_reducible exact und_u32) rfl ?_
        | refine OW_add rfl rfl ?_
        | refine OW_sub rfl rfl ?_
        | refine OW_mul rfl rfl ?_
        | refine OW_min2 rfl rfl ?_
        | refine OW_max2 rfl rfl ?_
        | refine OW_neg rfl ?_
        | refine CW_block ?_
        | refine CW_condT rfl ?_
        | refine CW_condF rfl ?_
        | refine CW_exit ?_
        | refine CW_ret ?_
        | refine CW_skip ?_
        | refine thenE_exit ?_
        | refine thenE_ret ?_
        | refine inBlockE_normal ?_
        | refine inBlockE_same ?_
        | refine inBlockE_ret ?_
        | refine inBlockE_ne (by rfl) ?_
        | refine OW_eqlB (by with_reducible exact und_bool) rfl rfl ?_
        | refine OW_neqB (by with_reducible exact und_bool) rfl rfl ?_
        | refine OW_idxS (by with_reducible exact und_bytes) one_u8 rfl rfl _ rfl (by omega) ?_
        | refine OW_idxS (by with_reducible exact und_bytess) one_bytes rfl rfl _ rfl (by omega) ?_
        | refine OW_load1 (by first | with_reducible exact one_u8 | with_reducible exact one_bytes) rfl _ (by assumption) ?_)
    rw [wrap_u64_lt _ (by have := ldV_lt b n 4; omega), beq_self_eq_true]
    repeat (first
        | refine OW_moveV (.int _ _) rfl ?_
        | refine OW_moveV (.slice _ _ _) rfl ?_
        | refine OW_moveV (.bool _) rfl ?_
        | refine OW_moveV (.pointer _) rfl ?_
        | refine OW_moveV (.string _) rfl ?_
        | refine OW_moveV (.agg _) rfl ?_
        | refine OW_moveV (.tuple _) rfl ?_
        | refine OW_nil ?_
        | refine thenE_normal ?_
        | refine CW_seq ?_
        | refine CW_region (by kernel_rfl) ?_
        | refine OW_assignV (.int _ _) rfl ?_
        | refine OW_assignV (.slice _ _ _) rfl ?_
        | refine OW_assignV (.bool _) rfl ?_
        | refine OW_assignV (.pointer _) rfl ?_
        | refine OW_assignV (.string _) rfl ?_
        | refine OW_assignV (.agg _) rfl ?_
        | refine OW_assignV (.tuple _) rfl ?_
        | refine OW_addI rfl rfl (by omega) ?_
        | refine OW_subI rfl rfl (by omega) ?_
        | refine OW_mulI rfl rfl (by omega) ?_
        | refine OW_lss rfl rfl ?_
        | refine OW_extract rfl rfl ?_
        | refine OW_gtr rfl rfl ?_
        | refine OW_leq rfl rfl ?_
        | refine OW_geq rfl rfl ?_
        | refine OW_eql rfl rfl ?_
        | refine OW_neq rfl rfl ?_
        | refine OW_not rfl ?_
        | refine OW_pickT rfl _ rfl ?_
        | refine OW_pickF rfl (.bool _) rfl ?_
        | refine OW_pickB rfl rfl rfl ?_
        | refine OW_move ?_
        | refine OW_assign ?_
        | refine OW_pass rfl ?_
        | refine OW_take rfl ?_
        | refine OW_lenS (by first | with_reducible exact und_bytes | with_reducible exact und_bytess) rfl ?_
        | refine OW_convInt (by first | with_reducible exact und_u8 | with_reducible exact und_u64 | with_reducible exact und_int | with_reducible exact und_u32) (by first | with_reducible exact und_u8 | with_reducible exact und_u64 | with_reducible exact und_int | with_reducible exact und_u32) rfl ?_
        | refine OW_add rfl rfl ?_
        | refine OW_sub rfl rfl ?_
        | refine OW_mul rfl rfl ?_
        | refine OW_min2 rfl rfl ?_
        | refine OW_max2 rfl rfl ?_
        | refine OW_neg rfl ?_
        | refine CW_block ?_
        | refine CW_condT rfl ?_
        | refine CW_condF rfl ?_
        | refine CW_exit ?_
        | refine CW_ret ?_
        | refine CW_skip ?_
        | refine thenE_exit ?_
        | refine thenE_ret ?_
        | refine inBlockE_normal ?_
        | refine inBlockE_same ?_
        | refine inBlockE_ret ?_
        | refine inBlockE_ne (by rfl) ?_
        | refine OW_eqlB (by with_reducible exact und_bool) rfl rfl ?_
        | refine OW_neqB (by with_reducible exact und_bool) rfl rfl ?_
        | refine OW_idxS (by with_reducible exact und_bytes) one_u8 rfl rfl _ rfl (by omega) ?_
        | refine OW_idxS (by with_reducible exact und_bytess) one_bytes rfl rfl _ rfl (by omega) ?_
        | refine OW_load1 (by first | with_reducible exact one_u8 | with_reducible exact one_bytes) rfl _ (by assumption) ?_)
    rw [beq_self_eq_true]
    repeat (first
        | refine OW_moveV (.int _ _) rfl ?_
        | refine OW_moveV (.slice _ _ _) rfl ?_
        | refine OW_moveV (.bool _) rfl ?_
        | refine OW_moveV (.pointer _) rfl ?_
        | refine OW_moveV (.string _) rfl ?_
        | refine OW_moveV (.agg _) rfl ?_
        | refine OW_moveV (.tuple _) rfl ?_
        | refine OW_nil ?_
        | refine thenE_normal ?_
        | refine CW_seq ?_
        | refine CW_region (by kernel_rfl) ?_
        | refine OW_assignV (.int _ _) rfl ?_
        | refine OW_assignV (.slice _ _ _) rfl ?_
        | refine OW_assignV (.bool _) rfl ?_
        | refine OW_assignV (.pointer _) rfl ?_
        | refine OW_assignV (.string _) rfl ?_
        | refine OW_assignV (.agg _) rfl ?_
        | refine OW_assignV (.tuple _) rfl ?_
        | refine OW_addI rfl rfl (by omega) ?_
        | refine OW_subI rfl rfl (by omega) ?_
        | refine OW_mulI rfl rfl (by omega) ?_
        | refine OW_lss rfl rfl ?_
        | refine OW_extract rfl rfl ?_
        | refine OW_gtr rfl rfl ?_
        | refine OW_leq rfl rfl ?_
        | refine OW_geq rfl rfl ?_
        | refine OW_eql rfl rfl ?_
        | refine OW_neq rfl rfl ?_
        | refine OW_not rfl ?_
        | refine OW_pickT rfl _ rfl ?_
        | refine OW_pickF rfl (.bool _) rfl ?_
        | refine OW_pickB rfl rfl rfl ?_
        | refine OW_move ?_
        | refine OW_assign ?_
        | refine OW_pass rfl ?_
        | refine OW_take rfl ?_
        | refine OW_lenS (by first | with_reducible exact und_bytes | with_reducible exact und_bytess) rfl ?_
        | refine OW_convInt (by first | with_reducible exact und_u8 | with_reducible exact und_u64 | with_reducible exact und_int | with_reducible exact und_u32) (by first | with_reducible exact und_u8 | with_reducible exact und_u64 | with_reducible exact und_int | with_reducible exact und_u32) rfl ?_
        | refine OW_add rfl rfl ?_
        | refine OW_sub rfl rfl ?_
        | refine OW_mul rfl rfl ?_
        | refine OW_min2 rfl rfl ?_
        | refine OW_max2 rfl rfl ?_
        | refine OW_neg rfl ?_
        | refine CW_block ?_
        | refine CW_condT rfl ?_
        | refine CW_condF rfl ?_
        | refine CW_exit ?_
        | refine CW_ret ?_
        | refine CW_skip ?_
        | refine thenE_exit ?_
        | refine thenE_ret ?_
        | refine inBlockE_normal ?_
        | refine inBlockE_same ?_
        | refine inBlockE_ret ?_
        | refine inBlockE_ne (by rfl) ?_
        | refine OW_eqlB (by with_reducible exact und_bool) rfl rfl ?_
        | refine OW_neqB (by with_reducible exact und_bool) rfl rfl ?_
        | refine OW_idxS (by with_reducible exact und_bytes) one_u8 rfl rfl _ rfl (by omega) ?_
        | refine OW_idxS (by with_reducible exact und_bytess) one_bytes rfl rfl _ rfl (by omega) ?_
        | refine OW_load1 (by first | with_reducible exact one_u8 | with_reducible exact one_bytes) rfl _ (by assumption) ?_)
    rw [beq_self_eq_true]
    repeat (first
        | refine OW_moveV (.int _ _) rfl ?_
        | refine OW_moveV (.slice _ _ _) rfl ?_
        | refine OW_moveV (.bool _) rfl ?_
        | refine OW_moveV (.pointer _) rfl ?_
        | refine OW_moveV (.string _) rfl ?_
        | refine OW_moveV (.agg _) rfl ?_
        | refine OW_moveV (.tuple _) rfl ?_
        | refine OW_nil ?_
        | refine thenE_normal ?_
        | refine CW_seq ?_
        | refine CW_region (by kernel_rfl) ?_
        | refine OW_assignV (.int _ _) rfl ?_
        | refine OW_assignV (.slice _ _ _) rfl ?_
        | refine OW_assignV (.bool _) rfl ?_
        | refine OW_assignV (.pointer _) rfl ?_
        | refine OW_assignV (.string _) rfl ?_
        | refine OW_assignV (.agg _) rfl ?_
        | refine OW_assignV (.tuple _) rfl ?_
        | refine OW_addI rfl rfl (by omega) ?_
        | refine OW_subI rfl rfl (by omega) ?_
        | refine OW_mulI rfl rfl (by omega) ?_
        | refine OW_lss rfl rfl ?_
        | refine OW_extract rfl rfl ?_
        | refine OW_gtr rfl rfl ?_
        | refine OW_leq rfl rfl ?_
        | refine OW_geq rfl rfl ?_
        | refine OW_eql rfl rfl ?_
        | refine OW_neq rfl rfl ?_
        | refine OW_not rfl ?_
        | refine OW_pickT rfl _ rfl ?_
        | refine OW_pickF rfl (.bool _) rfl ?_
        | refine OW_pickB rfl rfl rfl ?_
        | refine OW_move ?_
        | refine OW_assign ?_
        | refine OW_pass rfl ?_
        | refine OW_take rfl ?_
        | refine OW_lenS (by first | with_reducible exact und_bytes | with_reducible exact und_bytess) rfl ?_
        | refine OW_convInt (by first | with_reducible exact und_u8 | with_reducible exact und_u64 | with_reducible exact und_int | with_reducible exact und_u32) (by first | with_reducible exact und_u8 | with_reducible exact und_u64 | with_reducible exact und_int | with_reducible exact und_u32) rfl ?_
        | refine OW_add rfl rfl ?_
        | refine OW_sub rfl rfl ?_
        | refine OW_mul rfl rfl ?_
        | refine OW_min2 rfl rfl ?_
        | refine OW_max2 rfl rfl ?_
        | refine OW_neg rfl ?_
        | refine CW_block ?_
        | refine CW_condT rfl ?_
        | refine CW_condF rfl ?_
        | refine CW_exit ?_
        | refine CW_ret ?_
        | refine CW_skip ?_
        | refine thenE_exit ?_
        | refine thenE_ret ?_
        | refine inBlockE_normal ?_
        | refine inBlockE_same ?_
        | refine inBlockE_ret ?_
        | refine inBlockE_ne (by rfl) ?_
        | refine OW_eqlB (by with_reducible exact und_bool) rfl rfl ?_
        | refine OW_neqB (by with_reducible exact und_bool) rfl rfl ?_
        | refine OW_idxS (by with_reducible exact und_bytes) one_u8 rfl rfl _ rfl (by omega) ?_
        | refine OW_idxS (by with_reducible exact und_bytess) one_bytes rfl rfl _ rfl (by omega) ?_
        | refine OW_load1 (by first | with_reducible exact one_u8 | with_reducible exact one_bytes) rfl _ (by assumption) ?_)
    rw [beq_self_eq_true]
    repeat (first
        | refine OW_moveV (.int _ _) rfl ?_
        | refine OW_moveV (.slice _ _ _) rfl ?_
        | refine OW_moveV (.bool _) rfl ?_
        | refine OW_moveV (.pointer _) rfl ?_
        | refine OW_moveV (.string _) rfl ?_
        | refine OW_moveV (.agg _) rfl ?_
        | refine OW_moveV (.tuple _) rfl ?_
        | refine OW_nil ?_
        | refine thenE_normal ?_
        | refine CW_seq ?_
        | refine CW_region (by kernel_rfl) ?_
        | refine OW_assignV (.int _ _) rfl ?_
        | refine OW_assignV (.slice _ _ _) rfl ?_
        | refine OW_assignV (.bool _) rfl ?_
        | refine OW_assignV (.pointer _) rfl ?_
        | refine OW_assignV (.string _) rfl ?_
        | refine OW_assignV (.agg _) rfl ?_
        | refine OW_assignV (.tuple _) rfl ?_
        | refine OW_addI rfl rfl (by omega) ?_
        | refine OW_subI rfl rfl (by omega) ?_
        | refine OW_mulI rfl rfl (by omega) ?_
        | refine OW_lss rfl rfl ?_
        | refine OW_extract rfl rfl ?_
        | refine OW_gtr rfl rfl ?_
        | refine OW_leq rfl rfl ?_
        | refine OW_geq rfl rfl ?_
        | refine OW_eql rfl rfl ?_
        | refine OW_neq rfl rfl ?_
        | refine OW_not rfl ?_
        | refine OW_pickT rfl _ rfl ?_
        | refine OW_pickF rfl (.bool _) rfl ?_
        | refine OW_pickB rfl rfl rfl ?_
        | refine OW_move ?_
        | refine OW_assign ?_
        | refine OW_pass rfl ?_
        | refine OW_take rfl ?_
        | refine OW_lenS (by first | with_reducible exact und_bytes | with_reducible exact und_bytess) rfl ?_
        | refine OW_convInt (by first | with_reducible exact und_u8 | with_reducible exact und_u64 | with_reducible exact und_int | with_reducible exact und_u32) (by first | with_reducible exact und_u8 | with_reducible exact und_u64 | with_reducible exact und_int | with_reducible exact und_u32) rfl ?_
        | refine OW_add rfl rfl ?_
        | refine OW_sub rfl rfl ?_
        | refine OW_mul rfl rfl ?_
        | refine OW_min2 rfl rfl ?_
        | refine OW_max2 rfl rfl ?_
        | refine OW_neg rfl ?_
        | refine CW_block ?_
        | refine CW_condT rfl ?_
        | refine CW_condF rfl ?_
        | refine CW_exit ?_
        | refine CW_ret ?_
        | refine CW_skip ?_
        | refine thenE_exit ?_
        | refine thenE_ret ?_
        | refine inBlockE_normal ?_
        | refine inBlockE_same ?_
        | refine inBlockE_ret ?_
        | refine inBlockE_ne (by rfl) ?_
        | refine OW_eqlB (by with_reducible exact und_bool) rfl rfl ?_
        | refine OW_neqB (by with_reducible exact und_bool) rfl rfl ?_
        | refine OW_idxS (by with_reducible exact und_bytes) one_u8 rfl rfl _ rfl (by omega) ?_
        | refine OW_idxS (by with_reducible exact und_bytess) one_bytes rfl rfl _ rfl (by omega) ?_
        | refine OW_load1 (by first | with_reducible exact one_u8 | with_reducible exact one_bytes) rfl _ (by assumption) ?_)
    refine OW_callV Try.func17 (by kernel_rfl) rfl (refSame_any _ A1 A b b c1 c (h1.bs.ext (((hw2.trans' hw3).trans' hw4).trans' hw5)) (hb.ext e5) (by omega)) rfl ?_
    intro w6 hw6
    rw [beq_self_eq_true]
    repeat (first
        | refine OW_moveV (.int _ _) rfl ?_
        | refine OW_moveV (.slice _ _ _) rfl ?_
        | refine OW_moveV (.bool _) rfl ?_
        | refine OW_moveV (.pointer _) rfl ?_
        | refine OW_moveV (.string _) rfl ?_
        | refine OW_moveV (.agg _) rfl ?_
        | refine OW_moveV (.tuple _) rfl ?_
        | refine OW_nil ?_
        | refine thenE_normal ?_
        | refine CW_seq ?_
        | refine CW_region (by kernel_rfl) ?_
        | refine OW_assignV (.int _ _) rfl ?_
        | refine OW_assignV (.slice _ _ _) rfl ?_
        | refine OW_assignV (.bool _) rfl ?_
        | refine OW_assignV (.pointer _) rfl ?_
        | refine OW_assignV (.string _) rfl ?_
        | refine OW_assignV (.agg _) rfl ?_
        | refine OW_assignV (.tuple _) rfl ?_
        | refine OW_addI rfl rfl (by omega) ?_
        | refine OW_subI rfl rfl (by omega) ?_
        | refine OW_mulI rfl rfl (by omega) ?_
        | refine OW_lss rfl rfl ?_
        | refine OW_extract rfl rfl ?_
        | refine OW_gtr rfl rfl ?_
        | refine OW_leq rfl rfl ?_
        | refine OW_geq rfl rfl ?_
        | refine OW_eql rfl rfl ?_
        | refine OW_neq rfl rfl ?_
        | refine OW_not rfl ?_
        | refine OW_pickT rfl _ rfl ?_
        | refine OW_pickF rfl (.bool _) rfl ?_
        | refine OW_pickB rfl rfl rfl ?_
        | refine OW_move ?_
        | refine OW_assign ?_
        | refine OW_pass rfl ?_
        | refine OW_take rfl ?_
        | refine OW_lenS (by first | with_reducible exact und_bytes | with_reducible exact und_bytess) rfl ?_
        | refine OW_convInt (by first | with_reducible exact und_u8 | with_reducible exact und_u64 | with_reducible exact und_int | with_reducible exact und_u32) (by first | with_reducible exact und_u8 | with_reducible exact und_u64 | with_reducible exact und_int | with_reducible exact und_u32) rfl ?_
        | refine OW_add rfl rfl ?_
        | refine OW_sub rfl rfl ?_
        | refine OW_mul rfl rfl ?_
        | refine OW_min2 rfl rfl ?_
        | refine OW_max2 rfl rfl ?_
        | refine OW_neg rfl ?_
        | refine CW_block ?_
        | refine CW_condT rfl ?_
        | refine CW_condF rfl ?_
        | refine CW_exit ?_
        | refine CW_ret ?_
        | refine CW_skip ?_
        | refine thenE_exit ?_
        | refine thenE_ret ?_
        | refine inBlockE_normal ?_
        | refine inBlockE_same ?_
        | refine inBlockE_ret ?_
        | refine inBlockE_ne (by rfl) ?_
        | refine OW_eqlB (by with_reducible exact und_bool) rfl rfl ?_
        | refine OW_neqB (by with_reducible exact und_bool) rfl rfl ?_
        | refine OW_idxS (by with_reducible exact und_bytes) one_u8 rfl rfl _ rfl (by omega) ?_
        | refine OW_idxS (by with_reducible exact und_bytess) one_bytes rfl rfl _ rfl (by omega) ?_
        | refine OW_load1 (by first | with_reducible exact one_u8 | with_reducible exact one_bytes) rfl _ (by assumption) ?_)
    exact bodyE_ret1 rfl (.bool true) rfl ⟨rfl, e5.trans' hw6⟩
set_option maxRecDepth 100000 in
theorem lifted (os : Os) (started : os.Started) (H : Type) (enc : TypeId × Value → H) :
    ReturnsInHanded {} Try.checked os 5 .any (Rows.wordsLoadsSpec.pre6 enc Try.prog Try.f5 Rows.wordsLoadsRow.domain false) (Rows.wordsLoadsSpec.post enc Try.prog Try.f5 false true false false) := by
  refine returnsInHanded_of_change (C := Try.checked) ownP started (by kernel_rfl) Try.func5
    (ChangeSpec.witness6 (enc := enc) (C := Try.checked) false ⟨#[], #[.slice none 0 0, .int .i64 0], []⟩ 8 (by kernel_rfl) (by kernel_rfl) (by kernel_rfl) (by kernel_rfl)) ?_
  intro W base args ds gs before hval0 hW hcnd _
  have hval : ∀ (j : Nat) t v, Try.f5.params[j]? = some t → args[j]? = some v → Value.okWide Try.prog W .any base t v := hval0
  have hW' := hW
  obtain ⟨p, q, hA0, hV, rfl, hfz, hnd⟩ := hW
  have hA : DataW.TrodAll enc Try.prog W 0 (fun _ => true) true Try.f5.params.toList args.toList ds p := hA0
  rw [Try.params5] at hA hval
  obtain ⟨v0, vs0, d0, ds0, p0, q0, hargs, rfl, rfl, h0, r0⟩ := trodAll_cons hA
  obtain ⟨v1, vs1, d1, ds1, p1, q1, rfl, rfl, rfl, h1, r1⟩ := trodAll_cons r0
  obtain ⟨rfl, rfl, rfl⟩ := trodAll_nil r1
  obtain rfl : args = #[v0, v1] := by cases args; simp_all
  obtain ⟨rfl, rfl⟩ := trodVars_none hV
  have k0 := h0
  have lt0 : ∀ x ∈ p0, x.block < W.heap.size := by obtain ⟨m, hm⟩ := k0; exact DataW.trod_lt m _ _ _ hm
  have k1 := h1
  have lt1 : ∀ x ∈ p1, x.block < W.heap.size := by obtain ⟨m, hm⟩ := k1; exact DataW.trod_lt m _ _ _ hm
  obtain ⟨A0, c0, l0, rfl, b0, n0⟩ := open_bytes Try.underlying26 Try.underlying5 (by kernel_rfl) (hval 0 26 v0 rfl rfl) h0
  obtain ⟨a1, rfl, rfl, rfl, w1⟩ := open_int Try.underlying3 (hval 1 3 v1 rfl rfl) h1
  have b1 := bounds_i64 w1
  clear hA0 hval0
  refine (walk W A0 c0 l0 b0 n0 a1 b1).mono fun e W' ⟨he, bel⟩ => ?_
  subst he
  exact ⟨_, rfl, _, _, _, [], _, [], hW', trodAll_mk1 (shut_bool Try.underlying4 _), (trodAll_cons_mk (Below.trod laidP (by kernel_rfl) (of_decide_eq_true (by kernel_rfl)) k0 bel lt0) (trodAll_cons_mk (Below.trod laidP (by kernel_rfl) (of_decide_eq_true (by kernel_rfl)) k1 bel lt1) trodAll_mk0)), rfl, bel.frame _, fun h => by cases h⟩
theorem over : Rows.wordsLoadsRow.holds Try.pinned (OpenSpec.ofChange Rows.wordsLoadsSpec) :=
  OpenClaim.holds_of_wide 5 Try.f5 rfl rfl rfl rfl rfl rfl rfl ⟨rfl, rfl, rfl, rfl, rfl⟩ rfl rfl rfl rfl rfl (by kernel_rfl) Try.func5 (by kernel_rfl)
    (of_decide_eq_true (by kernel_rfl)) (by unfold Func.isWrapper; first | (rw [if_pos (by decide +kernel)]; kernel_rfl) | (rw [if_neg (by decide +kernel)]; exact ⟨rfl, rfl⟩))
    (fun os started H enc _ => lifted os started H enc)
theorem proved : Rows.WordsLoadsSaid := over
#print axioms proved
end Go.Proofs.Ytkebipifbdncoaa.lawWordsLoads
