/- WordsBack: what is put is loaded again, wherever it stands; what is loaded is put as the same bytes. No condition. -/
import Derived.Test.YtkebipifbdncoaaAwake1
import Derived.Test.YtkebipifbdncoaaFrame
namespace Go.Proofs.Ytkebipifbdncoaa.lawWordsBack
open Go.ChangeShapes Go.WideShapes Go.ChangeAt Go.RowKit
set_option linter.unusedVariables false
theorem putL_zero (x : Nat) : putL x 0 = [] := rfl
theorem putL_succ (x n : Nat) : putL x (n + 1) = putL (x / 256) n ++ [UInt8.ofNat x] := by
  apply List.ext_getElem?
  intro i
  by_cases hi : i < n
  · rw [List.getElem?_append_left (by rw [putL_length]; exact hi), putL_get hi, putL_get (by omega), show n + 1 - 1 - i = (n - 1 - i) + 1 by omega, Nat.pow_succ, Nat.mul_comm, Nat.div_div_eq_div_mul]
  · by_cases hi2 : i = n
    · subst hi2
      rw [List.getElem?_append_right (by rw [putL_length]; exact Nat.le_refl _), putL_length, putL_get (by omega)]
      simp
    · rw [List.getElem?_eq_none (by rw [putL_length]; omega), List.getElem?_eq_none (by rw [List.length_append, putL_length]; simp; omega)]
theorem load_put (n : Nat) : ∀ x, x < 256 ^ n → loadL (putL x n) = x := by
  induction n with
  | zero => intro x hx; rw [putL_zero]; simp at hx; subst hx; rfl
  | succ n ih =>
    intro x hx
    rw [putL_succ, loadL_snoc, ih (x / 256) (by rw [Nat.pow_succ] at hx; omega), UInt8.toNat_ofNat']
    omega
set_option maxHeartbeats 8000000 in
theorem walk (w : World) (x : Nat) (hx : x < 4294967296) (y : Nat) (hy : y < 18446744073709551616) (A : Option Addr) (c : Nat) (a : List UInt8) (ha : Bs w A a) (hca : a.length ≤ c) :
    Calls Try.prog 10 #[.int .u32 x, .int .u64 y, .slice A a.length c] w (RetV w (.bool true)) := by
  refine calls_of_CW Try.func10 rfl (by simp [Try.ntmps10]) ?_
  rw [Try.ntmps10]
  repeat (first
      | refine OW_moveV (.int _ _) rfl ?_
      | refine OW_moveV (.slice _ _ _) rfl ?_
      | refine OW_moveV (.bool _) rfl ?_
      | refine OW_moveV (.pointer _) rfl ?_
      | refine OW_moveV (.string _) rfl ?_
      | refine OW_moveV (.agg _) rfl ?_
      | refine OW_moveV (.tuple _) rfl ?_
      | refine OW_nil ?_
      | refine thenE_normal ?_
      | refine CW_seq ?_
      | refine CW_region (by kernel_rfl) ?_
      | refine OW_assignV (.int _ _) rfl ?_
      | refine OW_assignV (.slice _ _ _) rfl ?_
      | refine OW_assignV (.bool _) rfl ?_
      | refine OW_assignV (.pointer _) rfl ?_
      | refine OW_assignV (.string _) rfl ?_
      | refine OW_assignV (.agg _) rfl ?_
      | refine OW_assignV (.tuple _) rfl ?_
      | refine OW_addI rfl rfl (by omega) ?_
      | refine OW_subI rfl rfl (by omega) ?_
      | refine OW_mulI rfl rfl (by omega) ?_
      | refine OW_lss rfl rfl ?_
      | refine OW_extract rfl rfl ?_
      | refine OW_gtr rfl rfl ?_
      | refine OW_leq rfl rfl ?_
      | refine OW_geq rfl rfl ?_
      | refine OW_eql rfl rfl ?_
      | refine OW_neq rfl rfl ?_
      | refine OW_not rfl ?_
      | refine OW_pickT rfl _ rfl ?_
      | refine OW_pickF rfl (.bool _) rfl ?_
      | refine OW_pickB rfl rfl rfl ?_
      | refine OW_move ?_
      | refine OW_assign ?_
      | refine OW_pass rfl ?_
      | refine OW_take rfl ?_
      | refine OW_lenS (by first | with_reducible exact und_bytes | with_reducible exact und_bytess) rfl ?_
      | refine OW_convInt (by first | with_reducible exact und_u8 | with_reducible exact und_u64 | with_reducible exact und_int | with_reducible exact und_u32) (by first | with_reducible exact und_u8 | with_reducible exact und_u64 | with_reducible exact und_int | with_reducible exact und_u32) rfl ?_
      | refine OW_add rfl rfl ?_
      | refine OW_sub rfl rfl ?_
      | refine OW_mul rfl rfl ?_
      | refine OW_min2 rfl rfl ?_
      | refine OW_max2 rfl rfl ?_
      | refine OW_neg rfl ?_
      | refine CW_block ?_
      | refine CW_condT rfl ?_
      | refine CW_condF rfl ?_
      | refine CW_exit ?_
      | refine CW_ret ?_
      | refine CW_skip ?_
      | refine thenE_exit ?_
      | refine thenE_ret ?_
      | refine inBlockE_normal ?_
      | refine inBlockE_same ?_
      | refine inBlockE_ret ?_
      | refine inBlockE_ne (by rfl) ?_
      | refine OW_eqlB (by with_reducible exact und_bool) rfl rfl ?_
      | refine OW_neqB (by with_reducible exact und_bool) rfl rfl ?_
      | refine OW_idxS (by with_reducible exact und_bytes) one_u8 rfl rfl _ rfl (by omega) ?_
      | refine OW_idxS (by with_reducible exact und_bytess) one_bytes rfl rfl _ rfl (by omega) ?_
      | refine OW_load1 (by first | with_reducible exact one_u8 | with_reducible exact one_bytes) rfl _ (by assumption) ?_)
  refine OW_callV Try.func28 (by kernel_rfl) rfl (awake1_any _) rfl ?_
  intro w1 hw1
  repeat (first
      | refine OW_moveV (.int _ _) rfl ?_
      | refine OW_moveV (.slice _ _ _) rfl ?_
      | refine OW_moveV (.bool _) rfl ?_
      | refine OW_moveV (.pointer _) rfl ?_
      | refine OW_moveV (.string _) rfl ?_
      | refine OW_moveV (.agg _) rfl ?_
      | refine OW_moveV (.tuple _) rfl ?_
      | refine OW_nil ?_
      | refine thenE_normal ?_
      | refine CW_seq ?_
      | refine CW_region (by kernel_rfl) ?_
      | refine OW_assignV (.int _ _) rfl ?_
      | refine OW_assignV (.slice _ _ _) rfl ?_
      | refine OW_assignV (.bool _) rfl ?_
      | refine OW_assignV (.pointer _) rfl ?_
      | refine OW_assignV (.string _) rfl ?_
      | refine OW_assignV (.agg _) rfl ?_
      | refine OW_assignV (.tuple _) rfl ?_
      | refine OW_addI rfl rfl (by omega) ?_
      | refine OW_subI rfl rfl (by omega) ?_
      | refine OW_mulI rfl rfl (by omega) ?_
      | refine OW_lss rfl rfl ?_
      | refine OW_extract rfl rfl ?_
      | refine OW_gtr rfl rfl ?_
      | refine OW_leq rfl rfl ?_
      | refine OW_geq rfl rfl ?_
      | refine OW_eql rfl rfl ?_
      | refine OW_neq rfl rfl ?_
      | refine OW_not rfl ?_
      | refine OW_pickT rfl _ rfl ?_
      | refine OW_pickF rfl (.bool _) rfl ?_
      | refine OW_pickB rfl rfl rfl ?_
      | refine OW_move ?_
      | refine OW_assign ?_
      | refine OW_pass rfl ?_
      | refine OW_take rfl ?_
      | refine OW_lenS (by first | with_reducible exact und_bytes | with_reducible exact und_bytess) rfl ?_
      | refine OW_convInt (by first | with_reducible exact und_u8 | with_reducible exact und_u64 | with_reducible exact und_int | with_reducible exact und_u32) (by first | with_reducible exact und_u8 | with_reducible exact und_u64 | with_reducible exact und_int | with_reducible exact und_u32) rfl ?_
      | refine OW_add rfl rfl ?_
      | refine OW_sub rfl rfl ?_
      | refine OW_mul rfl rfl ?_
      | refine OW_min2 rfl rfl ?_
      | refine OW_max2 rfl rfl ?_
      | refine OW_neg rfl ?_
      | refine CW_block ?_
      | refine CW_condT rfl ?_
      | refine CW_condF rfl ?_
      | refine CW_exit ?_
      | refine CW_ret ?_
      | refine CW_skip ?_
      | refine thenE_exit ?_
      | refine thenE_ret ?_
      | refine inBlockE_normal ?_
      | refine inBlockE_same ?_
      | refine inBlockE_ret ?_
      | refine inBlockE_ne (by rfl) ?_
      | refine OW_eqlB (by with_reducible exact und_bool) rfl rfl ?_
      | refine OW_neqB (by with_reducible exact und_bool) rfl rfl ?_
      | refine OW_idxS (by with_reducible exact und_bytes) one_u8 rfl rfl _ rfl (by omega) ?_
      | refine OW_idxS (by with_reducible exact und_bytess) one_bytes rfl rfl _ rfl (by omega) ?_
      | refine OW_load1 (by first | with_reducible exact one_u8 | with_reducible exact one_bytes) rfl _ (by assumption) ?_)
  refine CW_cond _ rfl (fun h => ?_) (fun h => ?_)
  · repeat (first
        | refine OW_moveV (.int _ _) rfl ?_
        | refine OW_moveV (.slice _ _ _) rfl ?_
        | refine OW_moveV (.bool _) rfl ?_
        | refine OW_moveV (.pointer _) rfl ?_
        | refine OW_moveV (.string _) rfl ?_
        | refine OW_moveV (.agg _) rfl ?_
        | refine OW_moveV (.tuple _) rfl ?_
        | refine OW_nil ?_
        | refine thenE_normal ?_
        | refine CW_seq ?_
        | refine CW_region (by kernel_rfl) ?_
        | refine OW_assignV (.int _ _) rfl ?_
        | refine OW_assignV (.slice _ _ _) rfl ?_
        | refine OW_assignV (.bool _) rfl ?_
        | refine OW_assignV (.pointer _) rfl ?_
        | refine OW_assignV (.string _) rfl ?_
        | refine OW_assignV (.agg _) rfl ?_
        | refine OW_assignV (.tuple _) rfl ?_
        | refine OW_addI rfl rfl (by omega) ?_
        | refine OW_subI rfl rfl (by omega) ?_
        | refine OW_mulI rfl rfl (by omega) ?_
        | refine OW_lss rfl rfl ?_
        | refine OW_extract rfl rfl ?_
        | refine OW_gtr rfl rfl ?_
        | refine OW_leq rfl rfl ?_
        | refine OW_geq rfl rfl ?_
        | refine OW_eql rfl rfl ?_
        | refine OW_neq rfl rfl ?_
        | refine OW_not rfl ?_
        | refine OW_pickT rfl _ rfl ?_
        | refine OW_pickF rfl (.bool _) rfl ?_
        | refine OW_pickB rfl rfl rfl ?_
        | refine OW_move ?_
        | refine OW_assign ?_
        | refine OW_pass rfl ?_
        | refine OW_take rfl ?_
        | refine OW_lenS (by first | with_reducible exact und_bytes | with_reducible exact und_bytess) rfl ?_
        | refine OW_convInt (by first | with_reducible exact und_u8 | with_reducible exact und_u64 | with_reducible exact und_int | with_reducible exact und_u32) (by first | with_reducible exact und_u8 | with_reducible exact und_u64 | with_reducible exact und_int | with_reducible exact und_u32) rfl ?_
        | refine OW_add rfl rfl ?_
        | refine OW_sub rfl rfl ?_
        | refine OW_mul rfl rfl ?_
        | refine OW_min2 rfl rfl ?_
        | refine OW_max2 rfl rfl ?_
        | refine OW_neg rfl ?_
        | refine CW_block ?_
        | refine CW_condT rfl ?_
        | refine CW_condF rfl ?_
        | refine CW_exit ?_
        | refine CW_ret ?_
        | refine CW_skip ?_
        | refine thenE_exit ?_
        | refine thenE_ret ?_
        | refine inBlockE_normal ?_
        | refine inBlockE_same ?_
        | refine inBlockE_ret ?_
        | refine inBlockE_ne (by rfl) ?_
        | refine OW_eqlB (by with_reducible exact und_bool) rfl rfl ?_
        | refine OW_neqB (by with_reducible exact und_bool) rfl rfl ?_
        | refine OW_idxS (by with_reducible exact und_bytes) one_u8 rfl rfl _ rfl (by omega) ?_
        | refine OW_idxS (by with_reducible exact und_bytess) one_bytes rfl rfl _ rfl (by omega) ?_
        | refine OW_load1 (by first | with_reducible exact one_u8 | with_reducible exact one_bytes) rfl _ (by assumption) ?_)
    exact bodyE_ret1 rfl (.bool true) rfl ⟨rfl, hw1⟩
  have hl : a.length ≤ 5000 := by simp at h; omega
  clear h
  repeat (first
      | refine OW_moveV (.int _ _) rfl ?_
      | refine OW_moveV (.slice _ _ _) rfl ?_
      | refine OW_moveV (.bool _) rfl ?_
      | refine OW_moveV (.pointer _) rfl ?_
      | refine OW_moveV (.string _) rfl ?_
      | refine OW_moveV (.agg _) rfl ?_
      | refine OW_moveV (.tuple _) rfl ?_
      | refine OW_nil ?_
      | refine thenE_normal ?_
      | refine CW_seq ?_
      | refine CW_region (by kernel_rfl) ?_
      | refine OW_assignV (.int _ _) rfl ?_
      | refine OW_assignV (.slice _ _ _) rfl ?_
      | refine OW_assignV (.bool _) rfl ?_
      | refine OW_assignV (.pointer _) rfl ?_
      | refine OW_assignV (.string _) rfl ?_
      | refine OW_assignV (.agg _) rfl ?_
      | refine OW_assignV (.tuple _) rfl ?_
      | refine OW_addI rfl rfl (by omega) ?_
      | refine OW_subI rfl rfl (by omega) ?_
      | refine OW_mulI rfl rfl (by omega) ?_
      | refine OW_lss rfl rfl ?_
      | refine OW_extract rfl rfl ?_
      | refine OW_gtr rfl rfl ?_
      | refine OW_leq rfl rfl ?_
      | refine OW_geq rfl rfl ?_
      | refine OW_eql rfl rfl ?_
      | refine OW_neq rfl rfl ?_
      | refine OW_not rfl ?_
      | refine OW_pickT rfl _ rfl ?_
      | refine OW_pickF rfl (.bool _) rfl ?_
      | refine OW_pickB rfl rfl rfl ?_
      | refine OW_move ?_
      | refine OW_assign ?_
      | refine OW_pass rfl ?_
      | refine OW_take rfl ?_
      | refine OW_lenS (by first | with_reducible exact und_bytes | with_reducible exact und_bytess) rfl ?_
      | refine OW_convInt (by first | with_reducible exact und_u8 | with_reducible exact und_u64 | with_reducible exact und_int | with_reducible exact und_u32) (by first | with_reducible exact und_u8 | with_reducible exact und_u64 | with_reducible exact und_int | with_reducible exact und_u32) rfl ?_
      | refine OW_add rfl rfl ?_
      | refine OW_sub rfl rfl ?_
      | refine OW_mul rfl rfl ?_
      | refine OW_min2 rfl rfl ?_
      | refine OW_max2 rfl rfl ?_
      | refine OW_neg rfl ?_
      | refine CW_block ?_
      | refine CW_condT rfl ?_
      | refine CW_condF rfl ?_
      | refine CW_exit ?_
      | refine CW_ret ?_
      | refine CW_skip ?_
      | refine thenE_exit ?_
      | refine thenE_ret ?_
      | refine inBlockE_normal ?_
      | refine inBlockE_same ?_
      | refine inBlockE_ret ?_
      | refine inBlockE_ne (by rfl) ?_
      | refine OW_eqlB (by with_reducible exact und_bool) rfl rfl ?_
      | refine OW_neqB (by with_reducible exact und_bool) rfl rfl ?_
      | refine OW_idxS (by with_reducible exact und_bytes) one_u8 rfl rfl _ rfl (by omega) ?_
      | refine OW_idxS (by with_reducible exact und_bytess) one_bytes rfl rfl _ rfl (by omega) ?_
      | refine OW_load1 (by first | with_reducible exact one_u8 | with_reducible exact one_bytes) rfl _ (by assumption) ?_)
  refine OW_callBs Try.func15 (by kernel_rfl) rfl (put32_any _ x hx) rfl ?_
  intro w2 P cP hP
  have y2 := hw1.trans' hP.ext
  have lP := putL_length x 4
  repeat (first
      | refine OW_moveV (.int _ _) rfl ?_
      | refine OW_moveV (.slice _ _ _) rfl ?_
      | refine OW_moveV (.bool _) rfl ?_
      | refine OW_moveV (.pointer _) rfl ?_
      | refine OW_moveV (.string _) rfl ?_
      | refine OW_moveV (.agg _) rfl ?_
      | refine OW_moveV (.tuple _) rfl ?_
      | refine OW_nil ?_
      | refine thenE_normal ?_
      | refine CW_seq ?_
      | refine CW_region (by kernel_rfl) ?_
      | refine OW_assignV (.int _ _) rfl ?_
      | refine OW_assignV (.slice _ _ _) rfl ?_
      | refine OW_assignV (.bool _) rfl ?_
      | refine OW_assignV (.pointer _) rfl ?_
      | refine OW_assignV (.string _) rfl ?_
      | refine OW_assignV (.agg _) rfl ?_
      | refine OW_assignV (.tuple _) rfl ?_
      | refine OW_addI rfl rfl (by omega) ?_
      | refine OW_subI rfl rfl (by omega) ?_
      | refine OW_mulI rfl rfl (by omega) ?_
      | refine OW_lss rfl rfl ?_
      | refine OW_extract rfl rfl ?_
      | refine OW_gtr rfl rfl ?_
      | refine OW_leq rfl rfl ?_
      | refine OW_geq rfl rfl ?_
      | refine OW_eql rfl rfl ?_
      | refine OW_neq rfl rfl ?_
      | refine OW_not rfl ?_
      | refine OW_pickT rfl _ rfl ?_
      | refine OW_pickF rfl (.bool _) rfl ?_
      | refine OW_pickB rfl rfl rfl ?_
      | refine OW_move ?_
      | refine OW_assign ?_
      | refine OW_pass rfl ?_
      | refine OW_take rfl ?_
      | refine OW_lenS (by first | with_reducible exact und_bytes | with_reducible exact und_bytess) rfl ?_
      | refine OW_convInt (by first | with_reducible exact und_u8 | with_reducible exact und_u64 | with_reducible exact und_int | with_reducible exact und_u32) (by first | with_reducible exact und_u8 | with_reducible exact und_u64 | with_reducible exact und_int | with_reducible exact und_u32) rfl ?_
      | refine OW_add rfl rfl ?_
      | refine OW_sub rfl rfl ?_
      | refine OW_mul rfl rfl ?_
      | refine OW_min2 rfl rfl ?_
      | refine OW_max2 rfl rfl ?_
      | refine OW_neg rfl ?_
      | refine CW_block ?_
      | refine CW_condT rfl ?_
      | refine CW_condF rfl ?_
      | refine CW_exit ?_
      | refine CW_ret ?_
      | refine CW_skip ?_
      | refine thenE_exit ?_
      | refine thenE_ret ?_
      | refine inBlockE_normal ?_
      | refine inBlockE_same ?_
      | refine inBlockE_ret ?_
      | refine inBlockE_ne (by rfl) ?_
      | refine OW_eqlB (by with_reducible exact und_bool) rfl rfl ?_
      | refine OW_neqB (by with_reducible exact und_bool) rfl rfl ?_
      | refine OW_idxS (by with_reducible exact und_bytes) one_u8 rfl rfl _ rfl (by omega) ?_
      | refine OW_idxS (by with_reducible exact und_bytess) one_bytes rfl rfl _ rfl (by omega) ?_
      | refine OW_load1 (by first | with_reducible exact one_u8 | with_reducible exact one_bytes) rfl _ (by assumption) ?_)
  refine OW_callBs Try.func16 (by kernel_rfl) rfl (put64_any _ y hy) rfl ?_
  intro w3 R cR hR
  have y3 := y2.trans' hR.ext
  have lR := putL_length y 8
  repeat (first
      | refine OW_moveV (.int _ _) rfl ?_
      | refine OW_moveV (.slice _ _ _) rfl ?_
      | refine OW_moveV (.bool _) rfl ?_
      | refine OW_moveV (.pointer _) rfl ?_
      | refine OW_moveV (.string _) rfl ?_
      | refine OW_moveV (.agg _) rfl ?_
      | refine OW_moveV (.tuple _) rfl ?_
      | refine OW_nil ?_
      | refine thenE_normal ?_
      | refine CW_seq ?_
      | refine CW_region (by kernel_rfl) ?_
      | refine OW_assignV (.int _ _) rfl ?_
      | refine OW_assignV (.slice _ _ _) rfl ?_
      | refine OW_assignV (.bool _) rfl ?_
      | refine OW_assignV (.pointer _) rfl ?_
      | refine OW_assignV (.string _) rfl ?_
      | refine OW_assignV (.agg _) rfl ?_
      | refine OW_assignV (.tuple _) rfl ?_
      | refine OW_addI rfl rfl (by omega) ?_
      | refine OW_subI rfl rfl (by omega) ?_
      | refine OW_mulI rfl rfl (by omega) ?_
      | refine OW_lss rfl rfl ?_
      | refine OW_extract rfl rfl ?_
      | refine OW_gtr rfl rfl ?_
      | refine OW_leq rfl rfl ?_
      | refine OW_geq rfl rfl ?_
      | refine OW_eql rfl rfl ?_
      | refine OW_neq rfl rfl ?_
      | refine OW_not rfl ?_
      | refine OW_pickT rfl _ rfl ?_
      | refine OW_pickF rfl (.bool _) rfl ?_
      | refine OW_pickB rfl rfl rfl ?_
      | refine OW_move ?_
      | refine OW_assign ?_
      | refine OW_pass rfl ?_
      | refine OW_take rfl ?_
      | refine OW_lenS (by first | with_reducible exact und_bytes | with_reducible exact und_bytess) rfl ?_
      | refine OW_convInt (by first | with_reducible exact und_u8 | with_reducible exact und_u64 | with_reducible exact und_int | with_reducible exact und_u32) (by first | with_reducible exact und_u8 | with_reducible exact und_u64 | with_reducible exact und_int | with_reducible exact und_u32) rfl ?_
      | refine OW_add rfl rfl ?_
      | refine OW_sub rfl rfl ?_
      | refine OW_mul rfl rfl ?_
      | refine OW_min2 rfl rfl ?_
      | refine OW_max2 rfl rfl ?_
      | refine OW_neg rfl ?_
      | refine CW_block ?_
      | refine CW_condT rfl ?_
      | refine CW_condF rfl ?_
      | refine CW_exit ?_
      | refine CW_ret ?_
      | refine CW_skip ?_
      | refine thenE_exit ?_
      | refine thenE_ret ?_
      | refine inBlockE_normal ?_
      | refine inBlockE_same ?_
      | refine inBlockE_ret ?_
      | refine inBlockE_ne (by rfl) ?_
      | refine OW_eqlB (by with_reducible exact und_bool) rfl rfl ?_
      | refine OW_neqB (by with_reducible exact und_bool) rfl rfl ?_
      | refine OW_idxS (by with_reducible exact und_bytes) one_u8 rfl rfl _ rfl (by omega) ?_
      | refine OW_idxS (by with_reducible exact und_bytess) one_bytes rfl rfl _ rfl (by omega) ?_
      | refine OW_load1 (by first | with_reducible exact one_u8 | with_reducible exact one_bytes) rfl _ (by assumption) ?_)
  refine OW_lit [.slice A a.length c, .slice P (putL x 4).length cP, .slice R (putL y 8).length cR] und_bytess info_bytes rfl rfl (by simp [Value.oneCell']) (by decide) ?_
  intro w4 g4 hb4 hg4 hw4
  have y4 := y3.trans' hw4
  repeat (first
      | refine OW_moveV (.int _ _) rfl ?_
      | refine OW_moveV (.slice _ _ _) rfl ?_
      | refine OW_moveV (.bool _) rfl ?_
      | refine OW_moveV (.pointer _) rfl ?_
      | refine OW_moveV (.string _) rfl ?_
      | refine OW_moveV (.agg _) rfl ?_
      | refine OW_moveV (.tuple _) rfl ?_
      | refine OW_nil ?_
      | refine thenE_normal ?_
      | refine CW_seq ?_
      | refine CW_region (by kernel_rfl) ?_
      | refine OW_assignV (.int _ _) rfl ?_
      | refine OW_assignV (.slice _ _ _) rfl ?_
      | refine OW_assignV (.bool _) rfl ?_
      | refine OW_assignV (.pointer _) rfl ?_
      | refine OW_assignV (.string _) rfl ?_
      | refine OW_assignV (.agg _) rfl ?_
      | refine OW_assignV (.tuple _) rfl ?_
      | refine OW_addI rfl rfl (by omega) ?_
      | refine OW_subI rfl rfl (by omega) ?_
      | refine OW_mulI rfl rfl (by omega) ?_
      | refine OW_lss rfl rfl ?_
      | refine OW_extract rfl rfl ?_
      | refine OW_gtr rfl rfl ?_
      | refine OW_leq rfl rfl ?_
      | refine OW_geq rfl rfl ?_
      | refine OW_eql rfl rfl ?_
      | refine OW_neq rfl rfl ?_
      | refine OW_not rfl ?_
      | refine OW_pickT rfl _ rfl ?_
      | refine OW_pickF rfl (.bool _) rfl ?_
      | refine OW_pickB rfl rfl rfl ?_
      | refine OW_move ?_
      | refine OW_assign ?_
      | refine OW_pass rfl ?_
      | refine OW_take rfl ?_
      | refine OW_lenS (by first | with_reducible exact und_bytes | with_reducible exact und_bytess) rfl ?_
      | refine OW_convInt (by first | with_reducible exact und_u8 | with_reducible exact und_u64 | with_reducible exact und_int | with_reducible exact und_u32) (by first | with_reducible exact und_u8 | with_reducible exact und_u64 | with_reducible exact und_int | with_reducible exact und_u32) rfl ?_
      | refine OW_add rfl rfl ?_
      | refine OW_sub rfl rfl ?_
      | refine OW_mul rfl rfl ?_
      | refine OW_min2 rfl rfl ?_
      | refine OW_max2 rfl rfl ?_
      | refine OW_neg rfl ?_
      | refine CW_block ?_
      | refine CW_condT rfl ?_
      | refine CW_condF rfl ?_
      | refine CW_exit ?_
      | refine CW_ret ?_
      | refine CW_skip ?_
      | refine thenE_exit ?_
      | refine thenE_ret ?_
      | refine inBlockE_normal ?_
      | refine inBlockE_same ?_
      | refine inBlockE_ret ?_
      | refine inBlockE_ne (by rfl) ?_
      | refine OW_eqlB (by with_reducible exact und_bool) rfl rfl ?_
      | refine OW_neqB (by with_reducible exact und_bool) rfl rfl ?_
      | refine OW_idxS (by with_reducible exact und_bytes) one_u8 rfl rfl _ rfl (by omega) ?_
      | refine OW_idxS (by with_reducible exact und_bytess) one_bytes rfl rfl _ rfl (by omega) ?_
      | refine OW_load1 (by first | with_reducible exact one_u8 | with_reducible exact one_bytes) rfl _ (by assumption) ?_)
  refine OW_callBs Try.func23 (by kernel_rfl) rfl (cat_any w4 (some ⟨g4, 0, none⟩) 3 [(A, c, a), (P, cP, putL x 4), (R, cR, putL y 8)] (by simpa [sv] using hb4.rd) (by simp; exact ⟨ha.ext y4, hP.bs.ext (hR.ext.trans' hw4), hR.bs.ext hw4⟩) (by simp) (by simp [flat, putL_length]; omega)) rfl ?_
  intro w5 B cB hB
  rw [show flat [((A, c, a) : BV), (P, cP, putL x 4), (R, cR, putL y 8)] = a ++ (putL x 4 ++ putL y 8) by simp [flat]] at hB ⊢
  have y5 := y4.trans' hB.ext
  have d1 : ((a ++ (putL x 4 ++ putL y 8)).drop a.length).take 4 = putL x 4 := by
    rw [List.drop_left, List.take_append_of_le_length (by omega), List.take_of_length_le (by omega)]
  have d2 : (a ++ (putL x 4 ++ putL y 8)).drop (a.length + 4) = putL y 8 := by
    rw [← List.append_assoc, List.drop_append_of_le_length (by rw [List.length_append]; omega), List.drop_eq_nil_of_le (by rw [List.length_append]; omega), List.nil_append]
  have lb : (a ++ (putL x 4 ++ putL y 8)).length = a.length + 12 := by rw [List.length_append, List.length_append]; omega
  have v1 : ldL (a ++ (putL x 4 ++ putL y 8)) (a.length : Int) 4 = some x := by
    unfold ldL
    rw [if_pos (by rw [lb, Int.toNat_natCast]; omega), Int.toNat_natCast, d1, load_put 4 x hx]
  have v2 : ldL (a ++ (putL x 4 ++ putL y 8)) ((a.length : Int) + 4) 8 = some y := by
    unfold ldL
    rw [show ((a.length : Int) + 4).toNat = a.length + 4 by omega, if_pos (by rw [lb]; omega), d2, List.take_of_length_le (by omega), load_put 8 y hy]
  have v3 : ldL (a ++ (putL x 4 ++ putL y 8)) ((a.length : Int) + 5) 8 = none := by
    unfold ldL
    rw [if_neg (by rw [lb]; omega)]
  have bB := hB.bs
  have kB := hB.cap
  generalize hb : a ++ (putL x 4 ++ putL y 8) = b at *
  have hne : (((b.length : Nat) : Int) != (a.length : Int) + 12) = false := by rw [lb]; simp
  repeat (first
      | refine OW_moveV (.int _ _) rfl ?_
      | refine OW_moveV (.slice _ _ _) rfl ?_
      | refine OW_moveV (.bool _) rfl ?_
      | refine OW_moveV (.pointer _) rfl ?_
      | refine OW_moveV (.string _) rfl ?_
      | refine OW_moveV (.agg _) rfl ?_
      | refine OW_moveV (.tuple _) rfl ?_
      | refine OW_nil ?_
      | refine thenE_normal ?_
      | refine CW_seq ?_
      | refine CW_region (by kernel_rfl) ?_
      | refine OW_assignV (.int _ _) rfl ?_
      | refine OW_assignV (.slice _ _ _) rfl ?_
      | refine OW_assignV (.bool _) rfl ?_
      | refine OW_assignV (.pointer _) rfl ?_
      | refine OW_assignV (.string _) rfl ?_
      | refine OW_assignV (.agg _) rfl ?_
      | refine OW_assignV (.tuple _) rfl ?_
      | refine OW_addI rfl rfl (by omega) ?_
      | refine OW_subI rfl rfl (by omega) ?_
      | refine OW_mulI rfl rfl (by omega) ?_
      | refine OW_lss rfl rfl ?_
      | refine OW_extract rfl rfl ?_
      | refine OW_gtr rfl rfl ?_
      | refine OW_leq rfl rfl ?_
      | refine OW_geq rfl rfl ?_
      | refine OW_eql rfl rfl ?_
      | refine OW_neq rfl rfl ?_
      | refine OW_not rfl ?_
      | refine OW_pickT rfl _ rfl ?_
      | refine OW_pickF rfl (.bool _) rfl ?_
      | refine OW_pickB rfl rfl rfl ?_
      | refine OW_move ?_
      | refine OW_assign ?_
      | refine OW_pass rfl ?_
      | refine OW_take rfl ?_
      | refine OW_lenS (by first | with_reducible exact und_bytes | with_reducible exact und_bytess) rfl ?_
      | refine OW_convInt (by first | with_reducible exact und_u8 | with_reducible exact und_u64 | with_reducible exact und_int | with_reducible exact und_u32) (by first | with_reducible exact und_u8 | with_reducible exact und_u64 | with_reducible exact und_int | with_reducible exact und_u32) rfl ?_
      | refine OW_add rfl rfl ?_
      | refine OW_sub rfl rfl ?_
      | refine OW_mul rfl rfl ?_
      | refine OW_min2 rfl rfl ?_
      | refine OW_max2 rfl rfl ?_
      | refine OW_neg rfl ?_
      | refine CW_block ?_
      | refine CW_condT rfl ?_
      | refine CW_condF rfl ?_
      | refine CW_exit ?_
      | refine CW_ret ?_
      | refine CW_skip ?_
      | refine thenE_exit ?_
      | refine thenE_ret ?_
      | refine inBlockE_normal ?_
      | refine inBlockE_same ?_
      | refine inBlockE_ret ?_
      | refine inBlockE_ne (by rfl) ?_
      | refine OW_eqlB (by with_reducible exact und_bool) rfl rfl ?_
      | refine OW_neqB (by with_reducible exact und_bool) rfl rfl ?_
      | refine OW_idxS (by with_reducible exact und_bytes) one_u8 rfl rfl _ rfl (by omega) ?_
      | refine OW_idxS (by with_reducible exact und_bytess) one_bytes rfl rfl _ rfl (by omega) ?_
      | refine OW_load1 (by first | with_reducible exact one_u8 | with_reducible exact one_bytes) rfl _ (by assumption) ?_)
  rw [hne]
  repeat (first
      | refine OW_moveV (.int _ _) rfl ?_
      | refine OW_moveV (.slice _ _ _) rfl ?_
      | refine OW_moveV (.bool _) rfl ?_
      | refine OW_moveV (.pointer _) rfl ?_
      | refine OW_moveV (.string _) rfl ?_
      | refine OW_moveV (.agg _) rfl ?_
      | refine OW_moveV (.tuple _) rfl ?_
      | refine OW_nil ?_
      | refine thenE_normal ?_
      | refine CW_seq ?_
      | refine CW_region (by kernel_rfl) ?_
      | refine OW_assignV (.int _ _) rfl ?_
      | refine OW_assignV (.slice _ _ _) rfl ?_
      | refine OW_assignV (.bool _) rfl ?_
      | refine OW_assignV (.pointer _) rfl ?_
      | refine OW_assignV (.string _) rfl ?_
      | refine OW_assignV (.agg _) rfl ?_
      | refine OW_assignV (.tuple _) rfl ?_
      | refine OW_addI rfl rfl (by omega) ?_
      | refine OW_subI rfl rfl (by omega) ?_
      | refine OW_mulI rfl rfl (by omega) ?_
      | refine OW_lss rfl rfl ?_
      | refine OW_extract rfl rfl ?_
      | refine OW_gtr rfl rfl ?_
      | refine OW_leq rfl rfl ?_
      | refine OW_geq rfl rfl ?_
      | refine OW_eql rfl rfl ?_
      | refine OW_neq rfl rfl ?_
      | refine OW_not rfl ?_
      | refine OW_pickT rfl _ rfl ?_
      | refine OW_pickF rfl (.bool _) rfl ?_
      | refine OW_pickB rfl rfl rfl ?_
      | refine OW_move ?_
      | refine OW_assign ?_
      | refine OW_pass rfl ?_
      | refine OW_take rfl ?_
      | refine OW_lenS (by first | with_reducible exact und_bytes | with_reducible exact und_bytess) rfl ?_
      | refine OW_convInt (by first | with_reducible exact und_u8 | with_reducible exact und_u64 | with_reducible exact und_int | with_reducible exact und_u32) (by first | with_reducible exact und_u8 | with_reducible exact und_u64 | with_reducible exact und_int | with_reducible exact und_u32) rfl ?_
      | refine OW_add rfl rfl ?_
      | refine OW_sub rfl rfl ?_
      | refine OW_mul rfl rfl ?_
      | refine OW_min2 rfl rfl ?_
      | refine OW_max2 rfl rfl ?_
      | refine OW_neg rfl ?_
      | refine CW_block ?_
      | refine CW_condT rfl ?_
      | refine CW_condF rfl ?_
      | refine CW_exit ?_
      | refine CW_ret ?_
      | refine CW_skip ?_
      | refine thenE_exit ?_
      | refine thenE_ret ?_
      | refine inBlockE_normal ?_
      | refine inBlockE_same ?_
      | refine inBlockE_ret ?_
      | refine inBlockE_ne (by rfl) ?_
      | refine OW_eqlB (by with_reducible exact und_bool) rfl rfl ?_
      | refine OW_neqB (by with_reducible exact und_bool) rfl rfl ?_
      | refine OW_idxS (by with_reducible exact und_bytes) one_u8 rfl rfl _ rfl (by omega) ?_
      | refine OW_idxS (by with_reducible exact und_bytess) one_bytes rfl rfl _ rfl (by omega) ?_
      | refine OW_load1 (by first | with_reducible exact one_u8 | with_reducible exact one_bytes) rfl _ (by assumption) ?_)
  refine OW_callV Try.func20 (by kernel_rfl) rfl (load32_any _ B b cB a.length bB kB (by omega) (by omega)) rfl ?_
  intro w6 hw6
  rw [show ldV b (a.length : Int) 4 = x by rw [ldV, v1]; rfl, show ldB b (a.length : Int) 4 = true by rw [ldB, v1]; rfl]
  have y6 := y5.trans' hw6
  repeat (first
      | refine OW_moveV (.int _ _) rfl ?_
      | refine OW_moveV (.slice _ _ _) rfl ?_
      | refine OW_moveV (.bool _) rfl ?_
      | refine OW_moveV (.pointer _) rfl ?_
      | refine OW_moveV (.string _) rfl ?_
      | refine OW_moveV (.agg _) rfl ?_
      | refine OW_moveV (.tuple _) rfl ?_
      | refine OW_nil ?_
      | refine thenE_normal ?_
      | refine CW_seq ?_
      | refine CW_region (by kernel_rfl) ?_
      | refine OW_assignV (.int _ _) rfl ?_
      | refine OW_assignV (.slice _ _ _) rfl ?_
      | refine OW_assignV (.bool _) rfl ?_
      | refine OW_assignV (.pointer _) rfl ?_
      | refine OW_assignV (.string _) rfl ?_
      | refine OW_assignV (.agg _) rfl ?_
      | refine OW_assignV (.tuple _) rfl ?_
      | refine OW_addI rfl rfl (by omega) ?_
      | refine OW_subI rfl rfl (by omega) ?_
      | refine OW_mulI rfl rfl (by omega) ?_
      | refine OW_lss rfl rfl ?_
      | refine OW_extract rfl rfl ?_
      | refine OW_gtr rfl rfl ?_
      | refine OW_leq rfl rfl ?_
      | refine OW_geq rfl rfl ?_
      | refine OW_eql rfl rfl ?_
      | refine OW_neq rfl rfl ?_
      | refine OW_not rfl ?_
      | refine OW_pickT rfl _ rfl ?_
      | refine OW_pickF rfl (.bool _) rfl ?_
      | refine OW_pickB rfl rfl rfl ?_
      | refine OW_move ?_
      | refine OW_assign ?_
      | refine OW_pass rfl ?_
      | refine OW_take rfl ?_
      | refine OW_lenS (by first | with_reducible exact und_bytes | with_reducible exact und_bytess) rfl ?_
      | refine OW_convInt (by first | with_reducible exact und_u8 | with_reducible exact und_u64 | with_reducible exact und_int | with_reducible exact und_u32) (by first | with_reducible exact und_u8 | with_reducible exact und_u64 | with_reducible exact und_int | with_reducible exact und_u32) rfl ?_
      | refine OW_add rfl rfl ?_
      | refine OW_sub rfl rfl ?_
      | refine OW_mul rfl rfl ?_
      | refine OW_min2 rfl rfl ?_
      | refine OW_max2 rfl rfl ?_
      | refine OW_neg rfl ?_
      | refine CW_block ?_
      | refine CW_condT rfl ?_
      | refine CW_condF rfl ?_
      | refine CW_exit ?_
      | refine CW_ret ?_
      | refine CW_skip ?_
      | refine thenE_exit ?_
      | refine thenE_ret ?_
      | refine inBlockE_normal ?_
      | refine inBlockE_same ?_
      | refine inBlockE_ret ?_
      | refine inBlockE_ne (by rfl) ?_
      | refine OW_eqlB (by with_reducible exact und_bool) rfl rfl ?_
      | refine OW_neqB (by with_reducible exact und_bool) rfl rfl ?_
      | refine OW_idxS (by with_reducible exact und_bytes) one_u8 rfl rfl _ rfl (by omega) ?_
      | refine OW_idxS (by with_reducible exact und_bytess) one_bytes rfl rfl _ rfl (by omega) ?_
      | refine OW_load1 (by first | with_reducible exact one_u8 | with_reducible exact one_bytes) rfl _ (by assumption) ?_)
  refine OW_callV Try.func21 (by kernel_rfl) rfl (load64_any _ B b cB ((a.length : Int) + 4) (bB.ext hw6) kB (by omega) (by omega)) rfl ?_
  intro w7 hw7
  rw [show ldV b ((a.length : Int) + 4) 8 = y by rw [ldV, v2]; rfl, show ldB b ((a.length : Int) + 4) 8 = true by rw [ldB, v2]; rfl]
  have y7 := y6.trans' hw7
  repeat (first
      | refine OW_moveV (.int _ _) rfl ?_
      | refine OW_moveV (.slice _ _ _) rfl ?_
      | refine OW_moveV (.bool _) rfl ?_
      | refine OW_moveV (.pointer _) rfl ?_
      | refine OW_moveV (.string _) rfl ?_
      | refine OW_moveV (.agg _) rfl ?_
      | refine OW_moveV (.tuple _) rfl ?_
      | refine OW_nil ?_
      | refine thenE_normal ?_
      | refine CW_seq ?_
      | refine CW_region (by kernel_rfl) ?_
      | refine OW_assignV (.int _ _) rfl ?_
      | refine OW_assignV (.slice _ _ _) rfl ?_
      | refine OW_assignV (.bool _) rfl ?_
      | refine OW_assignV (.pointer _) rfl ?_
      | refine OW_assignV (.string _) rfl ?_
      | refine OW_assignV (.agg _) rfl ?_
      | refine OW_assignV (.tuple _) rfl ?_
      | refine OW_addI rfl rfl (by omega) ?_
      | refine OW_subI rfl rfl (by omega) ?_
      | refine OW_mulI rfl rfl (by omega) ?_
      | refine OW_lss rfl rfl ?_
      | refine OW_extract rfl rfl ?_
      | refine OW_gtr rfl rfl ?_
      | refine OW_leq rfl rfl ?_
      | refine OW_geq rfl rfl ?_
      | refine OW_eql rfl rfl ?_
      | refine OW_neq rfl rfl ?_
      | refine OW_not rfl ?_
      | refine OW_pickT rfl _ rfl ?_
      | refine OW_pickF rfl (.bool _) rfl ?_
      | refine OW_pickB rfl rfl rfl ?_
      | refine OW_move ?_
      | refine OW_assign ?_
      | refine OW_pass rfl ?_
      | refine OW_take rfl ?_
      | refine OW_lenS (by first | with_reducible exact und_bytes | with_reducible exact und_bytess) rfl ?_
      | refine OW_convInt (by first | with_reducible exact und_u8 | with_reducible exact und_u64 | with_reducible exact und_int | with_reducible exact und_u32) (by first | with_reducible exact und_u8 | with_reducible exact und_u64 | with_reducible exact und_int | with_reducible exact und_u32) rfl ?_
      | refine OW_add rfl rfl ?_
      | refine OW_sub rfl rfl ?_
      | refine OW_mul rfl rfl ?_
      | refine OW_min2 rfl rfl ?_
      | refine OW_max2 rfl rfl ?_
      | refine OW_neg rfl ?_
      | refine CW_block ?_
      | refine CW_condT rfl ?_
      | refine CW_condF rfl ?_
      | refine CW_exit ?_
      | refine CW_ret ?_
      | refine CW_skip ?_
      | refine thenE_exit ?_
      | refine thenE_ret ?_
      | refine inBlockE_normal ?_
      | refine inBlockE_same ?_
      | refine inBlockE_ret ?_
      | refine inBlockE_ne (by rfl) ?_
      | refine OW_eqlB (by with_reducible exact und_bool) rfl rfl ?_
      | refine OW_neqB (by with_reducible exact und_bool) rfl rfl ?_
      | refine OW_idxS (by with_reducible exact und_bytes) one_u8 rfl rfl _ rfl (by omega) ?_
      | refine OW_idxS (by with_reducible exact und_bytess) one_bytes rfl rfl _ rfl (by omega) ?_
      | refine OW_load1 (by first | with_reducible exact one_u8 | with_reducible exact one_bytes) rfl _ (by assumption) ?_)
  refine OW_callV Try.func21 (by kernel_rfl) rfl (load64_any _ B b cB ((a.length : Int) + 5) (bB.ext (hw6.trans' hw7)) kB (by omega) (by omega)) rfl ?_
  intro w8 hw8
  rw [show ldV b ((a.length : Int) + 5) 8 = 0 by rw [ldV, v3]; rfl, show ldB b ((a.length : Int) + 5) 8 = false by rw [ldB, v3]; rfl]
  have y8 := y7.trans' hw8
  clear hw1
  have bB8 := bB.ext ((hw6.trans' hw7).trans' hw8)
  repeat (first
      | refine OW_moveV (.int _ _) rfl ?_
      | refine OW_moveV (.slice _ _ _) rfl ?_
      | refine OW_moveV (.bool _) rfl ?_
      | refine OW_moveV (.pointer _) rfl ?_
      | refine OW_moveV (.string _) rfl ?_
      | refine OW_moveV (.agg _) rfl ?_
      | refine OW_moveV (.tuple _) rfl ?_
      | refine OW_nil ?_
      | refine thenE_normal ?_
      | refine CW_seq ?_
      | refine CW_region (by kernel_rfl) ?_
      | refine OW_assignV (.int _ _) rfl ?_
      | refine OW_assignV (.slice _ _ _) rfl ?_
      | refine OW_assignV (.bool _) rfl ?_
      | refine OW_assignV (.pointer _) rfl ?_
      | refine OW_assignV (.string _) rfl ?_
      | refine OW_assignV (.agg _) rfl ?_
      | refine OW_assignV (.tuple _) rfl ?_
      | refine OW_addI rfl rfl (by omega) ?_
      | refine OW_subI rfl rfl (by omega) ?_
      | refine OW_mulI rfl rfl (by omega) ?_
      | refine OW_lss rfl rfl ?_
      | refine OW_extract rfl rfl ?_
      | refine OW_gtr rfl rfl ?_
      | refine OW_leq rfl rfl ?_
      | refine OW_geq rfl rfl ?_
      | refine OW_eql rfl rfl ?_
      | refine OW_neq rfl rfl ?_
      | refine OW_not rfl ?_
      | refine OW_pickT rfl _ rfl ?_
      | refine OW_pickF rfl (.bool _) rfl ?_
      | refine OW_pickB rfl rfl rfl ?_
      | refine OW_move ?_
      | refine OW_assign ?_
      | refine OW_pass rfl ?_
      | refine OW_take rfl ?_
      | refine OW_lenS (by first | with_reducible exact und_bytes | with_reducible exact und_bytess) rfl ?_
      | refine OW_convInt (by first | with_reducible exact und_u8 | with_reducible exact und_u64 | with_reducible exact und_int | with_reducible exact und_u32) (by first | with_reducible exact und_u8 | with_reducible exact und_u64 | with_reducible exact und_int | with_reducible exact und_u32) rfl ?_
      | refine OW_add rfl rfl ?_
      | refine OW_sub rfl rfl ?_
      | refine OW_mul rfl rfl ?_
      | refine OW_min2 rfl rfl ?_
      | refine OW_max2 rfl rfl ?_
      | refine OW_neg rfl ?_
      | refine CW_block ?_
      | refine CW_condT rfl ?_
      | refine CW_condF rfl ?_
      | refine CW_exit ?_
      | refine CW_ret ?_
      | refine CW_skip ?_
      | refine thenE_exit ?_
      | refine thenE_ret ?_
      | refine inBlockE_normal ?_
      | refine inBlockE_same ?_
      | refine inBlockE_ret ?_
      | refine inBlockE_ne (by rfl) ?_
      | refine OW_eqlB (by with_reducible exact und_bool) rfl rfl ?_
      | refine OW_neqB (by with_reducible exact und_bool) rfl rfl ?_
      | refine OW_idxS (by with_reducible exact und_bytes) one_u8 rfl rfl _ rfl (by omega) ?_
      | refine OW_idxS (by with_reducible exact und_bytess) one_bytes rfl rfl _ rfl (by omega) ?_
      | refine OW_load1 (by first | with_reducible exact one_u8 | with_reducible exact one_bytes) rfl _ (by assumption) ?_)
  apply CW_any [vF _, vF _, vF _, vF _, vF _, vF _, vF _, vF _, vF _, vF _, vF _, vF (.bool true), vF _, vF _, vF _, vF _, vF (.bool true), vF _, vF _, vF _, bF (putL x 4), vF _, vF _, vF _, vF _, bF (putL x 4), vF (.bool true), vF _, vF _, vF _, bF (putL y 8), vF _, vF _, vF _, bF (putL y 8), vF (.bool true), vF _, vF _]
  case hm => kernel_rfl
  case hac => kernel_rfl
  case hd => kernel_rfl
  case hnd => kernel_rfl
  case hops =>
    refine ⟨?_, ?_⟩
    · refine Obl_of (fun e1 w1 hk => ?_)
      rw [upd_self (hk.out 10 rfl)]
      (first
       | refine OW_moveV (.int _ _) rfl ?_
       | refine OW_moveV (.slice _ _ _) rfl ?_
       | refine OW_moveV (.bool _) rfl ?_
       | refine OW_moveV (.pointer _) rfl ?_
       | refine OW_moveV (.string _) rfl ?_
       | refine OW_moveV (.agg _) rfl ?_
       | refine OW_moveV (.tuple _) rfl ?_
       | refine OW_nil ?_
       | refine thenE_normal ?_
       | refine CW_seq ?_
       | refine CW_region (by kernel_rfl) ?_
       | refine OW_assignV (.int _ _) rfl ?_
       | refine OW_assignV (.slice _ _ _) rfl ?_
       | refine OW_assignV (.bool _) rfl ?_
       | refine OW_assignV (.pointer _) rfl ?_
       | refine OW_assignV (.string _) rfl ?_
       | refine OW_assignV (.agg _) rfl ?_
       | refine OW_assignV (.tuple _) rfl ?_
       | refine OW_addI rfl rfl (by omega) ?_
       | refine OW_subI rfl rfl (by omega) ?_
       | refine OW_mulI rfl rfl (by omega) ?_
       | refine OW_lss rfl rfl ?_
       | refine OW_extract rfl rfl ?_
       | refine OW_gtr rfl rfl ?_
       | refine OW_leq rfl rfl ?_
       | refine OW_geq rfl rfl ?_
       | refine OW_eql rfl rfl ?_
       | refine OW_neq rfl rfl ?_
       | refine OW_not rfl ?_
       | refine OW_pickT rfl _ rfl ?_
       | refine OW_pickF rfl (.bool _) rfl ?_
       | refine OW_pickB rfl rfl rfl ?_
       | refine OW_move ?_
       | refine OW_assign ?_
       | refine OW_pass rfl ?_
       | refine OW_take rfl ?_
       | refine OW_lenS (by first | with_reducible exact und_bytes | with_reducible exact und_bytess) rfl ?_
       | refine OW_convInt (by first | with_reducible exact und_u8 | with_reducible exact und_u64 | with_reducible exact und_int | with_reducible exact und_u32) (by first | with_reducible exact und_u8 | with_reducible exact und_u64 | with_reducible exact und_int | with_reducible exact und_u32) rfl ?_
       | refine OW_add rfl rfl ?_
       | refine OW_sub rfl rfl ?_
       | refine OW_mul rfl rfl ?_
       | refine OW_min2 rfl rfl ?_
       | refine OW_max2 rfl rfl ?_
       | refine OW_neg rfl ?_
       | refine CW_block ?_
       | refine CW_condT rfl ?_
       | refine CW_condF rfl ?_
       | refine CW_exit ?_
       | refine CW_ret ?_
       | refine CW_skip ?_
       | refine thenE_exit ?_
       | refine thenE_ret ?_
       | refine inBlockE_normal ?_
       | refine inBlockE_same ?_
       | refine inBlockE_ret ?_
       | refine inBlockE_ne (by rfl) ?_
       | refine OW_eqlB (by with_reducible exact und_bool) rfl rfl ?_
       | refine OW_neqB (by with_reducible exact und_bool) rfl rfl ?_
       | refine OW_idxS (by with_reducible exact und_bytes) one_u8 rfl rfl _ rfl (by omega) ?_
       | refine OW_idxS (by with_reducible exact und_bytess) one_bytes rfl rfl _ rfl (by omega) ?_
       | refine OW_load1 (by first | with_reducible exact one_u8 | with_reducible exact one_bytes) rfl _ (by assumption) ?_
       | refine OW_load1 (by with_reducible exact one_u8) rfl _ (hk.ext.cell' (by assumption)) ?_)
      refine OW_nil ?_
      exact keepsF_mk _ _ _ _
    refine ⟨?_, ?_⟩
    · refine Obl_of (fun e1 w1 hk => ?_)
      rw [upd_self (hk.pre 0 54 rfl rfl : isV _ _ _)]
      (first
       | refine OW_moveV (.int _ _) rfl ?_
       | refine OW_moveV (.slice _ _ _) rfl ?_
       | refine OW_moveV (.bool _) rfl ?_
       | refine OW_moveV (.pointer _) rfl ?_
       | refine OW_moveV (.string _) rfl ?_
       | refine OW_moveV (.agg _) rfl ?_
       | refine OW_moveV (.tuple _) rfl ?_
       | refine OW_nil ?_
       | refine thenE_normal ?_
       | refine CW_seq ?_
       | refine CW_region (by kernel_rfl) ?_
       | refine OW_assignV (.int _ _) rfl ?_
       | refine OW_assignV (.slice _ _ _) rfl ?_
       | refine OW_assignV (.bool _) rfl ?_
       | refine OW_assignV (.pointer _) rfl ?_
       | refine OW_assignV (.string _) rfl ?_
       | refine OW_assignV (.agg _) rfl ?_
       | refine OW_assignV (.tuple _) rfl ?_
       | refine OW_addI rfl rfl (by omega) ?_
       | refine OW_subI rfl rfl (by omega) ?_
       | refine OW_mulI rfl rfl (by omega) ?_
       | refine OW_lss rfl rfl ?_
       | refine OW_extract rfl rfl ?_
       | refine OW_gtr rfl rfl ?_
       | refine OW_leq rfl rfl ?_
       | refine OW_geq rfl rfl ?_
       | refine OW_eql rfl rfl ?_
       | refine OW_neq rfl rfl ?_
       | refine OW_not rfl ?_
       | refine OW_pickT rfl _ rfl ?_
       | refine OW_pickF rfl (.bool _) rfl ?_
       | refine OW_pickB rfl rfl rfl ?_
       | refine OW_move ?_
       | refine OW_assign ?_
       | refine OW_pass rfl ?_
       | refine OW_take rfl ?_
       | refine OW_lenS (by first | with_reducible exact und_bytes | with_reducible exact und_bytess) rfl ?_
       | refine OW_convInt (by first | with_reducible exact und_u8 | with_reducible exact und_u64 | with_reducible exact und_int | with_reducible exact und_u32) (by first | with_reducible exact und_u8 | with_reducible exact und_u64 | with_reducible exact und_int | with_reducible exact und_u32) rfl ?_
       | refine OW_add rfl rfl ?_
       | refine OW_sub rfl rfl ?_
       | refine OW_mul rfl rfl ?_
       | refine OW_min2 rfl rfl ?_
       | refine OW_max2 rfl rfl ?_
       | refine OW_neg rfl ?_
       | refine CW_block ?_
       | refine CW_condT rfl ?_
       | refine CW_condF rfl ?_
       | refine CW_exit ?_
       | refine CW_ret ?_
       | refine CW_skip ?_
       | refine thenE_exit ?_
       | refine thenE_ret ?_
       | refine inBlockE_normal ?_
       | refine inBlockE_same ?_
       | refine inBlockE_ret ?_
       | refine inBlockE_ne (by rfl) ?_
       | refine OW_eqlB (by with_reducible exact und_bool) rfl rfl ?_
       | refine OW_neqB (by with_reducible exact und_bool) rfl rfl ?_
       | refine OW_idxS (by with_reducible exact und_bytes) one_u8 rfl rfl _ rfl (by omega) ?_
       | refine OW_idxS (by with_reducible exact und_bytess) one_bytes rfl rfl _ rfl (by omega) ?_
       | refine OW_load1 (by first | with_reducible exact one_u8 | with_reducible exact one_bytes) rfl _ (by assumption) ?_
       | refine OW_load1 (by with_reducible exact one_u8) rfl _ (hk.ext.cell' (by assumption)) ?_)
      refine OW_nil ?_
      exact keepsF_mk _ _ _ _
    refine ⟨?_, ?_⟩
    · refine Obl_take (fun e1 w1 hk => ?_) (fun e1 w1 hk => ?_)
      · rw [upd_self (hk.pre 1 55 rfl rfl : isV _ _ _)]
        rfl
      · rw [upd_self (hk.out 12 rfl)]
        (first
         | refine OW_moveV (.int _ _) rfl ?_
         | refine OW_moveV (.slice _ _ _) rfl ?_
         | refine OW_moveV (.bool _) rfl ?_
         | refine OW_moveV (.pointer _) rfl ?_
         | refine OW_moveV (.string _) rfl ?_
         | refine OW_moveV (.agg _) rfl ?_
         | refine OW_moveV (.tuple _) rfl ?_
         | refine OW_nil ?_
         | refine thenE_normal ?_
         | refine CW_seq ?_
         | refine CW_region (by kernel_rfl) ?_
         | refine OW_assignV (.int _ _) rfl ?_
         | refine OW_assignV (.slice _ _ _) rfl ?_
         | refine OW_assignV (.bool _) rfl ?_
         | refine OW_assignV (.pointer _) rfl ?_
         | refine OW_assignV (.string _) rfl ?_
         | refine OW_assignV (.agg _) rfl ?_
         | refine OW_assignV (.tuple _) rfl ?_
         | refine OW_addI rfl rfl (by omega) ?_
         | refine OW_subI rfl rfl (by omega) ?_
         | refine OW_mulI rfl rfl (by omega) ?_
         | refine OW_lss rfl rfl ?_
         | refine OW_extract rfl rfl ?_
         | refine OW_gtr rfl rfl ?_
         | refine OW_leq rfl rfl ?_
         | refine OW_geq rfl rfl ?_
         | refine OW_eql rfl rfl ?_
         | refine OW_neq rfl rfl ?_
         | refine OW_not rfl ?_
         | refine OW_pickT rfl _ rfl ?_
         | refine OW_pickF rfl (.bool _) rfl ?_
         | refine OW_pickB rfl rfl rfl ?_
         | refine OW_move ?_
         | refine OW_assign ?_
         | refine OW_pass rfl ?_
         | refine OW_take rfl ?_
         | refine OW_lenS (by first | with_reducible exact und_bytes | with_reducible exact und_bytess) rfl ?_
         | refine OW_convInt (by first | with_reducible exact und_u8 | with_reducible exact und_u64 | with_reducible exact und_int | with_reducible exact und_u32) (by first | with_reducible exact und_u8 | with_reducible exact und_u64 | with_reducible exact und_int | with_reducible exact und_u32) rfl ?_
         | refine OW_add rfl rfl ?_
         | refine OW_sub rfl rfl ?_
         | refine OW_mul rfl rfl ?_
         | refine OW_min2 rfl rfl ?_
         | refine OW_max2 rfl rfl ?_
         | refine OW_neg rfl ?_
         | refine CW_block ?_
         | refine CW_condT rfl ?_
         | refine CW_condF rfl ?_
         | refine CW_exit ?_
         | refine CW_ret ?_
         | refine CW_skip ?_
         | refine thenE_exit ?_
         | refine thenE_ret ?_
         | refine inBlockE_normal ?_
         | refine inBlockE_same ?_
         | refine inBlockE_ret ?_
         | refine inBlockE_ne (by rfl) ?_
         | refine OW_eqlB (by with_reducible exact und_bool) rfl rfl ?_
         | refine OW_neqB (by with_reducible exact und_bool) rfl rfl ?_
         | refine OW_idxS (by with_reducible exact und_bytes) one_u8 rfl rfl _ rfl (by omega) ?_
         | refine OW_idxS (by with_reducible exact und_bytess) one_bytes rfl rfl _ rfl (by omega) ?_
         | refine OW_load1 (by first | with_reducible exact one_u8 | with_reducible exact one_bytes) rfl _ (by assumption) ?_
         | refine OW_load1 (by with_reducible exact one_u8) rfl _ (hk.ext.cell' (by assumption)) ?_)
        refine OW_nil ?_
        exact keepsF_mk _ _ _ _
    refine ⟨?_, ?_⟩
    · refine Obl_of (fun e1 w1 hk => ?_)
      rw [upd_self (hk.pre 1 55 rfl rfl : isV _ _ _), upd_self (hk.pre 2 56 rfl rfl : isV _ _ _)]
      (first
       | refine OW_moveV (.int _ _) rfl ?_
       | refine OW_moveV (.slice _ _ _) rfl ?_
       | refine OW_moveV (.bool _) rfl ?_
       | refine OW_moveV (.pointer _) rfl ?_
       | refine OW_moveV (.string _) rfl ?_
       | refine OW_moveV (.agg _) rfl ?_
       | refine OW_moveV (.tuple _) rfl ?_
       | refine OW_nil ?_
       | refine thenE_normal ?_
       | refine CW_seq ?_
       | refine CW_region (by kernel_rfl) ?_
       | refine OW_assignV (.int _ _) rfl ?_
       | refine OW_assignV (.slice _ _ _) rfl ?_
       | refine OW_assignV (.bool _) rfl ?_
       | refine OW_assignV (.pointer _) rfl ?_
       | refine OW_assignV (.string _) rfl ?_
       | refine OW_assignV (.agg _) rfl ?_
       | refine OW_assignV (.tuple _) rfl ?_
       | refine OW_addI rfl rfl (by omega) ?_
       | refine OW_subI rfl rfl (by omega) ?_
       | refine OW_mulI rfl rfl (by omega) ?_
       | refine OW_lss rfl rfl ?_
       | refine OW_extract rfl rfl ?_
       | refine OW_gtr rfl rfl ?_
       | refine OW_leq rfl rfl ?_
       | refine OW_geq rfl rfl ?_
       | refine OW_eql rfl rfl ?_
       | refine OW_neq rfl rfl ?_
       | refine OW_not rfl ?_
       | refine OW_pickT rfl _ rfl ?_
       | refine OW_pickF rfl (.bool _) rfl ?_
       | refine OW_pickB rfl rfl rfl ?_
       | refine OW_move ?_
       | refine OW_assign ?_
       | refine OW_pass rfl ?_
       | refine OW_take rfl ?_
       | refine OW_lenS (by first | with_reducible exact und_bytes | with_reducible exact und_bytess) rfl ?_
       | refine OW_convInt (by first | with_reducible exact und_u8 | with_reducible exact und_u64 | with_reducible exact und_int | with_reducible exact und_u32) (by first | with_reducible exact und_u8 | with_reducible exact und_u64 | with_reducible exact und_int | with_reducible exact und_u32) rfl ?_
       | refine OW_add rfl rfl ?_
       | refine OW_sub rfl rfl ?_
       | refine OW_mul rfl rfl ?_
       | refine OW_min2 rfl rfl ?_
       | refine OW_max2 rfl rfl ?_
       | refine OW_neg rfl ?_
       | refine CW_block ?_
       | refine CW_condT rfl ?_
       | refine CW_condF rfl ?_
       | refine CW_exit ?_
       | refine CW_ret ?_
       | refine CW_skip ?_
       | refine thenE_exit ?_
       | refine thenE_ret ?_
       | refine inBlockE_normal ?_
       | refine inBlockE_same ?_
       | refine inBlockE_ret ?_
       | refine inBlockE_ne (by rfl) ?_
       | refine OW_eqlB (by with_reducible exact und_bool) rfl rfl ?_
       | refine OW_neqB (by with_reducible exact und_bool) rfl rfl ?_
       | refine OW_idxS (by with_reducible exact und_bytes) one_u8 rfl rfl _ rfl (by omega) ?_
       | refine OW_idxS (by with_reducible exact und_bytess) one_bytes rfl rfl _ rfl (by omega) ?_
       | refine OW_load1 (by first | with_reducible exact one_u8 | with_reducible exact one_bytes) rfl _ (by assumption) ?_
       | refine OW_load1 (by with_reducible exact one_u8) rfl _ (hk.ext.cell' (by assumption)) ?_)
      refine OW_nil ?_
      exact keepsF_mk _ _ _ _
    refine ⟨?_, ?_⟩
    · refine Obl_of (fun e1 w1 hk => ?_)
      rw [upd_self (hk.pre 3 57 rfl rfl : isV _ _ _)]
      (first
       | refine OW_moveV (.int _ _) rfl ?_
       | refine OW_moveV (.slice _ _ _) rfl ?_
       | refine OW_moveV (.bool _) rfl ?_
       | refine OW_moveV (.pointer _) rfl ?_
       | refine OW_moveV (.string _) rfl ?_
       | refine OW_moveV (.agg _) rfl ?_
       | refine OW_moveV (.tuple _) rfl ?_
       | refine OW_nil ?_
       | refine thenE_normal ?_
       | refine CW_seq ?_
       | refine CW_region (by kernel_rfl) ?_
       | refine OW_assignV (.int _ _) rfl ?_
       | refine OW_assignV (.slice _ _ _) rfl ?_
       | refine OW_assignV (.bool _) rfl ?_
       | refine OW_assignV (.pointer _) rfl ?_
       | refine OW_assignV (.string _) rfl ?_
       | refine OW_assignV (.agg _) rfl ?_
       | refine OW_assignV (.tuple _) rfl ?_
       | refine OW_addI rfl rfl (by omega) ?_
       | refine OW_subI rfl rfl (by omega) ?_
       | refine OW_mulI rfl rfl (by omega) ?_
       | refine OW_lss rfl rfl ?_
       | refine OW_extract rfl rfl ?_
       | refine OW_gtr rfl rfl ?_
       | refine OW_leq rfl rfl ?_
       | refine OW_geq rfl rfl ?_
       | refine OW_eql rfl rfl ?_
       | refine OW_neq rfl rfl ?_
       | refine OW_not rfl ?_
       | refine OW_pickT rfl _ rfl ?_
       | refine OW_pickF rfl (.bool _) rfl ?_
       | refine OW_pickB rfl rfl rfl ?_
       | refine OW_move ?_
       | refine OW_assign ?_
       | refine OW_pass rfl ?_
       | refine OW_take rfl ?_
       | refine OW_lenS (by first | with_reducible exact und_bytes | with_reducible exact und_bytess) rfl ?_
       | refine OW_convInt (by first | with_reducible exact und_u8 | with_reducible exact und_u64 | with_reducible exact und_int | with_reducible exact und_u32) (by first | with_reducible exact und_u8 | with_reducible exact und_u64 | with_reducible exact und_int | with_reducible exact und_u32) rfl ?_
       | refine OW_add rfl rfl ?_
       | refine OW_sub rfl rfl ?_
       | refine OW_mul rfl rfl ?_
       | refine OW_min2 rfl rfl ?_
       | refine OW_max2 rfl rfl ?_
       | refine OW_neg rfl ?_
       | refine CW_block ?_
       | refine CW_condT rfl ?_
       | refine CW_condF rfl ?_
       | refine CW_exit ?_
       | refine CW_ret ?_
       | refine CW_skip ?_
       | refine thenE_exit ?_
       | refine thenE_ret ?_
       | refine inBlockE_normal ?_
       | refine inBlockE_same ?_
       | refine inBlockE_ret ?_
       | refine inBlockE_ne (by rfl) ?_
       | refine OW_eqlB (by with_reducible exact und_bool) rfl rfl ?_
       | refine OW_neqB (by with_reducible exact und_bool) rfl rfl ?_
       | refine OW_idxS (by with_reducible exact und_bytes) one_u8 rfl rfl _ rfl (by omega) ?_
       | refine OW_idxS (by with_reducible exact und_bytess) one_bytes rfl rfl _ rfl (by omega) ?_
       | refine OW_load1 (by first | with_reducible exact one_u8 | with_reducible exact one_bytes) rfl _ (by assumption) ?_
       | refine OW_load1 (by with_reducible exact one_u8) rfl _ (hk.ext.cell' (by assumption)) ?_)
      refine OW_nil ?_
      exact keepsF_mk _ _ _ _
    refine ⟨?_, ?_⟩
    · refine Obl_take (fun e1 w1 hk => ?_) (fun e1 w1 hk => ?_)
      · rw [upd_self (hk.pre 4 58 rfl rfl : isV _ _ _)]
        rfl
      · rw [upd_self (hk.out 14 rfl)]
        (first
         | refine OW_moveV (.int _ _) rfl ?_
         | refine OW_moveV (.slice _ _ _) rfl ?_
         | refine OW_moveV (.bool _) rfl ?_
         | refine OW_moveV (.pointer _) rfl ?_
         | refine OW_moveV (.string _) rfl ?_
         | refine OW_moveV (.agg _) rfl ?_
         | refine OW_moveV (.tuple _) rfl ?_
         | refine OW_nil ?_
         | refine thenE_normal ?_
         | refine CW_seq ?_
         | refine CW_region (by kernel_rfl) ?_
         | refine OW_assignV (.int _ _) rfl ?_
         | refine OW_assignV (.slice _ _ _) rfl ?_
         | refine OW_assignV (.bool _) rfl ?_
         | refine OW_assignV (.pointer _) rfl ?_
         | refine OW_assignV (.string _) rfl ?_
         | refine OW_assignV (.agg _) rfl ?_
         | refine OW_assignV (.tuple _) rfl ?_
         | refine OW_addI rfl rfl (by omega) ?_
         | refine OW_subI rfl rfl (by omega) ?_
         | refine OW_mulI rfl rfl (by omega) ?_
         | refine OW_lss rfl rfl ?_
         | refine OW_extract rfl rfl ?_
         | refine OW_gtr rfl rfl ?_
         | refine OW_leq rfl rfl ?_
         | refine OW_geq rfl rfl ?_
         | refine OW_eql rfl rfl ?_
         | refine OW_neq rfl rfl ?_
         | refine OW_not rfl ?_
         | refine OW_pickT rfl _ rfl ?_
         | refine OW_pickF rfl (.bool _) rfl ?_
         | refine OW_pickB rfl rfl rfl ?_
         | refine OW_move ?_
         | refine OW_assign ?_
         | refine OW_pass rfl ?_
         | refine OW_take rfl ?_
         | refine OW_lenS (by first | with_reducible exact und_bytes | with_reducible exact und_bytess) rfl ?_
         | refine OW_convInt (by first | with_reducible exact und_u8 | with_reducible exact und_u64 | with_reducible exact und_int | with_reducible exact und_u32) (by first | with_reducible exact und_u8 | with_reducible exact und_u64 | with_reducible exact und_int | with_reducible exact und_u32) rfl ?_
         | refine OW_add rfl rfl ?_
         | refine OW_sub rfl rfl ?_
         | refine OW_mul rfl rfl ?_
         | refine OW_min2 rfl rfl ?_
         | refine OW_max2 rfl rfl ?_
         | refine OW_neg rfl ?_
         | refine CW_block ?_
         | refine CW_condT rfl ?_
         | refine CW_condF rfl ?_
         | refine CW_exit ?_
         | refine CW_ret ?_
         | refine CW_skip ?_
         | refine thenE_exit ?_
         | refine thenE_ret ?_
         | refine inBlockE_normal ?_
         | refine inBlockE_same ?_
         | refine inBlockE_ret ?_
         | refine inBlockE_ne (by rfl) ?_
         | refine OW_eqlB (by with_reducible exact und_bool) rfl rfl ?_
         | refine OW_neqB (by with_reducible exact und_bool) rfl rfl ?_
         | refine OW_idxS (by with_reducible exact und_bytes) one_u8 rfl rfl _ rfl (by omega) ?_
         | refine OW_idxS (by with_reducible exact und_bytess) one_bytes rfl rfl _ rfl (by omega) ?_
         | refine OW_load1 (by first | with_reducible exact one_u8 | with_reducible exact one_bytes) rfl _ (by assumption) ?_
         | refine OW_load1 (by with_reducible exact one_u8) rfl _ (hk.ext.cell' (by assumption)) ?_)
        refine OW_nil ?_
        exact keepsF_mk _ _ _ _
    refine ⟨?_, ?_⟩
    · refine Obl_take (fun e1 w1 hk => ?_) (fun e1 w1 hk => ?_)
      · rw [upd_self (hk.pre 4 58 rfl rfl : isV _ _ _)]
        rfl
      · rw [upd_self (hk.pre 5 59 rfl rfl : isV _ _ _)]
        (first
         | refine OW_moveV (.int _ _) rfl ?_
         | refine OW_moveV (.slice _ _ _) rfl ?_
         | refine OW_moveV (.bool _) rfl ?_
         | refine OW_moveV (.pointer _) rfl ?_
         | refine OW_moveV (.string _) rfl ?_
         | refine OW_moveV (.agg _) rfl ?_
         | refine OW_moveV (.tuple _) rfl ?_
         | refine OW_nil ?_
         | refine thenE_normal ?_
         | refine CW_seq ?_
         | refine CW_region (by kernel_rfl) ?_
         | refine OW_assignV (.int _ _) rfl ?_
         | refine OW_assignV (.slice _ _ _) rfl ?_
         | refine OW_assignV (.bool _) rfl ?_
         | refine OW_assignV (.pointer _) rfl ?_
         | refine OW_assignV (.string _) rfl ?_
         | refine OW_assignV (.agg _) rfl ?_
         | refine OW_assignV (.tuple _) rfl ?_
         | refine OW_addI rfl rfl (by omega) ?_
         | refine OW_subI rfl rfl (by omega) ?_
         | refine OW_mulI rfl rfl (by omega) ?_
         | refine OW_lss rfl rfl ?_
         | refine OW_extract rfl rfl ?_
         | refine OW_gtr rfl rfl ?_
         | refine OW_leq rfl rfl ?_
         | refine OW_geq rfl rfl ?_
         | refine OW_eql rfl rfl ?_
         | refine OW_neq rfl rfl ?_
         | refine OW_not rfl ?_
         | refine OW_pickT rfl _ rfl ?_
         | refine OW_pickF rfl (.bool _) rfl ?_
         | refine OW_pickB rfl rfl rfl ?_
         | refine OW_move ?_
         | refine OW_assign ?_
         | refine OW_pass rfl ?_
         | refine OW_take rfl ?_
         | refine OW_lenS (by first | with_reducible exact und_bytes | with_reducible exact und_bytess) rfl ?_
         | refine OW_convInt (by first | with_reducible exact und_u8 | with_reducible exact und_u64 | with_reducible exact und_int | with_reducible exact und_u32) (by first | with_reducible exact und_u8 | with_reducible exact und_u64 | with_reducible exact und_int | with_reducible exact und_u32) rfl ?_
         | refine OW_add rfl rfl ?_
         | refine OW_sub rfl rfl ?_
         | refine OW_mul rfl rfl ?_
         | refine OW_min2 rfl rfl ?_
         | refine OW_max2 rfl rfl ?_
         | refine OW_neg rfl ?_
         | refine CW_block ?_
         | refine CW_condT rfl ?_
         | refine CW_condF rfl ?_
         | refine CW_exit ?_
         | refine CW_ret ?_
         | refine CW_skip ?_
         | refine thenE_exit ?_
         | refine thenE_ret ?_
         | refine inBlockE_normal ?_
         | refine inBlockE_same ?_
         | refine inBlockE_ret ?_
         | refine inBlockE_ne (by rfl) ?_
         | refine OW_eqlB (by with_reducible exact und_bool) rfl rfl ?_
         | refine OW_neqB (by with_reducible exact und_bool) rfl rfl ?_
         | refine OW_idxS (by with_reducible exact und_bytes) one_u8 rfl rfl _ rfl (by omega) ?_
         | refine OW_idxS (by with_reducible exact und_bytess) one_bytes rfl rfl _ rfl (by omega) ?_
         | refine OW_load1 (by first | with_reducible exact one_u8 | with_reducible exact one_bytes) rfl _ (by assumption) ?_
         | refine OW_load1 (by with_reducible exact one_u8) rfl _ (hk.ext.cell' (by assumption)) ?_)
        refine OW_nil ?_
        exact keepsF_mk _ _ _ _
    refine ⟨?_, ?_⟩
    · refine Obl_of (fun e1 w1 hk => ?_)
      rw [upd_self (hk.pre 4 58 rfl rfl : isV _ _ _), upd_self (hk.pre 6 60 rfl rfl : isV _ _ _)]
      (first
       | refine OW_moveV (.int _ _) rfl ?_
       | refine OW_moveV (.slice _ _ _) rfl ?_
       | refine OW_moveV (.bool _) rfl ?_
       | refine OW_moveV (.pointer _) rfl ?_
       | refine OW_moveV (.string _) rfl ?_
       | refine OW_moveV (.agg _) rfl ?_
       | refine OW_moveV (.tuple _) rfl ?_
       | refine OW_nil ?_
       | refine thenE_normal ?_
       | refine CW_seq ?_
       | refine CW_region (by kernel_rfl) ?_
       | refine OW_assignV (.int _ _) rfl ?_
       | refine OW_assignV (.slice _ _ _) rfl ?_
       | refine OW_assignV (.bool _) rfl ?_
       | refine OW_assignV (.pointer _) rfl ?_
       | refine OW_assignV (.string _) rfl ?_
       | refine OW_assignV (.agg _) rfl ?_
       | refine OW_assignV (.tuple _) rfl ?_
       | refine OW_addI rfl rfl (by omega) ?_
       | refine OW_subI rfl rfl (by omega) ?_
       | refine OW_mulI rfl rfl (by omega) ?_
       | refine OW_lss rfl rfl ?_
       | refine OW_extract rfl rfl ?_
       | refine OW_gtr rfl rfl ?_
       | refine OW_leq rfl rfl ?_
       | refine OW_geq rfl rfl ?_
       | refine OW_eql rfl rfl ?_
       | refine OW_neq rfl rfl ?_
       | refine OW_not rfl ?_
       | refine OW_pickT rfl _ rfl ?_
       | refine OW_pickF rfl (.bool _) rfl ?_
       | refine OW_pickB rfl rfl rfl ?_
       | refine OW_move ?_
       | refine OW_assign ?_
       | refine OW_pass rfl ?_
       | refine OW_take rfl ?_
       | refine OW_lenS (by first | with_reducible exact und_bytes | with_reducible exact und_bytess) rfl ?_
       | refine OW_convInt (by first | with_reducible exact und_u8 | with_reducible exact und_u64 | with_reducible exact und_int | with_reducible exact und_u32) (by first | with_reducible exact und_u8 | with_reducible exact und_u64 | with_reducible exact und_int | with_reducible exact und_u32) rfl ?_
       | refine OW_add rfl rfl ?_
       | refine OW_sub rfl rfl ?_
       | refine OW_mul rfl rfl ?_
       | refine OW_min2 rfl rfl ?_
       | refine OW_max2 rfl rfl ?_
       | refine OW_neg rfl ?_
       | refine CW_block ?_
       | refine CW_condT rfl ?_
       | refine CW_condF rfl ?_
       | refine CW_exit ?_
       | refine CW_ret ?_
       | refine CW_skip ?_
       | refine thenE_exit ?_
       | refine thenE_ret ?_
       | refine inBlockE_normal ?_
       | refine inBlockE_same ?_
       | refine inBlockE_ret ?_
       | refine inBlockE_ne (by rfl) ?_
       | refine OW_eqlB (by with_reducible exact und_bool) rfl rfl ?_
       | refine OW_neqB (by with_reducible exact und_bool) rfl rfl ?_
       | refine OW_idxS (by with_reducible exact und_bytes) one_u8 rfl rfl _ rfl (by omega) ?_
       | refine OW_idxS (by with_reducible exact und_bytess) one_bytes rfl rfl _ rfl (by omega) ?_
       | refine OW_load1 (by first | with_reducible exact one_u8 | with_reducible exact one_bytes) rfl _ (by assumption) ?_
       | refine OW_load1 (by with_reducible exact one_u8) rfl _ (hk.ext.cell' (by assumption)) ?_)
      refine OW_nil ?_
      exact keepsF_mk _ _ _ _
    refine ⟨?_, ?_⟩
    · refine Obl_of (fun e1 w1 hk => ?_)
      rw [upd_self (hk.pre 7 61 rfl rfl : isV _ _ _)]
      (first
       | refine OW_moveV (.int _ _) rfl ?_
       | refine OW_moveV (.slice _ _ _) rfl ?_
       | refine OW_moveV (.bool _) rfl ?_
       | refine OW_moveV (.pointer _) rfl ?_
       | refine OW_moveV (.string _) rfl ?_
       | refine OW_moveV (.agg _) rfl ?_
       | refine OW_moveV (.tuple _) rfl ?_
       | refine OW_nil ?_
       | refine thenE_normal ?_
       | refine CW_seq ?_
       | refine CW_region (by kernel_rfl) ?_
       | refine OW_assignV (.int _ _) rfl ?_
       | refine OW_assignV (.slice _ _ _) rfl ?_
       | refine OW_assignV (.bool _) rfl ?_
       | refine OW_assignV (.pointer _) rfl ?_
       | refine OW_assignV (.string _) rfl ?_
       | refine OW_assignV (.agg _) rfl ?_
       | refine OW_assignV (.tuple _) rfl ?_
       | refine OW_addI rfl rfl (by omega) ?_
       | refine OW_subI rfl rfl (by omega) ?_
       | refine OW_mulI rfl rfl (by omega) ?_
       | refine OW_lss rfl rfl ?_
       | refine OW_extract rfl rfl ?_
       | refine OW_gtr rfl rfl ?_
       | refine OW_leq rfl rfl ?_
       | refine OW_geq rfl rfl ?_
       | refine OW_eql rfl rfl ?_
       | refine OW_neq rfl rfl ?_
       | refine OW_not rfl ?_
       | refine OW_pickT rfl _ rfl ?_
       | refine OW_pickF rfl (.bool _) rfl ?_
       | refine OW_pickB rfl rfl rfl ?_
       | refine OW_move ?_
       | refine OW_assign ?_
       | refine OW_pass rfl ?_
       | refine OW_take rfl ?_
       | refine OW_lenS (by first | with_reducible exact und_bytes | with_reducible exact und_bytess) rfl ?_
       | refine OW_convInt (by first | with_reducible exact und_u8 | with_reducible exact und_u64 | with_reducible exact und_int | with_reducible exact und_u32) (by first | with_reducible exact und_u8 | with_reducible exact und_u64 | with_reducible exact und_int | with_reducible exact und_u32) rfl ?_
       | refine OW_add rfl rfl ?_
       | refine OW_sub rfl rfl ?_
       | refine OW_mul rfl rfl ?_
       | refine OW_min2 rfl rfl ?_
       | refine OW_max2 rfl rfl ?_
       | refine OW_neg rfl ?_
       | refine CW_block ?_
       | refine CW_condT rfl ?_
       | refine CW_condF rfl ?_
       | refine CW_exit ?_
       | refine CW_ret ?_
       | refine CW_skip ?_
       | refine thenE_exit ?_
       | refine thenE_ret ?_
       | refine inBlockE_normal ?_
       | refine inBlockE_same ?_
       | refine inBlockE_ret ?_
       | refine inBlockE_ne (by rfl) ?_
       | refine OW_eqlB (by with_reducible exact und_bool) rfl rfl ?_
       | refine OW_neqB (by with_reducible exact und_bool) rfl rfl ?_
       | refine OW_idxS (by with_reducible exact und_bytes) one_u8 rfl rfl _ rfl (by omega) ?_
       | refine OW_idxS (by with_reducible exact und_bytess) one_bytes rfl rfl _ rfl (by omega) ?_
       | refine OW_load1 (by first | with_reducible exact one_u8 | with_reducible exact one_bytes) rfl _ (by assumption) ?_
       | refine OW_load1 (by with_reducible exact one_u8) rfl _ (hk.ext.cell' (by assumption)) ?_)
      refine OW_nil ?_
      exact keepsF_mk _ _ _ _
    refine ⟨?_, ?_⟩
    · refine Obl_take (fun e1 w1 hk => ?_) (fun e1 w1 hk => ?_)
      · rw [upd_self (hk.pre 8 62 rfl rfl : isV _ _ _)]
        rfl
      · rw [upd_self (hk.out 9 rfl)]
        (first
         | refine OW_moveV (.int _ _) rfl ?_
         | refine OW_moveV (.slice _ _ _) rfl ?_
         | refine OW_moveV (.bool _) rfl ?_
         | refine OW_moveV (.pointer _) rfl ?_
         | refine OW_moveV (.string _) rfl ?_
         | refine OW_moveV (.agg _) rfl ?_
         | refine OW_moveV (.tuple _) rfl ?_
         | refine OW_nil ?_
         | refine thenE_normal ?_
         | refine CW_seq ?_
         | refine CW_region (by kernel_rfl) ?_
         | refine OW_assignV (.int _ _) rfl ?_
         | refine OW_assignV (.slice _ _ _) rfl ?_
         | refine OW_assignV (.bool _) rfl ?_
         | refine OW_assignV (.pointer _) rfl ?_
         | refine OW_assignV (.string _) rfl ?_
         | refine OW_assignV (.agg _) rfl ?_
         | refine OW_assignV (.tuple _) rfl ?_
         | refine OW_addI rfl rfl (by omega) ?_
         | refine OW_subI rfl rfl (by omega) ?_
         | refine OW_mulI rfl rfl (by omega) ?_
         | refine OW_lss rfl rfl ?_
         | refine OW_extract rfl rfl ?_
         | refine OW_gtr rfl rfl ?_
         | refine OW_leq rfl rfl ?_
         | refine OW_geq rfl rfl ?_
         | refine OW_eql rfl rfl ?_
         | refine OW_neq rfl rfl ?_
         | refine OW_not rfl ?_
         | refine OW_pickT rfl _ rfl ?_
         | refine OW_pickF rfl (.bool _) rfl ?_
         | refine OW_pickB rfl rfl rfl ?_
         | refine OW_move ?_
         | refine OW_assign ?_
         | refine OW_pass rfl ?_
         | refine OW_take rfl ?_
         | refine OW_lenS (by first | with_reducible exact und_bytes | with_reducible exact und_bytess) rfl ?_
         | refine OW_convInt (by first | with_reducible exact und_u8 | with_reducible exact und_u64 | with_reducible exact und_int | with_reducible exact und_u32) (by first | with_reducible exact und_u8 | with_reducible exact und_u64 | with_reducible exact und_int | with_reducible exact und_u32) rfl ?_
         | refine OW_add rfl rfl ?_
         | refine OW_sub rfl rfl ?_
         | refine OW_mul rfl rfl ?_
         | refine OW_min2 rfl rfl ?_
         | refine OW_max2 rfl rfl ?_
         | refine OW_neg rfl ?_
         | refine CW_block ?_
         | refine CW_condT rfl ?_
         | refine CW_condF rfl ?_
         | refine CW_exit ?_
         | refine CW_ret ?_
         | refine CW_skip ?_
         | refine thenE_exit ?_
         | refine thenE_ret ?_
         | refine inBlockE_normal ?_
         | refine inBlockE_same ?_
         | refine inBlockE_ret ?_
         | refine inBlockE_ne (by rfl) ?_
         | refine OW_eqlB (by with_reducible exact und_bool) rfl rfl ?_
         | refine OW_neqB (by with_reducible exact und_bool) rfl rfl ?_
         | refine OW_idxS (by with_reducible exact und_bytes) one_u8 rfl rfl _ rfl (by omega) ?_
         | refine OW_idxS (by with_reducible exact und_bytess) one_bytes rfl rfl _ rfl (by omega) ?_
         | refine OW_load1 (by first | with_reducible exact one_u8 | with_reducible exact one_bytes) rfl _ (by assumption) ?_
         | refine OW_load1 (by with_reducible exact one_u8) rfl _ (hk.ext.cell' (by assumption)) ?_)
        refine OW_nil ?_
        exact keepsF_mk _ _ _ _
    refine ⟨?_, ?_⟩
    · refine Obl_take (fun e1 w1 hk => ?_) (fun e1 w1 hk => ?_)
      · rw [upd_self (hk.pre 8 62 rfl rfl : isV _ _ _)]
        rfl
      · rw [upd_self (hk.out 0 rfl)]
        (first
         | refine OW_moveV (.int _ _) rfl ?_
         | refine OW_moveV (.slice _ _ _) rfl ?_
         | refine OW_moveV (.bool _) rfl ?_
         | refine OW_moveV (.pointer _) rfl ?_
         | refine OW_moveV (.string _) rfl ?_
         | refine OW_moveV (.agg _) rfl ?_
         | refine OW_moveV (.tuple _) rfl ?_
         | refine OW_nil ?_
         | refine thenE_normal ?_
         | refine CW_seq ?_
         | refine CW_region (by kernel_rfl) ?_
         | refine OW_assignV (.int _ _) rfl ?_
         | refine OW_assignV (.slice _ _ _) rfl ?_
         | refine OW_assignV (.bool _) rfl ?_
         | refine OW_assignV (.pointer _) rfl ?_
         | refine OW_assignV (.string _) rfl ?_
         | refine OW_assignV (.agg _) rfl ?_
         | refine OW_assignV (.tuple _) rfl ?_
         | refine OW_addI rfl rfl (by omega) ?_
         | refine OW_subI rfl rfl (by omega) ?_
         | refine OW_mulI rfl rfl (by omega) ?_
         | refine OW_lss rfl rfl ?_
         | refine OW_extract rfl rfl ?_
         | refine OW_gtr rfl rfl ?_
         | refine OW_leq rfl rfl ?_
         | refine OW_geq rfl rfl ?_
         | refine OW_eql rfl rfl ?_
         | refine OW_neq rfl rfl ?_
         | refine OW_not rfl ?_
         | refine OW_pickT rfl _ rfl ?_
         | refine OW_pickF rfl (.bool _) rfl ?_
         | refine OW_pickB rfl rfl rfl ?_
         | refine OW_move ?_
         | refine OW_assign ?_
         | refine OW_pass rfl ?_
         | refine OW_take rfl ?_
         | refine OW_lenS (by first | with_reducible exact und_bytes | with_reducible exact und_bytess) rfl ?_
         | refine OW_convInt (by first | with_reducible exact und_u8 | with_reducible exact und_u64 | with_reducible exact und_int | with_reducible exact und_u32) (by first | with_reducible exact und_u8 | with_reducible exact und_u64 | with_reducible exact und_int | with_reducible exact und_u32) rfl ?_
         | refine OW_add rfl rfl ?_
         | refine OW_sub rfl rfl ?_
         | refine OW_mul rfl rfl ?_
         | refine OW_min2 rfl rfl ?_
         | refine OW_max2 rfl rfl ?_
         | refine OW_neg rfl ?_
         | refine CW_block ?_
         | refine CW_condT rfl ?_
         | refine CW_condF rfl ?_
         | refine CW_exit ?_
         | refine CW_ret ?_
         | refine CW_skip ?_
         | refine thenE_exit ?_
         | refine thenE_ret ?_
         | refine inBlockE_normal ?_
         | refine inBlockE_same ?_
         | refine inBlockE_ret ?_
         | refine inBlockE_ne (by rfl) ?_
         | refine OW_eqlB (by with_reducible exact und_bool) rfl rfl ?_
         | refine OW_neqB (by with_reducible exact und_bool) rfl rfl ?_
         | refine OW_idxS (by with_reducible exact und_bytes) one_u8 rfl rfl _ rfl (by omega) ?_
         | refine OW_idxS (by with_reducible exact und_bytess) one_bytes rfl rfl _ rfl (by omega) ?_
         | refine OW_load1 (by first | with_reducible exact one_u8 | with_reducible exact one_bytes) rfl _ (by assumption) ?_
         | refine OW_load1 (by with_reducible exact one_u8) rfl _ (hk.ext.cell' (by assumption)) ?_)
        refine OW_nil ?_
        exact keepsF_mk _ _ _ _
    refine ⟨?_, ?_⟩
    · refine Obl_take (fun e1 w1 hk => ?_) (fun e1 w1 hk => ?_)
      · rw [upd_self (hk.pre 8 62 rfl rfl : isV _ _ _)]
        rfl
      · rw [upd_self (hk.pre 9 63 rfl rfl : isV _ _ _), upd_self (hk.pre 10 64 rfl rfl : isV _ _ _)]
        refine OW_eql rfl rfl ?_
        rw [beq_self_eq_true]
        refine OW_nil ?_
        exact keepsF_mk _ _ _ _
    refine ⟨?_, ?_⟩
    · refine Obl_of (fun e1 w1 hk => ?_)
      rw [upd_self (hk.pre 8 62 rfl rfl : isV _ _ _), upd_self (hk.pre 11 65 rfl rfl : isV _ _ _)]
      (first
       | refine OW_moveV (.int _ _) rfl ?_
       | refine OW_moveV (.slice _ _ _) rfl ?_
       | refine OW_moveV (.bool _) rfl ?_
       | refine OW_moveV (.pointer _) rfl ?_
       | refine OW_moveV (.string _) rfl ?_
       | refine OW_moveV (.agg _) rfl ?_
       | refine OW_moveV (.tuple _) rfl ?_
       | refine OW_nil ?_
       | refine thenE_normal ?_
       | refine CW_seq ?_
       | refine CW_region (by kernel_rfl) ?_
       | refine OW_assignV (.int _ _) rfl ?_
       | refine OW_assignV (.slice _ _ _) rfl ?_
       | refine OW_assignV (.bool _) rfl ?_
       | refine OW_assignV (.pointer _) rfl ?_
       | refine OW_assignV (.string _) rfl ?_
       | refine OW_assignV (.agg _) rfl ?_
       | refine OW_assignV (.tuple _) rfl ?_
       | refine OW_addI rfl rfl (by omega) ?_
       | refine OW_subI rfl rfl (by omega) ?_
       | refine OW_mulI rfl rfl (by omega) ?_
       | refine OW_lss rfl rfl ?_
       | refine OW_extract rfl rfl ?_
       | refine OW_gtr rfl rfl ?_
       | refine OW_leq rfl rfl ?_
       | refine OW_geq rfl rfl ?_
       | refine OW_eql rfl rfl ?_
       | refine OW_neq rfl rfl ?_
       | refine OW_not rfl ?_
       | refine OW_pickT rfl _ rfl ?_
       | refine OW_pickF rfl (.bool _) rfl ?_
       | refine OW_pickB rfl rfl rfl ?_
       | refine OW_move ?_
       | refine OW_assign ?_
       | refine OW_pass rfl ?_
       | refine OW_take rfl ?_
       | refine OW_lenS (by first | with_reducible exact und_bytes | with_reducible exact und_bytess) rfl ?_
       | refine OW_convInt (by first | with_reducible exact und_u8 | with_reducible exact und_u64 | with_reducible exact und_int | with_reducible exact und_u32) (by first | with_reducible exact und_u8 | with_reducible exact und_u64 | with_reducible exact und_int | with_reducible exact und_u32) rfl ?_
       | refine OW_add rfl rfl ?_
       | refine OW_sub rfl rfl ?_
       | refine OW_mul rfl rfl ?_
       | refine OW_min2 rfl rfl ?_
       | refine OW_max2 rfl rfl ?_
       | refine OW_neg rfl ?_
       | refine CW_block ?_
       | refine CW_condT rfl ?_
       | refine CW_condF rfl ?_
       | refine CW_exit ?_
       | refine CW_ret ?_
       | refine CW_skip ?_
       | refine thenE_exit ?_
       | refine thenE_ret ?_
       | refine inBlockE_normal ?_
       | refine inBlockE_same ?_
       | refine inBlockE_ret ?_
       | refine inBlockE_ne (by rfl) ?_
       | refine OW_eqlB (by with_reducible exact und_bool) rfl rfl ?_
       | refine OW_neqB (by with_reducible exact und_bool) rfl rfl ?_
       | refine OW_idxS (by with_reducible exact und_bytes) one_u8 rfl rfl _ rfl (by omega) ?_
       | refine OW_idxS (by with_reducible exact und_bytess) one_bytes rfl rfl _ rfl (by omega) ?_
       | refine OW_load1 (by first | with_reducible exact one_u8 | with_reducible exact one_bytes) rfl _ (by assumption) ?_
       | refine OW_load1 (by with_reducible exact one_u8) rfl _ (hk.ext.cell' (by assumption)) ?_)
      refine OW_nil ?_
      exact keepsF_mk _ _ _ _
    refine ⟨?_, ?_⟩
    · refine Obl_of (fun e1 w1 hk => ?_)
      rw [upd_self (hk.pre 12 66 rfl rfl : isV _ _ _)]
      (first
       | refine OW_moveV (.int _ _) rfl ?_
       | refine OW_moveV (.slice _ _ _) rfl ?_
       | refine OW_moveV (.bool _) rfl ?_
       | refine OW_moveV (.pointer _) rfl ?_
       | refine OW_moveV (.string _) rfl ?_
       | refine OW_moveV (.agg _) rfl ?_
       | refine OW_moveV (.tuple _) rfl ?_
       | refine OW_nil ?_
       | refine thenE_normal ?_
       | refine CW_seq ?_
       | refine CW_region (by kernel_rfl) ?_
       | refine OW_assignV (.int _ _) rfl ?_
       | refine OW_assignV (.slice _ _ _) rfl ?_
       | refine OW_assignV (.bool _) rfl ?_
       | refine OW_assignV (.pointer _) rfl ?_
       | refine OW_assignV (.string _) rfl ?_
       | refine OW_assignV (.agg _) rfl ?_
       | refine OW_assignV (.tuple _) rfl ?_
       | refine OW_addI rfl rfl (by omega) ?_
       | refine OW_subI rfl rfl (by omega) ?_
       | refine OW_mulI rfl rfl (by omega) ?_
       | refine OW_lss rfl rfl ?_
       | refine OW_extract rfl rfl ?_
       | refine OW_gtr rfl rfl ?_
       | refine OW_leq rfl rfl ?_
       | refine OW_geq rfl rfl ?_
       | refine OW_eql rfl rfl ?_
       | refine OW_neq rfl rfl ?_
       | refine OW_not rfl ?_
       | refine OW_pickT rfl _ rfl ?_
       | refine OW_pickF rfl (.bool _) rfl ?_
       | refine OW_pickB rfl rfl rfl ?_
       | refine OW_move ?_
       | refine OW_assign ?_
       | refine OW_pass rfl ?_
       | refine OW_take rfl ?_
       | refine OW_lenS (by first | with_reducible exact und_bytes | with_reducible exact und_bytess) rfl ?_
       | refine OW_convInt (by first | with_reducible exact und_u8 | with_reducible exact und_u64 | with_reducible exact und_int | with_reducible exact und_u32) (by first | with_reducible exact und_u8 | with_reducible exact und_u64 | with_reducible exact und_int | with_reducible exact und_u32) rfl ?_
       | refine OW_add rfl rfl ?_
       | refine OW_sub rfl rfl ?_
       | refine OW_mul rfl rfl ?_
       | refine OW_min2 rfl rfl ?_
       | refine OW_max2 rfl rfl ?_
       | refine OW_neg rfl ?_
       | refine CW_block ?_
       | refine CW_condT rfl ?_
       | refine CW_condF rfl ?_
       | refine CW_exit ?_
       | refine CW_ret ?_
       | refine CW_skip ?_
       | refine thenE_exit ?_
       | refine thenE_ret ?_
       | refine inBlockE_normal ?_
       | refine inBlockE_same ?_
       | refine inBlockE_ret ?_
       | refine inBlockE_ne (by rfl) ?_
       | refine OW_eqlB (by with_reducible exact und_bool) rfl rfl ?_
       | refine OW_neqB (by with_reducible exact und_bool) rfl rfl ?_
       | refine OW_idxS (by with_reducible exact und_bytes) one_u8 rfl rfl _ rfl (by omega) ?_
       | refine OW_idxS (by with_reducible exact und_bytess) one_bytes rfl rfl _ rfl (by omega) ?_
       | refine OW_load1 (by first | with_reducible exact one_u8 | with_reducible exact one_bytes) rfl _ (by assumption) ?_
       | refine OW_load1 (by with_reducible exact one_u8) rfl _ (hk.ext.cell' (by assumption)) ?_)
      refine OW_nil ?_
      exact keepsF_mk _ _ _ _
    refine ⟨?_, ?_⟩
    · refine Obl_take (fun e1 w1 hk => ?_) (fun e1 w1 hk => ?_)
      · rw [upd_self (hk.pre 13 67 rfl rfl : isV _ _ _)]
        rfl
      · rw [upd_self (hk.out 11 rfl)]
        (first
         | refine OW_moveV (.int _ _) rfl ?_
         | refine OW_moveV (.slice _ _ _) rfl ?_
         | refine OW_moveV (.bool _) rfl ?_
         | refine OW_moveV (.pointer _) rfl ?_
         | refine OW_moveV (.string _) rfl ?_
         | refine OW_moveV (.agg _) rfl ?_
         | refine OW_moveV (.tuple _) rfl ?_
         | refine OW_nil ?_
         | refine thenE_normal ?_
         | refine CW_seq ?_
         | refine CW_region (by kernel_rfl) ?_
         | refine OW_assignV (.int _ _) rfl ?_
         | refine OW_assignV (.slice _ _ _) rfl ?_
         | refine OW_assignV (.bool _) rfl ?_
         | refine OW_assignV (.pointer _) rfl ?_
         | refine OW_assignV (.string _) rfl ?_
         | refine OW_assignV (.agg _) rfl ?_
         | refine OW_assignV (.tuple _) rfl ?_
         | refine OW_addI rfl rfl (by omega) ?_
         | refine OW_subI rfl rfl (by omega) ?_
         | refine OW_mulI rfl rfl (by omega) ?_
         | refine OW_lss rfl rfl ?_
         | refine OW_extract rfl rfl ?_
         | refine OW_gtr rfl rfl ?_
         | refine OW_leq rfl rfl ?_
         | refine OW_geq rfl rfl ?_
         | refine OW_eql rfl rfl ?_
         | refine OW_neq rfl rfl ?_
         | refine OW_not rfl ?_
         | refine OW_pickT rfl _ rfl ?_
         | refine OW_pickF rfl (.bool _) rfl ?_
         | refine OW_pickB rfl rfl rfl ?_
         | refine OW_move ?_
         | refine OW_assign ?_
         | refine OW_pass rfl ?_
         | refine OW_take rfl ?_
         | refine OW_lenS (by first | with_reducible exact und_bytes | with_reducible exact und_bytess) rfl ?_
         | refine OW_convInt (by first | with_reducible exact und_u8 | with_reducible exact und_u64 | with_reducible exact und_int | with_reducible exact und_u32) (by first | with_reducible exact und_u8 | with_reducible exact und_u64 | with_reducible exact und_int | with_reducible exact und_u32) rfl ?_
         | refine OW_add rfl rfl ?_
         | refine OW_sub rfl rfl ?_
         | refine OW_mul rfl rfl ?_
         | refine OW_min2 rfl rfl ?_
         | refine OW_max2 rfl rfl ?_
         | refine OW_neg rfl ?_
         | refine CW_block ?_
         | refine CW_condT rfl ?_
         | refine CW_condF rfl ?_
         | refine CW_exit ?_
         | refine CW_ret ?_
         | refine CW_skip ?_
         | refine thenE_exit ?_
         | refine thenE_ret ?_
         | refine inBlockE_normal ?_
         | refine inBlockE_same ?_
         | refine inBlockE_ret ?_
         | refine inBlockE_ne (by rfl) ?_
         | refine OW_eqlB (by with_reducible exact und_bool) rfl rfl ?_
         | refine OW_neqB (by with_reducible exact und_bool) rfl rfl ?_
         | refine OW_idxS (by with_reducible exact und_bytes) one_u8 rfl rfl _ rfl (by omega) ?_
         | refine OW_idxS (by with_reducible exact und_bytess) one_bytes rfl rfl _ rfl (by omega) ?_
         | refine OW_load1 (by first | with_reducible exact one_u8 | with_reducible exact one_bytes) rfl _ (by assumption) ?_
         | refine OW_load1 (by with_reducible exact one_u8) rfl _ (hk.ext.cell' (by assumption)) ?_)
        refine OW_nil ?_
        exact keepsF_mk _ _ _ _
    refine ⟨?_, ?_⟩
    · refine Obl_take (fun e1 w1 hk => ?_) (fun e1 w1 hk => ?_)
      · rw [upd_self (hk.pre 13 67 rfl rfl : isV _ _ _)]
        rfl
      · rw [upd_self (hk.out 1 rfl)]
        (first
         | refine OW_moveV (.int _ _) rfl ?_
         | refine OW_moveV (.slice _ _ _) rfl ?_
         | refine OW_moveV (.bool _) rfl ?_
         | refine OW_moveV (.pointer _) rfl ?_
         | refine OW_moveV (.string _) rfl ?_
         | refine OW_moveV (.agg _) rfl ?_
         | refine OW_moveV (.tuple _) rfl ?_
         | refine OW_nil ?_
         | refine thenE_normal ?_
         | refine CW_seq ?_
         | refine CW_region (by kernel_rfl) ?_
         | refine OW_assignV (.int _ _) rfl ?_
         | refine OW_assignV (.slice _ _ _) rfl ?_
         | refine OW_assignV (.bool _) rfl ?_
         | refine OW_assignV (.pointer _) rfl ?_
         | refine OW_assignV (.string _) rfl ?_
         | refine OW_assignV (.agg _) rfl ?_
         | refine OW_assignV (.tuple _) rfl ?_
         | refine OW_addI rfl rfl (by omega) ?_
         | refine OW_subI rfl rfl (by omega) ?_
         | refine OW_mulI rfl rfl (by omega) ?_
         | refine OW_lss rfl rfl ?_
         | refine OW_extract rfl rfl ?_
         | refine OW_gtr rfl rfl ?_
         | refine OW_leq rfl rfl ?_
         | refine OW_geq rfl rfl ?_
         | refine OW_eql rfl rfl ?_
         | refine OW_neq rfl rfl ?_
         | refine OW_not rfl ?_
         | refine OW_pickT rfl _ rfl ?_
         | refine OW_pickF rfl (.bool _) rfl ?_
         | refine OW_pickB rfl rfl rfl ?_
         | refine OW_move ?_
         | refine OW_assign ?_
         | refine OW_pass rfl ?_
         | refine OW_take rfl ?_
         | refine OW_lenS (by first | with_reducible exact und_bytes | with_reducible exact und_bytess) rfl ?_
         | refine OW_convInt (by first | with_reducible exact und_u8 | with_reducible exact und_u64 | with_reducible exact und_int | with_reducible exact und_u32) (by first | with_reducible exact und_u8 | with_reducible exact und_u64 | with_reducible exact und_int | with_reducible exact und_u32) rfl ?_
         | refine OW_add rfl rfl ?_
         | refine OW_sub rfl rfl ?_
         | refine OW_mul rfl rfl ?_
         | refine OW_min2 rfl rfl ?_
         | refine OW_max2 rfl rfl ?_
         | refine OW_neg rfl ?_
         | refine CW_block ?_
         | refine CW_condT rfl ?_
         | refine CW_condF rfl ?_
         | refine CW_exit ?_
         | refine CW_ret ?_
         | refine CW_skip ?_
         | refine thenE_exit ?_
         | refine thenE_ret ?_
         | refine inBlockE_normal ?_
         | refine inBlockE_same ?_
         | refine inBlockE_ret ?_
         | refine inBlockE_ne (by rfl) ?_
         | refine OW_eqlB (by with_reducible exact und_bool) rfl rfl ?_
         | refine OW_neqB (by with_reducible exact und_bool) rfl rfl ?_
         | refine OW_idxS (by with_reducible exact und_bytes) one_u8 rfl rfl _ rfl (by omega) ?_
         | refine OW_idxS (by with_reducible exact und_bytess) one_bytes rfl rfl _ rfl (by omega) ?_
         | refine OW_load1 (by first | with_reducible exact one_u8 | with_reducible exact one_bytes) rfl _ (by assumption) ?_
         | refine OW_load1 (by with_reducible exact one_u8) rfl _ (hk.ext.cell' (by assumption)) ?_)
        refine OW_nil ?_
        exact keepsF_mk _ _ _ _
    refine ⟨?_, ?_⟩
    · refine Obl_take (fun e1 w1 hk => ?_) (fun e1 w1 hk => ?_)
      · rw [upd_self (hk.pre 13 67 rfl rfl : isV _ _ _)]
        rfl
      · rw [upd_self (hk.pre 14 68 rfl rfl : isV _ _ _), upd_self (hk.pre 15 69 rfl rfl : isV _ _ _)]
        refine OW_eql rfl rfl ?_
        rw [beq_self_eq_true]
        refine OW_nil ?_
        exact keepsF_mk _ _ _ _
    refine ⟨?_, ?_⟩
    · refine Obl_of (fun e1 w1 hk => ?_)
      rw [upd_self (hk.pre 13 67 rfl rfl : isV _ _ _), upd_self (hk.pre 16 70 rfl rfl : isV _ _ _)]
      (first
       | refine OW_moveV (.int _ _) rfl ?_
       | refine OW_moveV (.slice _ _ _) rfl ?_
       | refine OW_moveV (.bool _) rfl ?_
       | refine OW_moveV (.pointer _) rfl ?_
       | refine OW_moveV (.string _) rfl ?_
       | refine OW_moveV (.agg _) rfl ?_
       | refine OW_moveV (.tuple _) rfl ?_
       | refine OW_nil ?_
       | refine thenE_normal ?_
       | refine CW_seq ?_
       | refine CW_region (by kernel_rfl) ?_
       | refine OW_assignV (.int _ _) rfl ?_
       | refine OW_assignV (.slice _ _ _) rfl ?_
       | refine OW_assignV (.bool _) rfl ?_
       | refine OW_assignV (.pointer _) rfl ?_
       | refine OW_assignV (.string _) rfl ?_
       | refine OW_assignV (.agg _) rfl ?_
       | refine OW_assignV (.tuple _) rfl ?_
       | refine OW_addI rfl rfl (by omega) ?_
       | refine OW_subI rfl rfl (by omega) ?_
       | refine OW_mulI rfl rfl (by omega) ?_
       | refine OW_lss rfl rfl ?_
       | refine OW_extract rfl rfl ?_
       | refine OW_gtr rfl rfl ?_
       | refine OW_leq rfl rfl ?_
       | refine OW_geq rfl rfl ?_
       | refine OW_eql rfl rfl ?_
       | refine OW_neq rfl rfl ?_
       | refine OW_not rfl ?_
       | refine OW_pickT rfl _ rfl ?_
       | refine OW_pickF rfl (.bool _) rfl ?_
       | refine OW_pickB rfl rfl rfl ?_
       | refine OW_move ?_
       | refine OW_assign ?_
       | refine OW_pass rfl ?_
       | refine OW_take rfl ?_
       | refine OW_lenS (by first | with_reducible exact und_bytes | with_reducible exact und_bytess) rfl ?_
       | refine OW_convInt (by first | with_reducible exact und_u8 | with_reducible exact und_u64 | with_reducible exact und_int | with_reducible exact und_u32) (by first | with_reducible exact und_u8 | with_reducible exact und_u64 | with_reducible exact und_int | with_reducible exact und_u32) rfl ?_
       | refine OW_add rfl rfl ?_
       | refine OW_sub rfl rfl ?_
       | refine OW_mul rfl rfl ?_
       | refine OW_min2 rfl rfl ?_
       | refine OW_max2 rfl rfl ?_
       | refine OW_neg rfl ?_
       | refine CW_block ?_
       | refine CW_condT rfl ?_
       | refine CW_condF rfl ?_
       | refine CW_exit ?_
       | refine CW_ret ?_
       | refine CW_skip ?_
       | refine thenE_exit ?_
       | refine thenE_ret ?_
       | refine inBlockE_normal ?_
       | refine inBlockE_same ?_
       | refine inBlockE_ret ?_
       | refine inBlockE_ne (by rfl) ?_
       | refine OW_eqlB (by with_reducible exact und_bool) rfl rfl ?_
       | refine OW_neqB (by with_reducible exact und_bool) rfl rfl ?_
       | refine OW_idxS (by with_reducible exact und_bytes) one_u8 rfl rfl _ rfl (by omega) ?_
       | refine OW_idxS (by with_reducible exact und_bytess) one_bytes rfl rfl _ rfl (by omega) ?_
       | refine OW_load1 (by first | with_reducible exact one_u8 | with_reducible exact one_bytes) rfl _ (by assumption) ?_
       | refine OW_load1 (by with_reducible exact one_u8) rfl _ (hk.ext.cell' (by assumption)) ?_)
      refine OW_nil ?_
      exact keepsF_mk _ _ _ _
    refine ⟨?_, ?_⟩
    · refine Obl_of (fun e1 w1 hk => ?_)
      rw [upd_self (hk.pre 17 71 rfl rfl : isV _ _ _)]
      (first
       | refine OW_moveV (.int _ _) rfl ?_
       | refine OW_moveV (.slice _ _ _) rfl ?_
       | refine OW_moveV (.bool _) rfl ?_
       | refine OW_moveV (.pointer _) rfl ?_
       | refine OW_moveV (.string _) rfl ?_
       | refine OW_moveV (.agg _) rfl ?_
       | refine OW_moveV (.tuple _) rfl ?_
       | refine OW_nil ?_
       | refine thenE_normal ?_
       | refine CW_seq ?_
       | refine CW_region (by kernel_rfl) ?_
       | refine OW_assignV (.int _ _) rfl ?_
       | refine OW_assignV (.slice _ _ _) rfl ?_
       | refine OW_assignV (.bool _) rfl ?_
       | refine OW_assignV (.pointer _) rfl ?_
       | refine OW_assignV (.string _) rfl ?_
       | refine OW_assignV (.agg _) rfl ?_
       | refine OW_assignV (.tuple _) rfl ?_
       | refine OW_addI rfl rfl (by omega) ?_
       | refine OW_subI rfl rfl (by omega) ?_
       | refine OW_mulI rfl rfl (by omega) ?_
       | refine OW_lss rfl rfl ?_
       | refine OW_extract rfl rfl ?_
       | refine OW_gtr rfl rfl ?_
       | refine OW_leq rfl rfl ?_
       | refine OW_geq rfl rfl ?_
       | refine OW_eql rfl rfl ?_
       | refine OW_neq rfl rfl ?_
       | refine OW_not rfl ?_
       | refine OW_pickT rfl _ rfl ?_
       | refine OW_pickF rfl (.bool _) rfl ?_
       | refine OW_pickB rfl rfl rfl ?_
       | refine OW_move ?_
       | refine OW_assign ?_
       | refine OW_pass rfl ?_
       | refine OW_take rfl ?_
       | refine OW_lenS (by first | with_reducible exact und_bytes | with_reducible exact und_bytess) rfl ?_
       | refine OW_convInt (by first | with_reducible exact und_u8 | with_reducible exact und_u64 | with_reducible exact und_int | with_reducible exact und_u32) (by first | with_reducible exact und_u8 | with_reducible exact und_u64 | with_reducible exact und_int | with_reducible exact und_u32) rfl ?_
       | refine OW_add rfl rfl ?_
       | refine OW_sub rfl rfl ?_
       | refine OW_mul rfl rfl ?_
       | refine OW_min2 rfl rfl ?_
       | refine OW_max2 rfl rfl ?_
       | refine OW_neg rfl ?_
       | refine CW_block ?_
       | refine CW_condT rfl ?_
       | refine CW_condF rfl ?_
       | refine CW_exit ?_
       | refine CW_ret ?_
       | refine CW_skip ?_
       | refine thenE_exit ?_
       | refine thenE_ret ?_
       | refine inBlockE_normal ?_
       | refine inBlockE_same ?_
       | refine inBlockE_ret ?_
       | refine inBlockE_ne (by rfl) ?_
       | refine OW_eqlB (by with_reducible exact und_bool) rfl rfl ?_
       | refine OW_neqB (by with_reducible exact und_bool) rfl rfl ?_
       | refine OW_idxS (by with_reducible exact und_bytes) one_u8 rfl rfl _ rfl (by omega) ?_
       | refine OW_idxS (by with_reducible exact und_bytess) one_bytes rfl rfl _ rfl (by omega) ?_
       | refine OW_load1 (by first | with_reducible exact one_u8 | with_reducible exact one_bytes) rfl _ (by assumption) ?_
       | refine OW_load1 (by with_reducible exact one_u8) rfl _ (hk.ext.cell' (by assumption)) ?_)
      refine OW_nil ?_
      exact keepsF_mk _ _ _ _
    refine ⟨?_, ?_⟩
    · refine Obl_take (fun e1 w1 hk => ?_) (fun e1 w1 hk => ?_)
      · rw [upd_self (hk.pre 18 72 rfl rfl : isV _ _ _)]
        rfl
      · rw [upd_self (hk.out 9 rfl)]
        (first
         | refine OW_moveV (.int _ _) rfl ?_
         | refine OW_moveV (.slice _ _ _) rfl ?_
         | refine OW_moveV (.bool _) rfl ?_
         | refine OW_moveV (.pointer _) rfl ?_
         | refine OW_moveV (.string _) rfl ?_
         | refine OW_moveV (.agg _) rfl ?_
         | refine OW_moveV (.tuple _) rfl ?_
         | refine OW_nil ?_
         | refine thenE_normal ?_
         | refine CW_seq ?_
         | refine CW_region (by kernel_rfl) ?_
         | refine OW_assignV (.int _ _) rfl ?_
         | refine OW_assignV (.slice _ _ _) rfl ?_
         | refine OW_assignV (.bool _) rfl ?_
         | refine OW_assignV (.pointer _) rfl ?_
         | refine OW_assignV (.string _) rfl ?_
         | refine OW_assignV (.agg _) rfl ?_
         | refine OW_assignV (.tuple _) rfl ?_
         | refine OW_addI rfl rfl (by omega) ?_
         | refine OW_subI rfl rfl (by omega) ?_
         | refine OW_mulI rfl rfl (by omega) ?_
         | refine OW_lss rfl rfl ?_
         | refine OW_extract rfl rfl ?_
         | refine OW_gtr rfl rfl ?_
         | refine OW_leq rfl rfl ?_
         | refine OW_geq rfl rfl ?_
         | refine OW_eql rfl rfl ?_
         | refine OW_neq rfl rfl ?_
         | refine OW_not rfl ?_
         | refine OW_pickT rfl _ rfl ?_
         | refine OW_pickF rfl (.bool _) rfl ?_
         | refine OW_pickB rfl rfl rfl ?_
         | refine OW_move ?_
         | refine OW_assign ?_
         | refine OW_pass rfl ?_
         | refine OW_take rfl ?_
         | refine OW_lenS (by first | with_reducible exact und_bytes | with_reducible exact und_bytess) rfl ?_
         | refine OW_convInt (by first | with_reducible exact und_u8 | with_reducible exact und_u64 | with_reducible exact und_int | with_reducible exact und_u32) (by first | with_reducible exact und_u8 | with_reducible exact und_u64 | with_reducible exact und_int | with_reducible exact und_u32) rfl ?_
         | refine OW_add rfl rfl ?_
         | refine OW_sub rfl rfl ?_
         | refine OW_mul rfl rfl ?_
         | refine OW_min2 rfl rfl ?_
         | refine OW_max2 rfl rfl ?_
         | refine OW_neg rfl ?_
         | refine CW_block ?_
         | refine CW_condT rfl ?_
         | refine CW_condF rfl ?_
         | refine CW_exit ?_
         | refine CW_ret ?_
         | refine CW_skip ?_
         | refine thenE_exit ?_
         | refine thenE_ret ?_
         | refine inBlockE_normal ?_
         | refine inBlockE_same ?_
         | refine inBlockE_ret ?_
         | refine inBlockE_ne (by rfl) ?_
         | refine OW_eqlB (by with_reducible exact und_bool) rfl rfl ?_
         | refine OW_neqB (by with_reducible exact und_bool) rfl rfl ?_
         | refine OW_idxS (by with_reducible exact und_bytes) one_u8 rfl rfl _ rfl (by omega) ?_
         | refine OW_idxS (by with_reducible exact und_bytess) one_bytes rfl rfl _ rfl (by omega) ?_
         | refine OW_load1 (by first | with_reducible exact one_u8 | with_reducible exact one_bytes) rfl _ (by assumption) ?_
         | refine OW_load1 (by with_reducible exact one_u8) rfl _ (hk.ext.cell' (by assumption)) ?_)
        refine OW_nil ?_
        exact keepsF_mk _ _ _ _
    refine ⟨?_, ?_⟩
    · refine Obl_take (fun e1 w1 hk => ?_) (fun e1 w1 hk => ?_)
      · rw [upd_self (hk.pre 18 72 rfl rfl : isV _ _ _)]
        rfl
      · rw [upd_self (hk.pre 19 73 rfl rfl : isV _ _ _)]
        refine OW_callBs Try.func15 (by kernel_rfl) rfl (put32_any _ x hx) rfl ?_
        intro w9 A9 c9 h9
        refine OW_nil ?_
        exact keepsF_bs _ _ _ _ _ _ _ h9.ext h9.cap h9.bs
    refine ⟨?_, ?_⟩
    · refine Obl_take (fun e1 w1 hk => ?_) (fun e1 w1 hk => ?_)
      · rw [upd_self (hk.pre 18 72 rfl rfl : isV _ _ _)]
        rfl
      · rw [upd_self (hk.out 7 rfl)]
        (first
         | refine OW_moveV (.int _ _) rfl ?_
         | refine OW_moveV (.slice _ _ _) rfl ?_
         | refine OW_moveV (.bool _) rfl ?_
         | refine OW_moveV (.pointer _) rfl ?_
         | refine OW_moveV (.string _) rfl ?_
         | refine OW_moveV (.agg _) rfl ?_
         | refine OW_moveV (.tuple _) rfl ?_
         | refine OW_nil ?_
         | refine thenE_normal ?_
         | refine CW_seq ?_
         | refine CW_region (by kernel_rfl) ?_
         | refine OW_assignV (.int _ _) rfl ?_
         | refine OW_assignV (.slice _ _ _) rfl ?_
         | refine OW_assignV (.bool _) rfl ?_
         | refine OW_assignV (.pointer _) rfl ?_
         | refine OW_assignV (.string _) rfl ?_
         | refine OW_assignV (.agg _) rfl ?_
         | refine OW_assignV (.tuple _) rfl ?_
         | refine OW_addI rfl rfl (by omega) ?_
         | refine OW_subI rfl rfl (by omega) ?_
         | refine OW_mulI rfl rfl (by omega) ?_
         | refine OW_lss rfl rfl ?_
         | refine OW_extract rfl rfl ?_
         | refine OW_gtr rfl rfl ?_
         | refine OW_leq rfl rfl ?_
         | refine OW_geq rfl rfl ?_
         | refine OW_eql rfl rfl ?_
         | refine OW_neq rfl rfl ?_
         | refine OW_not rfl ?_
         | refine OW_pickT rfl _ rfl ?_
         | refine OW_pickF rfl (.bool _) rfl ?_
         | refine OW_pickB rfl rfl rfl ?_
         | refine OW_move ?_
         | refine OW_assign ?_
         | refine OW_pass rfl ?_
         | refine OW_take rfl ?_
         | refine OW_lenS (by first | with_reducible exact und_bytes | with_reducible exact und_bytess) rfl ?_
         | refine OW_convInt (by first | with_reducible exact und_u8 | with_reducible exact und_u64 | with_reducible exact und_int | with_reducible exact und_u32) (by first | with_reducible exact und_u8 | with_reducible exact und_u64 | with_reducible exact und_int | with_reducible exact und_u32) rfl ?_
         | refine OW_add rfl rfl ?_
         | refine OW_sub rfl rfl ?_
         | refine OW_mul rfl rfl ?_
         | refine OW_min2 rfl rfl ?_
         | refine OW_max2 rfl rfl ?_
         | refine OW_neg rfl ?_
         | refine CW_block ?_
         | refine CW_condT rfl ?_
         | refine CW_condF rfl ?_
         | refine CW_exit ?_
         | refine CW_ret ?_
         | refine CW_skip ?_
         | refine thenE_exit ?_
         | refine thenE_ret ?_
         | refine inBlockE_normal ?_
         | refine inBlockE_same ?_
         | refine inBlockE_ret ?_
         | refine inBlockE_ne (by rfl) ?_
         | refine OW_eqlB (by with_reducible exact und_bool) rfl rfl ?_
         | refine OW_neqB (by with_reducible exact und_bool) rfl rfl ?_
         | refine OW_idxS (by with_reducible exact und_bytes) one_u8 rfl rfl _ rfl (by omega) ?_
         | refine OW_idxS (by with_reducible exact und_bytess) one_bytes rfl rfl _ rfl (by omega) ?_
         | refine OW_load1 (by first | with_reducible exact one_u8 | with_reducible exact one_bytes) rfl _ (by assumption) ?_
         | refine OW_load1 (by with_reducible exact one_u8) rfl _ (hk.ext.cell' (by assumption)) ?_)
        refine OW_nil ?_
        exact keepsF_mk _ _ _ _
    refine ⟨?_, ?_⟩
    · refine Obl_take (fun e1 w1 hk => ?_) (fun e1 w1 hk => ?_)
      · rw [upd_self (hk.pre 18 72 rfl rfl : isV _ _ _)]
        rfl
      · rw [upd_self (hk.out 8 rfl)]
        (first
         | refine OW_moveV (.int _ _) rfl ?_
         | refine OW_moveV (.slice _ _ _) rfl ?_
         | refine OW_moveV (.bool _) rfl ?_
         | refine OW_moveV (.pointer _) rfl ?_
         | refine OW_moveV (.string _) rfl ?_
         | refine OW_moveV (.agg _) rfl ?_
         | refine OW_moveV (.tuple _) rfl ?_
         | refine OW_nil ?_
         | refine thenE_normal ?_
         | refine CW_seq ?_
         | refine CW_region (by kernel_rfl) ?_
         | refine OW_assignV (.int _ _) rfl ?_
         | refine OW_assignV (.slice _ _ _) rfl ?_
         | refine OW_assignV (.bool _) rfl ?_
         | refine OW_assignV (.pointer _) rfl ?_
         | refine OW_assignV (.string _) rfl ?_
         | refine OW_assignV (.agg _) rfl ?_
         | refine OW_assignV (.tuple _) rfl ?_
         | refine OW_addI rfl rfl (by omega) ?_
         | refine OW_subI rfl rfl (by omega) ?_
         | refine OW_mulI rfl rfl (by omega) ?_
         | refine OW_lss rfl rfl ?_
         | refine OW_extract rfl rfl ?_
         | refine OW_gtr rfl rfl ?_
         | refine OW_leq rfl rfl ?_
         | refine OW_geq rfl rfl ?_
         | refine OW_eql rfl rfl ?_
         | refine OW_neq rfl rfl ?_
         | refine OW_not rfl ?_
         | refine OW_pickT rfl _ rfl ?_
         | refine OW_pickF rfl (.bool _) rfl ?_
         | refine OW_pickB rfl rfl rfl ?_
         | refine OW_move ?_
         | refine OW_assign ?_
         | refine OW_pass rfl ?_
         | refine OW_take rfl ?_
         | refine OW_lenS (by first | with_reducible exact und_bytes | with_reducible exact und_bytess) rfl ?_
         | refine OW_convInt (by first | with_reducible exact und_u8 | with_reducible exact und_u64 | with_reducible exact und_int | with_reducible exact und_u32) (by first | with_reducible exact und_u8 | with_reducible exact und_u64 | with_reducible exact und_int | with_reducible exact und_u32) rfl ?_
         | refine OW_add rfl rfl ?_
         | refine OW_sub rfl rfl ?_
         | refine OW_mul rfl rfl ?_
         | refine OW_min2 rfl rfl ?_
         | refine OW_max2 rfl rfl ?_
         | refine OW_neg rfl ?_
         | refine CW_block ?_
         | refine CW_condT rfl ?_
         | refine CW_condF rfl ?_
         | refine CW_exit ?_
         | refine CW_ret ?_
         | refine CW_skip ?_
         | refine thenE_exit ?_
         | refine thenE_ret ?_
         | refine inBlockE_normal ?_
         | refine inBlockE_same ?_
         | refine inBlockE_ret ?_
         | refine inBlockE_ne (by rfl) ?_
         | refine OW_eqlB (by with_reducible exact und_bool) rfl rfl ?_
         | refine OW_neqB (by with_reducible exact und_bool) rfl rfl ?_
         | refine OW_idxS (by with_reducible exact und_bytes) one_u8 rfl rfl _ rfl (by omega) ?_
         | refine OW_idxS (by with_reducible exact und_bytess) one_bytes rfl rfl _ rfl (by omega) ?_
         | refine OW_load1 (by first | with_reducible exact one_u8 | with_reducible exact one_bytes) rfl _ (by assumption) ?_
         | refine OW_load1 (by with_reducible exact one_u8) rfl _ (hk.ext.cell' (by assumption)) ?_)
        refine OW_nil ?_
        exact keepsF_mk _ _ _ _
    refine ⟨?_, ?_⟩
    · refine Obl_take (fun e1 w1 hk => ?_) (fun e1 w1 hk => ?_)
      · rw [upd_self (hk.pre 18 72 rfl rfl : isV _ _ _)]
        rfl
      · rw [upd_self (hk.out 8 rfl)]
        (first
         | refine OW_moveV (.int _ _) rfl ?_
         | refine OW_moveV (.slice _ _ _) rfl ?_
         | refine OW_moveV (.bool _) rfl ?_
         | refine OW_moveV (.pointer _) rfl ?_
         | refine OW_moveV (.string _) rfl ?_
         | refine OW_moveV (.agg _) rfl ?_
         | refine OW_moveV (.tuple _) rfl ?_
         | refine OW_nil ?_
         | refine thenE_normal ?_
         | refine CW_seq ?_
         | refine CW_region (by kernel_rfl) ?_
         | refine OW_assignV (.int _ _) rfl ?_
         | refine OW_assignV (.slice _ _ _) rfl ?_
         | refine OW_assignV (.bool _) rfl ?_
         | refine OW_assignV (.pointer _) rfl ?_
         | refine OW_assignV (.string _) rfl ?_
         | refine OW_assignV (.agg _) rfl ?_
         | refine OW_assignV (.tuple _) rfl ?_
         | refine OW_addI rfl rfl (by omega) ?_
         | refine OW_subI rfl rfl (by omega) ?_
         | refine OW_mulI rfl rfl (by omega) ?_
         | refine OW_lss rfl rfl ?_
         | refine OW_extract rfl rfl ?_
         | refine OW_gtr rfl rfl ?_
         | refine OW_leq rfl rfl ?_
         | refine OW_geq rfl rfl ?_
         | refine OW_eql rfl rfl ?_
         | refine OW_neq rfl rfl ?_
         | refine OW_not rfl ?_
         | refine OW_pickT rfl _ rfl ?_
         | refine OW_pickF rfl (.bool _) rfl ?_
         | refine OW_pickB rfl rfl rfl ?_
         | refine OW_move ?_
         | refine OW_assign ?_
         | refine OW_pass rfl ?_
         | refine OW_take rfl ?_
         | refine OW_lenS (by first | with_reducible exact und_bytes | with_reducible exact und_bytess) rfl ?_
         | refine OW_convInt (by first | with_reducible exact und_u8 | with_reducible exact und_u64 | with_reducible exact und_int | with_reducible exact und_u32) (by first | with_reducible exact und_u8 | with_reducible exact und_u64 | with_reducible exact und_int | with_reducible exact und_u32) rfl ?_
         | refine OW_add rfl rfl ?_
         | refine OW_sub rfl rfl ?_
         | refine OW_mul rfl rfl ?_
         | refine OW_min2 rfl rfl ?_
         | refine OW_max2 rfl rfl ?_
         | refine OW_neg rfl ?_
         | refine CW_block ?_
         | refine CW_condT rfl ?_
         | refine CW_condF rfl ?_
         | refine CW_exit ?_
         | refine CW_ret ?_
         | refine CW_skip ?_
         | refine thenE_exit ?_
         | refine thenE_ret ?_
         | refine inBlockE_normal ?_
         | refine inBlockE_same ?_
         | refine inBlockE_ret ?_
         | refine inBlockE_ne (by rfl) ?_
         | refine OW_eqlB (by with_reducible exact und_bool) rfl rfl ?_
         | refine OW_neqB (by with_reducible exact und_bool) rfl rfl ?_
         | refine OW_idxS (by with_reducible exact und_bytes) one_u8 rfl rfl _ rfl (by omega) ?_
         | refine OW_idxS (by with_reducible exact und_bytess) one_bytes rfl rfl _ rfl (by omega) ?_
         | refine OW_load1 (by first | with_reducible exact one_u8 | with_reducible exact one_bytes) rfl _ (by assumption) ?_
         | refine OW_load1 (by with_reducible exact one_u8) rfl _ (hk.ext.cell' (by assumption)) ?_)
        refine OW_nil ?_
        exact keepsF_mk _ _ _ _
    refine ⟨?_, ?_⟩
    · refine Obl_take (fun e1 w1 hk => ?_) (fun e1 w1 hk => ?_)
      · rw [upd_self (hk.pre 18 72 rfl rfl : isV _ _ _)]
        rfl
      · rw [upd_self (hk.pre 23 77 rfl rfl : isV _ _ _)]
        (first
         | refine OW_moveV (.int _ _) rfl ?_
         | refine OW_moveV (.slice _ _ _) rfl ?_
         | refine OW_moveV (.bool _) rfl ?_
         | refine OW_moveV (.pointer _) rfl ?_
         | refine OW_moveV (.string _) rfl ?_
         | refine OW_moveV (.agg _) rfl ?_
         | refine OW_moveV (.tuple _) rfl ?_
         | refine OW_nil ?_
         | refine thenE_normal ?_
         | refine CW_seq ?_
         | refine CW_region (by kernel_rfl) ?_
         | refine OW_assignV (.int _ _) rfl ?_
         | refine OW_assignV (.slice _ _ _) rfl ?_
         | refine OW_assignV (.bool _) rfl ?_
         | refine OW_assignV (.pointer _) rfl ?_
         | refine OW_assignV (.string _) rfl ?_
         | refine OW_assignV (.agg _) rfl ?_
         | refine OW_assignV (.tuple _) rfl ?_
         | refine OW_addI rfl rfl (by omega) ?_
         | refine OW_subI rfl rfl (by omega) ?_
         | refine OW_mulI rfl rfl (by omega) ?_
         | refine OW_lss rfl rfl ?_
         | refine OW_extract rfl rfl ?_
         | refine OW_gtr rfl rfl ?_
         | refine OW_leq rfl rfl ?_
         | refine OW_geq rfl rfl ?_
         | refine OW_eql rfl rfl ?_
         | refine OW_neq rfl rfl ?_
         | refine OW_not rfl ?_
         | refine OW_pickT rfl _ rfl ?_
         | refine OW_pickF rfl (.bool _) rfl ?_
         | refine OW_pickB rfl rfl rfl ?_
         | refine OW_move ?_
         | refine OW_assign ?_
         | refine OW_pass rfl ?_
         | refine OW_take rfl ?_
         | refine OW_lenS (by first | with_reducible exact und_bytes | with_reducible exact und_bytess) rfl ?_
         | refine OW_convInt (by first | with_reducible exact und_u8 | with_reducible exact und_u64 | with_reducible exact und_int | with_reducible exact und_u32) (by first | with_reducible exact und_u8 | with_reducible exact und_u64 | with_reducible exact und_int | with_reducible exact und_u32) rfl ?_
         | refine OW_add rfl rfl ?_
         | refine OW_sub rfl rfl ?_
         | refine OW_mul rfl rfl ?_
         | refine OW_min2 rfl rfl ?_
         | refine OW_max2 rfl rfl ?_
         | refine OW_neg rfl ?_
         | refine CW_block ?_
         | refine CW_condT rfl ?_
         | refine CW_condF rfl ?_
         | refine CW_exit ?_
         | refine CW_ret ?_
         | refine CW_skip ?_
         | refine thenE_exit ?_
         | refine thenE_ret ?_
         | refine inBlockE_normal ?_
         | refine inBlockE_same ?_
         | refine inBlockE_ret ?_
         | refine inBlockE_ne (by rfl) ?_
         | refine OW_eqlB (by with_reducible exact und_bool) rfl rfl ?_
         | refine OW_neqB (by with_reducible exact und_bool) rfl rfl ?_
         | refine OW_idxS (by with_reducible exact und_bytes) one_u8 rfl rfl _ rfl (by omega) ?_
         | refine OW_idxS (by with_reducible exact und_bytess) one_bytes rfl rfl _ rfl (by omega) ?_
         | refine OW_load1 (by first | with_reducible exact one_u8 | with_reducible exact one_bytes) rfl _ (by assumption) ?_
         | refine OW_load1 (by with_reducible exact one_u8) rfl _ (hk.ext.cell' (by assumption)) ?_)
        refine OW_nil ?_
        exact keepsF_mk _ _ _ _
    refine ⟨?_, ?_⟩
    · refine Obl_take (fun e1 w1 hk => ?_) (fun e1 w1 hk => ?_)
      · rw [upd_self (hk.pre 18 72 rfl rfl : isV _ _ _)]
        rfl
      · rw [upd_self (hk.pre 21 75 rfl rfl : isV _ _ _), upd_self (hk.pre 22 76 rfl rfl : isV _ _ _), upd_self (hk.pre 24 78 rfl rfl : isV _ _ _)]
        refine OW_sliceBs und_bytes one_u8 (bB8.ext hk.ext) rfl kB rfl ⟨_, rfl⟩ ⟨_, rfl⟩ a.length (a.length + 4) rfl (by omega) (by omega) ?_
        intro A' hA' hl'
        rw [show a.length + 4 - a.length = 4 by omega] at hA' hl' ⊢
        rw [d1] at hA' hl'
        refine OW_nil ?_
        exact keepsF_bsN _ _ _ _ _ _ _ _ hl' (Ext.rfl' _) (by omega) hA'
    refine ⟨?_, ?_⟩
    · refine Obl_take (fun e1 w1 hk => ?_) (fun e1 w1 hk => ?_)
      · rw [upd_self (hk.pre 18 72 rfl rfl : isV _ _ _)]
        rfl
      · obtain ⟨A74, c74, q74, z74, b74⟩ := (hk.pre 20 74 rfl rfl : (isBs (putL x 4)) _ _)
        obtain ⟨A79, c79, q79, z79, b79⟩ := (hk.pre 25 79 rfl rfl : (isBs (putL x 4)) _ _)
        rw [upd_self q74, upd_self q79]
        refine OW_callV Try.func27 (by kernel_rfl) rfl (same_any _ A74 A79 (putL x 4) (putL x 4) c74 c79 b74 b79 z74 (by omega)) rfl ?_
        intro w9 h9
        rw [beq_self_eq_true]
        refine OW_nil ?_
        exact keepsF_ext _ _ _ _ _ h9
    refine ⟨?_, ?_⟩
    · refine Obl_of (fun e1 w1 hk => ?_)
      rw [upd_self (hk.pre 18 72 rfl rfl : isV _ _ _), upd_self (hk.pre 26 80 rfl rfl : isV _ _ _)]
      (first
       | refine OW_moveV (.int _ _) rfl ?_
       | refine OW_moveV (.slice _ _ _) rfl ?_
       | refine OW_moveV (.bool _) rfl ?_
       | refine OW_moveV (.pointer _) rfl ?_
       | refine OW_moveV (.string _) rfl ?_
       | refine OW_moveV (.agg _) rfl ?_
       | refine OW_moveV (.tuple _) rfl ?_
       | refine OW_nil ?_
       | refine thenE_normal ?_
       | refine CW_seq ?_
       | refine CW_region (by kernel_rfl) ?_
       | refine OW_assignV (.int _ _) rfl ?_
       | refine OW_assignV (.slice _ _ _) rfl ?_
       | refine OW_assignV (.bool _) rfl ?_
       | refine OW_assignV (.pointer _) rfl ?_
       | refine OW_assignV (.string _) rfl ?_
       | refine OW_assignV (.agg _) rfl ?_
       | refine OW_assignV (.tuple _) rfl ?_
       | refine OW_addI rfl rfl (by omega) ?_
       | refine OW_subI rfl rfl (by omega) ?_
       | refine OW_mulI rfl rfl (by omega) ?_
       | refine OW_lss rfl rfl ?_
       | refine OW_extract rfl rfl ?_
       | refine OW_gtr rfl rfl ?_
       | refine OW_leq rfl rfl ?_
       | refine OW_geq rfl rfl ?_
       | refine OW_eql rfl rfl ?_
       | refine OW_neq rfl rfl ?_
       | refine OW_not rfl ?_
       | refine OW_pickT rfl _ rfl ?_
       | refine OW_pickF rfl (.bool _) rfl ?_
       | refine OW_pickB rfl rfl rfl ?_
       | refine OW_move ?_
       | refine OW_assign ?_
       | refine OW_pass rfl ?_
       | refine OW_take rfl ?_
       | refine OW_lenS (by first | with_reducible exact und_bytes | with_reducible exact und_bytess) rfl ?_
       | refine OW_convInt (by first | with_reducible exact und_u8 | with_reducible exact und_u64 | with_reducible exact und_int | with_reducible exact und_u32) (by first | with_reducible exact und_u8 | with_reducible exact und_u64 | with_reducible exact und_int | with_reducible exact und_u32) rfl ?_
       | refine OW_add rfl rfl ?_
       | refine OW_sub rfl rfl ?_
       | refine OW_mul rfl rfl ?_
       | refine OW_min2 rfl rfl ?_
       | refine OW_max2 rfl rfl ?_
       | refine OW_neg rfl ?_
       | refine CW_block ?_
       | refine CW_condT rfl ?_
       | refine CW_condF rfl ?_
       | refine CW_exit ?_
       | refine CW_ret ?_
       | refine CW_skip ?_
       | refine thenE_exit ?_
       | refine thenE_ret ?_
       | refine inBlockE_normal ?_
       | refine inBlockE_same ?_
       | refine inBlockE_ret ?_
       | refine inBlockE_ne (by rfl) ?_
       | refine OW_eqlB (by with_reducible exact und_bool) rfl rfl ?_
       | refine OW_neqB (by with_reducible exact und_bool) rfl rfl ?_
       | refine OW_idxS (by with_reducible exact und_bytes) one_u8 rfl rfl _ rfl (by omega) ?_
       | refine OW_idxS (by with_reducible exact und_bytess) one_bytes rfl rfl _ rfl (by omega) ?_
       | refine OW_load1 (by first | with_reducible exact one_u8 | with_reducible exact one_bytes) rfl _ (by assumption) ?_
       | refine OW_load1 (by with_reducible exact one_u8) rfl _ (hk.ext.cell' (by assumption)) ?_)
      refine OW_nil ?_
      exact keepsF_mk _ _ _ _
    refine ⟨?_, ?_⟩
    · refine Obl_of (fun e1 w1 hk => ?_)
      rw [upd_self (hk.pre 27 81 rfl rfl : isV _ _ _)]
      (first
       | refine OW_moveV (.int _ _) rfl ?_
       | refine OW_moveV (.slice _ _ _) rfl ?_
       | refine OW_moveV (.bool _) rfl ?_
       | refine OW_moveV (.pointer _) rfl ?_
       | refine OW_moveV (.string _) rfl ?_
       | refine OW_moveV (.agg _) rfl ?_
       | refine OW_moveV (.tuple _) rfl ?_
       | refine OW_nil ?_
       | refine thenE_normal ?_
       | refine CW_seq ?_
       | refine CW_region (by kernel_rfl) ?_
       | refine OW_assignV (.int _ _) rfl ?_
       | refine OW_assignV (.slice _ _ _) rfl ?_
       | refine OW_assignV (.bool _) rfl ?_
       | refine OW_assignV (.pointer _) rfl ?_
       | refine OW_assignV (.string _) rfl ?_
       | refine OW_assignV (.agg _) rfl ?_
       | refine OW_assignV (.tuple _) rfl ?_
       | refine OW_addI rfl rfl (by omega) ?_
       | refine OW_subI rfl rfl (by omega) ?_
       | refine OW_mulI rfl rfl (by omega) ?_
       | refine OW_lss rfl rfl ?_
       | refine OW_extract rfl rfl ?_
       | refine OW_gtr rfl rfl ?_
       | refine OW_leq rfl rfl ?_
       | refine OW_geq rfl rfl ?_
       | refine OW_eql rfl rfl ?_
       | refine OW_neq rfl rfl ?_
       | refine OW_not rfl ?_
       | refine OW_pickT rfl _ rfl ?_
       | refine OW_pickF rfl (.bool _) rfl ?_
       | refine OW_pickB rfl rfl rfl ?_
       | refine OW_move ?_
       | refine OW_assign ?_
       | refine OW_pass rfl ?_
       | refine OW_take rfl ?_
       | refine OW_lenS (by first | with_reducible exact und_bytes | with_reducible exact und_bytess) rfl ?_
       | refine OW_convInt (by first | with_reducible exact und_u8 | with_reducible exact und_u64 | with_reducible exact und_int | with_reducible exact und_u32) (by first | with_reducible exact und_u8 | with_reducible exact und_u64 | with_reducible exact und_int | with_reducible exact und_u32) rfl ?_
       | refine OW_add rfl rfl ?_
       | refine OW_sub rfl rfl ?_
       | refine OW_mul rfl rfl ?_
       | refine OW_min2 rfl rfl ?_
       | refine OW_max2 rfl rfl ?_
       | refine OW_neg rfl ?_
       | refine CW_block ?_
       | refine CW_condT rfl ?_
       | refine CW_condF rfl ?_
       | refine CW_exit ?_
       | refine CW_ret ?_
       | refine CW_skip ?_
       | refine thenE_exit ?_
       | refine thenE_ret ?_
       | refine inBlockE_normal ?_
       | refine inBlockE_same ?_
       | refine inBlockE_ret ?_
       | refine inBlockE_ne (by rfl) ?_
       | refine OW_eqlB (by with_reducible exact und_bool) rfl rfl ?_
       | refine OW_neqB (by with_reducible exact und_bool) rfl rfl ?_
       | refine OW_idxS (by with_reducible exact und_bytes) one_u8 rfl rfl _ rfl (by omega) ?_
       | refine OW_idxS (by with_reducible exact und_bytess) one_bytes rfl rfl _ rfl (by omega) ?_
       | refine OW_load1 (by first | with_reducible exact one_u8 | with_reducible exact one_bytes) rfl _ (by assumption) ?_
       | refine OW_load1 (by with_reducible exact one_u8) rfl _ (hk.ext.cell' (by assumption)) ?_)
      refine OW_nil ?_
      exact keepsF_mk _ _ _ _
    refine ⟨?_, ?_⟩
    · refine Obl_take (fun e1 w1 hk => ?_) (fun e1 w1 hk => ?_)
      · rw [upd_self (hk.pre 28 82 rfl rfl : isV _ _ _)]
        rfl
      · rw [upd_self (hk.out 11 rfl)]
        (first
         | refine OW_moveV (.int _ _) rfl ?_
         | refine OW_moveV (.slice _ _ _) rfl ?_
         | refine OW_moveV (.bool _) rfl ?_
         | refine OW_moveV (.pointer _) rfl ?_
         | refine OW_moveV (.string _) rfl ?_
         | refine OW_moveV (.agg _) rfl ?_
         | refine OW_moveV (.tuple _) rfl ?_
         | refine OW_nil ?_
         | refine thenE_normal ?_
         | refine CW_seq ?_
         | refine CW_region (by kernel_rfl) ?_
         | refine OW_assignV (.int _ _) rfl ?_
         | refine OW_assignV (.slice _ _ _) rfl ?_
         | refine OW_assignV (.bool _) rfl ?_
         | refine OW_assignV (.pointer _) rfl ?_
         | refine OW_assignV (.string _) rfl ?_
         | refine OW_assignV (.agg _) rfl ?_
         | refine OW_assignV (.tuple _) rfl ?_
         | refine OW_addI rfl rfl (by omega) ?_
         | refine OW_subI rfl rfl (by omega) ?_
         | refine OW_mulI rfl rfl (by omega) ?_
         | refine OW_lss rfl rfl ?_
         | refine OW_extract rfl rfl ?_
         | refine OW_gtr rfl rfl ?_
         | refine OW_leq rfl rfl ?_
         | refine OW_geq rfl rfl ?_
         | refine OW_eql rfl rfl ?_
         | refine OW_neq rfl rfl ?_
         | refine OW_not rfl ?_
         | refine OW_pickT rfl _ rfl ?_
         | refine OW_pickF rfl (.bool _) rfl ?_
         | refine OW_pickB rfl rfl rfl ?_
         | refine OW_move ?_
         | refine OW_assign ?_
         | refine OW_pass rfl ?_
         | refine OW_take rfl ?_
         | refine OW_lenS (by first | with_reducible exact und_bytes | with_reducible exact und_bytess) rfl ?_
         | refine OW_convInt (by first | with_reducible exact und_u8 | with_reducible exact und_u64 | with_reducible exact und_int | with_reducible exact und_u32) (by first | with_reducible exact und_u8 | with_reducible exact und_u64 | with_reducible exact und_int | with_reducible exact und_u32) rfl ?_
         | refine OW_add rfl rfl ?_
         | refine OW_sub rfl rfl ?_
         | refine OW_mul rfl rfl ?_
         | refine OW_min2 rfl rfl ?_
         | refine OW_max2 rfl rfl ?_
         | refine OW_neg rfl ?_
         | refine CW_block ?_
         | refine CW_condT rfl ?_
         | refine CW_condF rfl ?_
         | refine CW_exit ?_
         | refine CW_ret ?_
         | refine CW_skip ?_
         | refine thenE_exit ?_
         | refine thenE_ret ?_
         | refine inBlockE_normal ?_
         | refine inBlockE_same ?_
         | refine inBlockE_ret ?_
         | refine inBlockE_ne (by rfl) ?_
         | refine OW_eqlB (by with_reducible exact und_bool) rfl rfl ?_
         | refine OW_neqB (by with_reducible exact und_bool) rfl rfl ?_
         | refine OW_idxS (by with_reducible exact und_bytes) one_u8 rfl rfl _ rfl (by omega) ?_
         | refine OW_idxS (by with_reducible exact und_bytess) one_bytes rfl rfl _ rfl (by omega) ?_
         | refine OW_load1 (by first | with_reducible exact one_u8 | with_reducible exact one_bytes) rfl _ (by assumption) ?_
         | refine OW_load1 (by with_reducible exact one_u8) rfl _ (hk.ext.cell' (by assumption)) ?_)
        refine OW_nil ?_
        exact keepsF_mk _ _ _ _
    refine ⟨?_, ?_⟩
    · refine Obl_take (fun e1 w1 hk => ?_) (fun e1 w1 hk => ?_)
      · rw [upd_self (hk.pre 28 82 rfl rfl : isV _ _ _)]
        rfl
      · rw [upd_self (hk.pre 29 83 rfl rfl : isV _ _ _)]
        refine OW_callBs Try.func16 (by kernel_rfl) rfl (put64_any _ y hy) rfl ?_
        intro w9 A9 c9 h9
        refine OW_nil ?_
        exact keepsF_bs _ _ _ _ _ _ _ h9.ext h9.cap h9.bs
    refine ⟨?_, ?_⟩
    · refine Obl_take (fun e1 w1 hk => ?_) (fun e1 w1 hk => ?_)
      · rw [upd_self (hk.pre 28 82 rfl rfl : isV _ _ _)]
        rfl
      · rw [upd_self (hk.out 7 rfl)]
        (first
         | refine OW_moveV (.int _ _) rfl ?_
         | refine OW_moveV (.slice _ _ _) rfl ?_
         | refine OW_moveV (.bool _) rfl ?_
         | refine OW_moveV (.pointer _) rfl ?_
         | refine OW_moveV (.string _) rfl ?_
         | refine OW_moveV (.agg _) rfl ?_
         | refine OW_moveV (.tuple _) rfl ?_
         | refine OW_nil ?_
         | refine thenE_normal ?_
         | refine CW_seq ?_
         | refine CW_region (by kernel_rfl) ?_
         | refine OW_assignV (.int _ _) rfl ?_
         | refine OW_assignV (.slice _ _ _) rfl ?_
         | refine OW_assignV (.bool _) rfl ?_
         | refine OW_assignV (.pointer _) rfl ?_
         | refine OW_assignV (.string _) rfl ?_
         | refine OW_assignV (.agg _) rfl ?_
         | refine OW_assignV (.tuple _) rfl ?_
         | refine OW_addI rfl rfl (by omega) ?_
         | refine OW_subI rfl rfl (by omega) ?_
         | refine OW_mulI rfl rfl (by omega) ?_
         | refine OW_lss rfl rfl ?_
         | refine OW_extract rfl rfl ?_
         | refine OW_gtr rfl rfl ?_
         | refine OW_leq rfl rfl ?_
         | refine OW_geq rfl rfl ?_
         | refine OW_eql rfl rfl ?_
         | refine OW_neq rfl rfl ?_
         | refine OW_not rfl ?_
         | refine OW_pickT rfl _ rfl ?_
         | refine OW_pickF rfl (.bool _) rfl ?_
         | refine OW_pickB rfl rfl rfl ?_
         | refine OW_move ?_
         | refine OW_assign ?_
         | refine OW_pass rfl ?_
         | refine OW_take rfl ?_
         | refine OW_lenS (by first | with_reducible exact und_bytes | with_reducible exact und_bytess) rfl ?_
         | refine OW_convInt (by first | with_reducible exact und_u8 | with_reducible exact und_u64 | with_reducible exact und_int | with_reducible exact und_u32) (by first | with_reducible exact und_u8 | with_reducible exact und_u64 | with_reducible exact und_int | with_reducible exact und_u32) rfl ?_
         | refine OW_add rfl rfl ?_
         | refine OW_sub rfl rfl ?_
         | refine OW_mul rfl rfl ?_
         | refine OW_min2 rfl rfl ?_
         | refine OW_max2 rfl rfl ?_
         | refine OW_neg rfl ?_
         | refine CW_block ?_
         | refine CW_condT rfl ?_
         | refine CW_condF rfl ?_
         | refine CW_exit ?_
         | refine CW_ret ?_
         | refine CW_skip ?_
         | refine thenE_exit ?_
         | refine thenE_ret ?_
         | refine inBlockE_normal ?_
         | refine inBlockE_same ?_
         | refine inBlockE_ret ?_
         | refine inBlockE_ne (by rfl) ?_
         | refine OW_eqlB (by with_reducible exact und_bool) rfl rfl ?_
         | refine OW_neqB (by with_reducible exact und_bool) rfl rfl ?_
         | refine OW_idxS (by with_reducible exact und_bytes) one_u8 rfl rfl _ rfl (by omega) ?_
         | refine OW_idxS (by with_reducible exact und_bytess) one_bytes rfl rfl _ rfl (by omega) ?_
         | refine OW_load1 (by first | with_reducible exact one_u8 | with_reducible exact one_bytes) rfl _ (by assumption) ?_
         | refine OW_load1 (by with_reducible exact one_u8) rfl _ (hk.ext.cell' (by assumption)) ?_)
        refine OW_nil ?_
        exact keepsF_mk _ _ _ _
    refine ⟨?_, ?_⟩
    · refine Obl_take (fun e1 w1 hk => ?_) (fun e1 w1 hk => ?_)
      · rw [upd_self (hk.pre 28 82 rfl rfl : isV _ _ _)]
        rfl
      · rw [upd_self (hk.out 8 rfl)]
        (first
         | refine OW_moveV (.int _ _) rfl ?_
         | refine OW_moveV (.slice _ _ _) rfl ?_
         | refine OW_moveV (.bool _) rfl ?_
         | refine OW_moveV (.pointer _) rfl ?_
         | refine OW_moveV (.string _) rfl ?_
         | refine OW_moveV (.agg _) rfl ?_
         | refine OW_moveV (.tuple _) rfl ?_
         | refine OW_nil ?_
         | refine thenE_normal ?_
         | refine CW_seq ?_
         | refine CW_region (by kernel_rfl) ?_
         | refine OW_assignV (.int _ _) rfl ?_
         | refine OW_assignV (.slice _ _ _) rfl ?_
         | refine OW_assignV (.bool _) rfl ?_
         | refine OW_assignV (.pointer _) rfl ?_
         | refine OW_assignV (.string _) rfl ?_
         | refine OW_assignV (.agg _) rfl ?_
         | refine OW_assignV (.tuple _) rfl ?_
         | refine OW_addI rfl rfl (by omega) ?_
         | refine OW_subI rfl rfl (by omega) ?_
         | refine OW_mulI rfl rfl (by omega) ?_
         | refine OW_lss rfl rfl ?_
         | refine OW_extract rfl rfl ?_
         | refine OW_gtr rfl rfl ?_
         | refine OW_leq rfl rfl ?_
         | refine OW_geq rfl rfl ?_
         | refine OW_eql rfl rfl ?_
         | refine OW_neq rfl rfl ?_
         | refine OW_not rfl ?_
         | refine OW_pickT rfl _ rfl ?_
         | refine OW_pickF rfl (.bool _) rfl ?_
         | refine OW_pickB rfl rfl rfl ?_
         | refine OW_move ?_
         | refine OW_assign ?_
         | refine OW_pass rfl ?_
         | refine OW_take rfl ?_
         | refine OW_lenS (by first | with_reducible exact und_bytes | with_reducible exact und_bytess) rfl ?_
         | refine OW_convInt (by first | with_reducible exact und_u8 | with_reducible exact und_u64 | with_reducible exact und_int | with_reducible exact und_u32) (by first | with_reducible exact und_u8 | with_reducible exact und_u64 | with_reducible exact und_int | with_reducible exact und_u32) rfl ?_
         | refine OW_add rfl rfl ?_
         | refine OW_sub rfl rfl ?_
         | refine OW_mul rfl rfl ?_
         | refine OW_min2 rfl rfl ?_
         | refine OW_max2 rfl rfl ?_
         | refine OW_neg rfl ?_
         | refine CW_block ?_
         | refine CW_condT rfl ?_
         | refine CW_condF rfl ?_
         | refine CW_exit ?_
         | refine CW_ret ?_
         | refine CW_skip ?_
         | refine thenE_exit ?_
         | refine thenE_ret ?_
         | refine inBlockE_normal ?_
         | refine inBlockE_same ?_
         | refine inBlockE_ret ?_
         | refine inBlockE_ne (by rfl) ?_
         | refine OW_eqlB (by with_reducible exact und_bool) rfl rfl ?_
         | refine OW_neqB (by with_reducible exact und_bool) rfl rfl ?_
         | refine OW_idxS (by with_reducible exact und_bytes) one_u8 rfl rfl _ rfl (by omega) ?_
         | refine OW_idxS (by with_reducible exact und_bytess) one_bytes rfl rfl _ rfl (by omega) ?_
         | refine OW_load1 (by first | with_reducible exact one_u8 | with_reducible exact one_bytes) rfl _ (by assumption) ?_
         | refine OW_load1 (by with_reducible exact one_u8) rfl _ (hk.ext.cell' (by assumption)) ?_)
        refine OW_nil ?_
        exact keepsF_mk _ _ _ _
    refine ⟨?_, ?_⟩
    · refine Obl_take (fun e1 w1 hk => ?_) (fun e1 w1 hk => ?_)
      · rw [upd_self (hk.pre 28 82 rfl rfl : isV _ _ _)]
        rfl
      · rw [upd_self (hk.pre 32 86 rfl rfl : isV _ _ _)]
        (first
         | refine OW_moveV (.int _ _) rfl ?_
         | refine OW_moveV (.slice _ _ _) rfl ?_
         | refine OW_moveV (.bool _) rfl ?_
         | refine OW_moveV (.pointer _) rfl ?_
         | refine OW_moveV (.string _) rfl ?_
         | refine OW_moveV (.agg _) rfl ?_
         | refine OW_moveV (.tuple _) rfl ?_
         | refine OW_nil ?_
         | refine thenE_normal ?_
         | refine CW_seq ?_
         | refine CW_region (by kernel_rfl) ?_
         | refine OW_assignV (.int _ _) rfl ?_
         | refine OW_assignV (.slice _ _ _) rfl ?_
         | refine OW_assignV (.bool _) rfl ?_
         | refine OW_assignV (.pointer _) rfl ?_
         | refine OW_assignV (.string _) rfl ?_
         | refine OW_assignV (.agg _) rfl ?_
         | refine OW_assignV (.tuple _) rfl ?_
         | refine OW_addI rfl rfl (by omega) ?_
         | refine OW_subI rfl rfl (by omega) ?_
         | refine OW_mulI rfl rfl (by omega) ?_
         | refine OW_lss rfl rfl ?_
         | refine OW_extract rfl rfl ?_
         | refine OW_gtr rfl rfl ?_
         | refine OW_leq rfl rfl ?_
         | refine OW_geq rfl rfl ?_
         | refine OW_eql rfl rfl ?_
         | refine OW_neq rfl rfl ?_
         | refine OW_not rfl ?_
         | refine OW_pickT rfl _ rfl ?_
         | refine OW_pickF rfl (.bool _) rfl ?_
         | refine OW_pickB rfl rfl rfl ?_
         | refine OW_move ?_
         | refine OW_assign ?_
         | refine OW_pass rfl ?_
         | refine OW_take rfl ?_
         | refine OW_lenS (by first | with_reducible exact und_bytes | with_reducible exact und_bytess) rfl ?_
         | refine OW_convInt (by first | with_reducible exact und_u8 | with_reducible exact und_u64 | with_reducible exact und_int | with_reducible exact und_u32) (by first | with_reducible exact und_u8 | with_reducible exact und_u64 | with_reducible exact und_int | with_reducible exact und_u32) rfl ?_
         | refine OW_add rfl rfl ?_
         | refine OW_sub rfl rfl ?_
         | refine OW_mul rfl rfl ?_
         | refine OW_min2 rfl rfl ?_
         | refine OW_max2 rfl rfl ?_
         | refine OW_neg rfl ?_
         | refine CW_block ?_
         | refine CW_condT rfl ?_
         | refine CW_condF rfl ?_
         | refine CW_exit ?_
         | refine CW_ret ?_
         | refine CW_skip ?_
         | refine thenE_exit ?_
         | refine thenE_ret ?_
         | refine inBlockE_normal ?_
         | refine inBlockE_same ?_
         | refine inBlockE_ret ?_
         | refine inBlockE_ne (by rfl) ?_
         | refine OW_eqlB (by with_reducible exact und_bool) rfl rfl ?_
         | refine OW_neqB (by with_reducible exact und_bool) rfl rfl ?_
         | refine OW_idxS (by with_reducible exact und_bytes) one_u8 rfl rfl _ rfl (by omega) ?_
         | refine OW_idxS (by with_reducible exact und_bytess) one_bytes rfl rfl _ rfl (by omega) ?_
         | refine OW_load1 (by first | with_reducible exact one_u8 | with_reducible exact one_bytes) rfl _ (by assumption) ?_
         | refine OW_load1 (by with_reducible exact one_u8) rfl _ (hk.ext.cell' (by assumption)) ?_)
        refine OW_nil ?_
        exact keepsF_mk _ _ _ _
    refine ⟨?_, ?_⟩
    · refine Obl_take (fun e1 w1 hk => ?_) (fun e1 w1 hk => ?_)
      · rw [upd_self (hk.pre 28 82 rfl rfl : isV _ _ _)]
        rfl
      · rw [upd_self (hk.pre 31 85 rfl rfl : isV _ _ _), upd_self (hk.pre 33 87 rfl rfl : isV _ _ _)]
        refine OW_sliceBs und_bytes one_u8 (bB8.ext hk.ext) rfl kB rfl ⟨_, rfl⟩ rfl (a.length + 4) b.length (by omega) rfl (by omega) ?_
        intro A' hA' hl'
        rw [show b.length - (a.length + 4) = 8 by omega] at hA' hl' ⊢
        rw [d2, List.take_of_length_le (by omega)] at hA' hl'
        refine OW_nil ?_
        exact keepsF_bsN _ _ _ _ _ _ _ _ hl' (Ext.rfl' _) (by omega) hA'
    refine ⟨?_, ?_⟩
    · refine Obl_take (fun e1 w1 hk => ?_) (fun e1 w1 hk => ?_)
      · rw [upd_self (hk.pre 28 82 rfl rfl : isV _ _ _)]
        rfl
      · obtain ⟨A84, c84, q84, z84, b84⟩ := (hk.pre 30 84 rfl rfl : (isBs (putL y 8)) _ _)
        obtain ⟨A88, c88, q88, z88, b88⟩ := (hk.pre 34 88 rfl rfl : (isBs (putL y 8)) _ _)
        rw [upd_self q84, upd_self q88]
        refine OW_callV Try.func27 (by kernel_rfl) rfl (same_any _ A84 A88 (putL y 8) (putL y 8) c84 c88 b84 b88 z84 (by omega)) rfl ?_
        intro w9 h9
        rw [beq_self_eq_true]
        refine OW_nil ?_
        exact keepsF_ext _ _ _ _ _ h9
    refine ⟨?_, ?_⟩
    · refine Obl_of (fun e1 w1 hk => ?_)
      rw [upd_self (hk.pre 28 82 rfl rfl : isV _ _ _), upd_self (hk.pre 35 89 rfl rfl : isV _ _ _)]
      (first
       | refine OW_moveV (.int _ _) rfl ?_
       | refine OW_moveV (.slice _ _ _) rfl ?_
       | refine OW_moveV (.bool _) rfl ?_
       | refine OW_moveV (.pointer _) rfl ?_
       | refine OW_moveV (.string _) rfl ?_
       | refine OW_moveV (.agg _) rfl ?_
       | refine OW_moveV (.tuple _) rfl ?_
       | refine OW_nil ?_
       | refine thenE_normal ?_
       | refine CW_seq ?_
       | refine CW_region (by kernel_rfl) ?_
       | refine OW_assignV (.int _ _) rfl ?_
       | refine OW_assignV (.slice _ _ _) rfl ?_
       | refine OW_assignV (.bool _) rfl ?_
       | refine OW_assignV (.pointer _) rfl ?_
       | refine OW_assignV (.string _) rfl ?_
       | refine OW_assignV (.agg _) rfl ?_
       | refine OW_assignV (.tuple _) rfl ?_
       | refine OW_addI rfl rfl (by omega) ?_
       | refine OW_subI rfl rfl (by omega) ?_
       | refine OW_mulI rfl rfl (by omega) ?_
       | refine OW_lss rfl rfl ?_
       | refine OW_extract rfl rfl ?_
       | refine OW_gtr rfl rfl ?_
       | refine OW_leq rfl rfl ?_
       | refine OW_geq rfl rfl ?_
       | refine OW_eql rfl rfl ?_
       | refine OW_neq rfl rfl ?_
       | refine OW_not rfl ?_
       | refine OW_pickT rfl _ rfl ?_
       | refine OW_pickF rfl (.bool _) rfl ?_
       | refine OW_pickB rfl rfl rfl ?_
       | refine OW_move ?_
       | refine OW_assign ?_
       | refine OW_pass rfl ?_
       | refine OW_take rfl ?_
       | refine OW_lenS (by first | with_reducible exact und_bytes | with_reducible exact und_bytess) rfl ?_
       | refine OW_convInt (by first | with_reducible exact und_u8 | with_reducible exact und_u64 | with_reducible exact und_int | with_reducible exact und_u32) (by first | with_reducible exact und_u8 | with_reducible exact und_u64 | with_reducible exact und_int | with_reducible exact und_u32) rfl ?_
       | refine OW_add rfl rfl ?_
       | refine OW_sub rfl rfl ?_
       | refine OW_mul rfl rfl ?_
       | refine OW_min2 rfl rfl ?_
       | refine OW_max2 rfl rfl ?_
       | refine OW_neg rfl ?_
       | refine CW_block ?_
       | refine CW_condT rfl ?_
       | refine CW_condF rfl ?_
       | refine CW_exit ?_
       | refine CW_ret ?_
       | refine CW_skip ?_
       | refine thenE_exit ?_
       | refine thenE_ret ?_
       | refine inBlockE_normal ?_
       | refine inBlockE_same ?_
       | refine inBlockE_ret ?_
       | refine inBlockE_ne (by rfl) ?_
       | refine OW_eqlB (by with_reducible exact und_bool) rfl rfl ?_
       | refine OW_neqB (by with_reducible exact und_bool) rfl rfl ?_
       | refine OW_idxS (by with_reducible exact und_bytes) one_u8 rfl rfl _ rfl (by omega) ?_
       | refine OW_idxS (by with_reducible exact und_bytess) one_bytes rfl rfl _ rfl (by omega) ?_
       | refine OW_load1 (by first | with_reducible exact one_u8 | with_reducible exact one_bytes) rfl _ (by assumption) ?_
       | refine OW_load1 (by with_reducible exact one_u8) rfl _ (hk.ext.cell' (by assumption)) ?_)
      refine OW_nil ?_
      exact keepsF_mk _ _ _ _
    refine ⟨?_, ?_⟩
    · refine Obl_of (fun e1 w1 hk => ?_)
      rw [upd_self (hk.pre 36 90 rfl rfl : isV _ _ _)]
      (first
       | refine OW_moveV (.int _ _) rfl ?_
       | refine OW_moveV (.slice _ _ _) rfl ?_
       | refine OW_moveV (.bool _) rfl ?_
       | refine OW_moveV (.pointer _) rfl ?_
       | refine OW_moveV (.string _) rfl ?_
       | refine OW_moveV (.agg _) rfl ?_
       | refine OW_moveV (.tuple _) rfl ?_
       | refine OW_nil ?_
       | refine thenE_normal ?_
       | refine CW_seq ?_
       | refine CW_region (by kernel_rfl) ?_
       | refine OW_assignV (.int _ _) rfl ?_
       | refine OW_assignV (.slice _ _ _) rfl ?_
       | refine OW_assignV (.bool _) rfl ?_
       | refine OW_assignV (.pointer _) rfl ?_
       | refine OW_assignV (.string _) rfl ?_
       | refine OW_assignV (.agg _) rfl ?_
       | refine OW_assignV (.tuple _) rfl ?_
       | refine OW_addI rfl rfl (by omega) ?_
       | refine OW_subI rfl rfl (by omega) ?_
       | refine OW_mulI rfl rfl (by omega) ?_
       | refine OW_lss rfl rfl ?_
       | refine OW_extract rfl rfl ?_
       | refine OW_gtr rfl rfl ?_
       | refine OW_leq rfl rfl ?_
       | refine OW_geq rfl rfl ?_
       | refine OW_eql rfl rfl ?_
       | refine OW_neq rfl rfl ?_
       | refine OW_not rfl ?_
       | refine OW_pickT rfl _ rfl ?_
       | refine OW_pickF rfl (.bool _) rfl ?_
       | refine OW_pickB rfl rfl rfl ?_
       | refine OW_move ?_
       | refine OW_assign ?_
       | refine OW_pass rfl ?_
       | refine OW_take rfl ?_
       | refine OW_lenS (by first | with_reducible exact und_bytes | with_reducible exact und_bytess) rfl ?_
       | refine OW_convInt (by first | with_reducible exact und_u8 | with_reducible exact und_u64 | with_reducible exact und_int | with_reducible exact und_u32) (by first | with_reducible exact und_u8 | with_reducible exact und_u64 | with_reducible exact und_int | with_reducible exact und_u32) rfl ?_
       | refine OW_add rfl rfl ?_
       | refine OW_sub rfl rfl ?_
       | refine OW_mul rfl rfl ?_
       | refine OW_min2 rfl rfl ?_
       | refine OW_max2 rfl rfl ?_
       | refine OW_neg rfl ?_
       | refine CW_block ?_
       | refine CW_condT rfl ?_
       | refine CW_condF rfl ?_
       | refine CW_exit ?_
       | refine CW_ret ?_
       | refine CW_skip ?_
       | refine thenE_exit ?_
       | refine thenE_ret ?_
       | refine inBlockE_normal ?_
       | refine inBlockE_same ?_
       | refine inBlockE_ret ?_
       | refine inBlockE_ne (by rfl) ?_
       | refine OW_eqlB (by with_reducible exact und_bool) rfl rfl ?_
       | refine OW_neqB (by with_reducible exact und_bool) rfl rfl ?_
       | refine OW_idxS (by with_reducible exact und_bytes) one_u8 rfl rfl _ rfl (by omega) ?_
       | refine OW_idxS (by with_reducible exact und_bytess) one_bytes rfl rfl _ rfl (by omega) ?_
       | refine OW_load1 (by first | with_reducible exact one_u8 | with_reducible exact one_bytes) rfl _ (by assumption) ?_
       | refine OW_load1 (by with_reducible exact one_u8) rfl _ (hk.ext.cell' (by assumption)) ?_)
      refine OW_nil ?_
      exact keepsF_mk _ _ _ _
    trivial
  case h =>
    intro e1 w1 hw1 hout hall
    rw [upd_self (hall 37 6 rfl : isV _ _ _)]
    repeat (first
        | refine OW_moveV (.int _ _) rfl ?_
        | refine OW_moveV (.slice _ _ _) rfl ?_
        | refine OW_moveV (.bool _) rfl ?_
        | refine OW_moveV (.pointer _) rfl ?_
        | refine OW_moveV (.string _) rfl ?_
        | refine OW_moveV (.agg _) rfl ?_
        | refine OW_moveV (.tuple _) rfl ?_
        | refine OW_nil ?_
        | refine thenE_normal ?_
        | refine CW_seq ?_
        | refine CW_region (by kernel_rfl) ?_
        | refine OW_assignV (.int _ _) rfl ?_
        | refine OW_assignV (.slice _ _ _) rfl ?_
        | refine OW_assignV (.bool _) rfl ?_
        | refine OW_assignV (.pointer _) rfl ?_
        | refine OW_assignV (.string _) rfl ?_
        | refine OW_assignV (.agg _) rfl ?_
        | refine OW_assignV (.tuple _) rfl ?_
        | refine OW_addI rfl rfl (by omega) ?_
        | refine OW_subI rfl rfl (by omega) ?_
        | refine OW_mulI rfl rfl (by omega) ?_
        | refine OW_lss rfl rfl ?_
        | refine OW_extract rfl rfl ?_
        | refine OW_gtr rfl rfl ?_
        | refine OW_leq rfl rfl ?_
        | refine OW_geq rfl rfl ?_
        | refine OW_eql rfl rfl ?_
        | refine OW_neq rfl rfl ?_
        | refine OW_not rfl ?_
        | refine OW_pickT rfl _ rfl ?_
        | refine OW_pickF rfl (.bool _) rfl ?_
        | refine OW_pickB rfl rfl rfl ?_
        | refine OW_move ?_
        | refine OW_assign ?_
        | refine OW_pass rfl ?_
        | refine OW_take rfl ?_
        | refine OW_lenS (by first | with_reducible exact und_bytes | with_reducible exact und_bytess) rfl ?_
        | refine OW_convInt (by first | with_reducible exact und_u8 | with_reducible exact und_u64 | with_reducible exact und_int | with_reducible exact und_u32) (by first | with_reducible exact und_u8 | with_reducible exact und_u64 | with_reducible exact und_int | with_reducible exact und_u32) rfl ?_
        | refine OW_add rfl rfl ?_
        | refine OW_sub rfl rfl ?_
        | refine OW_mul rfl rfl ?_
        | refine OW_min2 rfl rfl ?_
        | refine OW_max2 rfl rfl ?_
        | refine OW_neg rfl ?_
        | refine CW_block ?_
        | refine CW_condT rfl ?_
        | refine CW_condF rfl ?_
        | refine CW_exit ?_
        | refine CW_ret ?_
        | refine CW_skip ?_
        | refine thenE_exit ?_
        | refine thenE_ret ?_
        | refine inBlockE_normal ?_
        | refine inBlockE_same ?_
        | refine inBlockE_ret ?_
        | refine inBlockE_ne (by rfl) ?_
        | refine OW_eqlB (by with_reducible exact und_bool) rfl rfl ?_
        | refine OW_neqB (by with_reducible exact und_bool) rfl rfl ?_
        | refine OW_idxS (by with_reducible exact und_bytes) one_u8 rfl rfl _ rfl (by omega) ?_
        | refine OW_idxS (by with_reducible exact und_bytess) one_bytes rfl rfl _ rfl (by omega) ?_
        | refine OW_load1 (by first | with_reducible exact one_u8 | with_reducible exact one_bytes) rfl _ (by assumption) ?_)
    exact bodyE_ret1 rfl (.bool true) rfl ⟨rfl, y8.trans' hw1⟩
set_option maxRecDepth 100000 in
theorem lifted (os : Os) (started : os.Started) (H : Type) (enc : TypeId × Value → H) :
    ReturnsInHanded {} Try.checked os 10 .any (Rows.wordsBackSpec.pre6 enc Try.prog Try.f10 Rows.wordsBackRow.domain false) (Rows.wordsBackSpec.post enc Try.prog Try.f10 false true false false) := by
  refine returnsInHanded_of_change (C := Try.checked) ownP started (by kernel_rfl) Try.func10
    (ChangeSpec.witness6 (enc := enc) (C := Try.checked) false ⟨#[], #[.int .u32 0, .int .u64 0, .slice none 0 0], []⟩ 8 (by kernel_rfl) (by kernel_rfl) (by kernel_rfl) (by kernel_rfl)) ?_
  intro W base args ds gs before hval0 hW hcnd _
  have hval : ∀ (j : Nat) t v, Try.f10.params[j]? = some t → args[j]? = some v → Value.okWide Try.prog W .any base t v := hval0
  have hW' := hW
  obtain ⟨p, q, hA0, hV, rfl, hfz, hnd⟩ := hW
  have hA : DataW.TrodAll enc Try.prog W 0 (fun _ => true) true Try.f10.params.toList args.toList ds p := hA0
  rw [Try.params10] at hA hval
  obtain ⟨v0, vs0, d0, ds0, p0, q0, hargs, rfl, rfl, h0, r0⟩ := trodAll_cons hA
  obtain ⟨v1, vs1, d1, ds1, p1, q1, rfl, rfl, rfl, h1, r1⟩ := trodAll_cons r0
  obtain ⟨v2, vs2, d2, ds2, p2, q2, rfl, rfl, rfl, h2, r2⟩ := trodAll_cons r1
  obtain ⟨rfl, rfl, rfl⟩ := trodAll_nil r2
  obtain rfl : args = #[v0, v1, v2] := by cases args; simp_all
  obtain ⟨rfl, rfl⟩ := trodVars_none hV
  have k0 := h0
  have lt0 : ∀ x ∈ p0, x.block < W.heap.size := by obtain ⟨m, hm⟩ := k0; exact DataW.trod_lt m _ _ _ hm
  have k1 := h1
  have lt1 : ∀ x ∈ p1, x.block < W.heap.size := by obtain ⟨m, hm⟩ := k1; exact DataW.trod_lt m _ _ _ hm
  have k2 := h2
  have lt2 : ∀ x ∈ p2, x.block < W.heap.size := by obtain ⟨m, hm⟩ := k2; exact DataW.trod_lt m _ _ _ hm
  obtain ⟨z0, rfl, rfl, rfl, w0⟩ := open_int Try.underlying22 (hval 0 22 v0 rfl rfl) h0
  obtain ⟨a0, rfl, b0⟩ := nat_u32 w0
  obtain ⟨z1, rfl, rfl, rfl, w1⟩ := open_int Try.underlying25 (hval 1 25 v1 rfl rfl) h1
  obtain ⟨a1, rfl, b1⟩ := nat_u64 w1
  obtain ⟨A2, c2, l2, rfl, b2, n2⟩ := open_bytes Try.underlying26 Try.underlying5 (by kernel_rfl) (hval 2 26 v2 rfl rfl) h2
  clear hA0 hval0
  refine (walk W a0 b0 a1 b1 A2 c2 l2 b2 n2).mono fun e W' ⟨he, bel⟩ => ?_
  subst he
  exact ⟨_, rfl, _, _, _, [], _, [], hW', trodAll_mk1 (shut_bool Try.underlying4 _), (trodAll_cons_mk (Below.trod laidP (by kernel_rfl) (of_decide_eq_true (by kernel_rfl)) k0 bel lt0) (trodAll_cons_mk (Below.trod laidP (by kernel_rfl) (of_decide_eq_true (by kernel_rfl)) k1 bel lt1) (trodAll_cons_mk (Below.trod laidP (by kernel_rfl) (of_decide_eq_true (by kernel_rfl)) k2 bel lt2) trodAll_mk0))), rfl, bel.frame _, fun h => by cases h⟩
theorem over : Rows.wordsBackRow.holds Try.pinned (OpenSpec.ofChange Rows.wordsBackSpec) :=
  OpenClaim.holds_of_wide 10 Try.f10 rfl rfl rfl rfl rfl rfl rfl ⟨rfl, rfl, rfl, rfl, rfl⟩ rfl rfl rfl rfl rfl (by kernel_rfl) Try.func10 (by kernel_rfl)
    (of_decide_eq_true (by kernel_rfl)) (by unfold Func.isWrapper; first | (rw [if_pos (by decide +kernel)]; kernel_rfl) | (rw [if_neg (by decide +kernel)]; exact ⟨rfl, rfl⟩))
    (fun os started H enc _ => lifted os started H enc)
theorem proved : Rows.WordsBackSaid := over
#print axioms proved
end Go.Proofs.Ytkebipifbdncoaa.lawWordsBack
