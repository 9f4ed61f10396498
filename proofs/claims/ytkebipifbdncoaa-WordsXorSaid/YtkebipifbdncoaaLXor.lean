/- WordsXor: Xor of Xor of two lists as long leads back; of a list with itself it is all 0; it does not mind which one is first. No condition. -/
import Derived.Test.YtkebipifbdncoaaAwake1
import Derived.Test.YtkebipifbdncoaaFrame
namespace Go.Proofs.Ytkebipifbdncoaa.lawWordsXor
open Go.ChangeShapes Go.WideShapes Go.ChangeAt Go.RowKit
set_option linter.unusedVariables false
theorem xor_comm' (a b : List UInt8) : xorL b a = xorL a b := by
  unfold xorL
  rw [List.zipWith_comm]
  congr 1
  funext x y
  exact UInt8.xor_comm _ _
theorem xor_xor' (a b : List UInt8) : xorL (xorL a b) b = a.take (min a.length b.length) := by
  apply List.ext_getElem
  · rw [xorL_length, xorL_length, List.length_take]; omega
  · intro i h1 h2
    have h3 : (xorL (xorL a b) b)[i] = (a[i]'(by rw [List.length_take] at h2; omega) ^^^ b[i]'(by rw [List.length_take] at h2; omega)) ^^^ b[i]'(by rw [List.length_take] at h2; omega) := by simp [xorL]
    rw [h3, UInt8.xor_assoc, UInt8.xor_self, UInt8.xor_zero, List.getElem_take]
theorem xor_zero' (a : List UInt8) : ∀ k (h : k < (xorL a a).length), (xorL a a)[k] = 0 := by
  intro k h
  unfold xorL
  simp
set_option maxHeartbeats 8000000 in
theorem walk (w : World) (A : Option Addr) (cA : Nat) (a : List UInt8) (ha : Bs w A a) (hca : a.length ≤ cA) (B : Option Addr) (cB : Nat) (b : List UInt8) (hb : Bs w B b) (hcb : b.length ≤ cB) :
    Calls Try.prog 8 #[.slice A a.length cA, .slice B b.length cB] w (RetV w (.bool true)) := by
  refine calls_of_CW Try.func8 rfl (by simp [Try.ntmps8]) ?_
  rw [Try.ntmps8]
  repeat (first
      | refine OW_moveV (.int _ _) rfl ?_
      | refine OW_moveV (.slice _ _ _) rfl ?_
      | refine OW_moveV (.bool _) rfl ?_
      | refine OW_moveV (.pointer _) rfl ?_
      | refine OW_moveV (.string _) rfl ?_
      | refine OW_moveV (.agg _) rfl ?_
      | refine OW_moveV (.tuple _) rfl ?_
      | refine OW_nil ?_
      | refine thenE_normal ?_
      | refine CW_seq ?_
      | refine CW_region (by kernel_rfl) ?_
      | refine OW_assignV (.int _ _) rfl ?_
      | refine OW_assignV (.slice _ _ _) rfl ?_
      | refine OW_assignV (.bool _) rfl ?_
      | refine OW_assignV (.pointer _) rfl ?_
      | refine OW_assignV (.string _) rfl ?_
      | refine OW_assignV (.agg _) rfl ?_
      | refine OW_assignV (.tuple _) rfl ?_
      | refine OW_addI rfl rfl (by omega) ?_
      | refine OW_subI rfl rfl (by omega) ?_
      | refine OW_mulI rfl rfl (by omega) ?_
      | refine OW_lss rfl rfl ?_
      | refine OW_extract rfl rfl ?_
      | refine OW_gtr rfl rfl ?_
      | refine OW_leq rfl rfl ?_
      | refine OW_geq rfl rfl ?_
      | refine OW_eql rfl rfl ?_
      | refine OW_neq rfl rfl ?_
      | refine OW_not rfl ?_
      | refine OW_pickT rfl _ rfl ?_
      | refine OW_pickF rfl (.bool _) rfl ?_
      | refine OW_pickB rfl rfl rfl ?_
      | refine OW_move ?_
      | refine OW_assign ?_
      | refine OW_pass rfl ?_
      | refine OW_take rfl ?_
      | refine OW_lenS (by first | with_reducible exact und_bytes | with_reducible exact und_bytess) rfl ?_
      | refine OW_convInt (by first | with_reducible exact und_u8 | with_reducible exact und_u64 | with_reducible exact und_int | with_reducible exact und_u32) (by first | with_reducible exact und_u8 | with_reducible exact und_u64 | with_reducible exact und_int | with_reducible exact und_u32) rfl ?_
      | refine OW_add rfl rfl ?_
      | refine OW_sub rfl rfl ?_
      | refine OW_mul rfl rfl ?_
      | refine OW_min2 rfl rfl ?_
      | refine OW_max2 rfl rfl ?_
      | refine OW_neg rfl ?_
      | refine CW_block ?_
      | refine CW_condT rfl ?_
      | refine CW_condF rfl ?_
      | refine CW_exit ?_
      | refine CW_ret ?_
      | refine CW_skip ?_
      | refine thenE_exit ?_
      | refine thenE_ret ?_
      | refine inBlockE_normal ?_
      | refine inBlockE_same ?_
      | refine inBlockE_ret ?_
      | refine inBlockE_ne (by rfl) ?_
      | refine OW_eqlB (by with_reducible exact und_bool) rfl rfl ?_
      | refine OW_neqB (by with_reducible exact und_bool) rfl rfl ?_
      | refine OW_idxS (by with_reducible exact und_bytes) one_u8 rfl rfl _ rfl (by omega) ?_
      | refine OW_idxS (by with_reducible exact und_bytess) one_bytes rfl rfl _ rfl (by omega) ?_
      | refine OW_load1 (by first | with_reducible exact one_u8 | with_reducible exact one_bytes) rfl _ (by assumption) ?_)
  refine OW_callV Try.func28 (by kernel_rfl) rfl (awake1_any _) rfl ?_
  intro w1 hw1
  repeat (first
      | refine OW_moveV (.int _ _) rfl ?_
      | refine OW_moveV (.slice _ _ _) rfl ?_
      | refine OW_moveV (.bool _) rfl ?_
      | refine OW_moveV (.pointer _) rfl ?_
      | refine OW_moveV (.string _) rfl ?_
      | refine OW_moveV (.agg _) rfl ?_
      | refine OW_moveV (.tuple _) rfl ?_
      | refine OW_nil ?_
      | refine thenE_normal ?_
      | refine CW_seq ?_
      | refine CW_region (by kernel_rfl) ?_
      | refine OW_assignV (.int _ _) rfl ?_
      | refine OW_assignV (.slice _ _ _) rfl ?_
      | refine OW_assignV (.bool _) rfl ?_
      | refine OW_assignV (.pointer _) rfl ?_
      | refine OW_assignV (.string _) rfl ?_
      | refine OW_assignV (.agg _) rfl ?_
      | refine OW_assignV (.tuple _) rfl ?_
      | refine OW_addI rfl rfl (by omega) ?_
      | refine OW_subI rfl rfl (by omega) ?_
      | refine OW_mulI rfl rfl (by omega) ?_
      | refine OW_lss rfl rfl ?_
      | refine OW_extract rfl rfl ?_
      | refine OW_gtr rfl rfl ?_
      | refine OW_leq rfl rfl ?_
      | refine OW_geq rfl rfl ?_
      | refine OW_eql rfl rfl ?_
      | refine OW_neq rfl rfl ?_
      | refine OW_not rfl ?_
      | refine OW_pickT rfl _ rfl ?_
      | refine OW_pickF rfl (.bool _) rfl ?_
      | refine OW_pickB rfl rfl rfl ?_
      | refine OW_move ?_
      | refine OW_assign ?_
      | refine OW_pass rfl ?_
      | refine OW_take rfl ?_
      | refine OW_lenS (by first | with_reducible exact und_bytes | with_reducible exact und_bytess) rfl ?_
      | refine OW_convInt (by first | with_reducible exact und_u8 | with_reducible exact und_u64 | with_reducible exact und_int | with_reducible exact und_u32) (by first | with_reducible exact und_u8 | with_reducible exact und_u64 | with_reducible exact und_int | with_reducible exact und_u32) rfl ?_
      | refine OW_add rfl rfl ?_
      | refine OW_sub rfl rfl ?_
      | refine OW_mul rfl rfl ?_
      | refine OW_min2 rfl rfl ?_
      | refine OW_max2 rfl rfl ?_
      | refine OW_neg rfl ?_
      | refine CW_block ?_
      | refine CW_condT rfl ?_
      | refine CW_condF rfl ?_
      | refine CW_exit ?_
      | refine CW_ret ?_
      | refine CW_skip ?_
      | refine thenE_exit ?_
      | refine thenE_ret ?_
      | refine inBlockE_normal ?_
      | refine inBlockE_same ?_
      | refine inBlockE_ret ?_
      | refine inBlockE_ne (by rfl) ?_
      | refine OW_eqlB (by with_reducible exact und_bool) rfl rfl ?_
      | refine OW_neqB (by with_reducible exact und_bool) rfl rfl ?_
      | refine OW_idxS (by with_reducible exact und_bytes) one_u8 rfl rfl _ rfl (by omega) ?_
      | refine OW_idxS (by with_reducible exact und_bytess) one_bytes rfl rfl _ rfl (by omega) ?_
      | refine OW_load1 (by first | with_reducible exact one_u8 | with_reducible exact one_bytes) rfl _ (by assumption) ?_)
  refine OW_split 14 _ rfl (fun h => ?_) (fun h => ?_)
  · repeat (first
        | refine OW_moveV (.int _ _) rfl ?_
        | refine OW_moveV (.slice _ _ _) rfl ?_
        | refine OW_moveV (.bool _) rfl ?_
        | refine OW_moveV (.pointer _) rfl ?_
        | refine OW_moveV (.string _) rfl ?_
        | refine OW_moveV (.agg _) rfl ?_
        | refine OW_moveV (.tuple _) rfl ?_
        | refine OW_nil ?_
        | refine thenE_normal ?_
        | refine CW_seq ?_
        | refine CW_region (by kernel_rfl) ?_
        | refine OW_assignV (.int _ _) rfl ?_
        | refine OW_assignV (.slice _ _ _) rfl ?_
        | refine OW_assignV (.bool _) rfl ?_
        | refine OW_assignV (.pointer _) rfl ?_
        | refine OW_assignV (.string _) rfl ?_
        | refine OW_assignV (.agg _) rfl ?_
        | refine OW_assignV (.tuple _) rfl ?_
        | refine OW_addI rfl rfl (by omega) ?_
        | refine OW_subI rfl rfl (by omega) ?_
        | refine OW_mulI rfl rfl (by omega) ?_
        | refine OW_lss rfl rfl ?_
        | refine OW_extract rfl rfl ?_
        | refine OW_gtr rfl rfl ?_
        | refine OW_leq rfl rfl ?_
        | refine OW_geq rfl rfl ?_
        | refine OW_eql rfl rfl ?_
        | refine OW_neq rfl rfl ?_
        | refine OW_not rfl ?_
        | refine OW_pickT rfl _ rfl ?_
        | refine OW_pickF rfl (.bool _) rfl ?_
        | refine OW_pickB rfl rfl rfl ?_
        | refine OW_move ?_
        | refine OW_assign ?_
        | refine OW_pass rfl ?_
        | refine OW_take rfl ?_
        | refine OW_lenS (by first | with_reducible exact und_bytes | with_reducible exact und_bytess) rfl ?_
        | refine OW_convInt (by first | with_reducible exact und_u8 | with_reducible exact und_u64 | with_reducible exact und_int | with_reducible exact und_u32) (by first | with_reducible exact und_u8 | with_reducible exact und_u64 | with_reducible exact und_int | with_reducible exact und_u32) rfl ?_
        | refine OW_add rfl rfl ?_
        | refine OW_sub rfl rfl ?_
        | refine OW_mul rfl rfl ?_
        | refine OW_min2 rfl rfl ?_
        | refine OW_max2 rfl rfl ?_
        | refine OW_neg rfl ?_
        | refine CW_block ?_
        | refine CW_condT rfl ?_
        | refine CW_condF rfl ?_
        | refine CW_exit ?_
        | refine CW_ret ?_
        | refine CW_skip ?_
        | refine thenE_exit ?_
        | refine thenE_ret ?_
        | refine inBlockE_normal ?_
        | refine inBlockE_same ?_
        | refine inBlockE_ret ?_
        | refine inBlockE_ne (by rfl) ?_
        | refine OW_eqlB (by with_reducible exact und_bool) rfl rfl ?_
        | refine OW_neqB (by with_reducible exact und_bool) rfl rfl ?_
        | refine OW_idxS (by with_reducible exact und_bytes) one_u8 rfl rfl _ rfl (by omega) ?_
        | refine OW_idxS (by with_reducible exact und_bytess) one_bytes rfl rfl _ rfl (by omega) ?_
        | refine OW_load1 (by first | with_reducible exact one_u8 | with_reducible exact one_bytes) rfl _ (by assumption) ?_)
    exact bodyE_ret1 rfl (.bool true) rfl ⟨rfl, hw1⟩
  have hl : a.length ≤ 3000 := by simp at h; omega
  clear h
  repeat (first
      | refine OW_moveV (.int _ _) rfl ?_
      | refine OW_moveV (.slice _ _ _) rfl ?_
      | refine OW_moveV (.bool _) rfl ?_
      | refine OW_moveV (.pointer _) rfl ?_
      | refine OW_moveV (.string _) rfl ?_
      | refine OW_moveV (.agg _) rfl ?_
      | refine OW_moveV (.tuple _) rfl ?_
      | refine OW_nil ?_
      | refine thenE_normal ?_
      | refine CW_seq ?_
      | refine CW_region (by kernel_rfl) ?_
      | refine OW_assignV (.int _ _) rfl ?_
      | refine OW_assignV (.slice _ _ _) rfl ?_
      | refine OW_assignV (.bool _) rfl ?_
      | refine OW_assignV (.pointer _) rfl ?_
      | refine OW_assignV (.string _) rfl ?_
      | refine OW_assignV (.agg _) rfl ?_
      | refine OW_assignV (.tuple _) rfl ?_
      | refine OW_addI rfl rfl (by omega) ?_
      | refine OW_subI rfl rfl (by omega) ?_
      | refine OW_mulI rfl rfl (by omega) ?_
      | refine OW_lss rfl rfl ?_
      | refine OW_extract rfl rfl ?_
      | refine OW_gtr rfl rfl ?_
      | refine OW_leq rfl rfl ?_
      | refine OW_geq rfl rfl ?_
      | refine OW_eql rfl rfl ?_
      | refine OW_neq rfl rfl ?_
      | refine OW_not rfl ?_
      | refine OW_pickT rfl _ rfl ?_
      | refine OW_pickF rfl (.bool _) rfl ?_
      | refine OW_pickB rfl rfl rfl ?_
      | refine OW_move ?_
      | refine OW_assign ?_
      | refine OW_pass rfl ?_
      | refine OW_take rfl ?_
      | refine OW_lenS (by first | with_reducible exact und_bytes | with_reducible exact und_bytess) rfl ?_
      | refine OW_convInt (by first | with_reducible exact und_u8 | with_reducible exact und_u64 | with_reducible exact und_int | with_reducible exact und_u32) (by first | with_reducible exact und_u8 | with_reducible exact und_u64 | with_reducible exact und_int | with_reducible exact und_u32) rfl ?_
      | refine OW_add rfl rfl ?_
      | refine OW_sub rfl rfl ?_
      | refine OW_mul rfl rfl ?_
      | refine OW_min2 rfl rfl ?_
      | refine OW_max2 rfl rfl ?_
      | refine OW_neg rfl ?_
      | refine CW_block ?_
      | refine CW_condT rfl ?_
      | refine CW_condF rfl ?_
      | refine CW_exit ?_
      | refine CW_ret ?_
      | refine CW_skip ?_
      | refine thenE_exit ?_
      | refine thenE_ret ?_
      | refine inBlockE_normal ?_
      | refine inBlockE_same ?_
      | refine inBlockE_ret ?_
      | refine inBlockE_ne (by rfl) ?_
      | refine OW_eqlB (by with_reducible exact und_bool) rfl rfl ?_
      | refine OW_neqB (by with_reducible exact und_bool) rfl rfl ?_
      | refine OW_idxS (by with_reducible exact und_bytes) one_u8 rfl rfl _ rfl (by omega) ?_
      | refine OW_idxS (by with_reducible exact und_bytess) one_bytes rfl rfl _ rfl (by omega) ?_
      | refine OW_load1 (by first | with_reducible exact one_u8 | with_reducible exact one_bytes) rfl _ (by assumption) ?_)
  refine CW_cond _ rfl (fun h => ?_) (fun h => ?_)
  · repeat (first
        | refine OW_moveV (.int _ _) rfl ?_
        | refine OW_moveV (.slice _ _ _) rfl ?_
        | refine OW_moveV (.bool _) rfl ?_
        | refine OW_moveV (.pointer _) rfl ?_
        | refine OW_moveV (.string _) rfl ?_
        | refine OW_moveV (.agg _) rfl ?_
        | refine OW_moveV (.tuple _) rfl ?_
        | refine OW_nil ?_
        | refine thenE_normal ?_
        | refine CW_seq ?_
        | refine CW_region (by kernel_rfl) ?_
        | refine OW_assignV (.int _ _) rfl ?_
        | refine OW_assignV (.slice _ _ _) rfl ?_
        | refine OW_assignV (.bool _) rfl ?_
        | refine OW_assignV (.pointer _) rfl ?_
        | refine OW_assignV (.string _) rfl ?_
        | refine OW_assignV (.agg _) rfl ?_
        | refine OW_assignV (.tuple _) rfl ?_
        | refine OW_addI rfl rfl (by omega) ?_
        | refine OW_subI rfl rfl (by omega) ?_
        | refine OW_mulI rfl rfl (by omega) ?_
        | refine OW_lss rfl rfl ?_
        | refine OW_extract rfl rfl ?_
        | refine OW_gtr rfl rfl ?_
        | refine OW_leq rfl rfl ?_
        | refine OW_geq rfl rfl ?_
        | refine OW_eql rfl rfl ?_
        | refine OW_neq rfl rfl ?_
        | refine OW_not rfl ?_
        | refine OW_pickT rfl _ rfl ?_
        | refine OW_pickF rfl (.bool _) rfl ?_
        | refine OW_pickB rfl rfl rfl ?_
        | refine OW_move ?_
        | refine OW_assign ?_
        | refine OW_pass rfl ?_
        | refine OW_take rfl ?_
        | refine OW_lenS (by first | with_reducible exact und_bytes | with_reducible exact und_bytess) rfl ?_
        | refine OW_convInt (by first | with_reducible exact und_u8 | with_reducible exact und_u64 | with_reducible exact und_int | with_reducible exact und_u32) (by first | with_reducible exact und_u8 | with_reducible exact und_u64 | with_reducible exact und_int | with_reducible exact und_u32) rfl ?_
        | refine OW_add rfl rfl ?_
        | refine OW_sub rfl rfl ?_
        | refine OW_mul rfl rfl ?_
        | refine OW_min2 rfl rfl ?_
        | refine OW_max2 rfl rfl ?_
        | refine OW_neg rfl ?_
        | refine CW_block ?_
        | refine CW_condT rfl ?_
        | refine CW_condF rfl ?_
        | refine CW_exit ?_
        | refine CW_ret ?_
        | refine CW_skip ?_
        | refine thenE_exit ?_
        | refine thenE_ret ?_
        | refine inBlockE_normal ?_
        | refine inBlockE_same ?_
        | refine inBlockE_ret ?_
        | refine inBlockE_ne (by rfl) ?_
        | refine OW_eqlB (by with_reducible exact und_bool) rfl rfl ?_
        | refine OW_neqB (by with_reducible exact und_bool) rfl rfl ?_
        | refine OW_idxS (by with_reducible exact und_bytes) one_u8 rfl rfl _ rfl (by omega) ?_
        | refine OW_idxS (by with_reducible exact und_bytess) one_bytes rfl rfl _ rfl (by omega) ?_
        | refine OW_load1 (by first | with_reducible exact one_u8 | with_reducible exact one_bytes) rfl _ (by assumption) ?_)
    exact bodyE_ret1 rfl (.bool true) rfl ⟨rfl, hw1⟩
  have hl2 : b.length ≤ 3000 := by simp at h; omega
  clear h
  repeat (first
      | refine OW_moveV (.int _ _) rfl ?_
      | refine OW_moveV (.slice _ _ _) rfl ?_
      | refine OW_moveV (.bool _) rfl ?_
      | refine OW_moveV (.pointer _) rfl ?_
      | refine OW_moveV (.string _) rfl ?_
      | refine OW_moveV (.agg _) rfl ?_
      | refine OW_moveV (.tuple _) rfl ?_
      | refine OW_nil ?_
      | refine thenE_normal ?_
      | refine CW_seq ?_
      | refine CW_region (by kernel_rfl) ?_
      | refine OW_assignV (.int _ _) rfl ?_
      | refine OW_assignV (.slice _ _ _) rfl ?_
      | refine OW_assignV (.bool _) rfl ?_
      | refine OW_assignV (.pointer _) rfl ?_
      | refine OW_assignV (.string _) rfl ?_
      | refine OW_assignV (.agg _) rfl ?_
      | refine OW_assignV (.tuple _) rfl ?_
      | refine OW_addI rfl rfl (by omega) ?_
      | refine OW_subI rfl rfl (by omega) ?_
      | refine OW_mulI rfl rfl (by omega) ?_
      | refine OW_lss rfl rfl ?_
      | refine OW_extract rfl rfl ?_
      | refine OW_gtr rfl rfl ?_
      | refine OW_leq rfl rfl ?_
      | refine OW_geq rfl rfl ?_
      | refine OW_eql rfl rfl ?_
      | refine OW_neq rfl rfl ?_
      | refine OW_not rfl ?_
      | refine OW_pickT rfl _ rfl ?_
      | refine OW_pickF rfl (.bool _) rfl ?_
      | refine OW_pickB rfl rfl rfl ?_
      | refine OW_move ?_
      | refine OW_assign ?_
      | refine OW_pass rfl ?_
      | refine OW_take rfl ?_
      | refine OW_lenS (by first | with_reducible exact und_bytes | with_reducible exact und_bytess) rfl ?_
      | refine OW_convInt (by first | with_reducible exact und_u8 | with_reducible exact und_u64 | with_reducible exact und_int | with_reducible exact und_u32) (by first | with_reducible exact und_u8 | with_reducible exact und_u64 | with_reducible exact und_int | with_reducible exact und_u32) rfl ?_
      | refine OW_add rfl rfl ?_
      | refine OW_sub rfl rfl ?_
      | refine OW_mul rfl rfl ?_
      | refine OW_min2 rfl rfl ?_
      | refine OW_max2 rfl rfl ?_
      | refine OW_neg rfl ?_
      | refine CW_block ?_
      | refine CW_condT rfl ?_
      | refine CW_condF rfl ?_
      | refine CW_exit ?_
      | refine CW_ret ?_
      | refine CW_skip ?_
      | refine thenE_exit ?_
      | refine thenE_ret ?_
      | refine inBlockE_normal ?_
      | refine inBlockE_same ?_
      | refine inBlockE_ret ?_
      | refine inBlockE_ne (by rfl) ?_
      | refine OW_eqlB (by with_reducible exact und_bool) rfl rfl ?_
      | refine OW_neqB (by with_reducible exact und_bool) rfl rfl ?_
      | refine OW_idxS (by with_reducible exact und_bytes) one_u8 rfl rfl _ rfl (by omega) ?_
      | refine OW_idxS (by with_reducible exact und_bytess) one_bytes rfl rfl _ rfl (by omega) ?_
      | refine OW_load1 (by first | with_reducible exact one_u8 | with_reducible exact one_bytes) rfl _ (by assumption) ?_)
  -- n is the shorter length
  refine CW_cut (fun e' w' => e' 0 = .slice A a.length cA ∧ e' 1 = .slice B b.length cB ∧ e' 5 = .int .i64 (min a.length b.length : Nat) ∧ w' = w1) ?_ ?_
  · refine CW_cond _ rfl (fun h => ?_) (fun h => ?_)
    · have : b.length < a.length := by simp at h; omega
      have hm : min a.length b.length = b.length := by omega
      repeat (first
          | refine OW_moveV (.int _ _) rfl ?_
          | refine OW_moveV (.slice _ _ _) rfl ?_
          | refine OW_moveV (.bool _) rfl ?_
          | refine OW_moveV (.pointer _) rfl ?_
          | refine OW_moveV (.string _) rfl ?_
          | refine OW_moveV (.agg _) rfl ?_
          | refine OW_moveV (.tuple _) rfl ?_
          | refine OW_nil ?_
          | refine thenE_normal ?_
          | refine CW_seq ?_
          | refine CW_region (by kernel_rfl) ?_
          | refine OW_assignV (.int _ _) rfl ?_
          | refine OW_assignV (.slice _ _ _) rfl ?_
          | refine OW_assignV (.bool _) rfl ?_
          | refine OW_assignV (.pointer _) rfl ?_
          | refine OW_assignV (.string _) rfl ?_
          | refine OW_assignV (.agg _) rfl ?_
          | refine OW_assignV (.tuple _) rfl ?_
          | refine OW_addI rfl rfl (by omega) ?_
          | refine OW_subI rfl rfl (by omega) ?_
          | refine OW_mulI rfl rfl (by omega) ?_
          | refine OW_lss rfl rfl ?_
          | refine OW_extract rfl rfl ?_
          | refine OW_gtr rfl rfl ?_
          | refine OW_leq rfl rfl ?_
          | refine OW_geq rfl rfl ?_
          | refine OW_eql rfl rfl ?_
          | refine OW_neq rfl rfl ?_
          | refine OW_not rfl ?_
          | refine OW_pickT rfl _ rfl ?_
          | refine OW_pickF rfl (.bool _) rfl ?_
          | refine OW_pickB rfl rfl rfl ?_
          | refine OW_move ?_
          | refine OW_assign ?_
          | refine OW_pass rfl ?_
          | refine OW_take rfl ?_
          | refine OW_lenS (by first | with_reducible exact und_bytes | with_reducible exact und_bytess) rfl ?_
          | refine OW_convInt (by first | with_reducible exact und_u8 | with_reducible exact und_u64 | with_reducible exact und_int | with_reducible exact und_u32) (by first | with_reducible exact und_u8 | with_reducible exact und_u64 | with_reducible exact und_int | with_reducible exact und_u32) rfl ?_
          | refine OW_add rfl rfl ?_
          | refine OW_sub rfl rfl ?_
          | refine OW_mul rfl rfl ?_
          | refine OW_min2 rfl rfl ?_
          | refine OW_max2 rfl rfl ?_
          | refine OW_neg rfl ?_
          | refine CW_block ?_
          | refine CW_condT rfl ?_
          | refine CW_condF rfl ?_
          | refine CW_exit ?_
          | refine CW_ret ?_
          | refine CW_skip ?_
          | refine thenE_exit ?_
          | refine thenE_ret ?_
          | refine inBlockE_normal ?_
          | refine inBlockE_same ?_
          | refine inBlockE_ret ?_
          | refine inBlockE_ne (by rfl) ?_
          | refine OW_eqlB (by with_reducible exact und_bool) rfl rfl ?_
          | refine OW_neqB (by with_reducible exact und_bool) rfl rfl ?_
          | refine OW_idxS (by with_reducible exact und_bytes) one_u8 rfl rfl _ rfl (by omega) ?_
          | refine OW_idxS (by with_reducible exact und_bytess) one_bytes rfl rfl _ rfl (by omega) ?_
          | refine OW_load1 (by first | with_reducible exact one_u8 | with_reducible exact one_bytes) rfl _ (by assumption) ?_)
      exact ⟨rfl, rfl, by rw [hm]; rfl, rfl⟩
    · have : a.length ≤ b.length := by simp at h; omega
      have hm : min a.length b.length = a.length := by omega
      repeat (first
          | refine OW_moveV (.int _ _) rfl ?_
          | refine OW_moveV (.slice _ _ _) rfl ?_
          | refine OW_moveV (.bool _) rfl ?_
          | refine OW_moveV (.pointer _) rfl ?_
          | refine OW_moveV (.string _) rfl ?_
          | refine OW_moveV (.agg _) rfl ?_
          | refine OW_moveV (.tuple _) rfl ?_
          | refine OW_nil ?_
          | refine thenE_normal ?_
          | refine CW_seq ?_
          | refine CW_region (by kernel_rfl) ?_
          | refine OW_assignV (.int _ _) rfl ?_
          | refine OW_assignV (.slice _ _ _) rfl ?_
          | refine OW_assignV (.bool _) rfl ?_
          | refine OW_assignV (.pointer _) rfl ?_
          | refine OW_assignV (.string _) rfl ?_
          | refine OW_assignV (.agg _) rfl ?_
          | refine OW_assignV (.tuple _) rfl ?_
          | refine OW_addI rfl rfl (by omega) ?_
          | refine OW_subI rfl rfl (by omega) ?_
          | refine OW_mulI rfl rfl (by omega) ?_
          | refine OW_lss rfl rfl ?_
          | refine OW_extract rfl rfl ?_
          | refine OW_gtr rfl rfl ?_
          | refine OW_leq rfl rfl ?_
          | refine OW_geq rfl rfl ?_
          | refine OW_eql rfl rfl ?_
          | refine OW_neq rfl rfl ?_
          | refine OW_not rfl ?_
          | refine OW_pickT rfl _ rfl ?_
          | refine OW_pickF rfl (.bool _) rfl ?_
          | refine OW_pickB rfl rfl rfl ?_
          | refine OW_move ?_
          | refine OW_assign ?_
          | refine OW_pass rfl ?_
          | refine OW_take rfl ?_
          | refine OW_lenS (by first | with_reducible exact und_bytes | with_reducible exact und_bytess) rfl ?_
          | refine OW_convInt (by first | with_reducible exact und_u8 | with_reducible exact und_u64 | with_reducible exact und_int | with_reducible exact und_u32) (by first | with_reducible exact und_u8 | with_reducible exact und_u64 | with_reducible exact und_int | with_reducible exact und_u32) rfl ?_
          | refine OW_add rfl rfl ?_
          | refine OW_sub rfl rfl ?_
          | refine OW_mul rfl rfl ?_
          | refine OW_min2 rfl rfl ?_
          | refine OW_max2 rfl rfl ?_
          | refine OW_neg rfl ?_
          | refine CW_block ?_
          | refine CW_condT rfl ?_
          | refine CW_condF rfl ?_
          | refine CW_exit ?_
          | refine CW_ret ?_
          | refine CW_skip ?_
          | refine thenE_exit ?_
          | refine thenE_ret ?_
          | refine inBlockE_normal ?_
          | refine inBlockE_same ?_
          | refine inBlockE_ret ?_
          | refine inBlockE_ne (by rfl) ?_
          | refine OW_eqlB (by with_reducible exact und_bool) rfl rfl ?_
          | refine OW_neqB (by with_reducible exact und_bool) rfl rfl ?_
          | refine OW_idxS (by with_reducible exact und_bytes) one_u8 rfl rfl _ rfl (by omega) ?_
          | refine OW_idxS (by with_reducible exact und_bytess) one_bytes rfl rfl _ rfl (by omega) ?_
          | refine OW_load1 (by first | with_reducible exact one_u8 | with_reducible exact one_bytes) rfl _ (by assumption) ?_)
      exact ⟨rfl, rfl, by rw [hm]; rfl, rfl⟩
  rintro e0 w0 ⟨q0, q1, q5, rfl⟩
  have hwT := hw1
  rw [upd_self q0, upd_self q1, upd_self q5]
  have hx := xorL_length a b
  have hxa := xorL_length a a
  have ha1 := ha.ext hw1
  have hb1 := hb.ext hw1
  repeat (first
      | refine OW_moveV (.int _ _) rfl ?_
      | refine OW_moveV (.slice _ _ _) rfl ?_
      | refine OW_moveV (.bool _) rfl ?_
      | refine OW_moveV (.pointer _) rfl ?_
      | refine OW_moveV (.string _) rfl ?_
      | refine OW_moveV (.agg _) rfl ?_
      | refine OW_moveV (.tuple _) rfl ?_
      | refine OW_nil ?_
      | refine thenE_normal ?_
      | refine CW_seq ?_
      | refine CW_region (by kernel_rfl) ?_
      | refine OW_assignV (.int _ _) rfl ?_
      | refine OW_assignV (.slice _ _ _) rfl ?_
      | refine OW_assignV (.bool _) rfl ?_
      | refine OW_assignV (.pointer _) rfl ?_
      | refine OW_assignV (.string _) rfl ?_
      | refine OW_assignV (.agg _) rfl ?_
      | refine OW_assignV (.tuple _) rfl ?_
      | refine OW_addI rfl rfl (by omega) ?_
      | refine OW_subI rfl rfl (by omega) ?_
      | refine OW_mulI rfl rfl (by omega) ?_
      | refine OW_lss rfl rfl ?_
      | refine OW_extract rfl rfl ?_
      | refine OW_gtr rfl rfl ?_
      | refine OW_leq rfl rfl ?_
      | refine OW_geq rfl rfl ?_
      | refine OW_eql rfl rfl ?_
      | refine OW_neq rfl rfl ?_
      | refine OW_not rfl ?_
      | refine OW_pickT rfl _ rfl ?_
      | refine OW_pickF rfl (.bool _) rfl ?_
      | refine OW_pickB rfl rfl rfl ?_
      | refine OW_move ?_
      | refine OW_assign ?_
      | refine OW_pass rfl ?_
      | refine OW_take rfl ?_
      | refine OW_lenS (by first | with_reducible exact und_bytes | with_reducible exact und_bytess) rfl ?_
      | refine OW_convInt (by first | with_reducible exact und_u8 | with_reducible exact und_u64 | with_reducible exact und_int | with_reducible exact und_u32) (by first | with_reducible exact und_u8 | with_reducible exact und_u64 | with_reducible exact und_int | with_reducible exact und_u32) rfl ?_
      | refine OW_add rfl rfl ?_
      | refine OW_sub rfl rfl ?_
      | refine OW_mul rfl rfl ?_
      | refine OW_min2 rfl rfl ?_
      | refine OW_max2 rfl rfl ?_
      | refine OW_neg rfl ?_
      | refine CW_block ?_
      | refine CW_condT rfl ?_
      | refine CW_condF rfl ?_
      | refine CW_exit ?_
      | refine CW_ret ?_
      | refine CW_skip ?_
      | refine thenE_exit ?_
      | refine thenE_ret ?_
      | refine inBlockE_normal ?_
      | refine inBlockE_same ?_
      | refine inBlockE_ret ?_
      | refine inBlockE_ne (by rfl) ?_
      | refine OW_eqlB (by with_reducible exact und_bool) rfl rfl ?_
      | refine OW_neqB (by with_reducible exact und_bool) rfl rfl ?_
      | refine OW_idxS (by with_reducible exact und_bytes) one_u8 rfl rfl _ rfl (by omega) ?_
      | refine OW_idxS (by with_reducible exact und_bytess) one_bytes rfl rfl _ rfl (by omega) ?_
      | refine OW_load1 (by first | with_reducible exact one_u8 | with_reducible exact one_bytes) rfl _ (by assumption) ?_)
  refine OW_callBs Try.func24 (by kernel_rfl) rfl (xor_any _ A B a b cA cB ha1 hb1 hca (by omega)) rfl ?_
  intro w2 X cX hX
  repeat (first
      | refine OW_moveV (.int _ _) rfl ?_
      | refine OW_moveV (.slice _ _ _) rfl ?_
      | refine OW_moveV (.bool _) rfl ?_
      | refine OW_moveV (.pointer _) rfl ?_
      | refine OW_moveV (.string _) rfl ?_
      | refine OW_moveV (.agg _) rfl ?_
      | refine OW_moveV (.tuple _) rfl ?_
      | refine OW_nil ?_
      | refine thenE_normal ?_
      | refine CW_seq ?_
      | refine CW_region (by kernel_rfl) ?_
      | refine OW_assignV (.int _ _) rfl ?_
      | refine OW_assignV (.slice _ _ _) rfl ?_
      | refine OW_assignV (.bool _) rfl ?_
      | refine OW_assignV (.pointer _) rfl ?_
      | refine OW_assignV (.string _) rfl ?_
      | refine OW_assignV (.agg _) rfl ?_
      | refine OW_assignV (.tuple _) rfl ?_
      | refine OW_addI rfl rfl (by omega) ?_
      | refine OW_subI rfl rfl (by omega) ?_
      | refine OW_mulI rfl rfl (by omega) ?_
      | refine OW_lss rfl rfl ?_
      | refine OW_extract rfl rfl ?_
      | refine OW_gtr rfl rfl ?_
      | refine OW_leq rfl rfl ?_
      | refine OW_geq rfl rfl ?_
      | refine OW_eql rfl rfl ?_
      | refine OW_neq rfl rfl ?_
      | refine OW_not rfl ?_
      | refine OW_pickT rfl _ rfl ?_
      | refine OW_pickF rfl (.bool _) rfl ?_
      | refine OW_pickB rfl rfl rfl ?_
      | refine OW_move ?_
      | refine OW_assign ?_
      | refine OW_pass rfl ?_
      | refine OW_take rfl ?_
      | refine OW_lenS (by first | with_reducible exact und_bytes | with_reducible exact und_bytess) rfl ?_
      | refine OW_convInt (by first | with_reducible exact und_u8 | with_reducible exact und_u64 | with_reducible exact und_int | with_reducible exact und_u32) (by first | with_reducible exact und_u8 | with_reducible exact und_u64 | with_reducible exact und_int | with_reducible exact und_u32) rfl ?_
      | refine OW_add rfl rfl ?_
      | refine OW_sub rfl rfl ?_
      | refine OW_mul rfl rfl ?_
      | refine OW_min2 rfl rfl ?_
      | refine OW_max2 rfl rfl ?_
      | refine OW_neg rfl ?_
      | refine CW_block ?_
      | refine CW_condT rfl ?_
      | refine CW_condF rfl ?_
      | refine CW_exit ?_
      | refine CW_ret ?_
      | refine CW_skip ?_
      | refine thenE_exit ?_
      | refine thenE_ret ?_
      | refine inBlockE_normal ?_
      | refine inBlockE_same ?_
      | refine inBlockE_ret ?_
      | refine inBlockE_ne (by rfl) ?_
      | refine OW_eqlB (by with_reducible exact und_bool) rfl rfl ?_
      | refine OW_neqB (by with_reducible exact und_bool) rfl rfl ?_
      | refine OW_idxS (by with_reducible exact und_bytes) one_u8 rfl rfl _ rfl (by omega) ?_
      | refine OW_idxS (by with_reducible exact und_bytess) one_bytes rfl rfl _ rfl (by omega) ?_
      | refine OW_load1 (by first | with_reducible exact one_u8 | with_reducible exact one_bytes) rfl _ (by assumption) ?_)
  refine OW_callBs Try.func24 (by kernel_rfl) rfl (xor_any _ A A a a cA cA (ha1.ext hX.ext) (ha1.ext hX.ext) hca (by omega)) rfl ?_
  intro w3 Z cZ hZ
  have y3 := hX.ext.trans' hZ.ext
  have bX := hX.bs.ext hZ.ext
  have kX := hX.cap
  have bZ := hZ.bs
  have hax := ha1.ext y3
  have hbx := hb1.ext y3
  repeat (first
      | refine OW_moveV (.int _ _) rfl ?_
      | refine OW_moveV (.slice _ _ _) rfl ?_
      | refine OW_moveV (.bool _) rfl ?_
      | refine OW_moveV (.pointer _) rfl ?_
      | refine OW_moveV (.string _) rfl ?_
      | refine OW_moveV (.agg _) rfl ?_
      | refine OW_moveV (.tuple _) rfl ?_
      | refine OW_nil ?_
      | refine thenE_normal ?_
      | refine CW_seq ?_
      | refine CW_region (by kernel_rfl) ?_
      | refine OW_assignV (.int _ _) rfl ?_
      | refine OW_assignV (.slice _ _ _) rfl ?_
      | refine OW_assignV (.bool _) rfl ?_
      | refine OW_assignV (.pointer _) rfl ?_
      | refine OW_assignV (.string _) rfl ?_
      | refine OW_assignV (.agg _) rfl ?_
      | refine OW_assignV (.tuple _) rfl ?_
      | refine OW_addI rfl rfl (by omega) ?_
      | refine OW_subI rfl rfl (by omega) ?_
      | refine OW_mulI rfl rfl (by omega) ?_
      | refine OW_lss rfl rfl ?_
      | refine OW_extract rfl rfl ?_
      | refine OW_gtr rfl rfl ?_
      | refine OW_leq rfl rfl ?_
      | refine OW_geq rfl rfl ?_
      | refine OW_eql rfl rfl ?_
      | refine OW_neq rfl rfl ?_
      | refine OW_not rfl ?_
      | refine OW_pickT rfl _ rfl ?_
      | refine OW_pickF rfl (.bool _) rfl ?_
      | refine OW_pickB rfl rfl rfl ?_
      | refine OW_move ?_
      | refine OW_assign ?_
      | refine OW_pass rfl ?_
      | refine OW_take rfl ?_
      | refine OW_lenS (by first | with_reducible exact und_bytes | with_reducible exact und_bytess) rfl ?_
      | refine OW_convInt (by first | with_reducible exact und_u8 | with_reducible exact und_u64 | with_reducible exact und_int | with_reducible exact und_u32) (by first | with_reducible exact und_u8 | with_reducible exact und_u64 | with_reducible exact und_int | with_reducible exact und_u32) rfl ?_
      | refine OW_add rfl rfl ?_
      | refine OW_sub rfl rfl ?_
      | refine OW_mul rfl rfl ?_
      | refine OW_min2 rfl rfl ?_
      | refine OW_max2 rfl rfl ?_
      | refine OW_neg rfl ?_
      | refine CW_block ?_
      | refine CW_condT rfl ?_
      | refine CW_condF rfl ?_
      | refine CW_exit ?_
      | refine CW_ret ?_
      | refine CW_skip ?_
      | refine thenE_exit ?_
      | refine thenE_ret ?_
      | refine inBlockE_normal ?_
      | refine inBlockE_same ?_
      | refine inBlockE_ret ?_
      | refine inBlockE_ne (by rfl) ?_
      | refine OW_eqlB (by with_reducible exact und_bool) rfl rfl ?_
      | refine OW_neqB (by with_reducible exact und_bool) rfl rfl ?_
      | refine OW_idxS (by with_reducible exact und_bytes) one_u8 rfl rfl _ rfl (by omega) ?_
      | refine OW_idxS (by with_reducible exact und_bytess) one_bytes rfl rfl _ rfl (by omega) ?_
      | refine OW_load1 (by first | with_reducible exact one_u8 | with_reducible exact one_bytes) rfl _ (by assumption) ?_)
  have hn1 : ((((xorL a b).length : Nat) : Int) != ((min a.length b.length : Nat) : Int)) = false := by rw [hx]; simp
  have hn2 : ((((xorL a a).length : Nat) : Int) != (a.length : Int)) = false := by rw [hxa]; simp
  have hxx := xor_xor' a b
  apply CW_any [vF _, vF _, vF _, vF (.bool false), vF _, vF _, vF _, vF _, vF _, vF (.bool false), vF _, vF _, vF _, vF _, vF _, bF (xorL a b), vF (.bool true), vF _, vF _, vF _, vF _, vF _, bF (a.take (min a.length b.length)), vF _, vF _, bF (a.take (min a.length b.length)), vF (.bool true), vF _, vF _]
  case hm => kernel_rfl
  case hac => kernel_rfl
  case hd => kernel_rfl
  case hnd => kernel_rfl
  case hops =>
    refine ⟨?_, ?_⟩
    · refine Obl_of (fun e1 w1 hk => ?_)
      rw [upd_self (hk.out 6 rfl)]
      (first
       | refine OW_moveV (.int _ _) rfl ?_
       | refine OW_moveV (.slice _ _ _) rfl ?_
       | refine OW_moveV (.bool _) rfl ?_
       | refine OW_moveV (.pointer _) rfl ?_
       | refine OW_moveV (.string _) rfl ?_
       | refine OW_moveV (.agg _) rfl ?_
       | refine OW_moveV (.tuple _) rfl ?_
       | refine OW_nil ?_
       | refine thenE_normal ?_
       | refine CW_seq ?_
       | refine CW_region (by kernel_rfl) ?_
       | refine OW_assignV (.int _ _) rfl ?_
       | refine OW_assignV (.slice _ _ _) rfl ?_
       | refine OW_assignV (.bool _) rfl ?_
       | refine OW_assignV (.pointer _) rfl ?_
       | refine OW_assignV (.string _) rfl ?_
       | refine OW_assignV (.agg _) rfl ?_
       | refine OW_assignV (.tuple _) rfl ?_
       | refine OW_addI rfl rfl (by omega) ?_
       | refine OW_subI rfl rfl (by omega) ?_
       | refine OW_mulI rfl rfl (by omega) ?_
       | refine OW_lss rfl rfl ?_
       | refine OW_extract rfl rfl ?_
       | refine OW_gtr rfl rfl ?_
       | refine OW_leq rfl rfl ?_
       | refine OW_geq rfl rfl ?_
       | refine OW_eql rfl rfl ?_
       | refine OW_neq rfl rfl ?_
       | refine OW_not rfl ?_
       | refine OW_pickT rfl _ rfl ?_
       | refine OW_pickF rfl (.bool _) rfl ?_
       | refine OW_pickB rfl rfl rfl ?_
       | refine OW_move ?_
       | refine OW_assign ?_
       | refine OW_pass rfl ?_
       | refine OW_take rfl ?_
       | refine OW_lenS (by first | with_reducible exact und_bytes | with_reducible exact und_bytess) rfl ?_
       | refine OW_convInt (by first | with_reducible exact und_u8 | with_reducible exact und_u64 | with_reducible exact und_int | with_reducible exact und_u32) (by first | with_reducible exact und_u8 | with_reducible exact und_u64 | with_reducible exact und_int | with_reducible exact und_u32) rfl ?_
       | refine OW_add rfl rfl ?_
       | refine OW_sub rfl rfl ?_
       | refine OW_mul rfl rfl ?_
       | refine OW_min2 rfl rfl ?_
       | refine OW_max2 rfl rfl ?_
       | refine OW_neg rfl ?_
       | refine CW_block ?_
       | refine CW_condT rfl ?_
       | refine CW_condF rfl ?_
       | refine CW_exit ?_
       | refine CW_ret ?_
       | refine CW_skip ?_
       | refine thenE_exit ?_
       | refine thenE_ret ?_
       | refine inBlockE_normal ?_
       | refine inBlockE_same ?_
       | refine inBlockE_ret ?_
       | refine inBlockE_ne (by rfl) ?_
       | refine OW_eqlB (by with_reducible exact und_bool) rfl rfl ?_
       | refine OW_neqB (by with_reducible exact und_bool) rfl rfl ?_
       | refine OW_idxS (by with_reducible exact und_bytes) one_u8 rfl rfl _ rfl (by omega) ?_
       | refine OW_idxS (by with_reducible exact und_bytess) one_bytes rfl rfl _ rfl (by omega) ?_
       | refine OW_load1 (by first | with_reducible exact one_u8 | with_reducible exact one_bytes) rfl _ (by assumption) ?_
       | refine OW_load1 (by with_reducible exact one_u8) rfl _ (hk.ext.cell' (by assumption)) ?_)
      refine OW_nil ?_
      exact keepsF_mk _ _ _ _
    refine ⟨?_, ?_⟩
    · refine Obl_of (fun e1 w1 hk => ?_)
      rw [upd_self (hk.pre 0 33 rfl rfl : isV _ _ _)]
      (first
       | refine OW_moveV (.int _ _) rfl ?_
       | refine OW_moveV (.slice _ _ _) rfl ?_
       | refine OW_moveV (.bool _) rfl ?_
       | refine OW_moveV (.pointer _) rfl ?_
       | refine OW_moveV (.string _) rfl ?_
       | refine OW_moveV (.agg _) rfl ?_
       | refine OW_moveV (.tuple _) rfl ?_
       | refine OW_nil ?_
       | refine thenE_normal ?_
       | refine CW_seq ?_
       | refine CW_region (by kernel_rfl) ?_
       | refine OW_assignV (.int _ _) rfl ?_
       | refine OW_assignV (.slice _ _ _) rfl ?_
       | refine OW_assignV (.bool _) rfl ?_
       | refine OW_assignV (.pointer _) rfl ?_
       | refine OW_assignV (.string _) rfl ?_
       | refine OW_assignV (.agg _) rfl ?_
       | refine OW_assignV (.tuple _) rfl ?_
       | refine OW_addI rfl rfl (by omega) ?_
       | refine OW_subI rfl rfl (by omega) ?_
       | refine OW_mulI rfl rfl (by omega) ?_
       | refine OW_lss rfl rfl ?_
       | refine OW_extract rfl rfl ?_
       | refine OW_gtr rfl rfl ?_
       | refine OW_leq rfl rfl ?_
       | refine OW_geq rfl rfl ?_
       | refine OW_eql rfl rfl ?_
       | refine OW_neq rfl rfl ?_
       | refine OW_not rfl ?_
       | refine OW_pickT rfl _ rfl ?_
       | refine OW_pickF rfl (.bool _) rfl ?_
       | refine OW_pickB rfl rfl rfl ?_
       | refine OW_move ?_
       | refine OW_assign ?_
       | refine OW_pass rfl ?_
       | refine OW_take rfl ?_
       | refine OW_lenS (by first | with_reducible exact und_bytes | with_reducible exact und_bytess) rfl ?_
       | refine OW_convInt (by first | with_reducible exact und_u8 | with_reducible exact und_u64 | with_reducible exact und_int | with_reducible exact und_u32) (by first | with_reducible exact und_u8 | with_reducible exact und_u64 | with_reducible exact und_int | with_reducible exact und_u32) rfl ?_
       | refine OW_add rfl rfl ?_
       | refine OW_sub rfl rfl ?_
       | refine OW_mul rfl rfl ?_
       | refine OW_min2 rfl rfl ?_
       | refine OW_max2 rfl rfl ?_
       | refine OW_neg rfl ?_
       | refine CW_block ?_
       | refine CW_condT rfl ?_
       | refine CW_condF rfl ?_
       | refine CW_exit ?_
       | refine CW_ret ?_
       | refine CW_skip ?_
       | refine thenE_exit ?_
       | refine thenE_ret ?_
       | refine inBlockE_normal ?_
       | refine inBlockE_same ?_
       | refine inBlockE_ret ?_
       | refine inBlockE_ne (by rfl) ?_
       | refine OW_eqlB (by with_reducible exact und_bool) rfl rfl ?_
       | refine OW_neqB (by with_reducible exact und_bool) rfl rfl ?_
       | refine OW_idxS (by with_reducible exact und_bytes) one_u8 rfl rfl _ rfl (by omega) ?_
       | refine OW_idxS (by with_reducible exact und_bytess) one_bytes rfl rfl _ rfl (by omega) ?_
       | refine OW_load1 (by first | with_reducible exact one_u8 | with_reducible exact one_bytes) rfl _ (by assumption) ?_
       | refine OW_load1 (by with_reducible exact one_u8) rfl _ (hk.ext.cell' (by assumption)) ?_)
      refine OW_nil ?_
      exact keepsF_mk _ _ _ _
    refine ⟨?_, ?_⟩
    · refine Obl_of (fun e1 w1 hk => ?_)
      rw [upd_self (hk.out 5 rfl)]
      (first
       | refine OW_moveV (.int _ _) rfl ?_
       | refine OW_moveV (.slice _ _ _) rfl ?_
       | refine OW_moveV (.bool _) rfl ?_
       | refine OW_moveV (.pointer _) rfl ?_
       | refine OW_moveV (.string _) rfl ?_
       | refine OW_moveV (.agg _) rfl ?_
       | refine OW_moveV (.tuple _) rfl ?_
       | refine OW_nil ?_
       | refine thenE_normal ?_
       | refine CW_seq ?_
       | refine CW_region (by kernel_rfl) ?_
       | refine OW_assignV (.int _ _) rfl ?_
       | refine OW_assignV (.slice _ _ _) rfl ?_
       | refine OW_assignV (.bool _) rfl ?_
       | refine OW_assignV (.pointer _) rfl ?_
       | refine OW_assignV (.string _) rfl ?_
       | refine OW_assignV (.agg _) rfl ?_
       | refine OW_assignV (.tuple _) rfl ?_
       | refine OW_addI rfl rfl (by omega) ?_
       | refine OW_subI rfl rfl (by omega) ?_
       | refine OW_mulI rfl rfl (by omega) ?_
       | refine OW_lss rfl rfl ?_
       | refine OW_extract rfl rfl ?_
       | refine OW_gtr rfl rfl ?_
       | refine OW_leq rfl rfl ?_
       | refine OW_geq rfl rfl ?_
       | refine OW_eql rfl rfl ?_
       | refine OW_neq rfl rfl ?_
       | refine OW_not rfl ?_
       | refine OW_pickT rfl _ rfl ?_
       | refine OW_pickF rfl (.bool _) rfl ?_
       | refine OW_pickB rfl rfl rfl ?_
       | refine OW_move ?_
       | refine OW_assign ?_
       | refine OW_pass rfl ?_
       | refine OW_take rfl ?_
       | refine OW_lenS (by first | with_reducible exact und_bytes | with_reducible exact und_bytess) rfl ?_
       | refine OW_convInt (by first | with_reducible exact und_u8 | with_reducible exact und_u64 | with_reducible exact und_int | with_reducible exact und_u32) (by first | with_reducible exact und_u8 | with_reducible exact und_u64 | with_reducible exact und_int | with_reducible exact und_u32) rfl ?_
       | refine OW_add rfl rfl ?_
       | refine OW_sub rfl rfl ?_
       | refine OW_mul rfl rfl ?_
       | refine OW_min2 rfl rfl ?_
       | refine OW_max2 rfl rfl ?_
       | refine OW_neg rfl ?_
       | refine CW_block ?_
       | refine CW_condT rfl ?_
       | refine CW_condF rfl ?_
       | refine CW_exit ?_
       | refine CW_ret ?_
       | refine CW_skip ?_
       | refine thenE_exit ?_
       | refine thenE_ret ?_
       | refine inBlockE_normal ?_
       | refine inBlockE_same ?_
       | refine inBlockE_ret ?_
       | refine inBlockE_ne (by rfl) ?_
       | refine OW_eqlB (by with_reducible exact und_bool) rfl rfl ?_
       | refine OW_neqB (by with_reducible exact und_bool) rfl rfl ?_
       | refine OW_idxS (by with_reducible exact und_bytes) one_u8 rfl rfl _ rfl (by omega) ?_
       | refine OW_idxS (by with_reducible exact und_bytess) one_bytes rfl rfl _ rfl (by omega) ?_
       | refine OW_load1 (by first | with_reducible exact one_u8 | with_reducible exact one_bytes) rfl _ (by assumption) ?_
       | refine OW_load1 (by with_reducible exact one_u8) rfl _ (hk.ext.cell' (by assumption)) ?_)
      refine OW_nil ?_
      exact keepsF_mk _ _ _ _
    refine ⟨?_, ?_⟩
    · refine Obl_of (fun e1 w1 hk => ?_)
      rw [upd_self (hk.pre 1 34 rfl rfl : isV _ _ _), upd_self (hk.pre 2 35 rfl rfl : isV _ _ _)]
      refine OW_neq rfl rfl ?_
      rw [hn1]
      refine OW_nil ?_
      exact keepsF_mk _ _ _ _
    refine ⟨?_, ?_⟩
    · refine Obl_of (fun e1 w1 hk => ?_)
      rw [upd_self (hk.pre 3 36 rfl rfl : isV _ _ _)]
      (first
       | refine OW_moveV (.int _ _) rfl ?_
       | refine OW_moveV (.slice _ _ _) rfl ?_
       | refine OW_moveV (.bool _) rfl ?_
       | refine OW_moveV (.pointer _) rfl ?_
       | refine OW_moveV (.string _) rfl ?_
       | refine OW_moveV (.agg _) rfl ?_
       | refine OW_moveV (.tuple _) rfl ?_
       | refine OW_nil ?_
       | refine thenE_normal ?_
       | refine CW_seq ?_
       | refine CW_region (by kernel_rfl) ?_
       | refine OW_assignV (.int _ _) rfl ?_
       | refine OW_assignV (.slice _ _ _) rfl ?_
       | refine OW_assignV (.bool _) rfl ?_
       | refine OW_assignV (.pointer _) rfl ?_
       | refine OW_assignV (.string _) rfl ?_
       | refine OW_assignV (.agg _) rfl ?_
       | refine OW_assignV (.tuple _) rfl ?_
       | refine OW_addI rfl rfl (by omega) ?_
       | refine OW_subI rfl rfl (by omega) ?_
       | refine OW_mulI rfl rfl (by omega) ?_
       | refine OW_lss rfl rfl ?_
       | refine OW_extract rfl rfl ?_
       | refine OW_gtr rfl rfl ?_
       | refine OW_leq rfl rfl ?_
       | refine OW_geq rfl rfl ?_
       | refine OW_eql rfl rfl ?_
       | refine OW_neq rfl rfl ?_
       | refine OW_not rfl ?_
       | refine OW_pickT rfl _ rfl ?_
       | refine OW_pickF rfl (.bool _) rfl ?_
       | refine OW_pickB rfl rfl rfl ?_
       | refine OW_move ?_
       | refine OW_assign ?_
       | refine OW_pass rfl ?_
       | refine OW_take rfl ?_
       | refine OW_lenS (by first | with_reducible exact und_bytes | with_reducible exact und_bytess) rfl ?_
       | refine OW_convInt (by first | with_reducible exact und_u8 | with_reducible exact und_u64 | with_reducible exact und_int | with_reducible exact und_u32) (by first | with_reducible exact und_u8 | with_reducible exact und_u64 | with_reducible exact und_int | with_reducible exact und_u32) rfl ?_
       | refine OW_add rfl rfl ?_
       | refine OW_sub rfl rfl ?_
       | refine OW_mul rfl rfl ?_
       | refine OW_min2 rfl rfl ?_
       | refine OW_max2 rfl rfl ?_
       | refine OW_neg rfl ?_
       | refine CW_block ?_
       | refine CW_condT rfl ?_
       | refine CW_condF rfl ?_
       | refine CW_exit ?_
       | refine CW_ret ?_
       | refine CW_skip ?_
       | refine thenE_exit ?_
       | refine thenE_ret ?_
       | refine inBlockE_normal ?_
       | refine inBlockE_same ?_
       | refine inBlockE_ret ?_
       | refine inBlockE_ne (by rfl) ?_
       | refine OW_eqlB (by with_reducible exact und_bool) rfl rfl ?_
       | refine OW_neqB (by with_reducible exact und_bool) rfl rfl ?_
       | refine OW_idxS (by with_reducible exact und_bytes) one_u8 rfl rfl _ rfl (by omega) ?_
       | refine OW_idxS (by with_reducible exact und_bytess) one_bytes rfl rfl _ rfl (by omega) ?_
       | refine OW_load1 (by first | with_reducible exact one_u8 | with_reducible exact one_bytes) rfl _ (by assumption) ?_
       | refine OW_load1 (by with_reducible exact one_u8) rfl _ (hk.ext.cell' (by assumption)) ?_)
      refine OW_nil ?_
      exact keepsF_mk _ _ _ _
    refine ⟨?_, ?_⟩
    · refine Obl_take (fun e1 w1 hk => ?_) (fun e1 w1 hk => ?_)
      · rw [upd_self (hk.pre 4 37 rfl rfl : isV _ _ _)]
        rfl
      · rw [upd_self (hk.out 7 rfl)]
        (first
         | refine OW_moveV (.int _ _) rfl ?_
         | refine OW_moveV (.slice _ _ _) rfl ?_
         | refine OW_moveV (.bool _) rfl ?_
         | refine OW_moveV (.pointer _) rfl ?_
         | refine OW_moveV (.string _) rfl ?_
         | refine OW_moveV (.agg _) rfl ?_
         | refine OW_moveV (.tuple _) rfl ?_
         | refine OW_nil ?_
         | refine thenE_normal ?_
         | refine CW_seq ?_
         | refine CW_region (by kernel_rfl) ?_
         | refine OW_assignV (.int _ _) rfl ?_
         | refine OW_assignV (.slice _ _ _) rfl ?_
         | refine OW_assignV (.bool _) rfl ?_
         | refine OW_assignV (.pointer _) rfl ?_
         | refine OW_assignV (.string _) rfl ?_
         | refine OW_assignV (.agg _) rfl ?_
         | refine OW_assignV (.tuple _) rfl ?_
         | refine OW_addI rfl rfl (by omega) ?_
         | refine OW_subI rfl rfl (by omega) ?_
         | refine OW_mulI rfl rfl (by omega) ?_
         | refine OW_lss rfl rfl ?_
         | refine OW_extract rfl rfl ?_
         | refine OW_gtr rfl rfl ?_
         | refine OW_leq rfl rfl ?_
         | refine OW_geq rfl rfl ?_
         | refine OW_eql rfl rfl ?_
         | refine OW_neq rfl rfl ?_
         | refine OW_not rfl ?_
         | refine OW_pickT rfl _ rfl ?_
         | refine OW_pickF rfl (.bool _) rfl ?_
         | refine OW_pickB rfl rfl rfl ?_
         | refine OW_move ?_
         | refine OW_assign ?_
         | refine OW_pass rfl ?_
         | refine OW_take rfl ?_
         | refine OW_lenS (by first | with_reducible exact und_bytes | with_reducible exact und_bytess) rfl ?_
         | refine OW_convInt (by first | with_reducible exact und_u8 | with_reducible exact und_u64 | with_reducible exact und_int | with_reducible exact und_u32) (by first | with_reducible exact und_u8 | with_reducible exact und_u64 | with_reducible exact und_int | with_reducible exact und_u32) rfl ?_
         | refine OW_add rfl rfl ?_
         | refine OW_sub rfl rfl ?_
         | refine OW_mul rfl rfl ?_
         | refine OW_min2 rfl rfl ?_
         | refine OW_max2 rfl rfl ?_
         | refine OW_neg rfl ?_
         | refine CW_block ?_
         | refine CW_condT rfl ?_
         | refine CW_condF rfl ?_
         | refine CW_exit ?_
         | refine CW_ret ?_
         | refine CW_skip ?_
         | refine thenE_exit ?_
         | refine thenE_ret ?_
         | refine inBlockE_normal ?_
         | refine inBlockE_same ?_
         | refine inBlockE_ret ?_
         | refine inBlockE_ne (by rfl) ?_
         | refine OW_eqlB (by with_reducible exact und_bool) rfl rfl ?_
         | refine OW_neqB (by with_reducible exact und_bool) rfl rfl ?_
         | refine OW_idxS (by with_reducible exact und_bytes) one_u8 rfl rfl _ rfl (by omega) ?_
         | refine OW_idxS (by with_reducible exact und_bytess) one_bytes rfl rfl _ rfl (by omega) ?_
         | refine OW_load1 (by first | with_reducible exact one_u8 | with_reducible exact one_bytes) rfl _ (by assumption) ?_
         | refine OW_load1 (by with_reducible exact one_u8) rfl _ (hk.ext.cell' (by assumption)) ?_)
        refine OW_nil ?_
        exact keepsF_mk _ _ _ _
    refine ⟨?_, ?_⟩
    · refine Obl_take (fun e1 w1 hk => ?_) (fun e1 w1 hk => ?_)
      · rw [upd_self (hk.pre 4 37 rfl rfl : isV _ _ _)]
        rfl
      · rw [upd_self (hk.pre 5 38 rfl rfl : isV _ _ _)]
        (first
         | refine OW_moveV (.int _ _) rfl ?_
         | refine OW_moveV (.slice _ _ _) rfl ?_
         | refine OW_moveV (.bool _) rfl ?_
         | refine OW_moveV (.pointer _) rfl ?_
         | refine OW_moveV (.string _) rfl ?_
         | refine OW_moveV (.agg _) rfl ?_
         | refine OW_moveV (.tuple _) rfl ?_
         | refine OW_nil ?_
         | refine thenE_normal ?_
         | refine CW_seq ?_
         | refine CW_region (by kernel_rfl) ?_
         | refine OW_assignV (.int _ _) rfl ?_
         | refine OW_assignV (.slice _ _ _) rfl ?_
         | refine OW_assignV (.bool _) rfl ?_
         | refine OW_assignV (.pointer _) rfl ?_
         | refine OW_assignV (.string _) rfl ?_
         | refine OW_assignV (.agg _) rfl ?_
         | refine OW_assignV (.tuple _) rfl ?_
         | refine OW_addI rfl rfl (by omega) ?_
         | refine OW_subI rfl rfl (by omega) ?_
         | refine OW_mulI rfl rfl (by omega) ?_
         | refine OW_lss rfl rfl ?_
         | refine OW_extract rfl rfl ?_
         | refine OW_gtr rfl rfl ?_
         | refine OW_leq rfl rfl ?_
         | refine OW_geq rfl rfl ?_
         | refine OW_eql rfl rfl ?_
         | refine OW_neq rfl rfl ?_
         | refine OW_not rfl ?_
         | refine OW_pickT rfl _ rfl ?_
         | refine OW_pickF rfl (.bool _) rfl ?_
         | refine OW_pickB rfl rfl rfl ?_
         | refine OW_move ?_
         | refine OW_assign ?_
         | refine OW_pass rfl ?_
         | refine OW_take rfl ?_
         | refine OW_lenS (by first | with_reducible exact und_bytes | with_reducible exact und_bytess) rfl ?_
         | refine OW_convInt (by first | with_reducible exact und_u8 | with_reducible exact und_u64 | with_reducible exact und_int | with_reducible exact und_u32) (by first | with_reducible exact und_u8 | with_reducible exact und_u64 | with_reducible exact und_int | with_reducible exact und_u32) rfl ?_
         | refine OW_add rfl rfl ?_
         | refine OW_sub rfl rfl ?_
         | refine OW_mul rfl rfl ?_
         | refine OW_min2 rfl rfl ?_
         | refine OW_max2 rfl rfl ?_
         | refine OW_neg rfl ?_
         | refine CW_block ?_
         | refine CW_condT rfl ?_
         | refine CW_condF rfl ?_
         | refine CW_exit ?_
         | refine CW_ret ?_
         | refine CW_skip ?_
         | refine thenE_exit ?_
         | refine thenE_ret ?_
         | refine inBlockE_normal ?_
         | refine inBlockE_same ?_
         | refine inBlockE_ret ?_
         | refine inBlockE_ne (by rfl) ?_
         | refine OW_eqlB (by with_reducible exact und_bool) rfl rfl ?_
         | refine OW_neqB (by with_reducible exact und_bool) rfl rfl ?_
         | refine OW_idxS (by with_reducible exact und_bytes) one_u8 rfl rfl _ rfl (by omega) ?_
         | refine OW_idxS (by with_reducible exact und_bytess) one_bytes rfl rfl _ rfl (by omega) ?_
         | refine OW_load1 (by first | with_reducible exact one_u8 | with_reducible exact one_bytes) rfl _ (by assumption) ?_
         | refine OW_load1 (by with_reducible exact one_u8) rfl _ (hk.ext.cell' (by assumption)) ?_)
        refine OW_nil ?_
        exact keepsF_mk _ _ _ _
    refine ⟨?_, ?_⟩
    · refine Obl_take (fun e1 w1 hk => ?_) (fun e1 w1 hk => ?_)
      · rw [upd_self (hk.pre 4 37 rfl rfl : isV _ _ _)]
        rfl
      · rw [upd_self (hk.out 0 rfl)]
        (first
         | refine OW_moveV (.int _ _) rfl ?_
         | refine OW_moveV (.slice _ _ _) rfl ?_
         | refine OW_moveV (.bool _) rfl ?_
         | refine OW_moveV (.pointer _) rfl ?_
         | refine OW_moveV (.string _) rfl ?_
         | refine OW_moveV (.agg _) rfl ?_
         | refine OW_moveV (.tuple _) rfl ?_
         | refine OW_nil ?_
         | refine thenE_normal ?_
         | refine CW_seq ?_
         | refine CW_region (by kernel_rfl) ?_
         | refine OW_assignV (.int _ _) rfl ?_
         | refine OW_assignV (.slice _ _ _) rfl ?_
         | refine OW_assignV (.bool _) rfl ?_
         | refine OW_assignV (.pointer _) rfl ?_
         | refine OW_assignV (.string _) rfl ?_
         | refine OW_assignV (.agg _) rfl ?_
         | refine OW_assignV (.tuple _) rfl ?_
         | refine OW_addI rfl rfl (by omega) ?_
         | refine OW_subI rfl rfl (by omega) ?_
         | refine OW_mulI rfl rfl (by omega) ?_
         | refine OW_lss rfl rfl ?_
         | refine OW_extract rfl rfl ?_
         | refine OW_gtr rfl rfl ?_
         | refine OW_leq rfl rfl ?_
         | refine OW_geq rfl rfl ?_
         | refine OW_eql rfl rfl ?_
         | refine OW_neq rfl rfl ?_
         | refine OW_not rfl ?_
         | refine OW_pickT rfl _ rfl ?_
         | refine OW_pickF rfl (.bool _) rfl ?_
         | refine OW_pickB rfl rfl rfl ?_
         | refine OW_move ?_
         | refine OW_assign ?_
         | refine OW_pass rfl ?_
         | refine OW_take rfl ?_
         | refine OW_lenS (by first | with_reducible exact und_bytes | with_reducible exact und_bytess) rfl ?_
         | refine OW_convInt (by first | with_reducible exact und_u8 | with_reducible exact und_u64 | with_reducible exact und_int | with_reducible exact und_u32) (by first | with_reducible exact und_u8 | with_reducible exact und_u64 | with_reducible exact und_int | with_reducible exact und_u32) rfl ?_
         | refine OW_add rfl rfl ?_
         | refine OW_sub rfl rfl ?_
         | refine OW_mul rfl rfl ?_
         | refine OW_min2 rfl rfl ?_
         | refine OW_max2 rfl rfl ?_
         | refine OW_neg rfl ?_
         | refine CW_block ?_
         | refine CW_condT rfl ?_
         | refine CW_condF rfl ?_
         | refine CW_exit ?_
         | refine CW_ret ?_
         | refine CW_skip ?_
         | refine thenE_exit ?_
         | refine thenE_ret ?_
         | refine inBlockE_normal ?_
         | refine inBlockE_same ?_
         | refine inBlockE_ret ?_
         | refine inBlockE_ne (by rfl) ?_
         | refine OW_eqlB (by with_reducible exact und_bool) rfl rfl ?_
         | refine OW_neqB (by with_reducible exact und_bool) rfl rfl ?_
         | refine OW_idxS (by with_reducible exact und_bytes) one_u8 rfl rfl _ rfl (by omega) ?_
         | refine OW_idxS (by with_reducible exact und_bytess) one_bytes rfl rfl _ rfl (by omega) ?_
         | refine OW_load1 (by first | with_reducible exact one_u8 | with_reducible exact one_bytes) rfl _ (by assumption) ?_
         | refine OW_load1 (by with_reducible exact one_u8) rfl _ (hk.ext.cell' (by assumption)) ?_)
        refine OW_nil ?_
        exact keepsF_mk _ _ _ _
    refine ⟨?_, ?_⟩
    · refine Obl_take (fun e1 w1 hk => ?_) (fun e1 w1 hk => ?_)
      · rw [upd_self (hk.pre 4 37 rfl rfl : isV _ _ _)]
        rfl
      · rw [upd_self (hk.pre 7 40 rfl rfl : isV _ _ _)]
        (first
         | refine OW_moveV (.int _ _) rfl ?_
         | refine OW_moveV (.slice _ _ _) rfl ?_
         | refine OW_moveV (.bool _) rfl ?_
         | refine OW_moveV (.pointer _) rfl ?_
         | refine OW_moveV (.string _) rfl ?_
         | refine OW_moveV (.agg _) rfl ?_
         | refine OW_moveV (.tuple _) rfl ?_
         | refine OW_nil ?_
         | refine thenE_normal ?_
         | refine CW_seq ?_
         | refine CW_region (by kernel_rfl) ?_
         | refine OW_assignV (.int _ _) rfl ?_
         | refine OW_assignV (.slice _ _ _) rfl ?_
         | refine OW_assignV (.bool _) rfl ?_
         | refine OW_assignV (.pointer _) rfl ?_
         | refine OW_assignV (.string _) rfl ?_
         | refine OW_assignV (.agg _) rfl ?_
         | refine OW_assignV (.tuple _) rfl ?_
         | refine OW_addI rfl rfl (by omega) ?_
         | refine OW_subI rfl rfl (by omega) ?_
         | refine OW_mulI rfl rfl (by omega) ?_
         | refine OW_lss rfl rfl ?_
         | refine OW_extract rfl rfl ?_
         | refine OW_gtr rfl rfl ?_
         | refine OW_leq rfl rfl ?_
         | refine OW_geq rfl rfl ?_
         | refine OW_eql rfl rfl ?_
         | refine OW_neq rfl rfl ?_
         | refine OW_not rfl ?_
         | refine OW_pickT rfl _ rfl ?_
         | refine OW_pickF rfl (.bool _) rfl ?_
         | refine OW_pickB rfl rfl rfl ?_
         | refine OW_move ?_
         | refine OW_assign ?_
         | refine OW_pass rfl ?_
         | refine OW_take rfl ?_
         | refine OW_lenS (by first | with_reducible exact und_bytes | with_reducible exact und_bytess) rfl ?_
         | refine OW_convInt (by first | with_reducible exact und_u8 | with_reducible exact und_u64 | with_reducible exact und_int | with_reducible exact und_u32) (by first | with_reducible exact und_u8 | with_reducible exact und_u64 | with_reducible exact und_int | with_reducible exact und_u32) rfl ?_
         | refine OW_add rfl rfl ?_
         | refine OW_sub rfl rfl ?_
         | refine OW_mul rfl rfl ?_
         | refine OW_min2 rfl rfl ?_
         | refine OW_max2 rfl rfl ?_
         | refine OW_neg rfl ?_
         | refine CW_block ?_
         | refine CW_condT rfl ?_
         | refine CW_condF rfl ?_
         | refine CW_exit ?_
         | refine CW_ret ?_
         | refine CW_skip ?_
         | refine thenE_exit ?_
         | refine thenE_ret ?_
         | refine inBlockE_normal ?_
         | refine inBlockE_same ?_
         | refine inBlockE_ret ?_
         | refine inBlockE_ne (by rfl) ?_
         | refine OW_eqlB (by with_reducible exact und_bool) rfl rfl ?_
         | refine OW_neqB (by with_reducible exact und_bool) rfl rfl ?_
         | refine OW_idxS (by with_reducible exact und_bytes) one_u8 rfl rfl _ rfl (by omega) ?_
         | refine OW_idxS (by with_reducible exact und_bytess) one_bytes rfl rfl _ rfl (by omega) ?_
         | refine OW_load1 (by first | with_reducible exact one_u8 | with_reducible exact one_bytes) rfl _ (by assumption) ?_
         | refine OW_load1 (by with_reducible exact one_u8) rfl _ (hk.ext.cell' (by assumption)) ?_)
        refine OW_nil ?_
        exact keepsF_mk _ _ _ _
    refine ⟨?_, ?_⟩
    · refine Obl_take (fun e1 w1 hk => ?_) (fun e1 w1 hk => ?_)
      · rw [upd_self (hk.pre 4 37 rfl rfl : isV _ _ _)]
        rfl
      · rw [upd_self (hk.pre 6 39 rfl rfl : isV _ _ _), upd_self (hk.pre 8 41 rfl rfl : isV _ _ _)]
        refine OW_neq rfl rfl ?_
        rw [hn2]
        refine OW_nil ?_
        exact keepsF_mk _ _ _ _
    refine ⟨?_, ?_⟩
    · refine Obl_of (fun e1 w1 hk => ?_)
      rw [upd_self (hk.pre 4 37 rfl rfl : isV _ _ _), upd_self (hk.pre 9 42 rfl rfl : isV _ _ _)]
      (first
       | refine OW_moveV (.int _ _) rfl ?_
       | refine OW_moveV (.slice _ _ _) rfl ?_
       | refine OW_moveV (.bool _) rfl ?_
       | refine OW_moveV (.pointer _) rfl ?_
       | refine OW_moveV (.string _) rfl ?_
       | refine OW_moveV (.agg _) rfl ?_
       | refine OW_moveV (.tuple _) rfl ?_
       | refine OW_nil ?_
       | refine thenE_normal ?_
       | refine CW_seq ?_
       | refine CW_region (by kernel_rfl) ?_
       | refine OW_assignV (.int _ _) rfl ?_
       | refine OW_assignV (.slice _ _ _) rfl ?_
       | refine OW_assignV (.bool _) rfl ?_
       | refine OW_assignV (.pointer _) rfl ?_
       | refine OW_assignV (.string _) rfl ?_
       | refine OW_assignV (.agg _) rfl ?_
       | refine OW_assignV (.tuple _) rfl ?_
       | refine OW_addI rfl rfl (by omega) ?_
       | refine OW_subI rfl rfl (by omega) ?_
       | refine OW_mulI rfl rfl (by omega) ?_
       | refine OW_lss rfl rfl ?_
       | refine OW_extract rfl rfl ?_
       | refine OW_gtr rfl rfl ?_
       | refine OW_leq rfl rfl ?_
       | refine OW_geq rfl rfl ?_
       | refine OW_eql rfl rfl ?_
       | refine OW_neq rfl rfl ?_
       | refine OW_not rfl ?_
       | refine OW_pickT rfl _ rfl ?_
       | refine OW_pickF rfl (.bool _) rfl ?_
       | refine OW_pickB rfl rfl rfl ?_
       | refine OW_move ?_
       | refine OW_assign ?_
       | refine OW_pass rfl ?_
       | refine OW_take rfl ?_
       | refine OW_lenS (by first | with_reducible exact und_bytes | with_reducible exact und_bytess) rfl ?_
       | refine OW_convInt (by first | with_reducible exact und_u8 | with_reducible exact und_u64 | with_reducible exact und_int | with_reducible exact und_u32) (by first | with_reducible exact und_u8 | with_reducible exact und_u64 | with_reducible exact und_int | with_reducible exact und_u32) rfl ?_
       | refine OW_add rfl rfl ?_
       | refine OW_sub rfl rfl ?_
       | refine OW_mul rfl rfl ?_
       | refine OW_min2 rfl rfl ?_
       | refine OW_max2 rfl rfl ?_
       | refine OW_neg rfl ?_
       | refine CW_block ?_
       | refine CW_condT rfl ?_
       | refine CW_condF rfl ?_
       | refine CW_exit ?_
       | refine CW_ret ?_
       | refine CW_skip ?_
       | refine thenE_exit ?_
       | refine thenE_ret ?_
       | refine inBlockE_normal ?_
       | refine inBlockE_same ?_
       | refine inBlockE_ret ?_
       | refine inBlockE_ne (by rfl) ?_
       | refine OW_eqlB (by with_reducible exact und_bool) rfl rfl ?_
       | refine OW_neqB (by with_reducible exact und_bool) rfl rfl ?_
       | refine OW_idxS (by with_reducible exact und_bytes) one_u8 rfl rfl _ rfl (by omega) ?_
       | refine OW_idxS (by with_reducible exact und_bytess) one_bytes rfl rfl _ rfl (by omega) ?_
       | refine OW_load1 (by first | with_reducible exact one_u8 | with_reducible exact one_bytes) rfl _ (by assumption) ?_
       | refine OW_load1 (by with_reducible exact one_u8) rfl _ (hk.ext.cell' (by assumption)) ?_)
      refine OW_nil ?_
      exact keepsF_mk _ _ _ _
    refine ⟨?_, ?_⟩
    · refine Obl_of (fun e1 w1 hk => ?_)
      rw [upd_self (hk.pre 10 43 rfl rfl : isV _ _ _)]
      (first
       | refine OW_moveV (.int _ _) rfl ?_
       | refine OW_moveV (.slice _ _ _) rfl ?_
       | refine OW_moveV (.bool _) rfl ?_
       | refine OW_moveV (.pointer _) rfl ?_
       | refine OW_moveV (.string _) rfl ?_
       | refine OW_moveV (.agg _) rfl ?_
       | refine OW_moveV (.tuple _) rfl ?_
       | refine OW_nil ?_
       | refine thenE_normal ?_
       | refine CW_seq ?_
       | refine CW_region (by kernel_rfl) ?_
       | refine OW_assignV (.int _ _) rfl ?_
       | refine OW_assignV (.slice _ _ _) rfl ?_
       | refine OW_assignV (.bool _) rfl ?_
       | refine OW_assignV (.pointer _) rfl ?_
       | refine OW_assignV (.string _) rfl ?_
       | refine OW_assignV (.agg _) rfl ?_
       | refine OW_assignV (.tuple _) rfl ?_
       | refine OW_addI rfl rfl (by omega) ?_
       | refine OW_subI rfl rfl (by omega) ?_
       | refine OW_mulI rfl rfl (by omega) ?_
       | refine OW_lss rfl rfl ?_
       | refine OW_extract rfl rfl ?_
       | refine OW_gtr rfl rfl ?_
       | refine OW_leq rfl rfl ?_
       | refine OW_geq rfl rfl ?_
       | refine OW_eql rfl rfl ?_
       | refine OW_neq rfl rfl ?_
       | refine OW_not rfl ?_
       | refine OW_pickT rfl _ rfl ?_
       | refine OW_pickF rfl (.bool _) rfl ?_
       | refine OW_pickB rfl rfl rfl ?_
       | refine OW_move ?_
       | refine OW_assign ?_
       | refine OW_pass rfl ?_
       | refine OW_take rfl ?_
       | refine OW_lenS (by first | with_reducible exact und_bytes | with_reducible exact und_bytess) rfl ?_
       | refine OW_convInt (by first | with_reducible exact und_u8 | with_reducible exact und_u64 | with_reducible exact und_int | with_reducible exact und_u32) (by first | with_reducible exact und_u8 | with_reducible exact und_u64 | with_reducible exact und_int | with_reducible exact und_u32) rfl ?_
       | refine OW_add rfl rfl ?_
       | refine OW_sub rfl rfl ?_
       | refine OW_mul rfl rfl ?_
       | refine OW_min2 rfl rfl ?_
       | refine OW_max2 rfl rfl ?_
       | refine OW_neg rfl ?_
       | refine CW_block ?_
       | refine CW_condT rfl ?_
       | refine CW_condF rfl ?_
       | refine CW_exit ?_
       | refine CW_ret ?_
       | refine CW_skip ?_
       | refine thenE_exit ?_
       | refine thenE_ret ?_
       | refine inBlockE_normal ?_
       | refine inBlockE_same ?_
       | refine inBlockE_ret ?_
       | refine inBlockE_ne (by rfl) ?_
       | refine OW_eqlB (by with_reducible exact und_bool) rfl rfl ?_
       | refine OW_neqB (by with_reducible exact und_bool) rfl rfl ?_
       | refine OW_idxS (by with_reducible exact und_bytes) one_u8 rfl rfl _ rfl (by omega) ?_
       | refine OW_idxS (by with_reducible exact und_bytess) one_bytes rfl rfl _ rfl (by omega) ?_
       | refine OW_load1 (by first | with_reducible exact one_u8 | with_reducible exact one_bytes) rfl _ (by assumption) ?_
       | refine OW_load1 (by with_reducible exact one_u8) rfl _ (hk.ext.cell' (by assumption)) ?_)
      refine OW_nil ?_
      exact keepsF_mk _ _ _ _
    refine ⟨?_, ?_⟩
    · refine Obl_take (fun e1 w1 hk => ?_) (fun e1 w1 hk => ?_)
      · rw [upd_self (hk.pre 11 44 rfl rfl : isV _ _ _)]
        rfl
      · rw [upd_self (hk.out 6 rfl)]
        (first
         | refine OW_moveV (.int _ _) rfl ?_
         | refine OW_moveV (.slice _ _ _) rfl ?_
         | refine OW_moveV (.bool _) rfl ?_
         | refine OW_moveV (.pointer _) rfl ?_
         | refine OW_moveV (.string _) rfl ?_
         | refine OW_moveV (.agg _) rfl ?_
         | refine OW_moveV (.tuple _) rfl ?_
         | refine OW_nil ?_
         | refine thenE_normal ?_
         | refine CW_seq ?_
         | refine CW_region (by kernel_rfl) ?_
         | refine OW_assignV (.int _ _) rfl ?_
         | refine OW_assignV (.slice _ _ _) rfl ?_
         | refine OW_assignV (.bool _) rfl ?_
         | refine OW_assignV (.pointer _) rfl ?_
         | refine OW_assignV (.string _) rfl ?_
         | refine OW_assignV (.agg _) rfl ?_
         | refine OW_assignV (.tuple _) rfl ?_
         | refine OW_addI rfl rfl (by omega) ?_
         | refine OW_subI rfl rfl (by omega) ?_
         | refine OW_mulI rfl rfl (by omega) ?_
         | refine OW_lss rfl rfl ?_
         | refine OW_extract rfl rfl ?_
         | refine OW_gtr rfl rfl ?_
         | refine OW_leq rfl rfl ?_
         | refine OW_geq rfl rfl ?_
         | refine OW_eql rfl rfl ?_
         | refine OW_neq rfl rfl ?_
         | refine OW_not rfl ?_
         | refine OW_pickT rfl _ rfl ?_
         | refine OW_pickF rfl (.bool _) rfl ?_
         | refine OW_pickB rfl rfl rfl ?_
         | refine OW_move ?_
         | refine OW_assign ?_
         | refine OW_pass rfl ?_
         | refine OW_take rfl ?_
         | refine OW_lenS (by first | with_reducible exact und_bytes | with_reducible exact und_bytess) rfl ?_
         | refine OW_convInt (by first | with_reducible exact und_u8 | with_reducible exact und_u64 | with_reducible exact und_int | with_reducible exact und_u32) (by first | with_reducible exact und_u8 | with_reducible exact und_u64 | with_reducible exact und_int | with_reducible exact und_u32) rfl ?_
         | refine OW_add rfl rfl ?_
         | refine OW_sub rfl rfl ?_
         | refine OW_mul rfl rfl ?_
         | refine OW_min2 rfl rfl ?_
         | refine OW_max2 rfl rfl ?_
         | refine OW_neg rfl ?_
         | refine CW_block ?_
         | refine CW_condT rfl ?_
         | refine CW_condF rfl ?_
         | refine CW_exit ?_
         | refine CW_ret ?_
         | refine CW_skip ?_
         | refine thenE_exit ?_
         | refine thenE_ret ?_
         | refine inBlockE_normal ?_
         | refine inBlockE_same ?_
         | refine inBlockE_ret ?_
         | refine inBlockE_ne (by rfl) ?_
         | refine OW_eqlB (by with_reducible exact und_bool) rfl rfl ?_
         | refine OW_neqB (by with_reducible exact und_bool) rfl rfl ?_
         | refine OW_idxS (by with_reducible exact und_bytes) one_u8 rfl rfl _ rfl (by omega) ?_
         | refine OW_idxS (by with_reducible exact und_bytess) one_bytes rfl rfl _ rfl (by omega) ?_
         | refine OW_load1 (by first | with_reducible exact one_u8 | with_reducible exact one_bytes) rfl _ (by assumption) ?_
         | refine OW_load1 (by with_reducible exact one_u8) rfl _ (hk.ext.cell' (by assumption)) ?_)
        refine OW_nil ?_
        exact keepsF_mk _ _ _ _
    refine ⟨?_, ?_⟩
    · refine Obl_take (fun e1 w1 hk => ?_) (fun e1 w1 hk => ?_)
      · rw [upd_self (hk.pre 11 44 rfl rfl : isV _ _ _)]
        rfl
      · rw [upd_self (hk.out 1 rfl)]
        (first
         | refine OW_moveV (.int _ _) rfl ?_
         | refine OW_moveV (.slice _ _ _) rfl ?_
         | refine OW_moveV (.bool _) rfl ?_
         | refine OW_moveV (.pointer _) rfl ?_
         | refine OW_moveV (.string _) rfl ?_
         | refine OW_moveV (.agg _) rfl ?_
         | refine OW_moveV (.tuple _) rfl ?_
         | refine OW_nil ?_
         | refine thenE_normal ?_
         | refine CW_seq ?_
         | refine CW_region (by kernel_rfl) ?_
         | refine OW_assignV (.int _ _) rfl ?_
         | refine OW_assignV (.slice _ _ _) rfl ?_
         | refine OW_assignV (.bool _) rfl ?_
         | refine OW_assignV (.pointer _) rfl ?_
         | refine OW_assignV (.string _) rfl ?_
         | refine OW_assignV (.agg _) rfl ?_
         | refine OW_assignV (.tuple _) rfl ?_
         | refine OW_addI rfl rfl (by omega) ?_
         | refine OW_subI rfl rfl (by omega) ?_
         | refine OW_mulI rfl rfl (by omega) ?_
         | refine OW_lss rfl rfl ?_
         | refine OW_extract rfl rfl ?_
         | refine OW_gtr rfl rfl ?_
         | refine OW_leq rfl rfl ?_
         | refine OW_geq rfl rfl ?_
         | refine OW_eql rfl rfl ?_
         | refine OW_neq rfl rfl ?_
         | refine OW_not rfl ?_
         | refine OW_pickT rfl _ rfl ?_
         | refine OW_pickF rfl (.bool _) rfl ?_
         | refine OW_pickB rfl rfl rfl ?_
         | refine OW_move ?_
         | refine OW_assign ?_
         | refine OW_pass rfl ?_
         | refine OW_take rfl ?_
         | refine OW_lenS (by first | with_reducible exact und_bytes | with_reducible exact und_bytess) rfl ?_
         | refine OW_convInt (by first | with_reducible exact und_u8 | with_reducible exact und_u64 | with_reducible exact und_int | with_reducible exact und_u32) (by first | with_reducible exact und_u8 | with_reducible exact und_u64 | with_reducible exact und_int | with_reducible exact und_u32) rfl ?_
         | refine OW_add rfl rfl ?_
         | refine OW_sub rfl rfl ?_
         | refine OW_mul rfl rfl ?_
         | refine OW_min2 rfl rfl ?_
         | refine OW_max2 rfl rfl ?_
         | refine OW_neg rfl ?_
         | refine CW_block ?_
         | refine CW_condT rfl ?_
         | refine CW_condF rfl ?_
         | refine CW_exit ?_
         | refine CW_ret ?_
         | refine CW_skip ?_
         | refine thenE_exit ?_
         | refine thenE_ret ?_
         | refine inBlockE_normal ?_
         | refine inBlockE_same ?_
         | refine inBlockE_ret ?_
         | refine inBlockE_ne (by rfl) ?_
         | refine OW_eqlB (by with_reducible exact und_bool) rfl rfl ?_
         | refine OW_neqB (by with_reducible exact und_bool) rfl rfl ?_
         | refine OW_idxS (by with_reducible exact und_bytes) one_u8 rfl rfl _ rfl (by omega) ?_
         | refine OW_idxS (by with_reducible exact und_bytess) one_bytes rfl rfl _ rfl (by omega) ?_
         | refine OW_load1 (by first | with_reducible exact one_u8 | with_reducible exact one_bytes) rfl _ (by assumption) ?_
         | refine OW_load1 (by with_reducible exact one_u8) rfl _ (hk.ext.cell' (by assumption)) ?_)
        refine OW_nil ?_
        exact keepsF_mk _ _ _ _
    refine ⟨?_, ?_⟩
    · refine Obl_take (fun e1 w1 hk => ?_) (fun e1 w1 hk => ?_)
      · rw [upd_self (hk.pre 11 44 rfl rfl : isV _ _ _)]
        rfl
      · rw [upd_self (hk.out 0 rfl)]
        (first
         | refine OW_moveV (.int _ _) rfl ?_
         | refine OW_moveV (.slice _ _ _) rfl ?_
         | refine OW_moveV (.bool _) rfl ?_
         | refine OW_moveV (.pointer _) rfl ?_
         | refine OW_moveV (.string _) rfl ?_
         | refine OW_moveV (.agg _) rfl ?_
         | refine OW_moveV (.tuple _) rfl ?_
         | refine OW_nil ?_
         | refine thenE_normal ?_
         | refine CW_seq ?_
         | refine CW_region (by kernel_rfl) ?_
         | refine OW_assignV (.int _ _) rfl ?_
         | refine OW_assignV (.slice _ _ _) rfl ?_
         | refine OW_assignV (.bool _) rfl ?_
         | refine OW_assignV (.pointer _) rfl ?_
         | refine OW_assignV (.string _) rfl ?_
         | refine OW_assignV (.agg _) rfl ?_
         | refine OW_assignV (.tuple _) rfl ?_
         | refine OW_addI rfl rfl (by omega) ?_
         | refine OW_subI rfl rfl (by omega) ?_
         | refine OW_mulI rfl rfl (by omega) ?_
         | refine OW_lss rfl rfl ?_
         | refine OW_extract rfl rfl ?_
         | refine OW_gtr rfl rfl ?_
         | refine OW_leq rfl rfl ?_
         | refine OW_geq rfl rfl ?_
         | refine OW_eql rfl rfl ?_
         | refine OW_neq rfl rfl ?_
         | refine OW_not rfl ?_
         | refine OW_pickT rfl _ rfl ?_
         | refine OW_pickF rfl (.bool _) rfl ?_
         | refine OW_pickB rfl rfl rfl ?_
         | refine OW_move ?_
         | refine OW_assign ?_
         | refine OW_pass rfl ?_
         | refine OW_take rfl ?_
         | refine OW_lenS (by first | with_reducible exact und_bytes | with_reducible exact und_bytess) rfl ?_
         | refine OW_convInt (by first | with_reducible exact und_u8 | with_reducible exact und_u64 | with_reducible exact und_int | with_reducible exact und_u32) (by first | with_reducible exact und_u8 | with_reducible exact und_u64 | with_reducible exact und_int | with_reducible exact und_u32) rfl ?_
         | refine OW_add rfl rfl ?_
         | refine OW_sub rfl rfl ?_
         | refine OW_mul rfl rfl ?_
         | refine OW_min2 rfl rfl ?_
         | refine OW_max2 rfl rfl ?_
         | refine OW_neg rfl ?_
         | refine CW_block ?_
         | refine CW_condT rfl ?_
         | refine CW_condF rfl ?_
         | refine CW_exit ?_
         | refine CW_ret ?_
         | refine CW_skip ?_
         | refine thenE_exit ?_
         | refine thenE_ret ?_
         | refine inBlockE_normal ?_
         | refine inBlockE_same ?_
         | refine inBlockE_ret ?_
         | refine inBlockE_ne (by rfl) ?_
         | refine OW_eqlB (by with_reducible exact und_bool) rfl rfl ?_
         | refine OW_neqB (by with_reducible exact und_bool) rfl rfl ?_
         | refine OW_idxS (by with_reducible exact und_bytes) one_u8 rfl rfl _ rfl (by omega) ?_
         | refine OW_idxS (by with_reducible exact und_bytess) one_bytes rfl rfl _ rfl (by omega) ?_
         | refine OW_load1 (by first | with_reducible exact one_u8 | with_reducible exact one_bytes) rfl _ (by assumption) ?_
         | refine OW_load1 (by with_reducible exact one_u8) rfl _ (hk.ext.cell' (by assumption)) ?_)
        refine OW_nil ?_
        exact keepsF_mk _ _ _ _
    refine ⟨?_, ?_⟩
    · refine Obl_take (fun e1 w1 hk => ?_) (fun e1 w1 hk => ?_)
      · rw [upd_self (hk.pre 11 44 rfl rfl : isV _ _ _)]
        rfl
      · rw [upd_self (hk.pre 13 46 rfl rfl : isV _ _ _), upd_self (hk.pre 14 47 rfl rfl : isV _ _ _)]
        refine OW_callBs Try.func24 (by kernel_rfl) rfl (xor_any _ B A b a cB cA (hbx.ext hk.ext) (hax.ext hk.ext) hcb (by omega)) rfl ?_
        intro w9 A9 c9 h9
        rw [xor_comm' a b] at h9 ⊢
        refine OW_nil ?_
        exact keepsF_bs _ _ _ _ _ _ _ h9.ext h9.cap h9.bs
    refine ⟨?_, ?_⟩
    · refine Obl_take (fun e1 w1 hk => ?_) (fun e1 w1 hk => ?_)
      · rw [upd_self (hk.pre 11 44 rfl rfl : isV _ _ _)]
        rfl
      · obtain ⟨A48, c48, q48, z48, b48⟩ := (hk.pre 15 48 rfl rfl : (isBs (xorL a b)) _ _)
        rw [upd_self (hk.pre 12 45 rfl rfl : isV _ _ _), upd_self q48]
        refine OW_callV Try.func27 (by kernel_rfl) rfl (same_any _ X A48 (xorL a b) (xorL a b) cX c48 (bX.ext hk.ext) b48 kX (by omega)) rfl ?_
        intro w9 h9
        rw [beq_self_eq_true]
        refine OW_nil ?_
        exact keepsF_ext _ _ _ _ _ h9
    refine ⟨?_, ?_⟩
    · refine Obl_take (fun e1 w1 hk => ?_) (fun e1 w1 hk => ?_)
      · rw [upd_self (hk.pre 11 44 rfl rfl : isV _ _ _)]
        rfl
      · rw [upd_self (hk.pre 16 49 rfl rfl : isV _ _ _)]
        (first
         | refine OW_moveV (.int _ _) rfl ?_
         | refine OW_moveV (.slice _ _ _) rfl ?_
         | refine OW_moveV (.bool _) rfl ?_
         | refine OW_moveV (.pointer _) rfl ?_
         | refine OW_moveV (.string _) rfl ?_
         | refine OW_moveV (.agg _) rfl ?_
         | refine OW_moveV (.tuple _) rfl ?_
         | refine OW_nil ?_
         | refine thenE_normal ?_
         | refine CW_seq ?_
         | refine CW_region (by kernel_rfl) ?_
         | refine OW_assignV (.int _ _) rfl ?_
         | refine OW_assignV (.slice _ _ _) rfl ?_
         | refine OW_assignV (.bool _) rfl ?_
         | refine OW_assignV (.pointer _) rfl ?_
         | refine OW_assignV (.string _) rfl ?_
         | refine OW_assignV (.agg _) rfl ?_
         | refine OW_assignV (.tuple _) rfl ?_
         | refine OW_addI rfl rfl (by omega) ?_
         | refine OW_subI rfl rfl (by omega) ?_
         | refine OW_mulI rfl rfl (by omega) ?_
         | refine OW_lss rfl rfl ?_
         | refine OW_extract rfl rfl ?_
         | refine OW_gtr rfl rfl ?_
         | refine OW_leq rfl rfl ?_
         | refine OW_geq rfl rfl ?_
         | refine OW_eql rfl rfl ?_
         | refine OW_neq rfl rfl ?_
         | refine OW_not rfl ?_
         | refine OW_pickT rfl _ rfl ?_
         | refine OW_pickF rfl (.bool _) rfl ?_
         | refine OW_pickB rfl rfl rfl ?_
         | refine OW_move ?_
         | refine OW_assign ?_
         | refine OW_pass rfl ?_
         | refine OW_take rfl ?_
         | refine OW_lenS (by first | with_reducible exact und_bytes | with_reducible exact und_bytess) rfl ?_
         | refine OW_convInt (by first | with_reducible exact und_u8 | with_reducible exact und_u64 | with_reducible exact und_int | with_reducible exact und_u32) (by first | with_reducible exact und_u8 | with_reducible exact und_u64 | with_reducible exact und_int | with_reducible exact und_u32) rfl ?_
         | refine OW_add rfl rfl ?_
         | refine OW_sub rfl rfl ?_
         | refine OW_mul rfl rfl ?_
         | refine OW_min2 rfl rfl ?_
         | refine OW_max2 rfl rfl ?_
         | refine OW_neg rfl ?_
         | refine CW_block ?_
         | refine CW_condT rfl ?_
         | refine CW_condF rfl ?_
         | refine CW_exit ?_
         | refine CW_ret ?_
         | refine CW_skip ?_
         | refine thenE_exit ?_
         | refine thenE_ret ?_
         | refine inBlockE_normal ?_
         | refine inBlockE_same ?_
         | refine inBlockE_ret ?_
         | refine inBlockE_ne (by rfl) ?_
         | refine OW_eqlB (by with_reducible exact und_bool) rfl rfl ?_
         | refine OW_neqB (by with_reducible exact und_bool) rfl rfl ?_
         | refine OW_idxS (by with_reducible exact und_bytes) one_u8 rfl rfl _ rfl (by omega) ?_
         | refine OW_idxS (by with_reducible exact und_bytess) one_bytes rfl rfl _ rfl (by omega) ?_
         | refine OW_load1 (by first | with_reducible exact one_u8 | with_reducible exact one_bytes) rfl _ (by assumption) ?_
         | refine OW_load1 (by with_reducible exact one_u8) rfl _ (hk.ext.cell' (by assumption)) ?_)
        refine OW_nil ?_
        exact keepsF_mk _ _ _ _
    refine ⟨?_, ?_⟩
    · refine Obl_of (fun e1 w1 hk => ?_)
      rw [upd_self (hk.pre 11 44 rfl rfl : isV _ _ _), upd_self (hk.pre 17 50 rfl rfl : isV _ _ _)]
      (first
       | refine OW_moveV (.int _ _) rfl ?_
       | refine OW_moveV (.slice _ _ _) rfl ?_
       | refine OW_moveV (.bool _) rfl ?_
       | refine OW_moveV (.pointer _) rfl ?_
       | refine OW_moveV (.string _) rfl ?_
       | refine OW_moveV (.agg _) rfl ?_
       | refine OW_moveV (.tuple _) rfl ?_
       | refine OW_nil ?_
       | refine thenE_normal ?_
       | refine CW_seq ?_
       | refine CW_region (by kernel_rfl) ?_
       | refine OW_assignV (.int _ _) rfl ?_
       | refine OW_assignV (.slice _ _ _) rfl ?_
       | refine OW_assignV (.bool _) rfl ?_
       | refine OW_assignV (.pointer _) rfl ?_
       | refine OW_assignV (.string _) rfl ?_
       | refine OW_assignV (.agg _) rfl ?_
       | refine OW_assignV (.tuple _) rfl ?_
       | refine OW_addI rfl rfl (by omega) ?_
       | refine OW_subI rfl rfl (by omega) ?_
       | refine OW_mulI rfl rfl (by omega) ?_
       | refine OW_lss rfl rfl ?_
       | refine OW_extract rfl rfl ?_
       | refine OW_gtr rfl rfl ?_
       | refine OW_leq rfl rfl ?_
       | refine OW_geq rfl rfl ?_
       | refine OW_eql rfl rfl ?_
       | refine OW_neq rfl rfl ?_
       | refine OW_not rfl ?_
       | refine OW_pickT rfl _ rfl ?_
       | refine OW_pickF rfl (.bool _) rfl ?_
       | refine OW_pickB rfl rfl rfl ?_
       | refine OW_move ?_
       | refine OW_assign ?_
       | refine OW_pass rfl ?_
       | refine OW_take rfl ?_
       | refine OW_lenS (by first | with_reducible exact und_bytes | with_reducible exact und_bytess) rfl ?_
       | refine OW_convInt (by first | with_reducible exact und_u8 | with_reducible exact und_u64 | with_reducible exact und_int | with_reducible exact und_u32) (by first | with_reducible exact und_u8 | with_reducible exact und_u64 | with_reducible exact und_int | with_reducible exact und_u32) rfl ?_
       | refine OW_add rfl rfl ?_
       | refine OW_sub rfl rfl ?_
       | refine OW_mul rfl rfl ?_
       | refine OW_min2 rfl rfl ?_
       | refine OW_max2 rfl rfl ?_
       | refine OW_neg rfl ?_
       | refine CW_block ?_
       | refine CW_condT rfl ?_
       | refine CW_condF rfl ?_
       | refine CW_exit ?_
       | refine CW_ret ?_
       | refine CW_skip ?_
       | refine thenE_exit ?_
       | refine thenE_ret ?_
       | refine inBlockE_normal ?_
       | refine inBlockE_same ?_
       | refine inBlockE_ret ?_
       | refine inBlockE_ne (by rfl) ?_
       | refine OW_eqlB (by with_reducible exact und_bool) rfl rfl ?_
       | refine OW_neqB (by with_reducible exact und_bool) rfl rfl ?_
       | refine OW_idxS (by with_reducible exact und_bytes) one_u8 rfl rfl _ rfl (by omega) ?_
       | refine OW_idxS (by with_reducible exact und_bytess) one_bytes rfl rfl _ rfl (by omega) ?_
       | refine OW_load1 (by first | with_reducible exact one_u8 | with_reducible exact one_bytes) rfl _ (by assumption) ?_
       | refine OW_load1 (by with_reducible exact one_u8) rfl _ (hk.ext.cell' (by assumption)) ?_)
      refine OW_nil ?_
      exact keepsF_mk _ _ _ _
    refine ⟨?_, ?_⟩
    · refine Obl_of (fun e1 w1 hk => ?_)
      rw [upd_self (hk.pre 18 51 rfl rfl : isV _ _ _)]
      (first
       | refine OW_moveV (.int _ _) rfl ?_
       | refine OW_moveV (.slice _ _ _) rfl ?_
       | refine OW_moveV (.bool _) rfl ?_
       | refine OW_moveV (.pointer _) rfl ?_
       | refine OW_moveV (.string _) rfl ?_
       | refine OW_moveV (.agg _) rfl ?_
       | refine OW_moveV (.tuple _) rfl ?_
       | refine OW_nil ?_
       | refine thenE_normal ?_
       | refine CW_seq ?_
       | refine CW_region (by kernel_rfl) ?_
       | refine OW_assignV (.int _ _) rfl ?_
       | refine OW_assignV (.slice _ _ _) rfl ?_
       | refine OW_assignV (.bool _) rfl ?_
       | refine OW_assignV (.pointer _) rfl ?_
       | refine OW_assignV (.string _) rfl ?_
       | refine OW_assignV (.agg _) rfl ?_
       | refine OW_assignV (.tuple _) rfl ?_
       | refine OW_addI rfl rfl (by omega) ?_
       | refine OW_subI rfl rfl (by omega) ?_
       | refine OW_mulI rfl rfl (by omega) ?_
       | refine OW_lss rfl rfl ?_
       | refine OW_extract rfl rfl ?_
       | refine OW_gtr rfl rfl ?_
       | refine OW_leq rfl rfl ?_
       | refine OW_geq rfl rfl ?_
       | refine OW_eql rfl rfl ?_
       | refine OW_neq rfl rfl ?_
       | refine OW_not rfl ?_
       | refine OW_pickT rfl _ rfl ?_
       | refine OW_pickF rfl (.bool _) rfl ?_
       | refine OW_pickB rfl rfl rfl ?_
       | refine OW_move ?_
       | refine OW_assign ?_
       | refine OW_pass rfl ?_
       | refine OW_take rfl ?_
       | refine OW_lenS (by first | with_reducible exact und_bytes | with_reducible exact und_bytess) rfl ?_
       | refine OW_convInt (by first | with_reducible exact und_u8 | with_reducible exact und_u64 | with_reducible exact und_int | with_reducible exact und_u32) (by first | with_reducible exact und_u8 | with_reducible exact und_u64 | with_reducible exact und_int | with_reducible exact und_u32) rfl ?_
       | refine OW_add rfl rfl ?_
       | refine OW_sub rfl rfl ?_
       | refine OW_mul rfl rfl ?_
       | refine OW_min2 rfl rfl ?_
       | refine OW_max2 rfl rfl ?_
       | refine OW_neg rfl ?_
       | refine CW_block ?_
       | refine CW_condT rfl ?_
       | refine CW_condF rfl ?_
       | refine CW_exit ?_
       | refine CW_ret ?_
       | refine CW_skip ?_
       | refine thenE_exit ?_
       | refine thenE_ret ?_
       | refine inBlockE_normal ?_
       | refine inBlockE_same ?_
       | refine inBlockE_ret ?_
       | refine inBlockE_ne (by rfl) ?_
       | refine OW_eqlB (by with_reducible exact und_bool) rfl rfl ?_
       | refine OW_neqB (by with_reducible exact und_bool) rfl rfl ?_
       | refine OW_idxS (by with_reducible exact und_bytes) one_u8 rfl rfl _ rfl (by omega) ?_
       | refine OW_idxS (by with_reducible exact und_bytess) one_bytes rfl rfl _ rfl (by omega) ?_
       | refine OW_load1 (by first | with_reducible exact one_u8 | with_reducible exact one_bytes) rfl _ (by assumption) ?_
       | refine OW_load1 (by with_reducible exact one_u8) rfl _ (hk.ext.cell' (by assumption)) ?_)
      refine OW_nil ?_
      exact keepsF_mk _ _ _ _
    refine ⟨?_, ?_⟩
    · refine Obl_take (fun e1 w1 hk => ?_) (fun e1 w1 hk => ?_)
      · rw [upd_self (hk.pre 19 52 rfl rfl : isV _ _ _)]
        rfl
      · rw [upd_self (hk.out 6 rfl)]
        (first
         | refine OW_moveV (.int _ _) rfl ?_
         | refine OW_moveV (.slice _ _ _) rfl ?_
         | refine OW_moveV (.bool _) rfl ?_
         | refine OW_moveV (.pointer _) rfl ?_
         | refine OW_moveV (.string _) rfl ?_
         | refine OW_moveV (.agg _) rfl ?_
         | refine OW_moveV (.tuple _) rfl ?_
         | refine OW_nil ?_
         | refine thenE_normal ?_
         | refine CW_seq ?_
         | refine CW_region (by kernel_rfl) ?_
         | refine OW_assignV (.int _ _) rfl ?_
         | refine OW_assignV (.slice _ _ _) rfl ?_
         | refine OW_assignV (.bool _) rfl ?_
         | refine OW_assignV (.pointer _) rfl ?_
         | refine OW_assignV (.string _) rfl ?_
         | refine OW_assignV (.agg _) rfl ?_
         | refine OW_assignV (.tuple _) rfl ?_
         | refine OW_addI rfl rfl (by omega) ?_
         | refine OW_subI rfl rfl (by omega) ?_
         | refine OW_mulI rfl rfl (by omega) ?_
         | refine OW_lss rfl rfl ?_
         | refine OW_extract rfl rfl ?_
         | refine OW_gtr rfl rfl ?_
         | refine OW_leq rfl rfl ?_
         | refine OW_geq rfl rfl ?_
         | refine OW_eql rfl rfl ?_
         | refine OW_neq rfl rfl ?_
         | refine OW_not rfl ?_
         | refine OW_pickT rfl _ rfl ?_
         | refine OW_pickF rfl (.bool _) rfl ?_
         | refine OW_pickB rfl rfl rfl ?_
         | refine OW_move ?_
         | refine OW_assign ?_
         | refine OW_pass rfl ?_
         | refine OW_take rfl ?_
         | refine OW_lenS (by first | with_reducible exact und_bytes | with_reducible exact und_bytess) rfl ?_
         | refine OW_convInt (by first | with_reducible exact und_u8 | with_reducible exact und_u64 | with_reducible exact und_int | with_reducible exact und_u32) (by first | with_reducible exact und_u8 | with_reducible exact und_u64 | with_reducible exact und_int | with_reducible exact und_u32) rfl ?_
         | refine OW_add rfl rfl ?_
         | refine OW_sub rfl rfl ?_
         | refine OW_mul rfl rfl ?_
         | refine OW_min2 rfl rfl ?_
         | refine OW_max2 rfl rfl ?_
         | refine OW_neg rfl ?_
         | refine CW_block ?_
         | refine CW_condT rfl ?_
         | refine CW_condF rfl ?_
         | refine CW_exit ?_
         | refine CW_ret ?_
         | refine CW_skip ?_
         | refine thenE_exit ?_
         | refine thenE_ret ?_
         | refine inBlockE_normal ?_
         | refine inBlockE_same ?_
         | refine inBlockE_ret ?_
         | refine inBlockE_ne (by rfl) ?_
         | refine OW_eqlB (by with_reducible exact und_bool) rfl rfl ?_
         | refine OW_neqB (by with_reducible exact und_bool) rfl rfl ?_
         | refine OW_idxS (by with_reducible exact und_bytes) one_u8 rfl rfl _ rfl (by omega) ?_
         | refine OW_idxS (by with_reducible exact und_bytess) one_bytes rfl rfl _ rfl (by omega) ?_
         | refine OW_load1 (by first | with_reducible exact one_u8 | with_reducible exact one_bytes) rfl _ (by assumption) ?_
         | refine OW_load1 (by with_reducible exact one_u8) rfl _ (hk.ext.cell' (by assumption)) ?_)
        refine OW_nil ?_
        exact keepsF_mk _ _ _ _
    refine ⟨?_, ?_⟩
    · refine Obl_take (fun e1 w1 hk => ?_) (fun e1 w1 hk => ?_)
      · rw [upd_self (hk.pre 19 52 rfl rfl : isV _ _ _)]
        rfl
      · rw [upd_self (hk.out 1 rfl)]
        (first
         | refine OW_moveV (.int _ _) rfl ?_
         | refine OW_moveV (.slice _ _ _) rfl ?_
         | refine OW_moveV (.bool _) rfl ?_
         | refine OW_moveV (.pointer _) rfl ?_
         | refine OW_moveV (.string _) rfl ?_
         | refine OW_moveV (.agg _) rfl ?_
         | refine OW_moveV (.tuple _) rfl ?_
         | refine OW_nil ?_
         | refine thenE_normal ?_
         | refine CW_seq ?_
         | refine CW_region (by kernel_rfl) ?_
         | refine OW_assignV (.int _ _) rfl ?_
         | refine OW_assignV (.slice _ _ _) rfl ?_
         | refine OW_assignV (.bool _) rfl ?_
         | refine OW_assignV (.pointer _) rfl ?_
         | refine OW_assignV (.string _) rfl ?_
         | refine OW_assignV (.agg _) rfl ?_
         | refine OW_assignV (.tuple _) rfl ?_
         | refine OW_addI rfl rfl (by omega) ?_
         | refine OW_subI rfl rfl (by omega) ?_
         | refine OW_mulI rfl rfl (by omega) ?_
         | refine OW_lss rfl rfl ?_
         | refine OW_extract rfl rfl ?_
         | refine OW_gtr rfl rfl ?_
         | refine OW_leq rfl rfl ?_
         | refine OW_geq rfl rfl ?_
         | refine OW_eql rfl rfl ?_
         | refine OW_neq rfl rfl ?_
         | refine OW_not rfl ?_
         | refine OW_pickT rfl _ rfl ?_
         | refine OW_pickF rfl (.bool _) rfl ?_
         | refine OW_pickB rfl rfl rfl ?_
         | refine OW_move ?_
         | refine OW_assign ?_
         | refine OW_pass rfl ?_
         | refine OW_take rfl ?_
         | refine OW_lenS (by first | with_reducible exact und_bytes | with_reducible exact und_bytess) rfl ?_
         | refine OW_convInt (by first | with_reducible exact und_u8 | with_reducible exact und_u64 | with_reducible exact und_int | with_reducible exact und_u32) (by first | with_reducible exact und_u8 | with_reducible exact und_u64 | with_reducible exact und_int | with_reducible exact und_u32) rfl ?_
         | refine OW_add rfl rfl ?_
         | refine OW_sub rfl rfl ?_
         | refine OW_mul rfl rfl ?_
         | refine OW_min2 rfl rfl ?_
         | refine OW_max2 rfl rfl ?_
         | refine OW_neg rfl ?_
         | refine CW_block ?_
         | refine CW_condT rfl ?_
         | refine CW_condF rfl ?_
         | refine CW_exit ?_
         | refine CW_ret ?_
         | refine CW_skip ?_
         | refine thenE_exit ?_
         | refine thenE_ret ?_
         | refine inBlockE_normal ?_
         | refine inBlockE_same ?_
         | refine inBlockE_ret ?_
         | refine inBlockE_ne (by rfl) ?_
         | refine OW_eqlB (by with_reducible exact und_bool) rfl rfl ?_
         | refine OW_neqB (by with_reducible exact und_bool) rfl rfl ?_
         | refine OW_idxS (by with_reducible exact und_bytes) one_u8 rfl rfl _ rfl (by omega) ?_
         | refine OW_idxS (by with_reducible exact und_bytess) one_bytes rfl rfl _ rfl (by omega) ?_
         | refine OW_load1 (by first | with_reducible exact one_u8 | with_reducible exact one_bytes) rfl _ (by assumption) ?_
         | refine OW_load1 (by with_reducible exact one_u8) rfl _ (hk.ext.cell' (by assumption)) ?_)
        refine OW_nil ?_
        exact keepsF_mk _ _ _ _
    refine ⟨?_, ?_⟩
    · refine Obl_take (fun e1 w1 hk => ?_) (fun e1 w1 hk => ?_)
      · rw [upd_self (hk.pre 19 52 rfl rfl : isV _ _ _)]
        rfl
      · rw [upd_self (hk.pre 20 53 rfl rfl : isV _ _ _), upd_self (hk.pre 21 54 rfl rfl : isV _ _ _)]
        refine OW_callBs Try.func24 (by kernel_rfl) rfl (xor_any _ X B (xorL a b) b cX cB (bX.ext hk.ext) (hbx.ext hk.ext) kX (by omega)) rfl ?_
        intro w9 A9 c9 h9
        rw [hxx] at h9 ⊢
        refine OW_nil ?_
        exact keepsF_bs _ _ _ _ _ _ _ h9.ext h9.cap h9.bs
    refine ⟨?_, ?_⟩
    · refine Obl_take (fun e1 w1 hk => ?_) (fun e1 w1 hk => ?_)
      · rw [upd_self (hk.pre 19 52 rfl rfl : isV _ _ _)]
        rfl
      · rw [upd_self (hk.out 0 rfl)]
        (first
         | refine OW_moveV (.int _ _) rfl ?_
         | refine OW_moveV (.slice _ _ _) rfl ?_
         | refine OW_moveV (.bool _) rfl ?_
         | refine OW_moveV (.pointer _) rfl ?_
         | refine OW_moveV (.string _) rfl ?_
         | refine OW_moveV (.agg _) rfl ?_
         | refine OW_moveV (.tuple _) rfl ?_
         | refine OW_nil ?_
         | refine thenE_normal ?_
         | refine CW_seq ?_
         | refine CW_region (by kernel_rfl) ?_
         | refine OW_assignV (.int _ _) rfl ?_
         | refine OW_assignV (.slice _ _ _) rfl ?_
         | refine OW_assignV (.bool _) rfl ?_
         | refine OW_assignV (.pointer _) rfl ?_
         | refine OW_assignV (.string _) rfl ?_
         | refine OW_assignV (.agg _) rfl ?_
         | refine OW_assignV (.tuple _) rfl ?_
         | refine OW_addI rfl rfl (by omega) ?_
         | refine OW_subI rfl rfl (by omega) ?_
         | refine OW_mulI rfl rfl (by omega) ?_
         | refine OW_lss rfl rfl ?_
         | refine OW_extract rfl rfl ?_
         | refine OW_gtr rfl rfl ?_
         | refine OW_leq rfl rfl ?_
         | refine OW_geq rfl rfl ?_
         | refine OW_eql rfl rfl ?_
         | refine OW_neq rfl rfl ?_
         | refine OW_not rfl ?_
         | refine OW_pickT rfl _ rfl ?_
         | refine OW_pickF rfl (.bool _) rfl ?_
         | refine OW_pickB rfl rfl rfl ?_
         | refine OW_move ?_
         | refine OW_assign ?_
         | refine OW_pass rfl ?_
         | refine OW_take rfl ?_
         | refine OW_lenS (by first | with_reducible exact und_bytes | with_reducible exact und_bytess) rfl ?_
         | refine OW_convInt (by first | with_reducible exact und_u8 | with_reducible exact und_u64 | with_reducible exact und_int | with_reducible exact und_u32) (by first | with_reducible exact und_u8 | with_reducible exact und_u64 | with_reducible exact und_int | with_reducible exact und_u32) rfl ?_
         | refine OW_add rfl rfl ?_
         | refine OW_sub rfl rfl ?_
         | refine OW_mul rfl rfl ?_
         | refine OW_min2 rfl rfl ?_
         | refine OW_max2 rfl rfl ?_
         | refine OW_neg rfl ?_
         | refine CW_block ?_
         | refine CW_condT rfl ?_
         | refine CW_condF rfl ?_
         | refine CW_exit ?_
         | refine CW_ret ?_
         | refine CW_skip ?_
         | refine thenE_exit ?_
         | refine thenE_ret ?_
         | refine inBlockE_normal ?_
         | refine inBlockE_same ?_
         | refine inBlockE_ret ?_
         | refine inBlockE_ne (by rfl) ?_
         | refine OW_eqlB (by with_reducible exact und_bool) rfl rfl ?_
         | refine OW_neqB (by with_reducible exact und_bool) rfl rfl ?_
         | refine OW_idxS (by with_reducible exact und_bytes) one_u8 rfl rfl _ rfl (by omega) ?_
         | refine OW_idxS (by with_reducible exact und_bytess) one_bytes rfl rfl _ rfl (by omega) ?_
         | refine OW_load1 (by first | with_reducible exact one_u8 | with_reducible exact one_bytes) rfl _ (by assumption) ?_
         | refine OW_load1 (by with_reducible exact one_u8) rfl _ (hk.ext.cell' (by assumption)) ?_)
        refine OW_nil ?_
        exact keepsF_mk _ _ _ _
    refine ⟨?_, ?_⟩
    · refine Obl_take (fun e1 w1 hk => ?_) (fun e1 w1 hk => ?_)
      · rw [upd_self (hk.pre 19 52 rfl rfl : isV _ _ _)]
        rfl
      · rw [upd_self (hk.out 5 rfl)]
        (first
         | refine OW_moveV (.int _ _) rfl ?_
         | refine OW_moveV (.slice _ _ _) rfl ?_
         | refine OW_moveV (.bool _) rfl ?_
         | refine OW_moveV (.pointer _) rfl ?_
         | refine OW_moveV (.string _) rfl ?_
         | refine OW_moveV (.agg _) rfl ?_
         | refine OW_moveV (.tuple _) rfl ?_
         | refine OW_nil ?_
         | refine thenE_normal ?_
         | refine CW_seq ?_
         | refine CW_region (by kernel_rfl) ?_
         | refine OW_assignV (.int _ _) rfl ?_
         | refine OW_assignV (.slice _ _ _) rfl ?_
         | refine OW_assignV (.bool _) rfl ?_
         | refine OW_assignV (.pointer _) rfl ?_
         | refine OW_assignV (.string _) rfl ?_
         | refine OW_assignV (.agg _) rfl ?_
         | refine OW_assignV (.tuple _) rfl ?_
         | refine OW_addI rfl rfl (by omega) ?_
         | refine OW_subI rfl rfl (by omega) ?_
         | refine OW_mulI rfl rfl (by omega) ?_
         | refine OW_lss rfl rfl ?_
         | refine OW_extract rfl rfl ?_
         | refine OW_gtr rfl rfl ?_
         | refine OW_leq rfl rfl ?_
         | refine OW_geq rfl rfl ?_
         | refine OW_eql rfl rfl ?_
         | refine OW_neq rfl rfl ?_
         | refine OW_not rfl ?_
         | refine OW_pickT rfl _ rfl ?_
         | refine OW_pickF rfl (.bool _) rfl ?_
         | refine OW_pickB rfl rfl rfl ?_
         | refine OW_move ?_
         | refine OW_assign ?_
         | refine OW_pass rfl ?_
         | refine OW_take rfl ?_
         | refine OW_lenS (by first | with_reducible exact und_bytes | with_reducible exact und_bytess) rfl ?_
         | refine OW_convInt (by first | with_reducible exact und_u8 | with_reducible exact und_u64 | with_reducible exact und_int | with_reducible exact und_u32) (by first | with_reducible exact und_u8 | with_reducible exact und_u64 | with_reducible exact und_int | with_reducible exact und_u32) rfl ?_
         | refine OW_add rfl rfl ?_
         | refine OW_sub rfl rfl ?_
         | refine OW_mul rfl rfl ?_
         | refine OW_min2 rfl rfl ?_
         | refine OW_max2 rfl rfl ?_
         | refine OW_neg rfl ?_
         | refine CW_block ?_
         | refine CW_condT rfl ?_
         | refine CW_condF rfl ?_
         | refine CW_exit ?_
         | refine CW_ret ?_
         | refine CW_skip ?_
         | refine thenE_exit ?_
         | refine thenE_ret ?_
         | refine inBlockE_normal ?_
         | refine inBlockE_same ?_
         | refine inBlockE_ret ?_
         | refine inBlockE_ne (by rfl) ?_
         | refine OW_eqlB (by with_reducible exact und_bool) rfl rfl ?_
         | refine OW_neqB (by with_reducible exact und_bool) rfl rfl ?_
         | refine OW_idxS (by with_reducible exact und_bytes) one_u8 rfl rfl _ rfl (by omega) ?_
         | refine OW_idxS (by with_reducible exact und_bytess) one_bytes rfl rfl _ rfl (by omega) ?_
         | refine OW_load1 (by first | with_reducible exact one_u8 | with_reducible exact one_bytes) rfl _ (by assumption) ?_
         | refine OW_load1 (by with_reducible exact one_u8) rfl _ (hk.ext.cell' (by assumption)) ?_)
        refine OW_nil ?_
        exact keepsF_mk _ _ _ _
    refine ⟨?_, ?_⟩
    · refine Obl_take (fun e1 w1 hk => ?_) (fun e1 w1 hk => ?_)
      · rw [upd_self (hk.pre 19 52 rfl rfl : isV _ _ _)]
        rfl
      · rw [upd_self (hk.pre 23 56 rfl rfl : isV _ _ _), upd_self (hk.pre 24 57 rfl rfl : isV _ _ _)]
        refine OW_sliceBs und_bytes one_u8 (hax.ext hk.ext) rfl hca rfl rfl ⟨_, rfl⟩ 0 (min a.length b.length) rfl rfl (by omega) ?_
        intro A' hA' hl'
        simp only [Nat.sub_zero, List.drop_zero] at hA' hl' ⊢
        refine OW_nil ?_
        exact keepsF_bsN _ _ _ _ _ _ _ _ hl' (Ext.rfl' _) (by omega) hA'
    refine ⟨?_, ?_⟩
    · refine Obl_take (fun e1 w1 hk => ?_) (fun e1 w1 hk => ?_)
      · rw [upd_self (hk.pre 19 52 rfl rfl : isV _ _ _)]
        rfl
      · obtain ⟨A55, c55, q55, z55, b55⟩ := (hk.pre 22 55 rfl rfl : (isBs (a.take (min a.length b.length))) _ _)
        obtain ⟨A58, c58, q58, z58, b58⟩ := (hk.pre 25 58 rfl rfl : (isBs (a.take (min a.length b.length))) _ _)
        rw [upd_self q55, upd_self q58]
        refine OW_callV Try.func27 (by kernel_rfl) rfl (same_any _ A55 A58 (a.take (min a.length b.length)) (a.take (min a.length b.length)) c55 c58 b55 b58 z55 (by rw [List.length_take]; omega)) rfl ?_
        intro w9 h9
        rw [beq_self_eq_true]
        refine OW_nil ?_
        exact keepsF_ext _ _ _ _ _ h9
    refine ⟨?_, ?_⟩
    · refine Obl_take (fun e1 w1 hk => ?_) (fun e1 w1 hk => ?_)
      · rw [upd_self (hk.pre 19 52 rfl rfl : isV _ _ _)]
        rfl
      · rw [upd_self (hk.pre 26 59 rfl rfl : isV _ _ _)]
        (first
         | refine OW_moveV (.int _ _) rfl ?_
         | refine OW_moveV (.slice _ _ _) rfl ?_
         | refine OW_moveV (.bool _) rfl ?_
         | refine OW_moveV (.pointer _) rfl ?_
         | refine OW_moveV (.string _) rfl ?_
         | refine OW_moveV (.agg _) rfl ?_
         | refine OW_moveV (.tuple _) rfl ?_
         | refine OW_nil ?_
         | refine thenE_normal ?_
         | refine CW_seq ?_
         | refine CW_region (by kernel_rfl) ?_
         | refine OW_assignV (.int _ _) rfl ?_
         | refine OW_assignV (.slice _ _ _) rfl ?_
         | refine OW_assignV (.bool _) rfl ?_
         | refine OW_assignV (.pointer _) rfl ?_
         | refine OW_assignV (.string _) rfl ?_
         | refine OW_assignV (.agg _) rfl ?_
         | refine OW_assignV (.tuple _) rfl ?_
         | refine OW_addI rfl rfl (by omega) ?_
         | refine OW_subI rfl rfl (by omega) ?_
         | refine OW_mulI rfl rfl (by omega) ?_
         | refine OW_lss rfl rfl ?_
         | refine OW_extract rfl rfl ?_
         | refine OW_gtr rfl rfl ?_
         | refine OW_leq rfl rfl ?_
         | refine OW_geq rfl rfl ?_
         | refine OW_eql rfl rfl ?_
         | refine OW_neq rfl rfl ?_
         | refine OW_not rfl ?_
         | refine OW_pickT rfl _ rfl ?_
         | refine OW_pickF rfl (.bool _) rfl ?_
         | refine OW_pickB rfl rfl rfl ?_
         | refine OW_move ?_
         | refine OW_assign ?_
         | refine OW_pass rfl ?_
         | refine OW_take rfl ?_
         | refine OW_lenS (by first | with_reducible exact und_bytes | with_reducible exact und_bytess) rfl ?_
         | refine OW_convInt (by first | with_reducible exact und_u8 | with_reducible exact und_u64 | with_reducible exact und_int | with_reducible exact und_u32) (by first | with_reducible exact und_u8 | with_reducible exact und_u64 | with_reducible exact und_int | with_reducible exact und_u32) rfl ?_
         | refine OW_add rfl rfl ?_
         | refine OW_sub rfl rfl ?_
         | refine OW_mul rfl rfl ?_
         | refine OW_min2 rfl rfl ?_
         | refine OW_max2 rfl rfl ?_
         | refine OW_neg rfl ?_
         | refine CW_block ?_
         | refine CW_condT rfl ?_
         | refine CW_condF rfl ?_
         | refine CW_exit ?_
         | refine CW_ret ?_
         | refine CW_skip ?_
         | refine thenE_exit ?_
         | refine thenE_ret ?_
         | refine inBlockE_normal ?_
         | refine inBlockE_same ?_
         | refine inBlockE_ret ?_
         | refine inBlockE_ne (by rfl) ?_
         | refine OW_eqlB (by with_reducible exact und_bool) rfl rfl ?_
         | refine OW_neqB (by with_reducible exact und_bool) rfl rfl ?_
         | refine OW_idxS (by with_reducible exact und_bytes) one_u8 rfl rfl _ rfl (by omega) ?_
         | refine OW_idxS (by with_reducible exact und_bytess) one_bytes rfl rfl _ rfl (by omega) ?_
         | refine OW_load1 (by first | with_reducible exact one_u8 | with_reducible exact one_bytes) rfl _ (by assumption) ?_
         | refine OW_load1 (by with_reducible exact one_u8) rfl _ (hk.ext.cell' (by assumption)) ?_)
        refine OW_nil ?_
        exact keepsF_mk _ _ _ _
    refine ⟨?_, ?_⟩
    · refine Obl_of (fun e1 w1 hk => ?_)
      rw [upd_self (hk.pre 19 52 rfl rfl : isV _ _ _), upd_self (hk.pre 27 60 rfl rfl : isV _ _ _)]
      (first
       | refine OW_moveV (.int _ _) rfl ?_
       | refine OW_moveV (.slice _ _ _) rfl ?_
       | refine OW_moveV (.bool _) rfl ?_
       | refine OW_moveV (.pointer _) rfl ?_
       | refine OW_moveV (.string _) rfl ?_
       | refine OW_moveV (.agg _) rfl ?_
       | refine OW_moveV (.tuple _) rfl ?_
       | refine OW_nil ?_
       | refine thenE_normal ?_
       | refine CW_seq ?_
       | refine CW_region (by kernel_rfl) ?_
       | refine OW_assignV (.int _ _) rfl ?_
       | refine OW_assignV (.slice _ _ _) rfl ?_
       | refine OW_assignV (.bool _) rfl ?_
       | refine OW_assignV (.pointer _) rfl ?_
       | refine OW_assignV (.string _) rfl ?_
       | refine OW_assignV (.agg _) rfl ?_
       | refine OW_assignV (.tuple _) rfl ?_
       | refine OW_addI rfl rfl (by omega) ?_
       | refine OW_subI rfl rfl (by omega) ?_
       | refine OW_mulI rfl rfl (by omega) ?_
       | refine OW_lss rfl rfl ?_
       | refine OW_extract rfl rfl ?_
       | refine OW_gtr rfl rfl ?_
       | refine OW_leq rfl rfl ?_
       | refine OW_geq rfl rfl ?_
       | refine OW_eql rfl rfl ?_
       | refine OW_neq rfl rfl ?_
       | refine OW_not rfl ?_
       | refine OW_pickT rfl _ rfl ?_
       | refine OW_pickF rfl (.bool _) rfl ?_
       | refine OW_pickB rfl rfl rfl ?_
       | refine OW_move ?_
       | refine OW_assign ?_
       | refine OW_pass rfl ?_
       | refine OW_take rfl ?_
       | refine OW_lenS (by first | with_reducible exact und_bytes | with_reducible exact und_bytess) rfl ?_
       | refine OW_convInt (by first | with_reducible exact und_u8 | with_reducible exact und_u64 | with_reducible exact und_int | with_reducible exact und_u32) (by first | with_reducible exact und_u8 | with_reducible exact und_u64 | with_reducible exact und_int | with_reducible exact und_u32) rfl ?_
       | refine OW_add rfl rfl ?_
       | refine OW_sub rfl rfl ?_
       | refine OW_mul rfl rfl ?_
       | refine OW_min2 rfl rfl ?_
       | refine OW_max2 rfl rfl ?_
       | refine OW_neg rfl ?_
       | refine CW_block ?_
       | refine CW_condT rfl ?_
       | refine CW_condF rfl ?_
       | refine CW_exit ?_
       | refine CW_ret ?_
       | refine CW_skip ?_
       | refine thenE_exit ?_
       | refine thenE_ret ?_
       | refine inBlockE_normal ?_
       | refine inBlockE_same ?_
       | refine inBlockE_ret ?_
       | refine inBlockE_ne (by rfl) ?_
       | refine OW_eqlB (by with_reducible exact und_bool) rfl rfl ?_
       | refine OW_neqB (by with_reducible exact und_bool) rfl rfl ?_
       | refine OW_idxS (by with_reducible exact und_bytes) one_u8 rfl rfl _ rfl (by omega) ?_
       | refine OW_idxS (by with_reducible exact und_bytess) one_bytes rfl rfl _ rfl (by omega) ?_
       | refine OW_load1 (by first | with_reducible exact one_u8 | with_reducible exact one_bytes) rfl _ (by assumption) ?_
       | refine OW_load1 (by with_reducible exact one_u8) rfl _ (hk.ext.cell' (by assumption)) ?_)
      refine OW_nil ?_
      exact keepsF_mk _ _ _ _
    trivial
  case h =>
    intro e1 w1 hw1 hout hall
    rw [upd_self (hout 7 rfl), upd_self (hall 28 61 rfl : isV _ _ _)]
    repeat (first
        | refine OW_moveV (.int _ _) rfl ?_
        | refine OW_moveV (.slice _ _ _) rfl ?_
        | refine OW_moveV (.bool _) rfl ?_
        | refine OW_moveV (.pointer _) rfl ?_
        | refine OW_moveV (.string _) rfl ?_
        | refine OW_moveV (.agg _) rfl ?_
        | refine OW_moveV (.tuple _) rfl ?_
        | refine OW_nil ?_
        | refine thenE_normal ?_
        | refine CW_seq ?_
        | refine CW_region (by kernel_rfl) ?_
        | refine OW_assignV (.int _ _) rfl ?_
        | refine OW_assignV (.slice _ _ _) rfl ?_
        | refine OW_assignV (.bool _) rfl ?_
        | refine OW_assignV (.pointer _) rfl ?_
        | refine OW_assignV (.string _) rfl ?_
        | refine OW_assignV (.agg _) rfl ?_
        | refine OW_assignV (.tuple _) rfl ?_
        | refine OW_addI rfl rfl (by omega) ?_
        | refine OW_subI rfl rfl (by omega) ?_
        | refine OW_mulI rfl rfl (by omega) ?_
        | refine OW_lss rfl rfl ?_
        | refine OW_extract rfl rfl ?_
        | refine OW_gtr rfl rfl ?_
        | refine OW_leq rfl rfl ?_
        | refine OW_geq rfl rfl ?_
        | refine OW_eql rfl rfl ?_
        | refine OW_neq rfl rfl ?_
        | refine OW_not rfl ?_
        | refine OW_pickT rfl _ rfl ?_
        | refine OW_pickF rfl (.bool _) rfl ?_
        | refine OW_pickB rfl rfl rfl ?_
        | refine OW_move ?_
        | refine OW_assign ?_
        | refine OW_pass rfl ?_
        | refine OW_take rfl ?_
        | refine OW_lenS (by first | with_reducible exact und_bytes | with_reducible exact und_bytess) rfl ?_
        | refine OW_convInt (by first | with_reducible exact und_u8 | with_reducible exact und_u64 | with_reducible exact und_int | with_reducible exact und_u32) (by first | with_reducible exact und_u8 | with_reducible exact und_u64 | with_reducible exact und_int | with_reducible exact und_u32) rfl ?_
        | refine OW_add rfl rfl ?_
        | refine OW_sub rfl rfl ?_
        | refine OW_mul rfl rfl ?_
        | refine OW_min2 rfl rfl ?_
        | refine OW_max2 rfl rfl ?_
        | refine OW_neg rfl ?_
        | refine CW_block ?_
        | refine CW_condT rfl ?_
        | refine CW_condF rfl ?_
        | refine CW_exit ?_
        | refine CW_ret ?_
        | refine CW_skip ?_
        | refine thenE_exit ?_
        | refine thenE_ret ?_
        | refine inBlockE_normal ?_
        | refine inBlockE_same ?_
        | refine inBlockE_ret ?_
        | refine inBlockE_ne (by rfl) ?_
        | refine OW_eqlB (by with_reducible exact und_bool) rfl rfl ?_
        | refine OW_neqB (by with_reducible exact und_bool) rfl rfl ?_
        | refine OW_idxS (by with_reducible exact und_bytes) one_u8 rfl rfl _ rfl (by omega) ?_
        | refine OW_idxS (by with_reducible exact und_bytess) one_bytes rfl rfl _ rfl (by omega) ?_
        | refine OW_load1 (by first | with_reducible exact one_u8 | with_reducible exact one_bytes) rfl _ (by assumption) ?_)
    refine CW_loop (fun e' w' => ∃ k : Nat, k ≤ (xorL a a).length ∧ e' 7 = .slice Z (xorL a a).length cZ ∧ e' 8 = .int .i64 k ∧ Ext w3 w') (fun e' _ => (xorL a a).length - (intOf (e' 8)).toNat) ?_ ?_
    · exact ⟨0, Nat.zero_le _, rfl, rfl, hw1⟩
    · rintro e2 w2' ⟨k, hk, q7, q8, hw4⟩
      rw [upd_self q7, upd_self q8]
      repeat (first
          | refine OW_moveV (.int _ _) rfl ?_
          | refine OW_moveV (.slice _ _ _) rfl ?_
          | refine OW_moveV (.bool _) rfl ?_
          | refine OW_moveV (.pointer _) rfl ?_
          | refine OW_moveV (.string _) rfl ?_
          | refine OW_moveV (.agg _) rfl ?_
          | refine OW_moveV (.tuple _) rfl ?_
          | refine OW_nil ?_
          | refine thenE_normal ?_
          | refine CW_seq ?_
          | refine CW_region (by kernel_rfl) ?_
          | refine OW_assignV (.int _ _) rfl ?_
          | refine OW_assignV (.slice _ _ _) rfl ?_
          | refine OW_assignV (.bool _) rfl ?_
          | refine OW_assignV (.pointer _) rfl ?_
          | refine OW_assignV (.string _) rfl ?_
          | refine OW_assignV (.agg _) rfl ?_
          | refine OW_assignV (.tuple _) rfl ?_
          | refine OW_addI rfl rfl (by omega) ?_
          | refine OW_subI rfl rfl (by omega) ?_
          | refine OW_mulI rfl rfl (by omega) ?_
          | refine OW_lss rfl rfl ?_
          | refine OW_extract rfl rfl ?_
          | refine OW_gtr rfl rfl ?_
          | refine OW_leq rfl rfl ?_
          | refine OW_geq rfl rfl ?_
          | refine OW_eql rfl rfl ?_
          | refine OW_neq rfl rfl ?_
          | refine OW_not rfl ?_
          | refine OW_pickT rfl _ rfl ?_
          | refine OW_pickF rfl (.bool _) rfl ?_
          | refine OW_pickB rfl rfl rfl ?_
          | refine OW_move ?_
          | refine OW_assign ?_
          | refine OW_pass rfl ?_
          | refine OW_take rfl ?_
          | refine OW_lenS (by first | with_reducible exact und_bytes | with_reducible exact und_bytess) rfl ?_
          | refine OW_convInt (by first | with_reducible exact und_u8 | with_reducible exact und_u64 | with_reducible exact und_int | with_reducible exact und_u32) (by first | with_reducible exact und_u8 | with_reducible exact und_u64 | with_reducible exact und_int | with_reducible exact und_u32) rfl ?_
          | refine OW_add rfl rfl ?_
          | refine OW_sub rfl rfl ?_
          | refine OW_mul rfl rfl ?_
          | refine OW_min2 rfl rfl ?_
          | refine OW_max2 rfl rfl ?_
          | refine OW_neg rfl ?_
          | refine CW_block ?_
          | refine CW_condT rfl ?_
          | refine CW_condF rfl ?_
          | refine CW_exit ?_
          | refine CW_ret ?_
          | refine CW_skip ?_
          | refine thenE_exit ?_
          | refine thenE_ret ?_
          | refine inBlockE_normal ?_
          | refine inBlockE_same ?_
          | refine inBlockE_ret ?_
          | refine inBlockE_ne (by rfl) ?_
          | refine OW_eqlB (by with_reducible exact und_bool) rfl rfl ?_
          | refine OW_neqB (by with_reducible exact und_bool) rfl rfl ?_
          | refine OW_idxS (by with_reducible exact und_bytes) one_u8 rfl rfl _ rfl (by omega) ?_
          | refine OW_idxS (by with_reducible exact und_bytess) one_bytes rfl rfl _ rfl (by omega) ?_
          | refine OW_load1 (by first | with_reducible exact one_u8 | with_reducible exact one_bytes) rfl _ (by assumption) ?_)
      refine CW_cond _ rfl (fun h => ?_) (fun h => ?_)
      · have hlt : k < (xorL a a).length := by simpa using h
        obtain ⟨zd, hZ1, hcZ⟩ := (bZ.ext hw4).at_ hlt
        subst hZ1
        have hz0 : (bv ((xorL a a)[k]'hlt)) = .int .u8 0 := by rw [xor_zero' a k hlt]; rfl
        rw [hz0] at hcZ
        repeat (first
            | refine OW_moveV (.int _ _) rfl ?_
            | refine OW_moveV (.slice _ _ _) rfl ?_
            | refine OW_moveV (.bool _) rfl ?_
            | refine OW_moveV (.pointer _) rfl ?_
            | refine OW_moveV (.string _) rfl ?_
            | refine OW_moveV (.agg _) rfl ?_
            | refine OW_moveV (.tuple _) rfl ?_
            | refine OW_nil ?_
            | refine thenE_normal ?_
            | refine CW_seq ?_
            | refine CW_region (by kernel_rfl) ?_
            | refine OW_assignV (.int _ _) rfl ?_
            | refine OW_assignV (.slice _ _ _) rfl ?_
            | refine OW_assignV (.bool _) rfl ?_
            | refine OW_assignV (.pointer _) rfl ?_
            | refine OW_assignV (.string _) rfl ?_
            | refine OW_assignV (.agg _) rfl ?_
            | refine OW_assignV (.tuple _) rfl ?_
            | refine OW_addI rfl rfl (by omega) ?_
            | refine OW_subI rfl rfl (by omega) ?_
            | refine OW_mulI rfl rfl (by omega) ?_
            | refine OW_lss rfl rfl ?_
            | refine OW_extract rfl rfl ?_
            | refine OW_gtr rfl rfl ?_
            | refine OW_leq rfl rfl ?_
            | refine OW_geq rfl rfl ?_
            | refine OW_eql rfl rfl ?_
            | refine OW_neq rfl rfl ?_
            | refine OW_not rfl ?_
            | refine OW_pickT rfl _ rfl ?_
            | refine OW_pickF rfl (.bool _) rfl ?_
            | refine OW_pickB rfl rfl rfl ?_
            | refine OW_move ?_
            | refine OW_assign ?_
            | refine OW_pass rfl ?_
            | refine OW_take rfl ?_
            | refine OW_lenS (by first | with_reducible exact und_bytes | with_reducible exact und_bytess) rfl ?_
            | refine OW_convInt (by first | with_reducible exact und_u8 | with_reducible exact und_u64 | with_reducible exact und_int | with_reducible exact und_u32) (by first | with_reducible exact und_u8 | with_reducible exact und_u64 | with_reducible exact und_int | with_reducible exact und_u32) rfl ?_
            | refine OW_add rfl rfl ?_
            | refine OW_sub rfl rfl ?_
            | refine OW_mul rfl rfl ?_
            | refine OW_min2 rfl rfl ?_
            | refine OW_max2 rfl rfl ?_
            | refine OW_neg rfl ?_
            | refine CW_block ?_
            | refine CW_condT rfl ?_
            | refine CW_condF rfl ?_
            | refine CW_exit ?_
            | refine CW_ret ?_
            | refine CW_skip ?_
            | refine thenE_exit ?_
            | refine thenE_ret ?_
            | refine inBlockE_normal ?_
            | refine inBlockE_same ?_
            | refine inBlockE_ret ?_
            | refine inBlockE_ne (by rfl) ?_
            | refine OW_eqlB (by with_reducible exact und_bool) rfl rfl ?_
            | refine OW_neqB (by with_reducible exact und_bool) rfl rfl ?_
            | refine OW_idxS (by with_reducible exact und_bytes) one_u8 rfl rfl _ rfl (by omega) ?_
            | refine OW_idxS (by with_reducible exact und_bytess) one_bytes rfl rfl _ rfl (by omega) ?_
            | refine OW_load1 (by first | with_reducible exact one_u8 | with_reducible exact one_bytes) rfl _ (by assumption) ?_)
        refine ⟨⟨k + 1, by omega, rfl, rfl, hw4⟩, ?_⟩
        show (xorL a a).length - ((k : Int) + 1).toNat < (xorL a a).length - (k : Int).toNat
        omega
      · repeat (first
            | refine OW_moveV (.int _ _) rfl ?_
            | refine OW_moveV (.slice _ _ _) rfl ?_
            | refine OW_moveV (.bool _) rfl ?_
            | refine OW_moveV (.pointer _) rfl ?_
            | refine OW_moveV (.string _) rfl ?_
            | refine OW_moveV (.agg _) rfl ?_
            | refine OW_moveV (.tuple _) rfl ?_
            | refine OW_nil ?_
            | refine thenE_normal ?_
            | refine CW_seq ?_
            | refine CW_region (by kernel_rfl) ?_
            | refine OW_assignV (.int _ _) rfl ?_
            | refine OW_assignV (.slice _ _ _) rfl ?_
            | refine OW_assignV (.bool _) rfl ?_
            | refine OW_assignV (.pointer _) rfl ?_
            | refine OW_assignV (.string _) rfl ?_
            | refine OW_assignV (.agg _) rfl ?_
            | refine OW_assignV (.tuple _) rfl ?_
            | refine OW_addI rfl rfl (by omega) ?_
            | refine OW_subI rfl rfl (by omega) ?_
            | refine OW_mulI rfl rfl (by omega) ?_
            | refine OW_lss rfl rfl ?_
            | refine OW_extract rfl rfl ?_
            | refine OW_gtr rfl rfl ?_
            | refine OW_leq rfl rfl ?_
            | refine OW_geq rfl rfl ?_
            | refine OW_eql rfl rfl ?_
            | refine OW_neq rfl rfl ?_
            | refine OW_not rfl ?_
            | refine OW_pickT rfl _ rfl ?_
            | refine OW_pickF rfl (.bool _) rfl ?_
            | refine OW_pickB rfl rfl rfl ?_
            | refine OW_move ?_
            | refine OW_assign ?_
            | refine OW_pass rfl ?_
            | refine OW_take rfl ?_
            | refine OW_lenS (by first | with_reducible exact und_bytes | with_reducible exact und_bytess) rfl ?_
            | refine OW_convInt (by first | with_reducible exact und_u8 | with_reducible exact und_u64 | with_reducible exact und_int | with_reducible exact und_u32) (by first | with_reducible exact und_u8 | with_reducible exact und_u64 | with_reducible exact und_int | with_reducible exact und_u32) rfl ?_
            | refine OW_add rfl rfl ?_
            | refine OW_sub rfl rfl ?_
            | refine OW_mul rfl rfl ?_
            | refine OW_min2 rfl rfl ?_
            | refine OW_max2 rfl rfl ?_
            | refine OW_neg rfl ?_
            | refine CW_block ?_
            | refine CW_condT rfl ?_
            | refine CW_condF rfl ?_
            | refine CW_exit ?_
            | refine CW_ret ?_
            | refine CW_skip ?_
            | refine thenE_exit ?_
            | refine thenE_ret ?_
            | refine inBlockE_normal ?_
            | refine inBlockE_same ?_
            | refine inBlockE_ret ?_
            | refine inBlockE_ne (by rfl) ?_
            | refine OW_eqlB (by with_reducible exact und_bool) rfl rfl ?_
            | refine OW_neqB (by with_reducible exact und_bool) rfl rfl ?_
            | refine OW_idxS (by with_reducible exact und_bytes) one_u8 rfl rfl _ rfl (by omega) ?_
            | refine OW_idxS (by with_reducible exact und_bytess) one_bytes rfl rfl _ rfl (by omega) ?_
            | refine OW_load1 (by first | with_reducible exact one_u8 | with_reducible exact one_bytes) rfl _ (by assumption) ?_)
        exact bodyE_ret1 rfl (.bool true) rfl ⟨rfl, hwT.trans' (y3.trans' hw4)⟩
set_option maxRecDepth 100000 in
theorem lifted (os : Os) (started : os.Started) (H : Type) (enc : TypeId × Value → H) :
    ReturnsInHanded {} Try.checked os 8 .any (Rows.wordsXorSpec.pre6 enc Try.prog Try.f8 Rows.wordsXorRow.domain false) (Rows.wordsXorSpec.post enc Try.prog Try.f8 false true false false) := by
  refine returnsInHanded_of_change (C := Try.checked) ownP started (by kernel_rfl) Try.func8
    (ChangeSpec.witness6 (enc := enc) (C := Try.checked) false ⟨#[], #[.slice none 0 0, .slice none 0 0], []⟩ 8 (by kernel_rfl) (by kernel_rfl) (by kernel_rfl) (by kernel_rfl)) ?_
  intro W base args ds gs before hval0 hW hcnd _
  have hval : ∀ (j : Nat) t v, Try.f8.params[j]? = some t → args[j]? = some v → Value.okWide Try.prog W .any base t v := hval0
  have hW' := hW
  obtain ⟨p, q, hA0, hV, rfl, hfz, hnd⟩ := hW
  have hA : DataW.TrodAll enc Try.prog W 0 (fun _ => true) true Try.f8.params.toList args.toList ds p := hA0
  rw [Try.params8] at hA hval
  obtain ⟨v0, vs0, d0, ds0, p0, q0, hargs, rfl, rfl, h0, r0⟩ := trodAll_cons hA
  obtain ⟨v1, vs1, d1, ds1, p1, q1, rfl, rfl, rfl, h1, r1⟩ := trodAll_cons r0
  obtain ⟨rfl, rfl, rfl⟩ := trodAll_nil r1
  obtain rfl : args = #[v0, v1] := by cases args; simp_all
  obtain ⟨rfl, rfl⟩ := trodVars_none hV
  have k0 := h0
  have lt0 : ∀ x ∈ p0, x.block < W.heap.size := by obtain ⟨m, hm⟩ := k0; exact DataW.trod_lt m _ _ _ hm
  have k1 := h1
  have lt1 : ∀ x ∈ p1, x.block < W.heap.size := by obtain ⟨m, hm⟩ := k1; exact DataW.trod_lt m _ _ _ hm
  obtain ⟨A0, c0, l0, rfl, b0, n0⟩ := open_bytes Try.underlying26 Try.underlying5 (by kernel_rfl) (hval 0 26 v0 rfl rfl) h0
  obtain ⟨A1, c1, l1, rfl, b1, n1⟩ := open_bytes Try.underlying26 Try.underlying5 (by kernel_rfl) (hval 1 26 v1 rfl rfl) h1
  clear hA0 hval0
  refine (walk W A0 c0 l0 b0 n0 A1 c1 l1 b1 n1).mono fun e W' ⟨he, bel⟩ => ?_
  subst he
  exact ⟨_, rfl, _, _, _, [], _, [], hW', trodAll_mk1 (shut_bool Try.underlying4 _), (trodAll_cons_mk (Below.trod laidP (by kernel_rfl) (of_decide_eq_true (by kernel_rfl)) k0 bel lt0) (trodAll_cons_mk (Below.trod laidP (by kernel_rfl) (of_decide_eq_true (by kernel_rfl)) k1 bel lt1) trodAll_mk0)), rfl, bel.frame _, fun h => by cases h⟩
theorem over : Rows.wordsXorRow.holds Try.pinned (OpenSpec.ofChange Rows.wordsXorSpec) :=
  OpenClaim.holds_of_wide 8 Try.f8 rfl rfl rfl rfl rfl rfl rfl ⟨rfl, rfl, rfl, rfl, rfl⟩ rfl rfl rfl rfl rfl (by kernel_rfl) Try.func8 (by kernel_rfl)
    (of_decide_eq_true (by kernel_rfl)) (by unfold Func.isWrapper; first | (rw [if_pos (by decide +kernel)]; kernel_rfl) | (rw [if_neg (by decide +kernel)]; exact ⟨rfl, rfl⟩))
    (fun os started H enc _ => lifted os started H enc)
theorem proved : Rows.WordsXorSaid := over
#print axioms proved
end Go.Proofs.Ytkebipifbdncoaa.lawWordsXor
