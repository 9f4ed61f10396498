/- Walks: the reference 01's functions with loops. -/
import Derived.Test.YtkebipifbdncoaaWords1
import Derived.Test.YtkebipifbdncoaaAny
namespace Go.Proofs.Ytkebipifbdncoaa
open Go Go.RowKit
set_option linter.unusedVariables false

set_option maxHeartbeats 8000000 in
theorem refXor_any (w : World) (A B : Option Addr) (a b : List UInt8) (c c' : Nat) (ha : Bs w A a) (hb : Bs w B b) (hl : a.length ≤ 1000000 ∧ b.length ≤ 1000000) :
    Calls Try.prog 26 #[.slice A a.length c, .slice B b.length c'] w (RetBs 5 w (xorL a b)) := by
  have hx := xorL_length a b
  refine calls_of_CW Try.func26 rfl (by simp [Try.ntmps26]) ?_
  rw [Try.ntmps26]
  repeat (first
      | refine OW_moveV (.int _ _) rfl ?_
      | refine OW_moveV (.slice _ _ _) rfl ?_
      | refine OW_moveV (.bool _) rfl ?_
      | refine OW_moveV (.pointer _) rfl ?_
      | refine OW_moveV (.string _) rfl ?_
      | refine OW_moveV (.agg _) rfl ?_
      | refine OW_moveV (.tuple _) rfl ?_
      | refine OW_nil ?_
      | refine thenE_normal ?_
      | refine CW_seq ?_
      | refine CW_region (by kernel_rfl) ?_
      | refine OW_assignV (.int _ _) rfl ?_
      | refine OW_assignV (.slice _ _ _) rfl ?_
      | refine OW_assignV (.bool _) rfl ?_
      | refine OW_assignV (.pointer _) rfl ?_
      | refine OW_assignV (.string _) rfl ?_
      | refine OW_assignV (.agg _) rfl ?_
      | refine OW_assignV (.tuple _) rfl ?_
      | refine OW_addI rfl rfl (by omega) ?_
      | refine OW_subI rfl rfl (by omega) ?_
      | refine OW_mulI rfl rfl (by omega) ?_
      | refine OW_lss rfl rfl ?_
      | refine OW_extract rfl rfl ?_
      | refine OW_gtr rfl rfl ?_
      | refine OW_leq rfl rfl ?_
      | refine OW_geq rfl rfl ?_
      | refine OW_eql rfl rfl ?_
      | refine OW_neq rfl rfl ?_
      | refine OW_not rfl ?_
      | refine OW_pickT rfl _ rfl ?_
      | refine OW_pickF rfl (.bool _) rfl ?_
      | refine OW_pickB rfl rfl rfl ?_
      | refine OW_move ?_
      | refine OW_assign ?_
      | refine OW_pass rfl ?_
      | refine OW_take rfl ?_
      | refine OW_lenS (by first | with_reducible exact und_bytes | with_reducible exact und_bytess) rfl ?_
      | refine OW_convInt (by first | with_reducible exact und_u8 | with_reducible exact und_u64 | with_reducible exact und_int | with_reducible exact und_u32) (by first | with_reducible exact und_u8 | with_reducible exact und_u64 | with_reducible exact und_int | with_reducible exact und_u32) rfl ?_
      | refine OW_add rfl rfl ?_
      | refine OW_sub rfl rfl ?_
      | refine OW_mul rfl rfl ?_
      | refine OW_min2 rfl rfl ?_
      | refine OW_max2 rfl rfl ?_
      | refine OW_neg rfl ?_
      | refine CW_block ?_
      | refine CW_condT rfl ?_
      | refine CW_condF rfl ?_
      | refine CW_exit ?_
      | refine CW_ret ?_
      | refine CW_skip ?_
      | refine thenE_exit ?_
      | refine thenE_ret ?_
      | refine inBlockE_normal ?_
      | refine inBlockE_same ?_
      | refine inBlockE_ret ?_
      | refine inBlockE_ne (by rfl) ?_
      | refine OW_eqlB (by with_reducible exact und_bool) rfl rfl ?_
      | refine OW_neqB (by with_reducible exact und_bool) rfl rfl ?_
      | refine OW_idxS (by with_reducible exact und_bytes) one_u8 rfl rfl _ rfl (by omega) ?_
      | refine OW_idxS (by with_reducible exact und_bytess) one_bytes rfl rfl _ rfl (by omega) ?_
      | refine OW_load1 (by first | with_reducible exact one_u8 | with_reducible exact one_bytes) rfl _ (by assumption) ?_)
  refine CW_loop (fun e' w' => ∃ (k : Nat) (A2 : Option Addr) (c2 : Nat), k ≤ a.length ∧ k ≤ b.length ∧ e' 0 = .slice A a.length c ∧ e' 1 = .slice B b.length c' ∧ e' 6 = .int .i64 k ∧ e' 5 = .slice A2 k c2 ∧
      w'.ownsRow w.heap.size 5 1 (.slice A2 k c2) k (((xorL a b).take k).map bv) ∧ Ext w w') (fun e' _ => a.length - (intOf (e' 6)).toNat) ?_ ?_
  · exact ⟨0, none, 0, Nat.zero_le _, Nat.zero_le _, rfl, rfl, rfl, rfl, World.ownsRow_nil _ _ _ _, Ext.rfl' w⟩
  · rintro e' w' ⟨k, A2, c2, hk, hk2, e0, e1, e6, e5, ho, hw⟩
    rw [upd_self e0, upd_self e1, upd_self e6, upd_self e5]
    have hA := ha.ext hw
    have hB := hb.ext hw
    have hdone : ¬ (k < a.length ∧ k < b.length) → RetBs 5 w (xorL a b) (.returned (.slice A2 k c2)) w' := fun hn => by
      have hkl : k = (xorL a b).length := by rw [hx]; omega
      subst hkl
      rw [List.take_length] at ho
      exact ⟨A2, c2, rfl, ho, hw⟩
    repeat (first
        | refine OW_moveV (.int _ _) rfl ?_
        | refine OW_moveV (.slice _ _ _) rfl ?_
        | refine OW_moveV (.bool _) rfl ?_
        | refine OW_moveV (.pointer _) rfl ?_
        | refine OW_moveV (.string _) rfl ?_
        | refine OW_moveV (.agg _) rfl ?_
        | refine OW_moveV (.tuple _) rfl ?_
        | refine OW_nil ?_
        | refine thenE_normal ?_
        | refine CW_seq ?_
        | refine CW_region (by kernel_rfl) ?_
        | refine OW_assignV (.int _ _) rfl ?_
        | refine OW_assignV (.slice _ _ _) rfl ?_
        | refine OW_assignV (.bool _) rfl ?_
        | refine OW_assignV (.pointer _) rfl ?_
        | refine OW_assignV (.string _) rfl ?_
        | refine OW_assignV (.agg _) rfl ?_
        | refine OW_assignV (.tuple _) rfl ?_
        | refine OW_addI rfl rfl (by omega) ?_
        | refine OW_subI rfl rfl (by omega) ?_
        | refine OW_mulI rfl rfl (by omega) ?_
        | refine OW_lss rfl rfl ?_
        | refine OW_extract rfl rfl ?_
        | refine OW_gtr rfl rfl ?_
        | refine OW_leq rfl rfl ?_
        | refine OW_geq rfl rfl ?_
        | refine OW_eql rfl rfl ?_
        | refine OW_neq rfl rfl ?_
        | refine OW_not rfl ?_
        | refine OW_pickT rfl _ rfl ?_
        | refine OW_pickF rfl (.bool _) rfl ?_
        | refine OW_pickB rfl rfl rfl ?_
        | refine OW_move ?_
        | refine OW_assign ?_
        | refine OW_pass rfl ?_
        | refine OW_take rfl ?_
        | refine OW_lenS (by first | with_reducible exact und_bytes | with_reducible exact und_bytess) rfl ?_
        | refine OW_convInt (by first | with_reducible exact und_u8 | with_reducible exact und_u64 | with_reducible exact und_int | with_reducible exact und_u32) (by first | with_reducible exact und_u8 | with_reducible exact und_u64 | with_reducible exact und_int | with_reducible exact und_u32) rfl ?_
        | refine OW_add rfl rfl ?_
        | refine OW_sub rfl rfl ?_
        | refine OW_mul rfl rfl ?_
        | refine OW_min2 rfl rfl ?_
        | refine OW_max2 rfl rfl ?_
        | refine OW_neg rfl ?_
        | refine CW_block ?_
        | refine CW_condT rfl ?_
        | refine CW_condF rfl ?_
        | refine CW_exit ?_
        | refine CW_ret ?_
        | refine CW_skip ?_
        | refine thenE_exit ?_
        | refine thenE_ret ?_
        | refine inBlockE_normal ?_
        | refine inBlockE_same ?_
        | refine inBlockE_ret ?_
        | refine inBlockE_ne (by rfl) ?_
        | refine OW_eqlB (by with_reducible exact und_bool) rfl rfl ?_
        | refine OW_neqB (by with_reducible exact und_bool) rfl rfl ?_
        | refine OW_idxS (by with_reducible exact und_bytes) one_u8 rfl rfl _ rfl (by omega) ?_
        | refine OW_idxS (by with_reducible exact und_bytess) one_bytes rfl rfl _ rfl (by omega) ?_
        | refine OW_load1 (by first | with_reducible exact one_u8 | with_reducible exact one_bytes) rfl _ (by assumption) ?_)
    refine OW_split 11 _ rfl (fun h1 => ?_) (fun h1 => ?_)
    · have hlt : k < a.length := by simpa using h1
      repeat (first
          | refine OW_moveV (.int _ _) rfl ?_
          | refine OW_moveV (.slice _ _ _) rfl ?_
          | refine OW_moveV (.bool _) rfl ?_
          | refine OW_moveV (.pointer _) rfl ?_
          | refine OW_moveV (.string _) rfl ?_
          | refine OW_moveV (.agg _) rfl ?_
          | refine OW_moveV (.tuple _) rfl ?_
          | refine OW_nil ?_
          | refine thenE_normal ?_
          | refine CW_seq ?_
          | refine CW_region (by kernel_rfl) ?_
          | refine OW_assignV (.int _ _) rfl ?_
          | refine OW_assignV (.slice _ _ _) rfl ?_
          | refine OW_assignV (.bool _) rfl ?_
          | refine OW_assignV (.pointer _) rfl ?_
          | refine OW_assignV (.string _) rfl ?_
          | refine OW_assignV (.agg _) rfl ?_
          | refine OW_assignV (.tuple _) rfl ?_
          | refine OW_addI rfl rfl (by omega) ?_
          | refine OW_subI rfl rfl (by omega) ?_
          | refine OW_mulI rfl rfl (by omega) ?_
          | refine OW_lss rfl rfl ?_
          | refine OW_extract rfl rfl ?_
          | refine OW_gtr rfl rfl ?_
          | refine OW_leq rfl rfl ?_
          | refine OW_geq rfl rfl ?_
          | refine OW_eql rfl rfl ?_
          | refine OW_neq rfl rfl ?_
          | refine OW_not rfl ?_
          | refine OW_pickT rfl _ rfl ?_
          | refine OW_pickF rfl (.bool _) rfl ?_
          | refine OW_pickB rfl rfl rfl ?_
          | refine OW_move ?_
          | refine OW_assign ?_
          | refine OW_pass rfl ?_
          | refine OW_take rfl ?_
          | refine OW_lenS (by first | with_reducible exact und_bytes | with_reducible exact und_bytess) rfl ?_
          | refine OW_convInt (by first | with_reducible exact und_u8 | with_reducible exact und_u64 | with_reducible exact und_int | with_reducible exact und_u32) (by first | with_reducible exact und_u8 | with_reducible exact und_u64 | with_reducible exact und_int | with_reducible exact und_u32) rfl ?_
          | refine OW_add rfl rfl ?_
          | refine OW_sub rfl rfl ?_
          | refine OW_mul rfl rfl ?_
          | refine OW_min2 rfl rfl ?_
          | refine OW_max2 rfl rfl ?_
          | refine OW_neg rfl ?_
          | refine CW_block ?_
          | refine CW_condT rfl ?_
          | refine CW_condF rfl ?_
          | refine CW_exit ?_
          | refine CW_ret ?_
          | refine CW_skip ?_
          | refine thenE_exit ?_
          | refine thenE_ret ?_
          | refine inBlockE_normal ?_
          | refine inBlockE_same ?_
          | refine inBlockE_ret ?_
          | refine inBlockE_ne (by rfl) ?_
          | refine OW_eqlB (by with_reducible exact und_bool) rfl rfl ?_
          | refine OW_neqB (by with_reducible exact und_bool) rfl rfl ?_
          | refine OW_idxS (by with_reducible exact und_bytes) one_u8 rfl rfl _ rfl (by omega) ?_
          | refine OW_idxS (by with_reducible exact und_bytess) one_bytes rfl rfl _ rfl (by omega) ?_
          | refine OW_load1 (by first | with_reducible exact one_u8 | with_reducible exact one_bytes) rfl _ (by assumption) ?_)
      refine CW_cond _ rfl (fun h2 => ?_) (fun h2 => ?_)
      · have hlt2 : k < b.length := by simpa using h2
        obtain ⟨ad, hA1, hcA⟩ := hA.at_ hlt
        obtain ⟨bd, hB1, hcB⟩ := hB.at_ hlt2
        subst hA1; subst hB1
        repeat (first
            | refine OW_moveV (.int _ _) rfl ?_
            | refine OW_moveV (.slice _ _ _) rfl ?_
            | refine OW_moveV (.bool _) rfl ?_
            | refine OW_moveV (.pointer _) rfl ?_
            | refine OW_moveV (.string _) rfl ?_
            | refine OW_moveV (.agg _) rfl ?_
            | refine OW_moveV (.tuple _) rfl ?_
            | refine OW_nil ?_
            | refine thenE_normal ?_
            | refine CW_seq ?_
            | refine CW_region (by kernel_rfl) ?_
            | refine OW_assignV (.int _ _) rfl ?_
            | refine OW_assignV (.slice _ _ _) rfl ?_
            | refine OW_assignV (.bool _) rfl ?_
            | refine OW_assignV (.pointer _) rfl ?_
            | refine OW_assignV (.string _) rfl ?_
            | refine OW_assignV (.agg _) rfl ?_
            | refine OW_assignV (.tuple _) rfl ?_
            | refine OW_addI rfl rfl (by omega) ?_
            | refine OW_subI rfl rfl (by omega) ?_
            | refine OW_mulI rfl rfl (by omega) ?_
            | refine OW_lss rfl rfl ?_
            | refine OW_extract rfl rfl ?_
            | refine OW_gtr rfl rfl ?_
            | refine OW_leq rfl rfl ?_
            | refine OW_geq rfl rfl ?_
            | refine OW_eql rfl rfl ?_
            | refine OW_neq rfl rfl ?_
            | refine OW_not rfl ?_
            | refine OW_pickT rfl _ rfl ?_
            | refine OW_pickF rfl (.bool _) rfl ?_
            | refine OW_pickB rfl rfl rfl ?_
            | refine OW_move ?_
            | refine OW_assign ?_
            | refine OW_pass rfl ?_
            | refine OW_take rfl ?_
            | refine OW_lenS (by first | with_reducible exact und_bytes | with_reducible exact und_bytess) rfl ?_
            | refine OW_convInt (by first | with_reducible exact und_u8 | with_reducible exact und_u64 | with_reducible exact und_int | with_reducible exact und_u32) (by first | with_reducible exact und_u8 | with_reducible exact und_u64 | with_reducible exact und_int | with_reducible exact und_u32) rfl ?_
            | refine OW_add rfl rfl ?_
            | refine OW_sub rfl rfl ?_
            | refine OW_mul rfl rfl ?_
            | refine OW_min2 rfl rfl ?_
            | refine OW_max2 rfl rfl ?_
            | refine OW_neg rfl ?_
            | refine CW_block ?_
            | refine CW_condT rfl ?_
            | refine CW_condF rfl ?_
            | refine CW_exit ?_
            | refine CW_ret ?_
            | refine CW_skip ?_
            | refine thenE_exit ?_
            | refine thenE_ret ?_
            | refine inBlockE_normal ?_
            | refine inBlockE_same ?_
            | refine inBlockE_ret ?_
            | refine inBlockE_ne (by rfl) ?_
            | refine OW_eqlB (by with_reducible exact und_bool) rfl rfl ?_
            | refine OW_neqB (by with_reducible exact und_bool) rfl rfl ?_
            | refine OW_idxS (by with_reducible exact und_bytes) one_u8 rfl rfl _ rfl (by omega) ?_
            | refine OW_idxS (by with_reducible exact und_bytess) one_bytes rfl rfl _ rfl (by omega) ?_
            | refine OW_load1 (by first | with_reducible exact one_u8 | with_reducible exact one_bytes) rfl _ (by assumption) ?_)
        apply CW_anyT 11 [vF _, vF _, vF _, vF _, vF _, vF _, vF _, vF _, vF _, vF (bv (a[k]'hlt ^^^ b[k]'hlt2)), bF [a[k]'hlt ^^^ b[k]'hlt2]]
        case hm => kernel_rfl
        case hac => kernel_rfl
        case hd => kernel_rfl
        case hnd => kernel_rfl
        case hk => kernel_rfl
        case hops =>
          simp only [List.take_succ_cons, List.take_zero]
          refine ⟨?_, ?_⟩
          · refine Obl_of (fun e1 w1 hk => ?_)
            rw [upd_self (hk.out 5 rfl)]
            (first
       | refine OW_moveV (.int _ _) rfl ?_
       | refine OW_moveV (.slice _ _ _) rfl ?_
       | refine OW_moveV (.bool _) rfl ?_
       | refine OW_moveV (.pointer _) rfl ?_
       | refine OW_moveV (.string _) rfl ?_
       | refine OW_moveV (.agg _) rfl ?_
       | refine OW_moveV (.tuple _) rfl ?_
       | refine OW_nil ?_
       | refine thenE_normal ?_
       | refine CW_seq ?_
       | refine CW_region (by kernel_rfl) ?_
       | refine OW_assignV (.int _ _) rfl ?_
       | refine OW_assignV (.slice _ _ _) rfl ?_
       | refine OW_assignV (.bool _) rfl ?_
       | refine OW_assignV (.pointer _) rfl ?_
       | refine OW_assignV (.string _) rfl ?_
       | refine OW_assignV (.agg _) rfl ?_
       | refine OW_assignV (.tuple _) rfl ?_
       | refine OW_addI rfl rfl (by omega) ?_
       | refine OW_subI rfl rfl (by omega) ?_
       | refine OW_mulI rfl rfl (by omega) ?_
       | refine OW_lss rfl rfl ?_
       | refine OW_extract rfl rfl ?_
       | refine OW_gtr rfl rfl ?_
       | refine OW_leq rfl rfl ?_
       | refine OW_geq rfl rfl ?_
       | refine OW_eql rfl rfl ?_
       | refine OW_neq rfl rfl ?_
       | refine OW_not rfl ?_
       | refine OW_pickT rfl _ rfl ?_
       | refine OW_pickF rfl (.bool _) rfl ?_
       | refine OW_pickB rfl rfl rfl ?_
       | refine OW_move ?_
       | refine OW_assign ?_
       | refine OW_pass rfl ?_
       | refine OW_take rfl ?_
       | refine OW_lenS (by first | with_reducible exact und_bytes | with_reducible exact und_bytess) rfl ?_
       | refine OW_convInt (by first | with_reducible exact und_u8 | with_reducible exact und_u64 | with_reducible exact und_int | with_reducible exact und_u32) (by first | with_reducible exact und_u8 | with_reducible exact und_u64 | with_reducible exact und_int | with_reducible exact und_u32) rfl ?_
       | refine OW_add rfl rfl ?_
       | refine OW_sub rfl rfl ?_
       | refine OW_mul rfl rfl ?_
       | refine OW_min2 rfl rfl ?_
       | refine OW_max2 rfl rfl ?_
       | refine OW_neg rfl ?_
       | refine CW_block ?_
       | refine CW_condT rfl ?_
       | refine CW_condF rfl ?_
       | refine CW_exit ?_
       | refine CW_ret ?_
       | refine CW_skip ?_
       | refine thenE_exit ?_
       | refine thenE_ret ?_
       | refine inBlockE_normal ?_
       | refine inBlockE_same ?_
       | refine inBlockE_ret ?_
       | refine inBlockE_ne (by rfl) ?_
       | refine OW_eqlB (by with_reducible exact und_bool) rfl rfl ?_
       | refine OW_neqB (by with_reducible exact und_bool) rfl rfl ?_
       | refine OW_idxS (by with_reducible exact und_bytes) one_u8 rfl rfl _ rfl (by omega) ?_
       | refine OW_idxS (by with_reducible exact und_bytess) one_bytes rfl rfl _ rfl (by omega) ?_
       | refine OW_load1 (by first | with_reducible exact one_u8 | with_reducible exact one_bytes) rfl _ (by assumption) ?_
       | refine OW_load1 (by with_reducible exact one_u8) rfl _ (hk.ext.cell' (by assumption)) ?_)
            refine OW_nil ?_
            exact keepsF_mk _ _ _ _
          refine ⟨?_, ?_⟩
          · refine Obl_of (fun e1 w1 hk => ?_)
            rw [upd_self (hk.out 0 rfl)]
            (first
       | refine OW_moveV (.int _ _) rfl ?_
       | refine OW_moveV (.slice _ _ _) rfl ?_
       | refine OW_moveV (.bool _) rfl ?_
       | refine OW_moveV (.pointer _) rfl ?_
       | refine OW_moveV (.string _) rfl ?_
       | refine OW_moveV (.agg _) rfl ?_
       | refine OW_moveV (.tuple _) rfl ?_
       | refine OW_nil ?_
       | refine thenE_normal ?_
       | refine CW_seq ?_
       | refine CW_region (by kernel_rfl) ?_
       | refine OW_assignV (.int _ _) rfl ?_
       | refine OW_assignV (.slice _ _ _) rfl ?_
       | refine OW_assignV (.bool _) rfl ?_
       | refine OW_assignV (.pointer _) rfl ?_
       | refine OW_assignV (.string _) rfl ?_
       | refine OW_assignV (.agg _) rfl ?_
       | refine OW_assignV (.tuple _) rfl ?_
       | refine OW_addI rfl rfl (by omega) ?_
       | refine OW_subI rfl rfl (by omega) ?_
       | refine OW_mulI rfl rfl (by omega) ?_
       | refine OW_lss rfl rfl ?_
       | refine OW_extract rfl rfl ?_
       | refine OW_gtr rfl rfl ?_
       | refine OW_leq rfl rfl ?_
       | refine OW_geq rfl rfl ?_
       | refine OW_eql rfl rfl ?_
       | refine OW_neq rfl rfl ?_
       | refine OW_not rfl ?_
       | refine OW_pickT rfl _ rfl ?_
       | refine OW_pickF rfl (.bool _) rfl ?_
       | refine OW_pickB rfl rfl rfl ?_
       | refine OW_move ?_
       | refine OW_assign ?_
       | refine OW_pass rfl ?_
       | refine OW_take rfl ?_
       | refine OW_lenS (by first | with_reducible exact und_bytes | with_reducible exact und_bytess) rfl ?_
       | refine OW_convInt (by first | with_reducible exact und_u8 | with_reducible exact und_u64 | with_reducible exact und_int | with_reducible exact und_u32) (by first | with_reducible exact und_u8 | with_reducible exact und_u64 | with_reducible exact und_int | with_reducible exact und_u32) rfl ?_
       | refine OW_add rfl rfl ?_
       | refine OW_sub rfl rfl ?_
       | refine OW_mul rfl rfl ?_
       | refine OW_min2 rfl rfl ?_
       | refine OW_max2 rfl rfl ?_
       | refine OW_neg rfl ?_
       | refine CW_block ?_
       | refine CW_condT rfl ?_
       | refine CW_condF rfl ?_
       | refine CW_exit ?_
       | refine CW_ret ?_
       | refine CW_skip ?_
       | refine thenE_exit ?_
       | refine thenE_ret ?_
       | refine inBlockE_normal ?_
       | refine inBlockE_same ?_
       | refine inBlockE_ret ?_
       | refine inBlockE_ne (by rfl) ?_
       | refine OW_eqlB (by with_reducible exact und_bool) rfl rfl ?_
       | refine OW_neqB (by with_reducible exact und_bool) rfl rfl ?_
       | refine OW_idxS (by with_reducible exact und_bytes) one_u8 rfl rfl _ rfl (by omega) ?_
       | refine OW_idxS (by with_reducible exact und_bytess) one_bytes rfl rfl _ rfl (by omega) ?_
       | refine OW_load1 (by first | with_reducible exact one_u8 | with_reducible exact one_bytes) rfl _ (by assumption) ?_
       | refine OW_load1 (by with_reducible exact one_u8) rfl _ (hk.ext.cell' (by assumption)) ?_)
            refine OW_nil ?_
            exact keepsF_mk _ _ _ _
          refine ⟨?_, ?_⟩
          · refine Obl_of (fun e1 w1 hk => ?_)
            rw [upd_self (hk.out 6 rfl)]
            (first
       | refine OW_moveV (.int _ _) rfl ?_
       | refine OW_moveV (.slice _ _ _) rfl ?_
       | refine OW_moveV (.bool _) rfl ?_
       | refine OW_moveV (.pointer _) rfl ?_
       | refine OW_moveV (.string _) rfl ?_
       | refine OW_moveV (.agg _) rfl ?_
       | refine OW_moveV (.tuple _) rfl ?_
       | refine OW_nil ?_
       | refine thenE_normal ?_
       | refine CW_seq ?_
       | refine CW_region (by kernel_rfl) ?_
       | refine OW_assignV (.int _ _) rfl ?_
       | refine OW_assignV (.slice _ _ _) rfl ?_
       | refine OW_assignV (.bool _) rfl ?_
       | refine OW_assignV (.pointer _) rfl ?_
       | refine OW_assignV (.string _) rfl ?_
       | refine OW_assignV (.agg _) rfl ?_
       | refine OW_assignV (.tuple _) rfl ?_
       | refine OW_addI rfl rfl (by omega) ?_
       | refine OW_subI rfl rfl (by omega) ?_
       | refine OW_mulI rfl rfl (by omega) ?_
       | refine OW_lss rfl rfl ?_
       | refine OW_extract rfl rfl ?_
       | refine OW_gtr rfl rfl ?_
       | refine OW_leq rfl rfl ?_
       | refine OW_geq rfl rfl ?_
       | refine OW_eql rfl rfl ?_
       | refine OW_neq rfl rfl ?_
       | refine OW_not rfl ?_
       | refine OW_pickT rfl _ rfl ?_
       | refine OW_pickF rfl (.bool _) rfl ?_
       | refine OW_pickB rfl rfl rfl ?_
       | refine OW_move ?_
       | refine OW_assign ?_
       | refine OW_pass rfl ?_
       | refine OW_take rfl ?_
       | refine OW_lenS (by first | with_reducible exact und_bytes | with_reducible exact und_bytess) rfl ?_
       | refine OW_convInt (by first | with_reducible exact und_u8 | with_reducible exact und_u64 | with_reducible exact und_int | with_reducible exact und_u32) (by first | with_reducible exact und_u8 | with_reducible exact und_u64 | with_reducible exact und_int | with_reducible exact und_u32) rfl ?_
       | refine OW_add rfl rfl ?_
       | refine OW_sub rfl rfl ?_
       | refine OW_mul rfl rfl ?_
       | refine OW_min2 rfl rfl ?_
       | refine OW_max2 rfl rfl ?_
       | refine OW_neg rfl ?_
       | refine CW_block ?_
       | refine CW_condT rfl ?_
       | refine CW_condF rfl ?_
       | refine CW_exit ?_
       | refine CW_ret ?_
       | refine CW_skip ?_
       | refine thenE_exit ?_
       | refine thenE_ret ?_
       | refine inBlockE_normal ?_
       | refine inBlockE_same ?_
       | refine inBlockE_ret ?_
       | refine inBlockE_ne (by rfl) ?_
       | refine OW_eqlB (by with_reducible exact und_bool) rfl rfl ?_
       | refine OW_neqB (by with_reducible exact und_bool) rfl rfl ?_
       | refine OW_idxS (by with_reducible exact und_bytes) one_u8 rfl rfl _ rfl (by omega) ?_
       | refine OW_idxS (by with_reducible exact und_bytess) one_bytes rfl rfl _ rfl (by omega) ?_
       | refine OW_load1 (by first | with_reducible exact one_u8 | with_reducible exact one_bytes) rfl _ (by assumption) ?_
       | refine OW_load1 (by with_reducible exact one_u8) rfl _ (hk.ext.cell' (by assumption)) ?_)
            refine OW_nil ?_
            exact keepsF_mk _ _ _ _
          refine ⟨?_, ?_⟩
          · refine Obl_of (fun e1 w1 hk => ?_)
            rw [upd_self (hk.pre 1 20 rfl rfl : isV _ _ _), upd_self (hk.pre 2 21 rfl rfl : isV _ _ _)]
            (first
       | refine OW_moveV (.int _ _) rfl ?_
       | refine OW_moveV (.slice _ _ _) rfl ?_
       | refine OW_moveV (.bool _) rfl ?_
       | refine OW_moveV (.pointer _) rfl ?_
       | refine OW_moveV (.string _) rfl ?_
       | refine OW_moveV (.agg _) rfl ?_
       | refine OW_moveV (.tuple _) rfl ?_
       | refine OW_nil ?_
       | refine thenE_normal ?_
       | refine CW_seq ?_
       | refine CW_region (by kernel_rfl) ?_
       | refine OW_assignV (.int _ _) rfl ?_
       | refine OW_assignV (.slice _ _ _) rfl ?_
       | refine OW_assignV (.bool _) rfl ?_
       | refine OW_assignV (.pointer _) rfl ?_
       | refine OW_assignV (.string _) rfl ?_
       | refine OW_assignV (.agg _) rfl ?_
       | refine OW_assignV (.tuple _) rfl ?_
       | refine OW_addI rfl rfl (by omega) ?_
       | refine OW_subI rfl rfl (by omega) ?_
       | refine OW_mulI rfl rfl (by omega) ?_
       | refine OW_lss rfl rfl ?_
       | refine OW_extract rfl rfl ?_
       | refine OW_gtr rfl rfl ?_
       | refine OW_leq rfl rfl ?_
       | refine OW_geq rfl rfl ?_
       | refine OW_eql rfl rfl ?_
       | refine OW_neq rfl rfl ?_
       | refine OW_not rfl ?_
       | refine OW_pickT rfl _ rfl ?_
       | refine OW_pickF rfl (.bool _) rfl ?_
       | refine OW_pickB rfl rfl rfl ?_
       | refine OW_move ?_
       | refine OW_assign ?_
       | refine OW_pass rfl ?_
       | refine OW_take rfl ?_
       | refine OW_lenS (by first | with_reducible exact und_bytes | with_reducible exact und_bytess) rfl ?_
       | refine OW_convInt (by first | with_reducible exact und_u8 | with_reducible exact und_u64 | with_reducible exact und_int | with_reducible exact und_u32) (by first | with_reducible exact und_u8 | with_reducible exact und_u64 | with_reducible exact und_int | with_reducible exact und_u32) rfl ?_
       | refine OW_add rfl rfl ?_
       | refine OW_sub rfl rfl ?_
       | refine OW_mul rfl rfl ?_
       | refine OW_min2 rfl rfl ?_
       | refine OW_max2 rfl rfl ?_
       | refine OW_neg rfl ?_
       | refine CW_block ?_
       | refine CW_condT rfl ?_
       | refine CW_condF rfl ?_
       | refine CW_exit ?_
       | refine CW_ret ?_
       | refine CW_skip ?_
       | refine thenE_exit ?_
       | refine thenE_ret ?_
       | refine inBlockE_normal ?_
       | refine inBlockE_same ?_
       | refine inBlockE_ret ?_
       | refine inBlockE_ne (by rfl) ?_
       | refine OW_eqlB (by with_reducible exact und_bool) rfl rfl ?_
       | refine OW_neqB (by with_reducible exact und_bool) rfl rfl ?_
       | refine OW_idxS (by with_reducible exact und_bytes) one_u8 rfl rfl _ rfl (by omega) ?_
       | refine OW_idxS (by with_reducible exact und_bytess) one_bytes rfl rfl _ rfl (by omega) ?_
       | refine OW_load1 (by first | with_reducible exact one_u8 | with_reducible exact one_bytes) rfl _ (by assumption) ?_
       | refine OW_load1 (by with_reducible exact one_u8) rfl _ (hk.ext.cell' (by assumption)) ?_)
            refine OW_nil ?_
            exact keepsF_mk _ _ _ _
          refine ⟨?_, ?_⟩
          · refine Obl_of (fun e1 w1 hk => ?_)
            rw [upd_self (hk.pre 3 22 rfl rfl : isV _ _ _)]
            (first
       | refine OW_moveV (.int _ _) rfl ?_
       | refine OW_moveV (.slice _ _ _) rfl ?_
       | refine OW_moveV (.bool _) rfl ?_
       | refine OW_moveV (.pointer _) rfl ?_
       | refine OW_moveV (.string _) rfl ?_
       | refine OW_moveV (.agg _) rfl ?_
       | refine OW_moveV (.tuple _) rfl ?_
       | refine OW_nil ?_
       | refine thenE_normal ?_
       | refine CW_seq ?_
       | refine CW_region (by kernel_rfl) ?_
       | refine OW_assignV (.int _ _) rfl ?_
       | refine OW_assignV (.slice _ _ _) rfl ?_
       | refine OW_assignV (.bool _) rfl ?_
       | refine OW_assignV (.pointer _) rfl ?_
       | refine OW_assignV (.string _) rfl ?_
       | refine OW_assignV (.agg _) rfl ?_
       | refine OW_assignV (.tuple _) rfl ?_
       | refine OW_addI rfl rfl (by omega) ?_
       | refine OW_subI rfl rfl (by omega) ?_
       | refine OW_mulI rfl rfl (by omega) ?_
       | refine OW_lss rfl rfl ?_
       | refine OW_extract rfl rfl ?_
       | refine OW_gtr rfl rfl ?_
       | refine OW_leq rfl rfl ?_
       | refine OW_geq rfl rfl ?_
       | refine OW_eql rfl rfl ?_
       | refine OW_neq rfl rfl ?_
       | refine OW_not rfl ?_
       | refine OW_pickT rfl _ rfl ?_
       | refine OW_pickF rfl (.bool _) rfl ?_
       | refine OW_pickB rfl rfl rfl ?_
       | refine OW_move ?_
       | refine OW_assign ?_
       | refine OW_pass rfl ?_
       | refine OW_take rfl ?_
       | refine OW_lenS (by first | with_reducible exact und_bytes | with_reducible exact und_bytess) rfl ?_
       | refine OW_convInt (by first | with_reducible exact und_u8 | with_reducible exact und_u64 | with_reducible exact und_int | with_reducible exact und_u32) (by first | with_reducible exact und_u8 | with_reducible exact und_u64 | with_reducible exact und_int | with_reducible exact und_u32) rfl ?_
       | refine OW_add rfl rfl ?_
       | refine OW_sub rfl rfl ?_
       | refine OW_mul rfl rfl ?_
       | refine OW_min2 rfl rfl ?_
       | refine OW_max2 rfl rfl ?_
       | refine OW_neg rfl ?_
       | refine CW_block ?_
       | refine CW_condT rfl ?_
       | refine CW_condF rfl ?_
       | refine CW_exit ?_
       | refine CW_ret ?_
       | refine CW_skip ?_
       | refine thenE_exit ?_
       | refine thenE_ret ?_
       | refine inBlockE_normal ?_
       | refine inBlockE_same ?_
       | refine inBlockE_ret ?_
       | refine inBlockE_ne (by rfl) ?_
       | refine OW_eqlB (by with_reducible exact und_bool) rfl rfl ?_
       | refine OW_neqB (by with_reducible exact und_bool) rfl rfl ?_
       | refine OW_idxS (by with_reducible exact und_bytes) one_u8 rfl rfl _ rfl (by omega) ?_
       | refine OW_idxS (by with_reducible exact und_bytess) one_bytes rfl rfl _ rfl (by omega) ?_
       | refine OW_load1 (by first | with_reducible exact one_u8 | with_reducible exact one_bytes) rfl _ (by assumption) ?_
       | refine OW_load1 (by with_reducible exact one_u8) rfl _ (hk.ext.cell' (by assumption)) ?_)
            refine OW_nil ?_
            exact keepsF_mk _ _ _ _
          refine ⟨?_, ?_⟩
          · refine Obl_of (fun e1 w1 hk => ?_)
            rw [upd_self (hk.out 1 rfl)]
            (first
       | refine OW_moveV (.int _ _) rfl ?_
       | refine OW_moveV (.slice _ _ _) rfl ?_
       | refine OW_moveV (.bool _) rfl ?_
       | refine OW_moveV (.pointer _) rfl ?_
       | refine OW_moveV (.string _) rfl ?_
       | refine OW_moveV (.agg _) rfl ?_
       | refine OW_moveV (.tuple _) rfl ?_
       | refine OW_nil ?_
       | refine thenE_normal ?_
       | refine CW_seq ?_
       | refine CW_region (by kernel_rfl) ?_
       | refine OW_assignV (.int _ _) rfl ?_
       | refine OW_assignV (.slice _ _ _) rfl ?_
       | refine OW_assignV (.bool _) rfl ?_
       | refine OW_assignV (.pointer _) rfl ?_
       | refine OW_assignV (.string _) rfl ?_
       | refine OW_assignV (.agg _) rfl ?_
       | refine OW_assignV (.tuple _) rfl ?_
       | refine OW_addI rfl rfl (by omega) ?_
       | refine OW_subI rfl rfl (by omega) ?_
       | refine OW_mulI rfl rfl (by omega) ?_
       | refine OW_lss rfl rfl ?_
       | refine OW_extract rfl rfl ?_
       | refine OW_gtr rfl rfl ?_
       | refine OW_leq rfl rfl ?_
       | refine OW_geq rfl rfl ?_
       | refine OW_eql rfl rfl ?_
       | refine OW_neq rfl rfl ?_
       | refine OW_not rfl ?_
       | refine OW_pickT rfl _ rfl ?_
       | refine OW_pickF rfl (.bool _) rfl ?_
       | refine OW_pickB rfl rfl rfl ?_
       | refine OW_move ?_
       | refine OW_assign ?_
       | refine OW_pass rfl ?_
       | refine OW_take rfl ?_
       | refine OW_lenS (by first | with_reducible exact und_bytes | with_reducible exact und_bytess) rfl ?_
       | refine OW_convInt (by first | with_reducible exact und_u8 | with_reducible exact und_u64 | with_reducible exact und_int | with_reducible exact und_u32) (by first | with_reducible exact und_u8 | with_reducible exact und_u64 | with_reducible exact und_int | with_reducible exact und_u32) rfl ?_
       | refine OW_add rfl rfl ?_
       | refine OW_sub rfl rfl ?_
       | refine OW_mul rfl rfl ?_
       | refine OW_min2 rfl rfl ?_
       | refine OW_max2 rfl rfl ?_
       | refine OW_neg rfl ?_
       | refine CW_block ?_
       | refine CW_condT rfl ?_
       | refine CW_condF rfl ?_
       | refine CW_exit ?_
       | refine CW_ret ?_
       | refine CW_skip ?_
       | refine thenE_exit ?_
       | refine thenE_ret ?_
       | refine inBlockE_normal ?_
       | refine inBlockE_same ?_
       | refine inBlockE_ret ?_
       | refine inBlockE_ne (by rfl) ?_
       | refine OW_eqlB (by with_reducible exact und_bool) rfl rfl ?_
       | refine OW_neqB (by with_reducible exact und_bool) rfl rfl ?_
       | refine OW_idxS (by with_reducible exact und_bytes) one_u8 rfl rfl _ rfl (by omega) ?_
       | refine OW_idxS (by with_reducible exact und_bytess) one_bytes rfl rfl _ rfl (by omega) ?_
       | refine OW_load1 (by first | with_reducible exact one_u8 | with_reducible exact one_bytes) rfl _ (by assumption) ?_
       | refine OW_load1 (by with_reducible exact one_u8) rfl _ (hk.ext.cell' (by assumption)) ?_)
            refine OW_nil ?_
            exact keepsF_mk _ _ _ _
          refine ⟨?_, ?_⟩
          · refine Obl_of (fun e1 w1 hk => ?_)
            rw [upd_self (hk.out 6 rfl)]
            (first
       | refine OW_moveV (.int _ _) rfl ?_
       | refine OW_moveV (.slice _ _ _) rfl ?_
       | refine OW_moveV (.bool _) rfl ?_
       | refine OW_moveV (.pointer _) rfl ?_
       | refine OW_moveV (.string _) rfl ?_
       | refine OW_moveV (.agg _) rfl ?_
       | refine OW_moveV (.tuple _) rfl ?_
       | refine OW_nil ?_
       | refine thenE_normal ?_
       | refine CW_seq ?_
       | refine CW_region (by kernel_rfl) ?_
       | refine OW_assignV (.int _ _) rfl ?_
       | refine OW_assignV (.slice _ _ _) rfl ?_
       | refine OW_assignV (.bool _) rfl ?_
       | refine OW_assignV (.pointer _) rfl ?_
       | refine OW_assignV (.string _) rfl ?_
       | refine OW_assignV (.agg _) rfl ?_
       | refine OW_assignV (.tuple _) rfl ?_
       | refine OW_addI rfl rfl (by omega) ?_
       | refine OW_subI rfl rfl (by omega) ?_
       | refine OW_mulI rfl rfl (by omega) ?_
       | refine OW_lss rfl rfl ?_
       | refine OW_extract rfl rfl ?_
       | refine OW_gtr rfl rfl ?_
       | refine OW_leq rfl rfl ?_
       | refine OW_geq rfl rfl ?_
       | refine OW_eql rfl rfl ?_
       | refine OW_neq rfl rfl ?_
       | refine OW_not rfl ?_
       | refine OW_pickT rfl _ rfl ?_
       | refine OW_pickF rfl (.bool _) rfl ?_
       | refine OW_pickB rfl rfl rfl ?_
       | refine OW_move ?_
       | refine OW_assign ?_
       | refine OW_pass rfl ?_
       | refine OW_take rfl ?_
       | refine OW_lenS (by first | with_reducible exact und_bytes | with_reducible exact und_bytess) rfl ?_
       | refine OW_convInt (by first | with_reducible exact und_u8 | with_reducible exact und_u64 | with_reducible exact und_int | with_reducible exact und_u32) (by first | with_reducible exact und_u8 | with_reducible exact und_u64 | with_reducible exact und_int | with_reducible exact und_u32) rfl ?_
       | refine OW_add rfl rfl ?_
       | refine OW_sub rfl rfl ?_
       | refine OW_mul rfl rfl ?_
       | refine OW_min2 rfl rfl ?_
       | refine OW_max2 rfl rfl ?_
       | refine OW_neg rfl ?_
       | refine CW_block ?_
       | refine CW_condT rfl ?_
       | refine CW_condF rfl ?_
       | refine CW_exit ?_
       | refine CW_ret ?_
       | refine CW_skip ?_
       | refine thenE_exit ?_
       | refine thenE_ret ?_
       | refine inBlockE_normal ?_
       | refine inBlockE_same ?_
       | refine inBlockE_ret ?_
       | refine inBlockE_ne (by rfl) ?_
       | refine OW_eqlB (by with_reducible exact und_bool) rfl rfl ?_
       | refine OW_neqB (by with_reducible exact und_bool) rfl rfl ?_
       | refine OW_idxS (by with_reducible exact und_bytes) one_u8 rfl rfl _ rfl (by omega) ?_
       | refine OW_idxS (by with_reducible exact und_bytess) one_bytes rfl rfl _ rfl (by omega) ?_
       | refine OW_load1 (by first | with_reducible exact one_u8 | with_reducible exact one_bytes) rfl _ (by assumption) ?_
       | refine OW_load1 (by with_reducible exact one_u8) rfl _ (hk.ext.cell' (by assumption)) ?_)
            refine OW_nil ?_
            exact keepsF_mk _ _ _ _
          refine ⟨?_, ?_⟩
          · refine Obl_of (fun e1 w1 hk => ?_)
            rw [upd_self (hk.pre 5 24 rfl rfl : isV _ _ _), upd_self (hk.pre 6 25 rfl rfl : isV _ _ _)]
            (first
       | refine OW_moveV (.int _ _) rfl ?_
       | refine OW_moveV (.slice _ _ _) rfl ?_
       | refine OW_moveV (.bool _) rfl ?_
       | refine OW_moveV (.pointer _) rfl ?_
       | refine OW_moveV (.string _) rfl ?_
       | refine OW_moveV (.agg _) rfl ?_
       | refine OW_moveV (.tuple _) rfl ?_
       | refine OW_nil ?_
       | refine thenE_normal ?_
       | refine CW_seq ?_
       | refine CW_region (by kernel_rfl) ?_
       | refine OW_assignV (.int _ _) rfl ?_
       | refine OW_assignV (.slice _ _ _) rfl ?_
       | refine OW_assignV (.bool _) rfl ?_
       | refine OW_assignV (.pointer _) rfl ?_
       | refine OW_assignV (.string _) rfl ?_
       | refine OW_assignV (.agg _) rfl ?_
       | refine OW_assignV (.tuple _) rfl ?_
       | refine OW_addI rfl rfl (by omega) ?_
       | refine OW_subI rfl rfl (by omega) ?_
       | refine OW_mulI rfl rfl (by omega) ?_
       | refine OW_lss rfl rfl ?_
       | refine OW_extract rfl rfl ?_
       | refine OW_gtr rfl rfl ?_
       | refine OW_leq rfl rfl ?_
       | refine OW_geq rfl rfl ?_
       | refine OW_eql rfl rfl ?_
       | refine OW_neq rfl rfl ?_
       | refine OW_not rfl ?_
       | refine OW_pickT rfl _ rfl ?_
       | refine OW_pickF rfl (.bool _) rfl ?_
       | refine OW_pickB rfl rfl rfl ?_
       | refine OW_move ?_
       | refine OW_assign ?_
       | refine OW_pass rfl ?_
       | refine OW_take rfl ?_
       | refine OW_lenS (by first | with_reducible exact und_bytes | with_reducible exact und_bytess) rfl ?_
       | refine OW_convInt (by first | with_reducible exact und_u8 | with_reducible exact und_u64 | with_reducible exact und_int | with_reducible exact und_u32) (by first | with_reducible exact und_u8 | with_reducible exact und_u64 | with_reducible exact und_int | with_reducible exact und_u32) rfl ?_
       | refine OW_add rfl rfl ?_
       | refine OW_sub rfl rfl ?_
       | refine OW_mul rfl rfl ?_
       | refine OW_min2 rfl rfl ?_
       | refine OW_max2 rfl rfl ?_
       | refine OW_neg rfl ?_
       | refine CW_block ?_
       | refine CW_condT rfl ?_
       | refine CW_condF rfl ?_
       | refine CW_exit ?_
       | refine CW_ret ?_
       | refine CW_skip ?_
       | refine thenE_exit ?_
       | refine thenE_ret ?_
       | refine inBlockE_normal ?_
       | refine inBlockE_same ?_
       | refine inBlockE_ret ?_
       | refine inBlockE_ne (by rfl) ?_
       | refine OW_eqlB (by with_reducible exact und_bool) rfl rfl ?_
       | refine OW_neqB (by with_reducible exact und_bool) rfl rfl ?_
       | refine OW_idxS (by with_reducible exact und_bytes) one_u8 rfl rfl _ rfl (by omega) ?_
       | refine OW_idxS (by with_reducible exact und_bytess) one_bytes rfl rfl _ rfl (by omega) ?_
       | refine OW_load1 (by first | with_reducible exact one_u8 | with_reducible exact one_bytes) rfl _ (by assumption) ?_
       | refine OW_load1 (by with_reducible exact one_u8) rfl _ (hk.ext.cell' (by assumption)) ?_)
            refine OW_nil ?_
            exact keepsF_mk _ _ _ _
          refine ⟨?_, ?_⟩
          · refine Obl_of (fun e1 w1 hk => ?_)
            rw [upd_self (hk.pre 7 26 rfl rfl : isV _ _ _)]
            (first
       | refine OW_moveV (.int _ _) rfl ?_
       | refine OW_moveV (.slice _ _ _) rfl ?_
       | refine OW_moveV (.bool _) rfl ?_
       | refine OW_moveV (.pointer _) rfl ?_
       | refine OW_moveV (.string _) rfl ?_
       | refine OW_moveV (.agg _) rfl ?_
       | refine OW_moveV (.tuple _) rfl ?_
       | refine OW_nil ?_
       | refine thenE_normal ?_
       | refine CW_seq ?_
       | refine CW_region (by kernel_rfl) ?_
       | refine OW_assignV (.int _ _) rfl ?_
       | refine OW_assignV (.slice _ _ _) rfl ?_
       | refine OW_assignV (.bool _) rfl ?_
       | refine OW_assignV (.pointer _) rfl ?_
       | refine OW_assignV (.string _) rfl ?_
       | refine OW_assignV (.agg _) rfl ?_
       | refine OW_assignV (.tuple _) rfl ?_
       | refine OW_addI rfl rfl (by omega) ?_
       | refine OW_subI rfl rfl (by omega) ?_
       | refine OW_mulI rfl rfl (by omega) ?_
       | refine OW_lss rfl rfl ?_
       | refine OW_extract rfl rfl ?_
       | refine OW_gtr rfl rfl ?_
       | refine OW_leq rfl rfl ?_
       | refine OW_geq rfl rfl ?_
       | refine OW_eql rfl rfl ?_
       | refine OW_neq rfl rfl ?_
       | refine OW_not rfl ?_
       | refine OW_pickT rfl _ rfl ?_
       | refine OW_pickF rfl (.bool _) rfl ?_
       | refine OW_pickB rfl rfl rfl ?_
       | refine OW_move ?_
       | refine OW_assign ?_
       | refine OW_pass rfl ?_
       | refine OW_take rfl ?_
       | refine OW_lenS (by first | with_reducible exact und_bytes | with_reducible exact und_bytess) rfl ?_
       | refine OW_convInt (by first | with_reducible exact und_u8 | with_reducible exact und_u64 | with_reducible exact und_int | with_reducible exact und_u32) (by first | with_reducible exact und_u8 | with_reducible exact und_u64 | with_reducible exact und_int | with_reducible exact und_u32) rfl ?_
       | refine OW_add rfl rfl ?_
       | refine OW_sub rfl rfl ?_
       | refine OW_mul rfl rfl ?_
       | refine OW_min2 rfl rfl ?_
       | refine OW_max2 rfl rfl ?_
       | refine OW_neg rfl ?_
       | refine CW_block ?_
       | refine CW_condT rfl ?_
       | refine CW_condF rfl ?_
       | refine CW_exit ?_
       | refine CW_ret ?_
       | refine CW_skip ?_
       | refine thenE_exit ?_
       | refine thenE_ret ?_
       | refine inBlockE_normal ?_
       | refine inBlockE_same ?_
       | refine inBlockE_ret ?_
       | refine inBlockE_ne (by rfl) ?_
       | refine OW_eqlB (by with_reducible exact und_bool) rfl rfl ?_
       | refine OW_neqB (by with_reducible exact und_bool) rfl rfl ?_
       | refine OW_idxS (by with_reducible exact und_bytes) one_u8 rfl rfl _ rfl (by omega) ?_
       | refine OW_idxS (by with_reducible exact und_bytess) one_bytes rfl rfl _ rfl (by omega) ?_
       | refine OW_load1 (by first | with_reducible exact one_u8 | with_reducible exact one_bytes) rfl _ (by assumption) ?_
       | refine OW_load1 (by with_reducible exact one_u8) rfl _ (hk.ext.cell' (by assumption)) ?_)
            refine OW_nil ?_
            exact keepsF_mk _ _ _ _
          refine ⟨?_, ?_⟩
          · refine Obl_of (fun e1 w1 hk => ?_)
            rw [upd_self (hk.pre 4 23 rfl rfl : isV _ _ _), upd_self (hk.pre 8 27 rfl rfl : isV _ _ _)]
            refine OW_xor rfl rfl _ (xor_bv _ _) ?_
            refine OW_nil ?_
            exact keepsF_mk _ _ (bv _) _
          refine ⟨?_, ?_⟩
          · refine Obl_of (fun e1 w1 hk => ?_)
            rw [upd_self (hk.pre 9 28 rfl rfl : isV _ _ _)]
            refine OW_lit [bv (a[k]'hlt ^^^ b[k]'hlt2)] und_bytes info_u8 rfl rfl (by simp [bv, Value.oneCell']) (by decide) ?_
            intro w2 g hb2 hg2 hx2
            refine OW_nil ?_
            exact keepsF_bs _ _ _ _ [a[k]'hlt ^^^ b[k]'hlt2] _ _ hx2 (Nat.le_refl _) hb2.rd
          trivial
        case h =>
          intro e1 w1 hw1 hout hall
          rw [upd_self (hout 0 rfl), upd_self (hout 1 rfl), upd_self (hout 6 rfl), upd_self (hall 0 19 rfl : isV _ _ _)]
          obtain ⟨A29, c29, q29, z29, b29⟩ := (hall 10 29 rfl : isBs _ _ _)
          rw [upd_self q29]
          simp only [List.drop_succ_cons, List.drop_zero]
          refine OW_append und_bytes info_u8 rfl rfl rfl (own_ext ho hw1) b29 (by simp) (bv_one _) (by unfold maxLen; simp; omega) (by simp; omega) (Nat.le_trans hw.size hw1.size) ?_
          intro w3 A3 c3 ho3 hb3
          repeat (first
              | refine OW_moveV (.int _ _) rfl ?_
              | refine OW_moveV (.slice _ _ _) rfl ?_
              | refine OW_moveV (.bool _) rfl ?_
              | refine OW_moveV (.pointer _) rfl ?_
              | refine OW_moveV (.string _) rfl ?_
              | refine OW_moveV (.agg _) rfl ?_
              | refine OW_moveV (.tuple _) rfl ?_
              | refine OW_nil ?_
              | refine thenE_normal ?_
              | refine CW_seq ?_
              | refine CW_region (by kernel_rfl) ?_
              | refine OW_assignV (.int _ _) rfl ?_
              | refine OW_assignV (.slice _ _ _) rfl ?_
              | refine OW_assignV (.bool _) rfl ?_
              | refine OW_assignV (.pointer _) rfl ?_
              | refine OW_assignV (.string _) rfl ?_
              | refine OW_assignV (.agg _) rfl ?_
              | refine OW_assignV (.tuple _) rfl ?_
              | refine OW_addI rfl rfl (by omega) ?_
              | refine OW_subI rfl rfl (by omega) ?_
              | refine OW_mulI rfl rfl (by omega) ?_
              | refine OW_lss rfl rfl ?_
              | refine OW_extract rfl rfl ?_
              | refine OW_gtr rfl rfl ?_
              | refine OW_leq rfl rfl ?_
              | refine OW_geq rfl rfl ?_
              | refine OW_eql rfl rfl ?_
              | refine OW_neq rfl rfl ?_
              | refine OW_not rfl ?_
              | refine OW_pickT rfl _ rfl ?_
              | refine OW_pickF rfl (.bool _) rfl ?_
              | refine OW_pickB rfl rfl rfl ?_
              | refine OW_move ?_
              | refine OW_assign ?_
              | refine OW_pass rfl ?_
              | refine OW_take rfl ?_
              | refine OW_lenS (by first | with_reducible exact und_bytes | with_reducible exact und_bytess) rfl ?_
              | refine OW_convInt (by first | with_reducible exact und_u8 | with_reducible exact und_u64 | with_reducible exact und_int | with_reducible exact und_u32) (by first | with_reducible exact und_u8 | with_reducible exact und_u64 | with_reducible exact und_int | with_reducible exact und_u32) rfl ?_
              | refine OW_add rfl rfl ?_
              | refine OW_sub rfl rfl ?_
              | refine OW_mul rfl rfl ?_
              | refine OW_min2 rfl rfl ?_
              | refine OW_max2 rfl rfl ?_
              | refine OW_neg rfl ?_
              | refine CW_block ?_
              | refine CW_condT rfl ?_
              | refine CW_condF rfl ?_
              | refine CW_exit ?_
              | refine CW_ret ?_
              | refine CW_skip ?_
              | refine thenE_exit ?_
              | refine thenE_ret ?_
              | refine inBlockE_normal ?_
              | refine inBlockE_same ?_
              | refine inBlockE_ret ?_
              | refine inBlockE_ne (by rfl) ?_
              | refine OW_eqlB (by with_reducible exact und_bool) rfl rfl ?_
              | refine OW_neqB (by with_reducible exact und_bool) rfl rfl ?_
              | refine OW_idxS (by with_reducible exact und_bytes) one_u8 rfl rfl _ rfl (by omega) ?_
              | refine OW_idxS (by with_reducible exact und_bytess) one_bytes rfl rfl _ rfl (by omega) ?_
              | refine OW_load1 (by first | with_reducible exact one_u8 | with_reducible exact one_bytes) rfl _ (by assumption) ?_)
          refine ⟨⟨k + 1, A3, c3, by omega, by omega, rfl, rfl, rfl, rfl, ?_, (hw.trans' hw1).trans hb3⟩, ?_⟩
          · rw [xorL_take_succ hlt hlt2, List.map_append]
            exact ho3
          · show a.length - ((k : Int) + 1).toNat < a.length - (k : Int).toNat
            omega
      · have hge : ¬ k < b.length := by simpa using h2
        repeat (first
            | refine OW_moveV (.int _ _) rfl ?_
            | refine OW_moveV (.slice _ _ _) rfl ?_
            | refine OW_moveV (.bool _) rfl ?_
            | refine OW_moveV (.pointer _) rfl ?_
            | refine OW_moveV (.string _) rfl ?_
            | refine OW_moveV (.agg _) rfl ?_
            | refine OW_moveV (.tuple _) rfl ?_
            | refine OW_nil ?_
            | refine thenE_normal ?_
            | refine CW_seq ?_
            | refine CW_region (by kernel_rfl) ?_
            | refine OW_assignV (.int _ _) rfl ?_
            | refine OW_assignV (.slice _ _ _) rfl ?_
            | refine OW_assignV (.bool _) rfl ?_
            | refine OW_assignV (.pointer _) rfl ?_
            | refine OW_assignV (.string _) rfl ?_
            | refine OW_assignV (.agg _) rfl ?_
            | refine OW_assignV (.tuple _) rfl ?_
            | refine OW_addI rfl rfl (by omega) ?_
            | refine OW_subI rfl rfl (by omega) ?_
            | refine OW_mulI rfl rfl (by omega) ?_
            | refine OW_lss rfl rfl ?_
            | refine OW_extract rfl rfl ?_
            | refine OW_gtr rfl rfl ?_
            | refine OW_leq rfl rfl ?_
            | refine OW_geq rfl rfl ?_
            | refine OW_eql rfl rfl ?_
            | refine OW_neq rfl rfl ?_
            | refine OW_not rfl ?_
            | refine OW_pickT rfl _ rfl ?_
            | refine OW_pickF rfl (.bool _) rfl ?_
            | refine OW_pickB rfl rfl rfl ?_
            | refine OW_move ?_
            | refine OW_assign ?_
            | refine OW_pass rfl ?_
            | refine OW_take rfl ?_
            | refine OW_lenS (by first | with_reducible exact und_bytes | with_reducible exact und_bytess) rfl ?_
            | refine OW_convInt (by first | with_reducible exact und_u8 | with_reducible exact und_u64 | with_reducible exact und_int | with_reducible exact und_u32) (by first | with_reducible exact und_u8 | with_reducible exact und_u64 | with_reducible exact und_int | with_reducible exact und_u32) rfl ?_
            | refine OW_add rfl rfl ?_
            | refine OW_sub rfl rfl ?_
            | refine OW_mul rfl rfl ?_
            | refine OW_min2 rfl rfl ?_
            | refine OW_max2 rfl rfl ?_
            | refine OW_neg rfl ?_
            | refine CW_block ?_
            | refine CW_condT rfl ?_
            | refine CW_condF rfl ?_
            | refine CW_exit ?_
            | refine CW_ret ?_
            | refine CW_skip ?_
            | refine thenE_exit ?_
            | refine thenE_ret ?_
            | refine inBlockE_normal ?_
            | refine inBlockE_same ?_
            | refine inBlockE_ret ?_
            | refine inBlockE_ne (by rfl) ?_
            | refine OW_eqlB (by with_reducible exact und_bool) rfl rfl ?_
            | refine OW_neqB (by with_reducible exact und_bool) rfl rfl ?_
            | refine OW_idxS (by with_reducible exact und_bytes) one_u8 rfl rfl _ rfl (by omega) ?_
            | refine OW_idxS (by with_reducible exact und_bytess) one_bytes rfl rfl _ rfl (by omega) ?_
            | refine OW_load1 (by first | with_reducible exact one_u8 | with_reducible exact one_bytes) rfl _ (by assumption) ?_)
        exact bodyE_ret1 rfl (.slice A2 k c2) rfl (hdone (by omega))
    · have hge : ¬ k < a.length := by simpa using h1
      repeat (first
          | refine OW_moveV (.int _ _) rfl ?_
          | refine OW_moveV (.slice _ _ _) rfl ?_
          | refine OW_moveV (.bool _) rfl ?_
          | refine OW_moveV (.pointer _) rfl ?_
          | refine OW_moveV (.string _) rfl ?_
          | refine OW_moveV (.agg _) rfl ?_
          | refine OW_moveV (.tuple _) rfl ?_
          | refine OW_nil ?_
          | refine thenE_normal ?_
          | refine CW_seq ?_
          | refine CW_region (by kernel_rfl) ?_
          | refine OW_assignV (.int _ _) rfl ?_
          | refine OW_assignV (.slice _ _ _) rfl ?_
          | refine OW_assignV (.bool _) rfl ?_
          | refine OW_assignV (.pointer _) rfl ?_
          | refine OW_assignV (.string _) rfl ?_
          | refine OW_assignV (.agg _) rfl ?_
          | refine OW_assignV (.tuple _) rfl ?_
          | refine OW_addI rfl rfl (by omega) ?_
          | refine OW_subI rfl rfl (by omega) ?_
          | refine OW_mulI rfl rfl (by omega) ?_
          | refine OW_lss rfl rfl ?_
          | refine OW_extract rfl rfl ?_
          | refine OW_gtr rfl rfl ?_
          | refine OW_leq rfl rfl ?_
          | refine OW_geq rfl rfl ?_
          | refine OW_eql rfl rfl ?_
          | refine OW_neq rfl rfl ?_
          | refine OW_not rfl ?_
          | refine OW_pickT rfl _ rfl ?_
          | refine OW_pickF rfl (.bool _) rfl ?_
          | refine OW_pickB rfl rfl rfl ?_
          | refine OW_move ?_
          | refine OW_assign ?_
          | refine OW_pass rfl ?_
          | refine OW_take rfl ?_
          | refine OW_lenS (by first | with_reducible exact und_bytes | with_reducible exact und_bytess) rfl ?_
          | refine OW_convInt (by first | with_reducible exact und_u8 | with_reducible exact und_u64 | with_reducible exact und_int | with_reducible exact und_u32) (by first | with_reducible exact und_u8 | with_reducible exact und_u64 | with_reducible exact und_int | with_reducible exact und_u32) rfl ?_
          | refine OW_add rfl rfl ?_
          | refine OW_sub rfl rfl ?_
          | refine OW_mul rfl rfl ?_
          | refine OW_min2 rfl rfl ?_
          | refine OW_max2 rfl rfl ?_
          | refine OW_neg rfl ?_
          | refine CW_block ?_
          | refine CW_condT rfl ?_
          | refine CW_condF rfl ?_
          | refine CW_exit ?_
          | refine CW_ret ?_
          | refine CW_skip ?_
          | refine thenE_exit ?_
          | refine thenE_ret ?_
          | refine inBlockE_normal ?_
          | refine inBlockE_same ?_
          | refine inBlockE_ret ?_
          | refine inBlockE_ne (by rfl) ?_
          | refine OW_eqlB (by with_reducible exact und_bool) rfl rfl ?_
          | refine OW_neqB (by with_reducible exact und_bool) rfl rfl ?_
          | refine OW_idxS (by with_reducible exact und_bytes) one_u8 rfl rfl _ rfl (by omega) ?_
          | refine OW_idxS (by with_reducible exact und_bytess) one_bytes rfl rfl _ rfl (by omega) ?_
          | refine OW_load1 (by first | with_reducible exact one_u8 | with_reducible exact one_bytes) rfl _ (by assumption) ?_)
      exact bodyE_ret1 rfl (.slice A2 k c2) rfl (hdone (by omega))
end Go.Proofs.Ytkebipifbdncoaa
