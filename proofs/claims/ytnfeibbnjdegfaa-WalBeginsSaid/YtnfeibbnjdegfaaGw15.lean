/- Several texts in one, as they stand in wip/src. -/
import Derived.Test.YtnfeibbnjdegfaaGw14
/- Walks: a disk that was made: Write, Cut, Start. -/
namespace Go.Proofs.Ytnfeibbnjdegfaa
open Go Go.RowKit
set_option linter.unusedVariables false
set_option maxRecDepth 4000
theorem go_Dsk2 {A B : Prop} (h : Held B → A := by
  intro hEnd
  repeat (first | refine OW_nilCheck rfl ?_ | refine OW_fieldB fldo_D0 rfl ?_ | refine OW_fieldB fldo_D1 rfl ?_ | refine OW_fieldB fldo_D2 rfl ?_ | refine OW_fieldB fldo_D3 rfl ?_ | refine OW_eqlNil und_pD rfl ?_ | refine OW_eqlSn und_bytes rfl ?_ | refine OW_moveV (.int _ _) rfl ?_ | refine OW_moveV (.slice _ _ _) rfl ?_ | refine OW_moveV (.bool _) rfl ?_ | refine OW_moveV (.pointer _) rfl ?_ | refine OW_moveV (.string _) rfl ?_ | refine OW_moveV (.agg _) rfl ?_ | refine OW_moveV (.tuple _) rfl ?_ | refine OW_nil ?_ | refine thenE_normal ?_ | refine CW_seq ?_ | refine CW_region (by kernel_rfl) ?_ | refine OW_assignV (.int _ _) rfl ?_ | refine OW_assignV (.slice _ _ _) rfl ?_ | refine OW_assignV (.bool _) rfl ?_ | refine OW_assignV (.pointer _) rfl ?_ | refine OW_assignV (.string _) rfl ?_ | refine OW_assignV (.agg _) rfl ?_ | refine OW_assignV (.tuple _) rfl ?_ | refine OW_addI rfl rfl (by omega) ?_ | refine OW_subI rfl rfl (by omega) ?_ | refine OW_mulI rfl rfl (by omega) ?_ | refine OW_lss rfl rfl ?_ | refine OW_extract rfl rfl ?_ | refine OW_gtr rfl rfl ?_ | refine OW_leq rfl rfl ?_ | refine OW_geq rfl rfl ?_ | refine OW_eql rfl rfl ?_ | refine OW_neq rfl rfl ?_ | refine OW_not rfl ?_ | refine OW_pickT rfl _ rfl ?_ | refine OW_pickF rfl (.bool _) rfl ?_ | refine OW_pickB rfl rfl rfl ?_ | refine OW_move ?_ | refine OW_assign ?_ | refine OW_pass rfl ?_ | refine OW_take rfl ?_ | refine OW_lenS (by first | with_reducible exact und_bytes | with_reducible exact und_bytess) rfl ?_ | refine OW_convInt (by first | with_reducible exact und_u8 | with_reducible exact und_u64 | with_reducible exact und_int | with_reducible exact und_u32) (by first | with_reducible exact und_u8 | with_reducible exact und_u64 | with_reducible exact und_int | with_reducible exact und_u32) rfl ?_ | refine OW_add rfl rfl ?_ | refine OW_sub rfl rfl ?_ | refine OW_mul rfl rfl ?_ | refine OW_min2 rfl rfl ?_ | refine OW_max2 rfl rfl ?_ | refine OW_neg rfl ?_ | refine CW_block ?_ | refine CW_condT rfl ?_ | refine CW_condF rfl ?_ | refine CW_exit ?_ | refine CW_ret ?_ | refine CW_skip ?_ | refine LW_seq ?_ | refine LW_regC ?_ | refine LW_condC ?_ | refine LW_regF ?_ | refine LW_condF ?_ | refine FW_seq ?_ | refine FW_region (by kernel_rfl) ?_ | refine FW_block ?_ | refine FW_condT rfl ?_ | refine FW_condF rfl ?_ | refine FW_exit ?_ | refine FW_ret ?_ | refine FW_skip ?_ | refine LW_ret ?_ | refine LW_skip ?_ | refine thenE_exit ?_ | refine thenE_ret ?_ | refine inBlockE_normal ?_ | refine inBlockE_same ?_ | refine inBlockE_ret ?_ | refine inBlockE_ne (by rfl) ?_ | refine OW_eqlB (by with_reducible exact und_bool) rfl rfl ?_ | refine OW_neqB (by with_reducible exact und_bool) rfl rfl ?_ | refine OW_idxS (by with_reducible exact und_bytes) one_u8 rfl rfl _ rfl (by omega) ?_ | refine OW_idxS (by with_reducible exact und_bytess) one_bytes rfl rfl _ rfl (by omega) ?_ | refine OW_load1 (by first | with_reducible exact one_u8 | with_reducible exact one_bytes) rfl _ (by assumption) ?_ | refine OW_load1 s_bool rfl _ (by assumption) ?_ | refine OW_load1 d_ptr rfl _ (by assumption) ?_ | refine OW_load1 s_int rfl _ (by assumption) ?_)
  exact hEnd.out) (k : B) : A := h ⟨k⟩
theorem oy_Dsk2 {A B : Prop} (h : Held B → A := by
  intro hEnd
  repeat (first
    | refine OY_done ?_
    | (apply OY_p _ rfl
       · intro wd
         (first | refine OW_nilCheck rfl ?_ | refine OW_fieldB fldo_D0 rfl ?_ | refine OW_fieldB fldo_D1 rfl ?_ | refine OW_fieldB fldo_D2 rfl ?_ | refine OW_fieldB fldo_D3 rfl ?_ | refine OW_eqlNil und_pD rfl ?_ | refine OW_eqlSn und_bytes rfl ?_ | refine OW_moveV (.int _ _) rfl ?_ | refine OW_moveV (.slice _ _ _) rfl ?_ | refine OW_moveV (.bool _) rfl ?_ | refine OW_moveV (.pointer _) rfl ?_ | refine OW_moveV (.string _) rfl ?_ | refine OW_moveV (.agg _) rfl ?_ | refine OW_moveV (.tuple _) rfl ?_ | refine OW_nil ?_ | refine thenE_normal ?_ | refine CW_seq ?_ | refine CW_region (by kernel_rfl) ?_ | refine OW_assignV (.int _ _) rfl ?_ | refine OW_assignV (.slice _ _ _) rfl ?_ | refine OW_assignV (.bool _) rfl ?_ | refine OW_assignV (.pointer _) rfl ?_ | refine OW_assignV (.string _) rfl ?_ | refine OW_assignV (.agg _) rfl ?_ | refine OW_assignV (.tuple _) rfl ?_ | refine OW_addI rfl rfl (by omega) ?_ | refine OW_subI rfl rfl (by omega) ?_ | refine OW_mulI rfl rfl (by omega) ?_ | refine OW_lss rfl rfl ?_ | refine OW_extract rfl rfl ?_ | refine OW_gtr rfl rfl ?_ | refine OW_leq rfl rfl ?_ | refine OW_geq rfl rfl ?_ | refine OW_eql rfl rfl ?_ | refine OW_neq rfl rfl ?_ | refine OW_not rfl ?_ | refine OW_pickT rfl _ rfl ?_ | refine OW_pickF rfl (.bool _) rfl ?_ | refine OW_pickB rfl rfl rfl ?_ | refine OW_move ?_ | refine OW_assign ?_ | refine OW_pass rfl ?_ | refine OW_take rfl ?_ | refine OW_lenS (by first | with_reducible exact und_bytes | with_reducible exact und_bytess) rfl ?_ | refine OW_convInt (by first | with_reducible exact und_u8 | with_reducible exact und_u64 | with_reducible exact und_int | with_reducible exact und_u32) (by first | with_reducible exact und_u8 | with_reducible exact und_u64 | with_reducible exact und_int | with_reducible exact und_u32) rfl ?_ | refine OW_add rfl rfl ?_ | refine OW_sub rfl rfl ?_ | refine OW_mul rfl rfl ?_ | refine OW_min2 rfl rfl ?_ | refine OW_max2 rfl rfl ?_ | refine OW_neg rfl ?_ | refine CW_block ?_ | refine CW_condT rfl ?_ | refine CW_condF rfl ?_ | refine CW_exit ?_ | refine CW_ret ?_ | refine CW_skip ?_ | refine LW_seq ?_ | refine LW_regC ?_ | refine LW_condC ?_ | refine LW_regF ?_ | refine LW_condF ?_ | refine FW_seq ?_ | refine FW_region (by kernel_rfl) ?_ | refine FW_block ?_ | refine FW_condT rfl ?_ | refine FW_condF rfl ?_ | refine FW_exit ?_ | refine FW_ret ?_ | refine FW_skip ?_ | refine LW_ret ?_ | refine LW_skip ?_ | refine thenE_exit ?_ | refine thenE_ret ?_ | refine inBlockE_normal ?_ | refine inBlockE_same ?_ | refine inBlockE_ret ?_ | refine inBlockE_ne (by rfl) ?_ | refine OW_eqlB (by with_reducible exact und_bool) rfl rfl ?_ | refine OW_neqB (by with_reducible exact und_bool) rfl rfl ?_ | refine OW_idxS (by with_reducible exact und_bytes) one_u8 rfl rfl _ rfl (by omega) ?_ | refine OW_idxS (by with_reducible exact und_bytess) one_bytes rfl rfl _ rfl (by omega) ?_ | refine OW_load1 (by first | with_reducible exact one_u8 | with_reducible exact one_bytes) rfl _ (by assumption) ?_ | refine OW_load1 s_bool rfl _ (by assumption) ?_ | refine OW_load1 d_ptr rfl _ (by assumption) ?_ | refine OW_load1 s_int rfl _ (by assumption) ?_)
         refine OW_nil ?_
         exact stay_mk _ _ _ _)
    | (apply OY_q _ rfl
       · intro wd hwd
         (first | refine OW_nilCheck rfl ?_ | refine OW_fieldB fldo_D0 rfl ?_ | refine OW_fieldB fldo_D1 rfl ?_ | refine OW_fieldB fldo_D2 rfl ?_ | refine OW_fieldB fldo_D3 rfl ?_ | refine OW_eqlNil und_pD rfl ?_ | refine OW_eqlSn und_bytes rfl ?_ | refine OW_moveV (.int _ _) rfl ?_ | refine OW_moveV (.slice _ _ _) rfl ?_ | refine OW_moveV (.bool _) rfl ?_ | refine OW_moveV (.pointer _) rfl ?_ | refine OW_moveV (.string _) rfl ?_ | refine OW_moveV (.agg _) rfl ?_ | refine OW_moveV (.tuple _) rfl ?_ | refine OW_nil ?_ | refine thenE_normal ?_ | refine CW_seq ?_ | refine CW_region (by kernel_rfl) ?_ | refine OW_assignV (.int _ _) rfl ?_ | refine OW_assignV (.slice _ _ _) rfl ?_ | refine OW_assignV (.bool _) rfl ?_ | refine OW_assignV (.pointer _) rfl ?_ | refine OW_assignV (.string _) rfl ?_ | refine OW_assignV (.agg _) rfl ?_ | refine OW_assignV (.tuple _) rfl ?_ | refine OW_addI rfl rfl (by omega) ?_ | refine OW_subI rfl rfl (by omega) ?_ | refine OW_mulI rfl rfl (by omega) ?_ | refine OW_lss rfl rfl ?_ | refine OW_extract rfl rfl ?_ | refine OW_gtr rfl rfl ?_ | refine OW_leq rfl rfl ?_ | refine OW_geq rfl rfl ?_ | refine OW_eql rfl rfl ?_ | refine OW_neq rfl rfl ?_ | refine OW_not rfl ?_ | refine OW_pickT rfl _ rfl ?_ | refine OW_pickF rfl (.bool _) rfl ?_ | refine OW_pickB rfl rfl rfl ?_ | refine OW_move ?_ | refine OW_assign ?_ | refine OW_pass rfl ?_ | refine OW_take rfl ?_ | refine OW_lenS (by first | with_reducible exact und_bytes | with_reducible exact und_bytess) rfl ?_ | refine OW_convInt (by first | with_reducible exact und_u8 | with_reducible exact und_u64 | with_reducible exact und_int | with_reducible exact und_u32) (by first | with_reducible exact und_u8 | with_reducible exact und_u64 | with_reducible exact und_int | with_reducible exact und_u32) rfl ?_ | refine OW_add rfl rfl ?_ | refine OW_sub rfl rfl ?_ | refine OW_mul rfl rfl ?_ | refine OW_min2 rfl rfl ?_ | refine OW_max2 rfl rfl ?_ | refine OW_neg rfl ?_ | refine CW_block ?_ | refine CW_condT rfl ?_ | refine CW_condF rfl ?_ | refine CW_exit ?_ | refine CW_ret ?_ | refine CW_skip ?_ | refine LW_seq ?_ | refine LW_regC ?_ | refine LW_condC ?_ | refine LW_regF ?_ | refine LW_condF ?_ | refine FW_seq ?_ | refine FW_region (by kernel_rfl) ?_ | refine FW_block ?_ | refine FW_condT rfl ?_ | refine FW_condF rfl ?_ | refine FW_exit ?_ | refine FW_ret ?_ | refine FW_skip ?_ | refine LW_ret ?_ | refine LW_skip ?_ | refine thenE_exit ?_ | refine thenE_ret ?_ | refine inBlockE_normal ?_ | refine inBlockE_same ?_ | refine inBlockE_ret ?_ | refine inBlockE_ne (by rfl) ?_ | refine OW_eqlB (by with_reducible exact und_bool) rfl rfl ?_ | refine OW_neqB (by with_reducible exact und_bool) rfl rfl ?_ | refine OW_idxS (by with_reducible exact und_bytes) one_u8 rfl rfl _ rfl (by omega) ?_ | refine OW_idxS (by with_reducible exact und_bytess) one_bytes rfl rfl _ rfl (by omega) ?_ | refine OW_load1 (by first | with_reducible exact one_u8 | with_reducible exact one_bytes) rfl _ (by assumption) ?_ | refine OW_load1 s_bool rfl _ (by assumption) ?_ | refine OW_load1 d_ptr rfl _ (by assumption) ?_ | refine OW_load1 s_int rfl _ (by assumption) ?_ | (refine OW_isLoad ?_; refine OW_loadBk (by first | with_reducible exact one_u8 | with_reducible exact one_bytes | with_reducible exact one_bool | with_reducible exact one_int | with_reducible exact one_errno | with_reducible exact one_u32 | with_reducible exact one_u64 | with_reducible exact one_string | with_reducible exact one_bytess | with_reducible exact d_ptr | with_reducible exact s_int | with_reducible exact s_bool) rfl (by apply_assumption; assumption) _ (by first | assumption | rfl) ?_) | refine OW_load1 (by first | with_reducible exact one_u8 | with_reducible exact one_bytes | with_reducible exact one_bool | with_reducible exact one_int | with_reducible exact one_errno | with_reducible exact one_u32 | with_reducible exact one_u64 | with_reducible exact one_string | with_reducible exact one_bytess | with_reducible exact d_ptr | with_reducible exact s_int | with_reducible exact s_bool) rfl _ (by apply_assumption; assumption) ?_)
         refine OW_nil ?_
         exact stay_mk _ _ _ _)
    | refine OY_ppass rfl rfl ?_
    | refine OY_qpass rfl rfl ?_
    | (apply OY_ptake _ rfl rfl
       · intro wd
         (first | refine OW_nilCheck rfl ?_ | refine OW_fieldB fldo_D0 rfl ?_ | refine OW_fieldB fldo_D1 rfl ?_ | refine OW_fieldB fldo_D2 rfl ?_ | refine OW_fieldB fldo_D3 rfl ?_ | refine OW_eqlNil und_pD rfl ?_ | refine OW_eqlSn und_bytes rfl ?_ | refine OW_moveV (.int _ _) rfl ?_ | refine OW_moveV (.slice _ _ _) rfl ?_ | refine OW_moveV (.bool _) rfl ?_ | refine OW_moveV (.pointer _) rfl ?_ | refine OW_moveV (.string _) rfl ?_ | refine OW_moveV (.agg _) rfl ?_ | refine OW_moveV (.tuple _) rfl ?_ | refine OW_nil ?_ | refine thenE_normal ?_ | refine CW_seq ?_ | refine CW_region (by kernel_rfl) ?_ | refine OW_assignV (.int _ _) rfl ?_ | refine OW_assignV (.slice _ _ _) rfl ?_ | refine OW_assignV (.bool _) rfl ?_ | refine OW_assignV (.pointer _) rfl ?_ | refine OW_assignV (.string _) rfl ?_ | refine OW_assignV (.agg _) rfl ?_ | refine OW_assignV (.tuple _) rfl ?_ | refine OW_addI rfl rfl (by omega) ?_ | refine OW_subI rfl rfl (by omega) ?_ | refine OW_mulI rfl rfl (by omega) ?_ | refine OW_lss rfl rfl ?_ | refine OW_extract rfl rfl ?_ | refine OW_gtr rfl rfl ?_ | refine OW_leq rfl rfl ?_ | refine OW_geq rfl rfl ?_ | refine OW_eql rfl rfl ?_ | refine OW_neq rfl rfl ?_ | refine OW_not rfl ?_ | refine OW_pickT rfl _ rfl ?_ | refine OW_pickF rfl (.bool _) rfl ?_ | refine OW_pickB rfl rfl rfl ?_ | refine OW_move ?_ | refine OW_assign ?_ | refine OW_pass rfl ?_ | refine OW_take rfl ?_ | refine OW_lenS (by first | with_reducible exact und_bytes | with_reducible exact und_bytess) rfl ?_ | refine OW_convInt (by first | with_reducible exact und_u8 | with_reducible exact und_u64 | with_reducible exact und_int | with_reducible exact und_u32) (by first | with_reducible exact und_u8 | with_reducible exact und_u64 | with_reducible exact und_int | with_reducible exact und_u32) rfl ?_ | refine OW_add rfl rfl ?_ | refine OW_sub rfl rfl ?_ | refine OW_mul rfl rfl ?_ | refine OW_min2 rfl rfl ?_ | refine OW_max2 rfl rfl ?_ | refine OW_neg rfl ?_ | refine CW_block ?_ | refine CW_condT rfl ?_ | refine CW_condF rfl ?_ | refine CW_exit ?_ | refine CW_ret ?_ | refine CW_skip ?_ | refine LW_seq ?_ | refine LW_regC ?_ | refine LW_condC ?_ | refine LW_regF ?_ | refine LW_condF ?_ | refine FW_seq ?_ | refine FW_region (by kernel_rfl) ?_ | refine FW_block ?_ | refine FW_condT rfl ?_ | refine FW_condF rfl ?_ | refine FW_exit ?_ | refine FW_ret ?_ | refine FW_skip ?_ | refine LW_ret ?_ | refine LW_skip ?_ | refine thenE_exit ?_ | refine thenE_ret ?_ | refine inBlockE_normal ?_ | refine inBlockE_same ?_ | refine inBlockE_ret ?_ | refine inBlockE_ne (by rfl) ?_ | refine OW_eqlB (by with_reducible exact und_bool) rfl rfl ?_ | refine OW_neqB (by with_reducible exact und_bool) rfl rfl ?_ | refine OW_idxS (by with_reducible exact und_bytes) one_u8 rfl rfl _ rfl (by omega) ?_ | refine OW_idxS (by with_reducible exact und_bytess) one_bytes rfl rfl _ rfl (by omega) ?_ | refine OW_load1 (by first | with_reducible exact one_u8 | with_reducible exact one_bytes) rfl _ (by assumption) ?_ | refine OW_load1 s_bool rfl _ (by assumption) ?_ | refine OW_load1 d_ptr rfl _ (by assumption) ?_ | refine OW_load1 s_int rfl _ (by assumption) ?_)
         refine OW_nil ?_
         exact stay_mk _ _ _ _)
    | (apply OY_qtake _ rfl rfl
       · intro wd hwd
         (first | refine OW_nilCheck rfl ?_ | refine OW_fieldB fldo_D0 rfl ?_ | refine OW_fieldB fldo_D1 rfl ?_ | refine OW_fieldB fldo_D2 rfl ?_ | refine OW_fieldB fldo_D3 rfl ?_ | refine OW_eqlNil und_pD rfl ?_ | refine OW_eqlSn und_bytes rfl ?_ | refine OW_moveV (.int _ _) rfl ?_ | refine OW_moveV (.slice _ _ _) rfl ?_ | refine OW_moveV (.bool _) rfl ?_ | refine OW_moveV (.pointer _) rfl ?_ | refine OW_moveV (.string _) rfl ?_ | refine OW_moveV (.agg _) rfl ?_ | refine OW_moveV (.tuple _) rfl ?_ | refine OW_nil ?_ | refine thenE_normal ?_ | refine CW_seq ?_ | refine CW_region (by kernel_rfl) ?_ | refine OW_assignV (.int _ _) rfl ?_ | refine OW_assignV (.slice _ _ _) rfl ?_ | refine OW_assignV (.bool _) rfl ?_ | refine OW_assignV (.pointer _) rfl ?_ | refine OW_assignV (.string _) rfl ?_ | refine OW_assignV (.agg _) rfl ?_ | refine OW_assignV (.tuple _) rfl ?_ | refine OW_addI rfl rfl (by omega) ?_ | refine OW_subI rfl rfl (by omega) ?_ | refine OW_mulI rfl rfl (by omega) ?_ | refine OW_lss rfl rfl ?_ | refine OW_extract rfl rfl ?_ | refine OW_gtr rfl rfl ?_ | refine OW_leq rfl rfl ?_ | refine OW_geq rfl rfl ?_ | refine OW_eql rfl rfl ?_ | refine OW_neq rfl rfl ?_ | refine OW_not rfl ?_ | refine OW_pickT rfl _ rfl ?_ | refine OW_pickF rfl (.bool _) rfl ?_ | refine OW_pickB rfl rfl rfl ?_ | refine OW_move ?_ | refine OW_assign ?_ | refine OW_pass rfl ?_ | refine OW_take rfl ?_ | refine OW_lenS (by first | with_reducible exact und_bytes | with_reducible exact und_bytess) rfl ?_ | refine OW_convInt (by first | with_reducible exact und_u8 | with_reducible exact und_u64 | with_reducible exact und_int | with_reducible exact und_u32) (by first | with_reducible exact und_u8 | with_reducible exact und_u64 | with_reducible exact und_int | with_reducible exact und_u32) rfl ?_ | refine OW_add rfl rfl ?_ | refine OW_sub rfl rfl ?_ | refine OW_mul rfl rfl ?_ | refine OW_min2 rfl rfl ?_ | refine OW_max2 rfl rfl ?_ | refine OW_neg rfl ?_ | refine CW_block ?_ | refine CW_condT rfl ?_ | refine CW_condF rfl ?_ | refine CW_exit ?_ | refine CW_ret ?_ | refine CW_skip ?_ | refine LW_seq ?_ | refine LW_regC ?_ | refine LW_condC ?_ | refine LW_regF ?_ | refine LW_condF ?_ | refine FW_seq ?_ | refine FW_region (by kernel_rfl) ?_ | refine FW_block ?_ | refine FW_condT rfl ?_ | refine FW_condF rfl ?_ | refine FW_exit ?_ | refine FW_ret ?_ | refine FW_skip ?_ | refine LW_ret ?_ | refine LW_skip ?_ | refine thenE_exit ?_ | refine thenE_ret ?_ | refine inBlockE_normal ?_ | refine inBlockE_same ?_ | refine inBlockE_ret ?_ | refine inBlockE_ne (by rfl) ?_ | refine OW_eqlB (by with_reducible exact und_bool) rfl rfl ?_ | refine OW_neqB (by with_reducible exact und_bool) rfl rfl ?_ | refine OW_idxS (by with_reducible exact und_bytes) one_u8 rfl rfl _ rfl (by omega) ?_ | refine OW_idxS (by with_reducible exact und_bytess) one_bytes rfl rfl _ rfl (by omega) ?_ | refine OW_load1 (by first | with_reducible exact one_u8 | with_reducible exact one_bytes) rfl _ (by assumption) ?_ | refine OW_load1 s_bool rfl _ (by assumption) ?_ | refine OW_load1 d_ptr rfl _ (by assumption) ?_ | refine OW_load1 s_int rfl _ (by assumption) ?_ | (refine OW_isLoad ?_; refine OW_loadBk (by first | with_reducible exact one_u8 | with_reducible exact one_bytes | with_reducible exact one_bool | with_reducible exact one_int | with_reducible exact one_errno | with_reducible exact one_u32 | with_reducible exact one_u64 | with_reducible exact one_string | with_reducible exact one_bytess | with_reducible exact d_ptr | with_reducible exact s_int | with_reducible exact s_bool) rfl (by apply_assumption; assumption) _ (by first | assumption | rfl) ?_) | refine OW_load1 (by first | with_reducible exact one_u8 | with_reducible exact one_bytes | with_reducible exact one_bool | with_reducible exact one_int | with_reducible exact one_errno | with_reducible exact one_u32 | with_reducible exact one_u64 | with_reducible exact one_string | with_reducible exact one_bytess | with_reducible exact d_ptr | with_reducible exact s_int | with_reducible exact s_bool) rfl _ (by apply_assumption; assumption) ?_)
         refine OW_nil ?_
         exact stay_mk _ _ _ _)
    | refine OY_a (actY_of rfl ?_)
    | refine OY_d (actY_of rfl ?_)
    | refine OY_a (actY_pass rfl rfl ?_)
    | refine OY_d (actY_pass rfl rfl ?_)
    | refine OY_a (actY_take rfl rfl ?_)
    | refine OY_d (actY_take rfl rfl ?_))
  exact hEnd.out) (k : B) : A := h ⟨k⟩
theorem FreB.nil (w : World) (base : Nat) (A : Option Addr) : FreB w base A [] := ⟨Bs.nil _ _, fun ad _ h => absurd rfl h, fun ad _ i h => by simp at h⟩
set_option maxHeartbeats 8000000 in
theorem clone_any (w : World) (A : Option Addr) (c : Nat) (b : List UInt8) (hb : Bs w A b) (hl : b.length ≤ 1000000) :
    Calls Try.prog 50 #[.slice A b.length c] w (JoinP w b) := by
  refine calls_of_CW Try.func50 rfl (by simp [Try.ntmps50]) ?_
  rw [Try.ntmps50]
  refine go_Dsk2 (k := ?_)
  cases A with
  | none =>
    have hn : b = [] := by
      cases b with
      | nil => rfl
      | cons x r => obtain ⟨ad, h, _⟩ := hb.at_ (j := 0) (by simp); cases h
    subst hn
    rw [show (none : Option Addr).isNone = true from rfl]
    refine go_Dsk2 (k := ?_)
    exact bodyE_ret1 rfl (.slice none 0 0) rfl ⟨none, 0, rfl, Nat.le_refl _, FreB.nil _ _ _, Ext.rfl' _⟩
  | some ad =>
    rw [show (some ad).isNone = false from rfl]
    refine go_Dsk2 (k := ?_)
    refine OW_lit [] und_bytes info_u8 rfl rfl (by simp) (by decide) ?_
    intro w1 g1 hb1 hg1 hx1
    refine go_Dsk2 (k := ?_)
    refine OW_append (base := w.heap.size) und_bytes info_u8 rfl rfl rfl (hb1.own hg1 (by show 0 ≤ maxLen; decide)) (hb.ext hx1) (by simp) (bv_one b) (by unfold maxLen; omega) (by omega) hx1.size ?_
    intro w2 A2 c2 ho2 hb2
    rw [Nat.zero_add] at ho2 ⊢
    have ho2 : w2.ownsRow w.heap.size 5 1 (.slice A2 b.length c2) b.length (b.map bv) := by simpa using ho2
    refine go_Dsk2 (k := ?_)
    exact bodyE_ret1 rfl (.slice A2 b.length c2) rfl ⟨A2, c2, rfl, (own_cap ho2).1, FreB.own ho2, hx1.trans hb2⟩
set_option maxHeartbeats 8000000 in
theorem write1_any (w : World) (g : Nat) (S : Nat → Prop) (d : DS) (h : DR w g S d) (hu : d.up = true) (hn : d.ws.length ≤ 1000000) (gd gb : Nat) (hd : Blk w gd 25 #[.pointer (some ⟨g, 0, none⟩)]) (B : Option Addr) (cb : Nat) (b : List UInt8) (hgb : Blk w gb 31 #[.slice B b.length cb])
    (hnd : ¬ S gd) (hnb : ¬ S gb) (hb : Bs w B b) (hl : b.length ≤ 1000000) :
    Calls Try.prog 49 #[.pointer (some ⟨gd, 0, none⟩), .pointer (some ⟨gb, 0, none⟩)] w (MP w g S (0, ⟨true, d.s, d.ws ++ [b]⟩)) := by
  obtain ⟨A, c, W, cW, vs, hB, ⟨h1, h1c, h1f⟩, ⟨h2, h2f⟩, h3, h4⟩ := h.at_
  have hvl : vs.length = d.ws.length := by rw [← h3, List.length_map]
  have hbd := h.bd
  have hin := h.in_
  rw [hu] at hB
  refine calls_of_CW Try.func49 rfl (by simp [Try.ntmps49]) ?_
  rw [Try.ntmps49]
  refine go_Dsk2 (k := ?_)
  obtain ⟨C, hC⟩ : ∃ C : World → Prop, C = fun v => Blk v gd 25 #[.pointer (some ⟨g, 0, none⟩)] ∧ Blk v gb 31 #[.slice B b.length cb] ∧ Blk v g 41 #[.bool true, .bool true, .slice A d.s.length c, .slice W vs.length cW] := ⟨_, rfl⟩
  have y1 : ∀ v, C v → Blk v gd 25 #[.pointer (some ⟨g, 0, none⟩)] := by rw [hC]; exact fun v h => h.1
  have y2 : ∀ v, C v → Blk v gb 31 #[.slice B b.length cb] := by rw [hC]; exact fun v h => h.2.1
  have y3 : ∀ v, C v → Blk v g 41 #[.bool true, .bool true, .slice A d.s.length c, .slice W vs.length cW] := by rw [hC]; exact fun v h => h.2.2
  have yx : ∀ v, Ext w v → C v := by rw [hC]; exact fun v hx => ⟨hd.ext hx, hgb.ext hx, hB.ext hx⟩
  refine CW_tree2 [0, 1, 4, 5] (.q 0 (.q 1 (.p 2 (.p 3 (.q 4 (.q 5 (.a 6 (.a 7 (.a 8 (.p 9 (.p 10 (.d 11 .done)))))))))))) (C) (by kernel_rfl) (by kernel_rfl) (by kernel_rfl) ?_ ?_
  · exact yx
  intro w2 hx2 hC2
  refine oy_Dsk2 (k := ?_)
  refine OW_callC Try.func50 (by kernel_rfl) rfl (clone_any w2 B cb b (hb.ext hx2) hl) rfl ?_
  rintro en w3 ⟨A3, c3, rfl, hc3, hf3, hx3⟩
  have hx03 := hx2.trans' hx3
  refine ⟨_, rfl, OW_nil (goY_mk (yx _ hx03) ?_)⟩
  refine oy_Dsk2 (k := ?_)
  refine OW_lit [.slice A3 b.length c3] und_bytess info_bytes rfl rfl (by simp [Value.oneCell']) (by decide) ?_
  intro w4 g4 hb4 hg4 hx4
  have hx04 := hx03.trans' hx4
  refine OW_nil (goY_mk (yx _ hx04) ?_)
  refine oy_Dsk2 (k := ?_)
  have h2' := own_ext h2 hx04
  refine OW_appendK und_bytess info_bytes rfl rfl rfl h2' (by simpa using hb4.rd) rfl (by simp [Value.oneCell']) (by unfold maxLen; omega) (by omega) (Nat.zero_le _) ?_
  intro w5 A5 c5 ho5 hg5 hw5
  have hK5 : Keeps w4 w5 (fun k => ∃ ad, W = some ad ∧ ad.block = k) := Keeps.of_grown hg5 (fun g hg => by
    cases W with
    | none => cases hg
    | some ad => cases hg; exact ⟨ad, rfl, rfl⟩)
  have hC5 : C w5 := by
    rw [hC]
    exact ⟨(hd.ext hx04).keeps hK5 (fun ⟨ad, ha, hk⟩ => hnd (hk ▸ (h2f ad ha).1)), (hgb.ext hx04).keeps hK5 (fun ⟨ad, ha, hk⟩ => hnb (hk ▸ (h2f ad ha).1)), (hB.ext hx04).keeps hK5 (fun ⟨ad, ha, hk⟩ => (h2f ad ha).2 hk)⟩
  have hB5 := y3 _ hC5
  refine OW_nil (goY_mk hC5 ?_)
  refine oy_Dsk2 (k := ?_)
  refine OW_storeB one_bytess rfl (.slice A5 (vs.length + 1) c5) rfl rfl hB5 (by show 3 < 4; decide) ?_
  intro w6 hB6 hg6
  have hB6 : Blk w6 g 41 #[.bool true, .bool true, .slice A d.s.length c, .slice A5 (vs.length + 1) c5] := hB6
  have hK6 : Keeps w5 w6 (· = g) := Keeps.of_only hg6 rfl
  refine OW_nil (goY_done ?_)
  refine go_Dsk2 (k := ?_)
  have s4 := hx04.size
  have s34 := hx4.size
  have s5 := hK5.size
  have s6 := hK6.size
  have lg := hbd g hin
  have hKS : Keeps w w6 S := ((Keeps.of_ext hx04 S).trans' (hK5.mono fun k _ ⟨ad, ha, hk⟩ => hk ▸ (h2f ad ha).1)).trans' (hK6.mono fun k _ hk => hk ▸ hin)
  have hKR : Keeps w w6 (dRow g W) := ((Keeps.of_ext hx04 _).trans' (hK5.mono fun k _ h => .inr h)).trans' (hK6.mono fun k _ h => .inl h)
  -- the row's new block
  have hA5 : ∀ ad, A5 = some ad → (∃ ad0, W = some ad0 ∧ ad.block = ad0.block) ∨ ad.block = w4.heap.size := fun ad ha => by
    rcases hw5 with hh | hh
    · rw [ha] at hh
      cases W with
      | none => cases hh
      | some ad0 => left; refine ⟨ad0, rfl, ?_⟩; simpa [Value.ownBlock] using hh
    · rw [ha] at hh
      right; simpa [Value.ownBlock] using hh
  have hrow : ∀ k, dRow g A5 k → dRow g W k ∨ k = w4.heap.size := fun k hk => by
    rcases hk with hk | ⟨ad, ha, hk⟩
    · exact .inl (.inl hk)
    · rcases hA5 ad ha with ⟨ad0, h0, h1⟩ | h1
      · exact .inl (.inr ⟨ad0, h0, by rw [← h1, hk]⟩)
      · exact .inr (by omega)
  have hfar : ∀ (A : Option Addr) (l : List UInt8), dFar S g W A l → dFar (more S w w6) g A5 A l := fun A l hf ad ha hl => by
    obtain ⟨f1, f2⟩ := hf ad ha hl
    refine ⟨.inl f1, fun hh => ?_⟩
    rcases hrow _ hh with h | h
    · exact f2 h
    · have := hbd _ f1; omega
  have hnR : ∀ k, S k → ¬ dRow g W k → ¬ dRow g W k := fun _ _ h => h
  refine bodyE_ret1 rfl (.int .i64 0) rfl ⟨rfl, ⟨.inl hin, ⟨A, c, A5, c5, vs ++ [(A3, c3, b)], ?_, ⟨h1.far h1f hKR hnR, h1c, hfar _ _ h1f⟩, ⟨?_, fun ad ha => ?_⟩, ?_, fun v hv => ?_⟩, more_lt hbd hKS.size⟩, hKS⟩
  · rw [List.length_append]; exact hB6
  · rw [List.length_append, List.map_append]
    exact own_keeps ho5 hK6 (fun ad ha hh => by
      have hh : ad.block = g := hh
      rcases hA5 ad ha with ⟨ad0, h0, h1⟩ | h1
      · exact (h2f ad0 h0).2 (by omega)
      · omega)
  · have hlt := (own_block ho5 ad ha).2
    rcases hA5 ad ha with ⟨ad0, h0, h1⟩ | h1
    · rw [h1]; exact ⟨.inl (h2f ad0 h0).1, (h2f ad0 h0).2⟩
    · rw [h1]; exact ⟨.inr ⟨by omega, by omega⟩, by omega⟩
  · rw [List.map_append, h3]; rfl
  · rcases List.mem_append.1 hv with hv | hv
    · exact ⟨(h4 v hv).1.far (h4 v hv).2.2 hKR hnR, (h4 v hv).2.1, hfar _ _ (h4 v hv).2.2⟩
    · rw [List.mem_singleton.1 hv]
      have hb3 : ∀ ad, A3 = some ad → b ≠ [] → w2.heap.size ≤ ad.block ∧ ad.block < w3.heap.size := fun ad ha hl => by
        obtain ⟨g', rfl, q1, q2⟩ := hf3.at_ ad ha hl
        exact ⟨q1, q2⟩
      have s2 := hx2.size
      have hnot : ∀ ad, A3 = some ad → b ≠ [] → ¬ dRow g W ad.block := fun ad ha hl hh => by
        have := hb3 ad ha hl
        rcases hh with hh | ⟨ad0, h0, hh⟩
        · omega
        · have := hbd _ (h2f ad0 h0).1; omega
      refine ⟨?_, hc3, fun ad ha hl => ?_⟩
      · by_cases hbn : b = []
        · subst hbn; exact Bs.nil _ _
        · exact (hf3.bs.ext hx4).keeps ((hK5.mono fun k _ h => .inr h : Keeps w4 w5 (dRow g W)).trans' (hK6.mono fun k _ h => .inl h)) (fun ad ha => hnot ad ha hbn)
      · have h5 := hb3 ad ha hl
        refine ⟨.inr ⟨by show w.heap.size ≤ ad.block; omega, by show ad.block < w6.heap.size; omega⟩, fun hh => ?_⟩
        rcases hrow _ hh with h | h
        · exact hnot ad ha hl h
        · omega
set_option maxHeartbeats 8000000 in
theorem dWrite_any (w : World) (g : Nat) (S : Nat → Prop) (d : DS) (h : DR w g S d) (hn : d.ws.length ≤ 1000000) (B : Option Addr) (cb : Nat) (b : List UInt8) (hb : Bs w B b) (hl : b.length ≤ 1000000) :
    Calls Try.prog 23 #[.pointer (some ⟨g, 0, none⟩), .slice B b.length cb] w (MP w g S (dWrite d b)) := by
  refine calls_of_CW Try.func23 rfl (by simp [Try.ntmps23]) ?_
  rw [Try.ntmps23]
  refine go_Dsk2 (k := ?_)
  refine OW_box _ rfl ?_
  intro w1 gd hb1 hg1 hl1 hx1
  have hb1 : Blk w1 gd 25 #[.pointer (some ⟨g, 0, none⟩)] := hb1
  refine go_Dsk2 (k := ?_)
  refine OW_box _ rfl ?_
  intro w2 gb hb2 hg2 hl2 hx2
  have hb2 : Blk w2 gb 31 #[.slice B b.length cb] := hb2
  have hx02 := hx1.trans' hx2
  refine go_Dsk2 (k := ?_)
  refine OW_isLoad ?_
  refine OW_loadBk d_ptr rfl (hb1.ext hx2) (.pointer (some ⟨g, 0, none⟩)) rfl ?_
  refine OW_mkFunc [.pointer (some ⟨gd, 0, none⟩), .pointer (some ⟨gb, 0, none⟩)] rfl ?_
  have hbd := h.bd
  have s1 := hx1.size
  refine OW_callC Try.func48 (by kernel_rfl) rfl (upr_any w2 g S d (h.ext hx02) 49 _ [.pointer (some ⟨gd, 0, none⟩), .pointer (some ⟨gb, 0, none⟩)] (MP w g S (dWrite d b)) Try.func49 (by kernel_rfl) rfl (fun hu w3 hx3 => ?_) (fun hu w3 hx3 => ?_)) rfl ?_
  · refine (write1_any w3 g S d ((h.ext hx02).ext hx3) hu hn gd gb ((hb1.ext hx2).ext hx3) B cb b (hb2.ext hx3) (fun hh => by have := hbd _ hh; omega) (fun hh => by have := hbd _ hh; omega) (hb.ext (hx02.trans' hx3)) hl).mono ?_
    intro en w4 hm
    have := hm.of (hx02.trans' hx3) hbd
    unfold dWrite
    rw [if_pos hu]
    exact ⟨_, hm.1, by rw [← hm.1]; exact this⟩
  · unfold dWrite
    rw [if_neg (by rw [hu]; decide)]
    exact MP.stay h (hx02.trans' hx3) 60
  intro en w4 hm
  refine ⟨_, hm.1, ?_⟩
  refine go_Dsk2 (k := ?_)
  exact bodyE_ret1 rfl (.int .i64 (dWrite d b).1) rfl ⟨rfl, hm.2⟩
set_option maxHeartbeats 8000000 in
theorem cut1_any (w : World) (g : Nat) (S : Nat → Prop) (d : DS) (h : DR w g S d) (hu : d.up = true) (hl : d.all.length ≤ 1000000) (hn : d.ws.length ≤ 1000000) (gd gn : Nat) (hd : Blk w gd 25 #[.pointer (some ⟨g, 0, none⟩)]) (n : Int) (hgn : Blk w gn 3 #[.int .i64 n]) :
    Calls Try.prog 56 #[.pointer (some ⟨gd, 0, none⟩), .pointer (some ⟨gn, 0, none⟩)] w (MP w g S (dCut d n)) := by
  have hcn : w.cell? ⟨gn, 0, none⟩ = some (.int .i64 n) := hgn.cell 0
  have hcd : w.cell? ⟨gd, 0, none⟩ = some (.pointer (some ⟨g, 0, none⟩)) := hd.cell 0
  refine calls_of_CW Try.func56 rfl (by simp [Try.ntmps56]) ?_
  rw [Try.ntmps56]
  refine go_Dsk2 (k := ?_)
  refine OW_callC Try.func28 (by kernel_rfl) rfl (dBytes_any w g S d h hl hn) rfl ?_
  rintro en w1 ⟨A1, c1, rfl, hc1, hf1, hx1⟩
  refine ⟨_, rfl, ?_⟩
  have hcn1 := hx1.cell' hcn
  have hgn1 := hgn.ext hx1
  have hd1 := hd.ext hx1
  clear hcn hcd
  refine go_Dsk2 (k := ?_)
  refine OW_meet (fun e' w' => e' 3 = .slice A1 d.all.length c1 ∧ e' 0 = .pointer (some ⟨gd, 0, none⟩) ∧ e' 1 = .pointer (some ⟨gn, 0, none⟩) ∧ e' 13 = .bool (decide (n < 0) || decide ((d.all.length : Int) < n)) ∧ w' = w1) ?_ ?_
  · refine OW_split 8 _ rfl (fun hh => ?_) (fun hh => ?_)
    · rw [hh]
      refine go_Dsk2 (k := ?_)
      exact ⟨rfl, rfl, rfl, rfl, rfl, rfl⟩
    · rw [hh]
      refine go_Dsk2 (k := ?_)
      exact ⟨rfl, rfl, rfl, rfl, rfl, rfl⟩
  rintro e2 w2 ⟨q3, q0, q1, q13, rfl⟩
  rw [upd_self q3, upd_self q0, upd_self q1, upd_self q13]
  refine go_Dsk2 (k := ?_)
  refine CW_cond _ rfl (fun hh => ?_) (fun hh => ?_)
  · have hbad : n < 0 ∨ (d.all.length : Int) < n := by simpa using hh
    have he : dCut d n = (2, d) := by unfold dCut; rw [if_pos hu, if_pos hbad]
    rw [he]
    refine go_Dsk2 (k := ?_)
    exact bodyE_ret1 rfl (.int .i64 2) rfl (MP.stay h hx1 2)
  · have hok : ¬ (n < 0 ∨ (d.all.length : Int) < n) := by simpa using hh
    have he : dCut d n = (0, ⟨true, d.all.take n.toNat, []⟩) := by unfold dCut; rw [if_pos hu, if_neg hok]
    rw [he]
    clear hh he
    obtain ⟨m, rfl⟩ : ∃ m : Nat, n = m := ⟨n.toNat, by omega⟩
    have hm : m ≤ d.all.length := by omega
    have hf2 := hf1.cutN hm
    have hlen : (d.all.take m).length = m := by rw [List.length_take]; omega
    rw [show ((m : Nat) : Int).toNat = m from rfl]
    refine go_Dsk2 (k := ?_)
    obtain ⟨C, hC⟩ : ∃ C : World → Prop, C = fun v => Ext w2 v := ⟨_, rfl⟩
    have y_hgn1 := blkE hC hgn1
    have y_hd1 := blkE hC hd1
    refine CW_tree2 [0, 2, 3] (.q 0 (.p 1 (.q 2 (.q 3 (.p 4 (.d 5 .done)))))) (C) (by kernel_rfl) (by kernel_rfl) (by kernel_rfl) ?_ ?_
    · exact inE hC
    intro w3 hx3 h_C
    refine oy_Dsk2 (k := ?_)
    apply OY_p _ rfl
    · intro wd
      refine OW_slice (lo := none) (lv := 0) (hv := m) (mv := m) und_bytes one_u8 rfl rfl ⟨_, rfl⟩ ⟨_, rfl⟩ (fun _ => rfl) (by omega) ?_
      refine OW_nil ?_
      exact stay_mk _ _ _ _
    refine oy_Dsk2 (k := ?_)
    obtain ⟨A, c, W, cW, vs, hB, _⟩ := (h.ext (hx1.trans' hx3)).at_
    rw [hu] at hB
    rw [show ((m : Int)).toNat - (0 : Int).toNat = m by omega, show ((m : Int)).toNat = m from rfl, show (0 : Int).toNat = 0 from rfl]
    refine OW_callC Try.func52 (by kernel_rfl) rfl (settle_any w3 g _ _ _ hB (cutA A1 m 0) m m) rfl ?_
    rintro en w4 ⟨rfl, hB4, hg4⟩
    have hf3 := hf2.ext hx3
    obtain ⟨hR, hK⟩ := h.settled (l := d.all.take m) (c := m) (hx1.trans' hx3) hf3 (by omega) hg4 (by rw [hlen]; exact hB4)
    refine ⟨_, rfl, OW_nil (goY_done ?_)⟩
    refine go_Dsk2 (k := ?_)
    exact bodyE_ret1 rfl (.int .i64 0) rfl ⟨rfl, hR, hK⟩
set_option maxHeartbeats 8000000 in
theorem dCut_any (w : World) (g : Nat) (S : Nat → Prop) (d : DS) (h : DR w g S d) (hl : d.all.length ≤ 1000000) (hn : d.ws.length ≤ 1000000) (n : Int) :
    Calls Try.prog 27 #[.pointer (some ⟨g, 0, none⟩), .int .i64 n] w (MP w g S (dCut d n)) := by
  refine calls_of_CW Try.func27 rfl (by simp [Try.ntmps27]) ?_
  rw [Try.ntmps27]
  refine go_Dsk2 (k := ?_)
  refine OW_box _ rfl ?_
  intro w1 gd hb1 hg1 hl1 hx1
  have hb1 : Blk w1 gd 25 #[.pointer (some ⟨g, 0, none⟩)] := hb1
  refine go_Dsk2 (k := ?_)
  refine OW_box _ rfl ?_
  intro w2 gn hb2 hg2 hl2 hx2
  have hb2 : Blk w2 gn 3 #[.int .i64 n] := hb2
  have hx02 := hx1.trans' hx2
  refine go_Dsk2 (k := ?_)
  refine OW_isLoad ?_
  refine OW_loadBk d_ptr rfl (hb1.ext hx2) (.pointer (some ⟨g, 0, none⟩)) rfl ?_
  refine OW_mkFunc [.pointer (some ⟨gd, 0, none⟩), .pointer (some ⟨gn, 0, none⟩)] rfl ?_
  refine OW_callC Try.func48 (by kernel_rfl) rfl (upr_any w2 g S d (h.ext hx02) 56 _ [.pointer (some ⟨gd, 0, none⟩), .pointer (some ⟨gn, 0, none⟩)] (MP w g S (dCut d n)) Try.func56 (by kernel_rfl) rfl (fun hu w3 hx3 => ?_) (fun hu w3 hx3 => ?_)) rfl ?_
  · refine (cut1_any w3 g S d ((h.ext hx02).ext hx3) hu hl hn gd gn ((hb1.ext hx2).ext hx3) n (hb2.ext hx3)).mono ?_
    intro en w4 hm
    have := hm.of (hx02.trans' hx3) h.bd
    exact ⟨_, hm.1, by rw [← hm.1]; exact this⟩
  · unfold dCut
    rw [if_neg (by rw [hu]; decide)]
    exact MP.stay h (hx02.trans' hx3) 60
  intro en w4 hm
  refine ⟨_, hm.1, ?_⟩
  refine go_Dsk2 (k := ?_)
  exact bodyE_ret1 rfl (.int .i64 (dCut d n).1) rfl ⟨rfl, hm.2⟩
/-- A disk of which only 'up' is another. -/
theorem DR.upped {w w1 w2 : World} {g : Nat} {S : Nat → Prop} {d : DS} {u : Bool} (h : DR w g S d) (hx : Ext w w1) (hst : ∀ cs, Blk w1 g 41 cs → Blk w2 g 41 (cs.setIfInBounds 1 (.bool u))) (hg : w1.grownBy w2 (some g)) : DR w2 g (more S w w2) ⟨u, d.s, d.ws⟩ ∧ Keeps w w2 S := by
  obtain ⟨A, c, W, cW, vs, hB, ⟨h1, h1c, h1f⟩, ⟨h2, h2f⟩, h3, h4⟩ := h.at_
  have hKg : Keeps w w2 (· = g) := (Keeps.of_ext hx _).trans' (Keeps.of_only hg rfl)
  have hKS : Keeps w w2 S := hKg.mono fun k _ hk => hk ▸ h.in_
  have hn : ∀ k, S k → ¬ dRow g W k → ¬ k = g := fun k _ h hk => h (.inl hk)
  exact ⟨⟨.inl h.in_, ⟨A, c, W, cW, vs, hst _ (hB.ext hx), ⟨h1.far h1f hKg hn, h1c, h1f.mono fun k hk => .inl hk⟩, ⟨own_keeps h2 hKg (fun ad ha => (h2f ad ha).2), fun ad ha => ⟨.inl (h2f ad ha).1, (h2f ad ha).2⟩⟩, h3, fun v hv => ⟨(h4 v hv).1.far (h4 v hv).2.2 hKg hn, (h4 v hv).2.1, (h4 v hv).2.2.mono fun k hk => .inl hk⟩⟩, more_lt h.bd hKS.size⟩, hKS⟩
set_option maxHeartbeats 8000000 in
theorem dStart_any (w : World) (g : Nat) (S : Nat → Prop) (d : DS) (h : DR w g S d) :
    Calls Try.prog 26 #[.pointer (some ⟨g, 0, none⟩)] w (MP w g S (dStart d)) := by
  obtain ⟨A, c, W, cW, vs, hB, _⟩ := h.at_
  obtain ⟨u, hu⟩ : ∃ u, d.up = u := ⟨_, rfl⟩
  rw [hu] at hB
  refine calls_of_CW Try.func26 rfl (by simp [Try.ntmps26]) ?_
  rw [Try.ntmps26]
  refine go_Dsk2 (k := ?_)
  refine OW_callV Try.func55 (by kernel_rfl) rfl (dnone_any w g _ hB rfl) rfl ?_
  intro w1 hx1
  refine go_Dsk2 (k := ?_)
  refine OW_isLoad ?_
  refine OW_loadBk s_bool rfl (hB.ext hx1) (.bool u) rfl ?_
  refine go_Dsk2 (k := ?_)
  cases u with
  | true =>
    refine go_Dsk2 (k := ?_)
    have he : dStart d = (2, d) := by unfold dStart; rw [if_pos hu]
    rw [he]
    exact bodyE_ret1 rfl (.int .i64 2) rfl (MP.stay h hx1 2)
  | false =>
    refine go_Dsk2 (k := ?_)
    have he : dStart d = (0, ⟨true, d.s, d.ws⟩) := by unfold dStart; rw [if_neg (by rw [hu]; decide)]
    rw [he]
    refine OW_storeB s_bool rfl (.bool true) rfl rfl (hB.ext hx1) (by show 1 < 4; decide) ?_
    intro w2 hB2 hg2
    obtain ⟨hR, hK⟩ := h.upped (u := true) hx1 (fun cs hcs => by
      have := hcs.symm.trans (hB.ext hx1)
      injection this with this
      injection this with this
      subst this
      exact hB2) hg2
    refine go_Dsk2 (k := ?_)
    exact bodyE_ret1 rfl (.int .i64 0) rfl ⟨rfl, hR, hK⟩
end Go.Proofs.Ytnfeibbnjdegfaa

/- Walks: a disk that nobody made. -/
namespace Go.Proofs.Ytnfeibbnjdegfaa
open Go Go.RowKit
set_option linter.unusedVariables false
set_option maxRecDepth 4000
theorem go_DskN {A B : Prop} (h : Held B → A := by
  intro hEnd
  repeat (first | refine OW_nilCheck rfl ?_ | refine OW_fieldB fldo_D0 rfl ?_ | refine OW_fieldB fldo_D1 rfl ?_ | refine OW_fieldB fldo_D2 rfl ?_ | refine OW_fieldB fldo_D3 rfl ?_ | refine OW_eqlNil und_pD rfl ?_ | refine OW_moveV (.int _ _) rfl ?_ | refine OW_moveV (.slice _ _ _) rfl ?_ | refine OW_moveV (.bool _) rfl ?_ | refine OW_moveV (.pointer _) rfl ?_ | refine OW_moveV (.string _) rfl ?_ | refine OW_moveV (.agg _) rfl ?_ | refine OW_moveV (.tuple _) rfl ?_ | refine OW_nil ?_ | refine thenE_normal ?_ | refine CW_seq ?_ | refine CW_region (by kernel_rfl) ?_ | refine OW_assignV (.int _ _) rfl ?_ | refine OW_assignV (.slice _ _ _) rfl ?_ | refine OW_assignV (.bool _) rfl ?_ | refine OW_assignV (.pointer _) rfl ?_ | refine OW_assignV (.string _) rfl ?_ | refine OW_assignV (.agg _) rfl ?_ | refine OW_assignV (.tuple _) rfl ?_ | refine OW_addI rfl rfl (by omega) ?_ | refine OW_subI rfl rfl (by omega) ?_ | refine OW_mulI rfl rfl (by omega) ?_ | refine OW_lss rfl rfl ?_ | refine OW_extract rfl rfl ?_ | refine OW_gtr rfl rfl ?_ | refine OW_leq rfl rfl ?_ | refine OW_geq rfl rfl ?_ | refine OW_eql rfl rfl ?_ | refine OW_neq rfl rfl ?_ | refine OW_not rfl ?_ | refine OW_pickT rfl _ rfl ?_ | refine OW_pickF rfl (.bool _) rfl ?_ | refine OW_pickB rfl rfl rfl ?_ | refine OW_move ?_ | refine OW_assign ?_ | refine OW_pass rfl ?_ | refine OW_take rfl ?_ | refine OW_lenS (by first | with_reducible exact und_bytes | with_reducible exact und_bytess) rfl ?_ | refine OW_convInt (by first | with_reducible exact und_u8 | with_reducible exact und_u64 | with_reducible exact und_int | with_reducible exact und_u32) (by first | with_reducible exact und_u8 | with_reducible exact und_u64 | with_reducible exact und_int | with_reducible exact und_u32) rfl ?_ | refine OW_add rfl rfl ?_ | refine OW_sub rfl rfl ?_ | refine OW_mul rfl rfl ?_ | refine OW_min2 rfl rfl ?_ | refine OW_max2 rfl rfl ?_ | refine OW_neg rfl ?_ | refine CW_block ?_ | refine CW_condT rfl ?_ | refine CW_condF rfl ?_ | refine CW_exit ?_ | refine CW_ret ?_ | refine CW_skip ?_ | refine LW_seq ?_ | refine LW_regC ?_ | refine LW_condC ?_ | refine LW_regF ?_ | refine LW_condF ?_ | refine FW_seq ?_ | refine FW_region (by kernel_rfl) ?_ | refine FW_block ?_ | refine FW_condT rfl ?_ | refine FW_condF rfl ?_ | refine FW_exit ?_ | refine FW_ret ?_ | refine FW_skip ?_ | refine LW_ret ?_ | refine LW_skip ?_ | refine thenE_exit ?_ | refine thenE_ret ?_ | refine inBlockE_normal ?_ | refine inBlockE_same ?_ | refine inBlockE_ret ?_ | refine inBlockE_ne (by rfl) ?_ | refine OW_eqlB (by with_reducible exact und_bool) rfl rfl ?_ | refine OW_neqB (by with_reducible exact und_bool) rfl rfl ?_ | refine OW_idxS (by with_reducible exact und_bytes) one_u8 rfl rfl _ rfl (by omega) ?_ | refine OW_idxS (by with_reducible exact und_bytess) one_bytes rfl rfl _ rfl (by omega) ?_ | refine OW_load1 (by first | with_reducible exact one_u8 | with_reducible exact one_bytes) rfl _ (by assumption) ?_)
  exact hEnd.out) (k : B) : A := h ⟨k⟩
set_option maxHeartbeats 8000000 in
theorem dnoneN_any (w : World) (A : Option Addr) (h : NoD w A) : Calls Try.prog 55 #[.pointer A] w (RetV w (.bool true)) := by
  refine calls_of_CW Try.func55 rfl (by simp [Try.ntmps55]) ?_
  rw [Try.ntmps55]
  refine go_DskN (k := ?_)
  rcases h with rfl | ⟨g, cs, rfl, hb, hc⟩
  · rw [show (none : Option Addr).isNone = true from rfl]
    refine go_DskN (k := ?_)
    exact bodyE_ret1 rfl (.bool true) rfl ⟨rfl, Ext.rfl' w⟩
  · rw [show (some (⟨g, 0, none⟩ : Addr)).isNone = false from rfl]
    refine go_DskN (k := ?_)
    refine OW_isLoad ?_
    refine OW_loadBk s_bool rfl hb (.bool false) hc ?_
    refine go_DskN (k := ?_)
    exact bodyE_ret1 rfl (.bool true) rfl ⟨rfl, Ext.rfl' w⟩
set_option maxHeartbeats 8000000 in
theorem dUpN_any (w : World) (A : Option Addr) (h : NoD w A) : Calls Try.prog 31 #[.pointer A] w (RetV w (.bool false)) := by
  refine calls_of_CW Try.func31 rfl (by simp [Try.ntmps31]) ?_
  rw [Try.ntmps31]
  refine go_DskN (k := ?_)
  refine OW_callV Try.func55 (by kernel_rfl) rfl (dnoneN_any w A h) rfl ?_
  intro w1 hx1
  refine go_DskN (k := ?_)
  exact bodyE_ret1 rfl (.bool false) rfl ⟨rfl, hx1⟩
set_option maxHeartbeats 8000000 in
theorem dSyncedN_any (w : World) (A : Option Addr) (h : NoD w A) : Calls Try.prog 29 #[.pointer A] w (RetV w (.int .i64 0)) := by
  refine calls_of_CW Try.func29 rfl (by simp [Try.ntmps29]) ?_
  rw [Try.ntmps29]
  refine go_DskN (k := ?_)
  refine OW_callV Try.func55 (by kernel_rfl) rfl (dnoneN_any w A h) rfl ?_
  intro w1 hx1
  refine go_DskN (k := ?_)
  exact bodyE_ret1 rfl (.int .i64 0) rfl ⟨rfl, hx1⟩
set_option maxHeartbeats 8000000 in
theorem dWritesN_any (w : World) (A : Option Addr) (h : NoD w A) : Calls Try.prog 30 #[.pointer A] w (RetV w (.int .i64 0)) := by
  refine calls_of_CW Try.func30 rfl (by simp [Try.ntmps30]) ?_
  rw [Try.ntmps30]
  refine go_DskN (k := ?_)
  refine OW_callV Try.func55 (by kernel_rfl) rfl (dnoneN_any w A h) rfl ?_
  intro w1 hx1
  refine go_DskN (k := ?_)
  exact bodyE_ret1 rfl (.int .i64 0) rfl ⟨rfl, hx1⟩
set_option maxHeartbeats 8000000 in
theorem dBytesN_any (w : World) (A : Option Addr) (h : NoD w A) : Calls Try.prog 28 #[.pointer A] w (RetV w (.slice none 0 0)) := by
  refine calls_of_CW Try.func28 rfl (by simp [Try.ntmps28]) ?_
  rw [Try.ntmps28]
  refine go_DskN (k := ?_)
  refine OW_callV Try.func55 (by kernel_rfl) rfl (dnoneN_any w A h) rfl ?_
  intro w1 hx1
  refine go_DskN (k := ?_)
  exact bodyE_ret1 rfl (.slice none 0 0) rfl ⟨rfl, hx1⟩
set_option maxHeartbeats 8000000 in
theorem dStartN_any (w : World) (A : Option Addr) (h : NoD w A) : Calls Try.prog 26 #[.pointer A] w (RetV w (.int .i64 1)) := by
  refine calls_of_CW Try.func26 rfl (by simp [Try.ntmps26]) ?_
  rw [Try.ntmps26]
  refine go_DskN (k := ?_)
  refine OW_callV Try.func55 (by kernel_rfl) rfl (dnoneN_any w A h) rfl ?_
  intro w1 hx1
  refine go_DskN (k := ?_)
  exact bodyE_ret1 rfl (.int .i64 1) rfl ⟨rfl, hx1⟩
set_option maxHeartbeats 8000000 in
theorem uprN_any (w : World) (A : Option Addr) (h : NoD w A) (v : Value) : Calls Try.prog 48 #[.pointer A, v] w (RetV w (.int .i64 1)) := by
  refine calls_of_CW Try.func48 rfl (by simp [Try.ntmps48]) ?_
  rw [Try.ntmps48]
  refine go_DskN (k := ?_)
  refine OW_callV Try.func55 (by kernel_rfl) rfl (dnoneN_any w A h) rfl ?_
  intro w1 hx1
  refine go_DskN (k := ?_)
  exact bodyE_ret1 rfl (.int .i64 1) rfl ⟨rfl, hx1⟩
set_option maxHeartbeats 8000000 in
theorem dSyncN_any (w : World) (A : Option Addr) (h : NoD w A) : Calls Try.prog 24 #[.pointer A] w (RetV w (.int .i64 1)) := by
  refine calls_of_CW Try.func24 rfl (by simp [Try.ntmps24]) ?_
  rw [Try.ntmps24]
  refine go_DskN (k := ?_)
  refine OW_box _ rfl ?_
  intro w1 gd hb1 hg1 hl1 hx1
  have hb1 : Blk w1 gd 25 #[.pointer A] := hb1
  refine go_DskN (k := ?_)
  refine OW_isLoad ?_
  refine OW_loadBk d_ptr rfl hb1 (.pointer A) rfl ?_
  refine OW_mkFunc _ rfl ?_
  refine OW_callV Try.func48 (by kernel_rfl) rfl (uprN_any w1 A (h.ext hx1) _) rfl ?_
  intro w2 hx2
  refine go_DskN (k := ?_)
  exact bodyE_ret1 rfl (.int .i64 1) rfl ⟨rfl, hx1.trans' hx2⟩
set_option maxHeartbeats 8000000 in
theorem dWriteN_any (w : World) (A : Option Addr) (h : NoD w A) (B : Option Addr) (n c : Nat) : Calls Try.prog 23 #[.pointer A, .slice B n c] w (RetV w (.int .i64 1)) := by
  refine calls_of_CW Try.func23 rfl (by simp [Try.ntmps23]) ?_
  rw [Try.ntmps23]
  refine go_DskN (k := ?_)
  refine OW_box _ rfl ?_
  intro w1 gd hb1 hg1 hl1 hx1
  have hb1 : Blk w1 gd 25 #[.pointer A] := hb1
  refine go_DskN (k := ?_)
  refine OW_box _ rfl ?_
  intro w2 gb hb2 hg2 hl2 hx2
  refine go_DskN (k := ?_)
  refine OW_isLoad ?_
  refine OW_loadBk d_ptr rfl (hb1.ext hx2) (.pointer A) rfl ?_
  refine OW_mkFunc _ rfl ?_
  refine OW_callV Try.func48 (by kernel_rfl) rfl (uprN_any w2 A ((h.ext hx1).ext hx2) _) rfl ?_
  intro w3 hx3
  refine go_DskN (k := ?_)
  exact bodyE_ret1 rfl (.int .i64 1) rfl ⟨rfl, (hx1.trans' hx2).trans' hx3⟩
set_option maxHeartbeats 8000000 in
theorem dCutN_any (w : World) (A : Option Addr) (h : NoD w A) (n : Int) : Calls Try.prog 27 #[.pointer A, .int .i64 n] w (RetV w (.int .i64 1)) := by
  refine calls_of_CW Try.func27 rfl (by simp [Try.ntmps27]) ?_
  rw [Try.ntmps27]
  refine go_DskN (k := ?_)
  refine OW_box _ rfl ?_
  intro w1 gd hb1 hg1 hl1 hx1
  have hb1 : Blk w1 gd 25 #[.pointer A] := hb1
  refine go_DskN (k := ?_)
  refine OW_box _ rfl ?_
  intro w2 gb hb2 hg2 hl2 hx2
  refine go_DskN (k := ?_)
  refine OW_isLoad ?_
  refine OW_loadBk d_ptr rfl (hb1.ext hx2) (.pointer A) rfl ?_
  refine OW_mkFunc _ rfl ?_
  refine OW_callV Try.func48 (by kernel_rfl) rfl (uprN_any w2 A ((h.ext hx1).ext hx2) _) rfl ?_
  intro w3 hx3
  refine go_DskN (k := ?_)
  exact bodyE_ret1 rfl (.int .i64 1) rfl ⟨rfl, (hx1.trans' hx2).trans' hx3⟩
set_option maxHeartbeats 8000000 in
theorem dCrashN_any (w : World) (A : Option Addr) (h : NoD w A) (n m : Int) : Calls Try.prog 25 #[.pointer A, .int .i64 n, .int .i64 m] w (RetV w (.int .i64 1)) := by
  refine calls_of_CW Try.func25 rfl (by simp [Try.ntmps25]) ?_
  rw [Try.ntmps25]
  refine go_DskN (k := ?_)
  refine OW_box _ rfl ?_
  intro w1 gd hb1 hg1 hl1 hx1
  have hb1 : Blk w1 gd 25 #[.pointer A] := hb1
  refine go_DskN (k := ?_)
  refine OW_box _ rfl ?_
  intro w2 gb hb2 hg2 hl2 hx2
  refine go_DskN (k := ?_)
  refine OW_box _ rfl ?_
  intro w3 gc hb3 hg3 hl3 hx3
  have hx03 := (hx1.trans' hx2).trans' hx3
  refine go_DskN (k := ?_)
  refine OW_isLoad ?_
  refine OW_loadBk d_ptr rfl (hb1.ext (hx2.trans' hx3)) (.pointer A) rfl ?_
  refine OW_mkFunc _ rfl ?_
  refine OW_callV Try.func48 (by kernel_rfl) rfl (uprN_any w3 A (h.ext hx03) _) rfl ?_
  intro w4 hx4
  refine go_DskN (k := ?_)
  exact bodyE_ret1 rfl (.int .i64 1) rfl ⟨rfl, hx03.trans' hx4⟩
end Go.Proofs.Ytnfeibbnjdegfaa
