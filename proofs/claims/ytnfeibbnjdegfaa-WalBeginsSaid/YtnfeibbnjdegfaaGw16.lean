/- Several texts in one, as they stand in wip/src. -/
import Derived.Test.YtnfeibbnjdegfaaGw3
import Derived.Test.YtnfeibbnjdegfaaGw15
/- Walk: Crash of a disk that was made. -/
namespace Go.Proofs.Ytnfeibbnjdegfaa
open Go Go.RowKit
set_option linter.unusedVariables false
set_option maxRecDepth 4000
theorem go_Dsk3 {A B : Prop} (h : Held B → A := by
  intro hEnd
  repeat (first | refine OW_idxL 0 und_bytess one_bytes rfl rfl (by omega) ?_ | refine OW_nilCheck rfl ?_ | refine OW_fieldB fldo_D0 rfl ?_ | refine OW_fieldB fldo_D1 rfl ?_ | refine OW_fieldB fldo_D2 rfl ?_ | refine OW_fieldB fldo_D3 rfl ?_ | refine OW_eqlNil und_pD rfl ?_ | refine OW_eqlSn und_bytes rfl ?_ | refine OW_moveV (.int _ _) rfl ?_ | refine OW_moveV (.slice _ _ _) rfl ?_ | refine OW_moveV (.bool _) rfl ?_ | refine OW_moveV (.pointer _) rfl ?_ | refine OW_moveV (.string _) rfl ?_ | refine OW_moveV (.agg _) rfl ?_ | refine OW_moveV (.tuple _) rfl ?_ | refine OW_nil ?_ | refine thenE_normal ?_ | refine CW_seq ?_ | refine CW_region (by kernel_rfl) ?_ | refine OW_assignV (.int _ _) rfl ?_ | refine OW_assignV (.slice _ _ _) rfl ?_ | refine OW_assignV (.bool _) rfl ?_ | refine OW_assignV (.pointer _) rfl ?_ | refine OW_assignV (.string _) rfl ?_ | refine OW_assignV (.agg _) rfl ?_ | refine OW_assignV (.tuple _) rfl ?_ | refine OW_addI rfl rfl (by omega) ?_ | refine OW_subI rfl rfl (by omega) ?_ | refine OW_mulI rfl rfl (by omega) ?_ | refine OW_lss rfl rfl ?_ | refine OW_extract rfl rfl ?_ | refine OW_gtr rfl rfl ?_ | refine OW_leq rfl rfl ?_ | refine OW_geq rfl rfl ?_ | refine OW_eql rfl rfl ?_ | refine OW_neq rfl rfl ?_ | refine OW_not rfl ?_ | refine OW_pickT rfl _ rfl ?_ | refine OW_pickF rfl (.bool _) rfl ?_ | refine OW_pickB rfl rfl rfl ?_ | refine OW_move ?_ | refine OW_assign ?_ | refine OW_pass rfl ?_ | refine OW_take rfl ?_ | refine OW_lenS (by first | with_reducible exact und_bytes | with_reducible exact und_bytess) rfl ?_ | refine OW_convInt (by first | with_reducible exact und_u8 | with_reducible exact und_u64 | with_reducible exact und_int | with_reducible exact und_u32) (by first | with_reducible exact und_u8 | with_reducible exact und_u64 | with_reducible exact und_int | with_reducible exact und_u32) rfl ?_ | refine OW_add rfl rfl ?_ | refine OW_sub rfl rfl ?_ | refine OW_mul rfl rfl ?_ | refine OW_min2 rfl rfl ?_ | refine OW_max2 rfl rfl ?_ | refine OW_neg rfl ?_ | refine CW_block ?_ | refine CW_condT rfl ?_ | refine CW_condF rfl ?_ | refine CW_exit ?_ | refine CW_ret ?_ | refine CW_skip ?_ | refine LW_seq ?_ | refine LW_regC ?_ | refine LW_condC ?_ | refine LW_regF ?_ | refine LW_condF ?_ | refine FW_seq ?_ | refine FW_region (by kernel_rfl) ?_ | refine FW_block ?_ | refine FW_condT rfl ?_ | refine FW_condF rfl ?_ | refine FW_exit ?_ | refine FW_ret ?_ | refine FW_skip ?_ | refine LW_ret ?_ | refine LW_skip ?_ | refine thenE_exit ?_ | refine thenE_ret ?_ | refine inBlockE_normal ?_ | refine inBlockE_same ?_ | refine inBlockE_ret ?_ | refine inBlockE_ne (by rfl) ?_ | refine OW_eqlB (by with_reducible exact und_bool) rfl rfl ?_ | refine OW_neqB (by with_reducible exact und_bool) rfl rfl ?_ | refine OW_idxS (by with_reducible exact und_bytes) one_u8 rfl rfl _ rfl (by omega) ?_ | refine OW_idxS (by with_reducible exact und_bytess) one_bytes rfl rfl _ rfl (by omega) ?_ | refine OW_load1 (by first | with_reducible exact one_u8 | with_reducible exact one_bytes) rfl _ (by assumption) ?_ | refine OW_load1 s_bool rfl _ (by assumption) ?_ | refine OW_load1 d_ptr rfl _ (by assumption) ?_ | refine OW_load1 s_int rfl _ (by assumption) ?_)
  exact hEnd.out) (k : B) : A := h ⟨k⟩
theorem oy_Dsk3 {A B : Prop} (h : Held B → A := by
  intro hEnd
  repeat (first
    | refine OY_done ?_
    | (apply OY_p _ rfl
       · intro wd
         (first | refine OW_idxL 0 und_bytess one_bytes rfl rfl (by omega) ?_ | refine OW_nilCheck rfl ?_ | refine OW_fieldB fldo_D0 rfl ?_ | refine OW_fieldB fldo_D1 rfl ?_ | refine OW_fieldB fldo_D2 rfl ?_ | refine OW_fieldB fldo_D3 rfl ?_ | refine OW_eqlNil und_pD rfl ?_ | refine OW_eqlSn und_bytes rfl ?_ | refine OW_moveV (.int _ _) rfl ?_ | refine OW_moveV (.slice _ _ _) rfl ?_ | refine OW_moveV (.bool _) rfl ?_ | refine OW_moveV (.pointer _) rfl ?_ | refine OW_moveV (.string _) rfl ?_ | refine OW_moveV (.agg _) rfl ?_ | refine OW_moveV (.tuple _) rfl ?_ | refine OW_nil ?_ | refine thenE_normal ?_ | refine CW_seq ?_ | refine CW_region (by kernel_rfl) ?_ | refine OW_assignV (.int _ _) rfl ?_ | refine OW_assignV (.slice _ _ _) rfl ?_ | refine OW_assignV (.bool _) rfl ?_ | refine OW_assignV (.pointer _) rfl ?_ | refine OW_assignV (.string _) rfl ?_ | refine OW_assignV (.agg _) rfl ?_ | refine OW_assignV (.tuple _) rfl ?_ | refine OW_addI rfl rfl (by omega) ?_ | refine OW_subI rfl rfl (by omega) ?_ | refine OW_mulI rfl rfl (by omega) ?_ | refine OW_lss rfl rfl ?_ | refine OW_extract rfl rfl ?_ | refine OW_gtr rfl rfl ?_ | refine OW_leq rfl rfl ?_ | refine OW_geq rfl rfl ?_ | refine OW_eql rfl rfl ?_ | refine OW_neq rfl rfl ?_ | refine OW_not rfl ?_ | refine OW_pickT rfl _ rfl ?_ | refine OW_pickF rfl (.bool _) rfl ?_ | refine OW_pickB rfl rfl rfl ?_ | refine OW_move ?_ | refine OW_assign ?_ | refine OW_pass rfl ?_ | refine OW_take rfl ?_ | refine OW_lenS (by first | with_reducible exact und_bytes | with_reducible exact und_bytess) rfl ?_ | refine OW_convInt (by first | with_reducible exact und_u8 | with_reducible exact und_u64 | with_reducible exact und_int | with_reducible exact und_u32) (by first | with_reducible exact und_u8 | with_reducible exact und_u64 | with_reducible exact und_int | with_reducible exact und_u32) rfl ?_ | refine OW_add rfl rfl ?_ | refine OW_sub rfl rfl ?_ | refine OW_mul rfl rfl ?_ | refine OW_min2 rfl rfl ?_ | refine OW_max2 rfl rfl ?_ | refine OW_neg rfl ?_ | refine CW_block ?_ | refine CW_condT rfl ?_ | refine CW_condF rfl ?_ | refine CW_exit ?_ | refine CW_ret ?_ | refine CW_skip ?_ | refine LW_seq ?_ | refine LW_regC ?_ | refine LW_condC ?_ | refine LW_regF ?_ | refine LW_condF ?_ | refine FW_seq ?_ | refine FW_region (by kernel_rfl) ?_ | refine FW_block ?_ | refine FW_condT rfl ?_ | refine FW_condF rfl ?_ | refine FW_exit ?_ | refine FW_ret ?_ | refine FW_skip ?_ | refine LW_ret ?_ | refine LW_skip ?_ | refine thenE_exit ?_ | refine thenE_ret ?_ | refine inBlockE_normal ?_ | refine inBlockE_same ?_ | refine inBlockE_ret ?_ | refine inBlockE_ne (by rfl) ?_ | refine OW_eqlB (by with_reducible exact und_bool) rfl rfl ?_ | refine OW_neqB (by with_reducible exact und_bool) rfl rfl ?_ | refine OW_idxS (by with_reducible exact und_bytes) one_u8 rfl rfl _ rfl (by omega) ?_ | refine OW_idxS (by with_reducible exact und_bytess) one_bytes rfl rfl _ rfl (by omega) ?_ | refine OW_load1 (by first | with_reducible exact one_u8 | with_reducible exact one_bytes) rfl _ (by assumption) ?_ | refine OW_load1 s_bool rfl _ (by assumption) ?_ | refine OW_load1 d_ptr rfl _ (by assumption) ?_ | refine OW_load1 s_int rfl _ (by assumption) ?_)
         refine OW_nil ?_
         exact stay_mk _ _ _ _)
    | (apply OY_q _ rfl
       · intro wd hwd
         (first | refine OW_idxL 0 und_bytess one_bytes rfl rfl (by omega) ?_ | refine OW_nilCheck rfl ?_ | refine OW_fieldB fldo_D0 rfl ?_ | refine OW_fieldB fldo_D1 rfl ?_ | refine OW_fieldB fldo_D2 rfl ?_ | refine OW_fieldB fldo_D3 rfl ?_ | refine OW_eqlNil und_pD rfl ?_ | refine OW_eqlSn und_bytes rfl ?_ | refine OW_moveV (.int _ _) rfl ?_ | refine OW_moveV (.slice _ _ _) rfl ?_ | refine OW_moveV (.bool _) rfl ?_ | refine OW_moveV (.pointer _) rfl ?_ | refine OW_moveV (.string _) rfl ?_ | refine OW_moveV (.agg _) rfl ?_ | refine OW_moveV (.tuple _) rfl ?_ | refine OW_nil ?_ | refine thenE_normal ?_ | refine CW_seq ?_ | refine CW_region (by kernel_rfl) ?_ | refine OW_assignV (.int _ _) rfl ?_ | refine OW_assignV (.slice _ _ _) rfl ?_ | refine OW_assignV (.bool _) rfl ?_ | refine OW_assignV (.pointer _) rfl ?_ | refine OW_assignV (.string _) rfl ?_ | refine OW_assignV (.agg _) rfl ?_ | refine OW_assignV (.tuple _) rfl ?_ | refine OW_addI rfl rfl (by omega) ?_ | refine OW_subI rfl rfl (by omega) ?_ | refine OW_mulI rfl rfl (by omega) ?_ | refine OW_lss rfl rfl ?_ | refine OW_extract rfl rfl ?_ | refine OW_gtr rfl rfl ?_ | refine OW_leq rfl rfl ?_ | refine OW_geq rfl rfl ?_ | refine OW_eql rfl rfl ?_ | refine OW_neq rfl rfl ?_ | refine OW_not rfl ?_ | refine OW_pickT rfl _ rfl ?_ | refine OW_pickF rfl (.bool _) rfl ?_ | refine OW_pickB rfl rfl rfl ?_ | refine OW_move ?_ | refine OW_assign ?_ | refine OW_pass rfl ?_ | refine OW_take rfl ?_ | refine OW_lenS (by first | with_reducible exact und_bytes | with_reducible exact und_bytess) rfl ?_ | refine OW_convInt (by first | with_reducible exact und_u8 | with_reducible exact und_u64 | with_reducible exact und_int | with_reducible exact und_u32) (by first | with_reducible exact und_u8 | with_reducible exact und_u64 | with_reducible exact und_int | with_reducible exact und_u32) rfl ?_ | refine OW_add rfl rfl ?_ | refine OW_sub rfl rfl ?_ | refine OW_mul rfl rfl ?_ | refine OW_min2 rfl rfl ?_ | refine OW_max2 rfl rfl ?_ | refine OW_neg rfl ?_ | refine CW_block ?_ | refine CW_condT rfl ?_ | refine CW_condF rfl ?_ | refine CW_exit ?_ | refine CW_ret ?_ | refine CW_skip ?_ | refine LW_seq ?_ | refine LW_regC ?_ | refine LW_condC ?_ | refine LW_regF ?_ | refine LW_condF ?_ | refine FW_seq ?_ | refine FW_region (by kernel_rfl) ?_ | refine FW_block ?_ | refine FW_condT rfl ?_ | refine FW_condF rfl ?_ | refine FW_exit ?_ | refine FW_ret ?_ | refine FW_skip ?_ | refine LW_ret ?_ | refine LW_skip ?_ | refine thenE_exit ?_ | refine thenE_ret ?_ | refine inBlockE_normal ?_ | refine inBlockE_same ?_ | refine inBlockE_ret ?_ | refine inBlockE_ne (by rfl) ?_ | refine OW_eqlB (by with_reducible exact und_bool) rfl rfl ?_ | refine OW_neqB (by with_reducible exact und_bool) rfl rfl ?_ | refine OW_idxS (by with_reducible exact und_bytes) one_u8 rfl rfl _ rfl (by omega) ?_ | refine OW_idxS (by with_reducible exact und_bytess) one_bytes rfl rfl _ rfl (by omega) ?_ | refine OW_load1 (by first | with_reducible exact one_u8 | with_reducible exact one_bytes) rfl _ (by assumption) ?_ | refine OW_load1 s_bool rfl _ (by assumption) ?_ | refine OW_load1 d_ptr rfl _ (by assumption) ?_ | refine OW_load1 s_int rfl _ (by assumption) ?_ | (refine OW_isLoad ?_; refine OW_loadBk (by first | with_reducible exact one_u8 | with_reducible exact one_bytes | with_reducible exact one_bool | with_reducible exact one_int | with_reducible exact one_errno | with_reducible exact one_u32 | with_reducible exact one_u64 | with_reducible exact one_string | with_reducible exact one_bytess | with_reducible exact d_ptr | with_reducible exact s_int | with_reducible exact s_bool) rfl (by apply_assumption; assumption) _ (by first | assumption | rfl) ?_) | refine OW_load1 (by first | with_reducible exact one_u8 | with_reducible exact one_bytes | with_reducible exact one_bool | with_reducible exact one_int | with_reducible exact one_errno | with_reducible exact one_u32 | with_reducible exact one_u64 | with_reducible exact one_string | with_reducible exact one_bytess | with_reducible exact d_ptr | with_reducible exact s_int | with_reducible exact s_bool) rfl _ (by apply_assumption; assumption) ?_)
         refine OW_nil ?_
         exact stay_mk _ _ _ _)
    | refine OY_ppass rfl rfl ?_
    | refine OY_qpass rfl rfl ?_
    | (apply OY_ptake _ rfl rfl
       · intro wd
         (first | refine OW_idxL 0 und_bytess one_bytes rfl rfl (by omega) ?_ | refine OW_nilCheck rfl ?_ | refine OW_fieldB fldo_D0 rfl ?_ | refine OW_fieldB fldo_D1 rfl ?_ | refine OW_fieldB fldo_D2 rfl ?_ | refine OW_fieldB fldo_D3 rfl ?_ | refine OW_eqlNil und_pD rfl ?_ | refine OW_eqlSn und_bytes rfl ?_ | refine OW_moveV (.int _ _) rfl ?_ | refine OW_moveV (.slice _ _ _) rfl ?_ | refine OW_moveV (.bool _) rfl ?_ | refine OW_moveV (.pointer _) rfl ?_ | refine OW_moveV (.string _) rfl ?_ | refine OW_moveV (.agg _) rfl ?_ | refine OW_moveV (.tuple _) rfl ?_ | refine OW_nil ?_ | refine thenE_normal ?_ | refine CW_seq ?_ | refine CW_region (by kernel_rfl) ?_ | refine OW_assignV (.int _ _) rfl ?_ | refine OW_assignV (.slice _ _ _) rfl ?_ | refine OW_assignV (.bool _) rfl ?_ | refine OW_assignV (.pointer _) rfl ?_ | refine OW_assignV (.string _) rfl ?_ | refine OW_assignV (.agg _) rfl ?_ | refine OW_assignV (.tuple _) rfl ?_ | refine OW_addI rfl rfl (by omega) ?_ | refine OW_subI rfl rfl (by omega) ?_ | refine OW_mulI rfl rfl (by omega) ?_ | refine OW_lss rfl rfl ?_ | refine OW_extract rfl rfl ?_ | refine OW_gtr rfl rfl ?_ | refine OW_leq rfl rfl ?_ | refine OW_geq rfl rfl ?_ | refine OW_eql rfl rfl ?_ | refine OW_neq rfl rfl ?_ | refine OW_not rfl ?_ | refine OW_pickT rfl _ rfl ?_ | refine OW_pickF rfl (.bool _) rfl ?_ | refine OW_pickB rfl rfl rfl ?_ | refine OW_move ?_ | refine OW_assign ?_ | refine OW_pass rfl ?_ | refine OW_take rfl ?_ | refine OW_lenS (by first | with_reducible exact und_bytes | with_reducible exact und_bytess) rfl ?_ | refine OW_convInt (by first | with_reducible exact und_u8 | with_reducible exact und_u64 | with_reducible exact und_int | with_reducible exact und_u32) (by first | with_reducible exact und_u8 | with_reducible exact und_u64 | with_reducible exact und_int | with_reducible exact und_u32) rfl ?_ | refine OW_add rfl rfl ?_ | refine OW_sub rfl rfl ?_ | refine OW_mul rfl rfl ?_ | refine OW_min2 rfl rfl ?_ | refine OW_max2 rfl rfl ?_ | refine OW_neg rfl ?_ | refine CW_block ?_ | refine CW_condT rfl ?_ | refine CW_condF rfl ?_ | refine CW_exit ?_ | refine CW_ret ?_ | refine CW_skip ?_ | refine LW_seq ?_ | refine LW_regC ?_ | refine LW_condC ?_ | refine LW_regF ?_ | refine LW_condF ?_ | refine FW_seq ?_ | refine FW_region (by kernel_rfl) ?_ | refine FW_block ?_ | refine FW_condT rfl ?_ | refine FW_condF rfl ?_ | refine FW_exit ?_ | refine FW_ret ?_ | refine FW_skip ?_ | refine LW_ret ?_ | refine LW_skip ?_ | refine thenE_exit ?_ | refine thenE_ret ?_ | refine inBlockE_normal ?_ | refine inBlockE_same ?_ | refine inBlockE_ret ?_ | refine inBlockE_ne (by rfl) ?_ | refine OW_eqlB (by with_reducible exact und_bool) rfl rfl ?_ | refine OW_neqB (by with_reducible exact und_bool) rfl rfl ?_ | refine OW_idxS (by with_reducible exact und_bytes) one_u8 rfl rfl _ rfl (by omega) ?_ | refine OW_idxS (by with_reducible exact und_bytess) one_bytes rfl rfl _ rfl (by omega) ?_ | refine OW_load1 (by first | with_reducible exact one_u8 | with_reducible exact one_bytes) rfl _ (by assumption) ?_ | refine OW_load1 s_bool rfl _ (by assumption) ?_ | refine OW_load1 d_ptr rfl _ (by assumption) ?_ | refine OW_load1 s_int rfl _ (by assumption) ?_)
         refine OW_nil ?_
         exact stay_mk _ _ _ _)
    | (apply OY_qtake _ rfl rfl
       · intro wd hwd
         (first | refine OW_idxL 0 und_bytess one_bytes rfl rfl (by omega) ?_ | refine OW_nilCheck rfl ?_ | refine OW_fieldB fldo_D0 rfl ?_ | refine OW_fieldB fldo_D1 rfl ?_ | refine OW_fieldB fldo_D2 rfl ?_ | refine OW_fieldB fldo_D3 rfl ?_ | refine OW_eqlNil und_pD rfl ?_ | refine OW_eqlSn und_bytes rfl ?_ | refine OW_moveV (.int _ _) rfl ?_ | refine OW_moveV (.slice _ _ _) rfl ?_ | refine OW_moveV (.bool _) rfl ?_ | refine OW_moveV (.pointer _) rfl ?_ | refine OW_moveV (.string _) rfl ?_ | refine OW_moveV (.agg _) rfl ?_ | refine OW_moveV (.tuple _) rfl ?_ | refine OW_nil ?_ | refine thenE_normal ?_ | refine CW_seq ?_ | refine CW_region (by kernel_rfl) ?_ | refine OW_assignV (.int _ _) rfl ?_ | refine OW_assignV (.slice _ _ _) rfl ?_ | refine OW_assignV (.bool _) rfl ?_ | refine OW_assignV (.pointer _) rfl ?_ | refine OW_assignV (.string _) rfl ?_ | refine OW_assignV (.agg _) rfl ?_ | refine OW_assignV (.tuple _) rfl ?_ | refine OW_addI rfl rfl (by omega) ?_ | refine OW_subI rfl rfl (by omega) ?_ | refine OW_mulI rfl rfl (by omega) ?_ | refine OW_lss rfl rfl ?_ | refine OW_extract rfl rfl ?_ | refine OW_gtr rfl rfl ?_ | refine OW_leq rfl rfl ?_ | refine OW_geq rfl rfl ?_ | refine OW_eql rfl rfl ?_ | refine OW_neq rfl rfl ?_ | refine OW_not rfl ?_ | refine OW_pickT rfl _ rfl ?_ | refine OW_pickF rfl (.bool _) rfl ?_ | refine OW_pickB rfl rfl rfl ?_ | refine OW_move ?_ | refine OW_assign ?_ | refine OW_pass rfl ?_ | refine OW_take rfl ?_ | refine OW_lenS (by first | with_reducible exact und_bytes | with_reducible exact und_bytess) rfl ?_ | refine OW_convInt (by first | with_reducible exact und_u8 | with_reducible exact und_u64 | with_reducible exact und_int | with_reducible exact und_u32) (by first | with_reducible exact und_u8 | with_reducible exact und_u64 | with_reducible exact und_int | with_reducible exact und_u32) rfl ?_ | refine OW_add rfl rfl ?_ | refine OW_sub rfl rfl ?_ | refine OW_mul rfl rfl ?_ | refine OW_min2 rfl rfl ?_ | refine OW_max2 rfl rfl ?_ | refine OW_neg rfl ?_ | refine CW_block ?_ | refine CW_condT rfl ?_ | refine CW_condF rfl ?_ | refine CW_exit ?_ | refine CW_ret ?_ | refine CW_skip ?_ | refine LW_seq ?_ | refine LW_regC ?_ | refine LW_condC ?_ | refine LW_regF ?_ | refine LW_condF ?_ | refine FW_seq ?_ | refine FW_region (by kernel_rfl) ?_ | refine FW_block ?_ | refine FW_condT rfl ?_ | refine FW_condF rfl ?_ | refine FW_exit ?_ | refine FW_ret ?_ | refine FW_skip ?_ | refine LW_ret ?_ | refine LW_skip ?_ | refine thenE_exit ?_ | refine thenE_ret ?_ | refine inBlockE_normal ?_ | refine inBlockE_same ?_ | refine inBlockE_ret ?_ | refine inBlockE_ne (by rfl) ?_ | refine OW_eqlB (by with_reducible exact und_bool) rfl rfl ?_ | refine OW_neqB (by with_reducible exact und_bool) rfl rfl ?_ | refine OW_idxS (by with_reducible exact und_bytes) one_u8 rfl rfl _ rfl (by omega) ?_ | refine OW_idxS (by with_reducible exact und_bytess) one_bytes rfl rfl _ rfl (by omega) ?_ | refine OW_load1 (by first | with_reducible exact one_u8 | with_reducible exact one_bytes) rfl _ (by assumption) ?_ | refine OW_load1 s_bool rfl _ (by assumption) ?_ | refine OW_load1 d_ptr rfl _ (by assumption) ?_ | refine OW_load1 s_int rfl _ (by assumption) ?_ | (refine OW_isLoad ?_; refine OW_loadBk (by first | with_reducible exact one_u8 | with_reducible exact one_bytes | with_reducible exact one_bool | with_reducible exact one_int | with_reducible exact one_errno | with_reducible exact one_u32 | with_reducible exact one_u64 | with_reducible exact one_string | with_reducible exact one_bytess | with_reducible exact d_ptr | with_reducible exact s_int | with_reducible exact s_bool) rfl (by apply_assumption; assumption) _ (by first | assumption | rfl) ?_) | refine OW_load1 (by first | with_reducible exact one_u8 | with_reducible exact one_bytes | with_reducible exact one_bool | with_reducible exact one_int | with_reducible exact one_errno | with_reducible exact one_u32 | with_reducible exact one_u64 | with_reducible exact one_string | with_reducible exact one_bytess | with_reducible exact d_ptr | with_reducible exact s_int | with_reducible exact s_bool) rfl _ (by apply_assumption; assumption) ?_)
         refine OW_nil ?_
         exact stay_mk _ _ _ _)
    | refine OY_a (actY_of rfl ?_)
    | refine OY_d (actY_of rfl ?_)
    | refine OY_a (actY_pass rfl rfl ?_)
    | refine OY_d (actY_pass rfl rfl ?_)
    | refine OY_a (actY_take rfl rfl ?_)
    | refine OY_d (actY_take rfl rfl ?_))
  exact hEnd.out) (k : B) : A := h ⟨k⟩
section
variable {P : Program} {ops : Array Oper} {Q : Exit → (Nat → Value) → World → Prop} {rest : List Oper} {e : Nat → Value} {w : World} {d : Tmp} {ty : TypeId} {pos : String} {aft : Array Edge}
/-- append that finds no room: a new row. -/
theorem OW_appendG {x y : Operand} {t el : TypeId} {z : Value} {b : Nat} {ad ad' : Addr} {n c m c' : Nat} {xs news : List Value} (ht : P.underlying t = some (.slice el)) (hinfo : (P.info? el).map (fun i => (i.zero, i.size, i.bytes)) = some (some z, 1, b))
    (hx : ev e x = .slice (some ad) n c) (hy : ev e y = .slice (some ad') m c') (hrx : Rd w (some ad) xs) (hlx : xs.length = n) (hrd : Rd w (some ad') news) (hl : news.length = m) (hg : c < n + m) (hm : n + m ≤ maxLen) (hb : (n + m) * b ≤ 140737488355328)
    (h : ∀ w' g c2, Rd w' (some ⟨g, 0, none⟩) (xs ++ news) → w.heap.size ≤ g → n + m ≤ c2 → Ext w w' → OW P ops Q rest (upd e d (.slice (some ⟨g, 0, none⟩) (n + m) c2)) w') :
    OW P ops Q (⟨some d, .call { callee := .builtin .append, args := #[x, y], argTypes := #[t, t] }, ty, pos, aft, none⟩ :: rest) e w := by
  obtain ⟨i0, hi, hz1, h2, h3⟩ := info_parts hinfo
  have hrun := run_append_grow (P := P) w t ty el i0 z ht hi hz1 ad n c xs (by rw [h2]; omega) (fun j v hj => by obtain ⟨a, ha, hc⟩ := hrx j v hj; cases ha; exact hc) ad' m c' news (by rw [h2]; omega) (fun j v hj => by obtain ⟨a, ha, hc⟩ := hrd j v hj; cases ha; exact hc) hg (by unfold maxLen at hm; omega) (by rw [h3]; exact growslice_fits hg hb)
  refine OW_valw (.slice (some ⟨w.heap.size, 0, none⟩) (n + m) (grownCap w (n + m) c el)) (w.drew.alloc (.cells (xs.toArray ++ news.toArray ++ Builtin.zeroCells z.cells (grownCap w (n + m) c el - (n + m))) el)) rfl ?_ (h _ w.heap.size (grownCap w (n + m) c el) ?_ (Nat.le_refl _) (grownCap_ge w (n + m) c el) ?_)
  · simp [execOp, resolve, invoke, builtin, hx, hy, hrun]
  · have hb := (Blk.new w.drew el (xs.toArray ++ news.toArray ++ Builtin.zeroCells z.cells (grownCap w (n + m) c el - (n + m)))).rd
    intro j u hu
    refine hb j u ?_
    rw [Array.toList_append, List.getElem?_append_left]
    · simpa using hu
    · have := (List.getElem?_eq_some_iff.1 hu).1
      simpa using this
  · exact (Ext.drew' w).trans' (Ext.alloc' _ _)
end
theorem cutA_zero {A : Option Addr} {m : Nat} (h : A = none ∨ ∃ g, A = some ⟨g, 0, none⟩) : cutA A m 0 = A := by
  unfold cutA
  split
  · rfl
  · rcases h with rfl | ⟨g, rfl⟩
    · rfl
    · simp [Addr.add]
set_option maxHeartbeats 8000000 in
theorem crash1_any (w : World) (g : Nat) (S : Nat → Prop) (d : DS) (h : DR w g S d) (hu : d.up = true) (hl : d.all.length ≤ 1000000) (hn : d.ws.length ≤ 1000000) (gd gk gt : Nat) (hd : Blk w gd 25 #[.pointer (some ⟨g, 0, none⟩)]) (keep torn : Int) (hgk : Blk w gk 3 #[.int .i64 keep]) (hgt : Blk w gt 3 #[.int .i64 torn]) (hkI : I64 keep) (htI : I64 torn) :
    Calls Try.prog 53 #[.pointer (some ⟨gk, 0, none⟩), .pointer (some ⟨gt, 0, none⟩), .pointer (some ⟨gd, 0, none⟩)] w (MP w g S (dCrash d keep torn)) := by
  obtain ⟨A, c, W, cW, vs, hB, ⟨h1, h1c, h1f⟩, ⟨h2, h2f⟩, h3, h4⟩ := h.at_
  have hvl : vs.length = d.ws.length := by rw [← h3, List.length_map]
  have hbd := h.bd
  rw [hu] at hB
  have hck : w.cell? ⟨gk, 0, none⟩ = some (.int .i64 keep) := hgk.cell 0
  have hct : w.cell? ⟨gt, 0, none⟩ = some (.int .i64 torn) := hgt.cell 0
  refine calls_of_CW Try.func53 rfl (by simp [Try.ntmps53]) ?_
  rw [Try.ntmps53]
  refine go_Dsk3 (k := ?_)
  refine CW_cond _ rfl (fun hh => ?_) (fun hh => ?_)
  · have hbad : min keep torn < 0 := by have h2 := of_decide_eq_true hh; split at h2 <;> omega
    have he : dCrash d keep torn = (2, d) := by unfold dCrash; rw [if_pos hu, if_pos hbad]
    rw [he]
    refine go_Dsk3 (k := ?_)
    exact bodyE_ret1 rfl (.int .i64 2) rfl (MP.stay h (Ext.rfl' w) 2)
  have hok : ¬ min keep torn < 0 := by have h2 := of_decide_eq_false hh; split at h2 <;> omega
  have he : dCrash d keep torn = (0, ⟨false, d.all.take (crashN d keep.toNat torn.toNat), []⟩) := by unfold dCrash; rw [if_pos hu, if_neg hok]
  rw [he]
  clear hh he hck hct
  obtain ⟨k, rfl⟩ : ∃ k : Nat, keep = k := ⟨keep.toNat, by omega⟩
  obtain ⟨t, rfl⟩ : ∃ t : Nat, torn = t := ⟨torn.toNat, by omega⟩
  rw [show ((k : Nat) : Int).toNat = k from rfl, show ((t : Nat) : Int).toNat = t from rfl]
  have hWf : W = none ∨ ∃ g, W = some ⟨g, 0, none⟩ := by
    rcases own_at h2 with h | ⟨g, cur, h, _⟩
    · exact .inl h
    · exact .inr ⟨g, h⟩
  have hcW := own_cap h2
  unfold maxLen at hcW
  obtain ⟨kN, hkN⟩ : ∃ kN : Nat, min k vs.length = kN := ⟨_, rfl⟩
  have hmin : (if ((vs.length : Nat) : Int) < ((k : Nat) : Int) then ((vs.length : Nat) : Int) else ((k : Nat) : Int)) = (kN : Int) := by split <;> omega
  refine go_Dsk3 (k := ?_)
  obtain ⟨C, hC⟩ : ∃ C : World → Prop, C = fun v => Ext w v := ⟨_, rfl⟩
  have y_hgk := blkE hC hgk
  have y_hgt := blkE hC hgt
  have y_hd := blkE hC hd
  have y_hB := blkE hC hB
  refine CW_tree2 [0, 3, 4, 5, 8] (.q 0 (.p 1 (.p 2 (.q 3 (.q 4 (.q 5 (.p 6 (.p 7 (.q 8 (.p 9 (.p 10 (.p 11 (.p 12 .done))))))))))))) (C) (by kernel_rfl) (by kernel_rfl) (by kernel_rfl) ?_ ?_
  · exact inE hC
  intro w1 hx1 h_C
  refine oy_Dsk3 (k := ?_)
  rw [hmin]
  apply OY_p _ rfl
  · intro wd
    refine OW_slice (lo := none) (mx := none) (lv := 0) (hv := kN) (mv := cW) und_bytess one_bytes rfl rfl ⟨_, rfl⟩ rfl (fun h => by cases h) (by omega) ?_
    refine OW_nil ?_
    exact stay_mk _ _ _ _
  rw [show ((cW : Nat) : Int).toNat = cW from rfl, show (0 : Int).toNat = 0 from rfl, show ((kN : Nat) : Int).toNat = kN from rfl, cutA_zero hWf, Nat.sub_zero, Nat.sub_zero]
  refine oy_Dsk3 (k := ?_)
  have hd1 := hd.ext hx1
  have hB1 := hB.ext hx1
  have hgt1 := hgt.ext hx1
  refine go_Dsk3 (k := ?_)
  refine OW_isLoad ?_
  refine OW_loadBk d_ptr rfl hd1 (.pointer (some ⟨g, 0, none⟩)) rfl ?_
  refine go_Dsk3 (k := ?_)
  refine OW_isLoad ?_
  refine OW_loadBk one_bytess rfl hB1 (.slice W vs.length cW) rfl ?_
  refine go_Dsk3 (k := ?_)
  refine OW_slice (hi := none) (mx := none) (lv := kN) (hv := vs.length) (mv := cW) und_bytess one_bytes rfl ⟨_, rfl⟩ rfl rfl (fun h => by cases h) (by omega) ?_
  rw [show ((cW : Nat) : Int).toNat = cW from rfl, show ((vs.length : Nat) : Int).toNat = vs.length from rfl, show ((kN : Nat) : Int).toNat = kN from rfl]
  refine go_Dsk3 (k := ?_)
  have hAL : ArgL w W vs := ⟨own_rd h2, fun v hv => ⟨(h4 v hv).1, (h4 v hv).2.1⟩⟩
  refine CW_meet (fun e' w' => ∃ (A4 : Option Addr) (c4 : Nat) (us : List BV), e' 0 = .pointer (some ⟨gk, 0, none⟩) ∧ e' 1 = .pointer (some ⟨gt, 0, none⟩) ∧ e' 2 = .pointer (some ⟨gd, 0, none⟩) ∧ e' 4 = .slice A4 us.length c4 ∧ ArgL w' A4 us ∧ us.length ≤ 1000001 ∧ d.s ++ (us.map pay).flatten = d.all.take (crashN d k t) ∧ Ext w w') ?_ ?_
  · refine CW_cond _ rfl (fun hh => ?_) (fun hh => ?_)
    · have hlt : k < vs.length := by have := of_decide_eq_true hh; omega
      have hkk : kN = k := by omega
      subst hkk
      clear hh
      have hpk := crash_parts d kN t (by omega)
      have hget : d.ws[kN]'(by omega) = (vs[kN]).2.2 := by
        have := congrArg (fun l => l[kN]?) h3
        simp only [List.getElem?_map, List.getElem?_eq_getElem hlt, List.getElem?_eq_getElem (show kN < d.ws.length by omega), Option.map_some, Option.some.injEq] at this
        exact this.symm
      rw [hget, ← h3, ← List.map_take] at hpk
      obtain ⟨gW, rfl⟩ : ∃ gW, W = some ⟨gW, 0, none⟩ := by
        rcases hWf with h | h
        · rw [h] at hAL
          obtain ⟨ad, ha, _⟩ := hAL.cell hlt
          cases ha
        · exact h
      have hcut : cutA (some (⟨gW, 0, none⟩ : Addr)) cW kN = some ⟨gW, kN, none⟩ := by
        unfold cutA
        rw [if_neg (by omega)]
        show some ((⟨gW, 0, none⟩ : Addr).add kN) = _
        rw [add0]
      rw [hcut]
      obtain ⟨adk, hak, hck⟩ := (hAL.ext hx1).cell hlt
      cases hak
      rw [add0] at hck
      have hbk := (hAL.bs _ (List.getElem_mem hlt)).1.ext hx1
      have hlk := (hAL.bs _ (List.getElem_mem hlt)).2
      have hwl : (vs[kN]).2.2.length ≤ 1000000 := by
        have h5 := flat_split d.ws kN
        rw [List.drop_eq_getElem_cons (show kN < d.ws.length by omega), hget] at h5
        have h6 := congrArg List.length h5
        have h7 : d.all.length = d.s.length + d.ws.flatten.length := by unfold DS.all; rw [List.length_append]
        simp only [List.flatten_cons, List.length_append] at h6
        omega
      have htk : Rd w (some ⟨gW, 0, none⟩) ((vs.take kN).map sv) := fun j u hu => by
        refine hAL.rd j u ?_
        rw [List.map_take, List.getElem?_take] at hu
        split at hu
        · exact hu
        · cases hu
      generalize vs[kN] = x at *
      obtain ⟨xA, xc, xl⟩ := x
      replace hck : w1.cell? ⟨gW, kN, none⟩ = some (.slice xA xl.length xc) := hck
      simp only at hbk hlk hwl hpk
      refine go_Dsk3 (k := ?_)
      clear y_hgk y_hgt y_hd y_hB
      obtain ⟨C, hC⟩ : ∃ C : World → Prop, C = fun v => Ext w1 v := ⟨_, rfl⟩
      have y_hgt1 := blkE hC hgt1
      have y_hck := cellE hC hck
      refine CW_tree2 [0, 3] (.q 0 (.p 1 (.p 2 (.q 3 (.p 4 (.p 5 (.p 6 (.p 7 (.p 8 .done))))))))) (C) (by kernel_rfl) (by kernel_rfl) (by kernel_rfl) ?_ ?_
      · exact inE hC
      intro w2 hx2 h_C
      refine oy_Dsk3 (k := ?_)
      obtain ⟨n, hn9⟩ : ∃ n : Nat, min t (xl.length - 1) = n := ⟨_, rfl⟩
      have hmm : (if (if (xl.length : Int) - 1 < (t : Int) then (xl.length : Int) - 1 else (t : Int)) < 0 then 0 else (if (xl.length : Int) - 1 < (t : Int) then (xl.length : Int) - 1 else (t : Int))) = (n : Int) := by split <;> split at * <;> omega
      rw [hmm]
      rw [hn9] at hpk
      refine go_Dsk3 (k := ?_)
      have hck2 := hx2.cell' hck
      clear y_hgt1 y_hck
      obtain ⟨C, hC⟩ : ∃ C : World → Prop, C = fun v => Ext w2 v := ⟨_, rfl⟩
      have y_hck2 := cellE hC hck2
      refine CW_tree2 [8] (.p 0 (.p 1 (.p 2 (.p 3 (.p 4 (.p 5 (.p 6 (.p 7 (.q 8 (.p 9 (.p 10 (.d 11 (.d 12 (.p 13 .done)))))))))))))) (C) (by kernel_rfl) (by kernel_rfl) (by kernel_rfl) ?_ ?_
      · exact inE hC
      intro w3 hx3 h_C
      refine oy_Dsk3 (k := ?_)
      apply OY_p _ rfl
      · intro wd
        refine OW_slice (lo := none) (lv := 0) (hv := kN) (mv := kN) und_bytess one_bytes rfl rfl ⟨_, rfl⟩ ⟨_, rfl⟩ (fun _ => rfl) (by omega) ?_
        refine OW_nil ?_
        exact stay_mk _ _ _ _
      rw [show (0 : Int).toNat = 0 from rfl, show ((kN : Nat) : Int).toNat = kN from rfl, cutA_zero (.inr ⟨gW, rfl⟩), Nat.sub_zero]
      refine oy_Dsk3 (k := ?_)
      apply OY_p _ rfl
      · intro wd
        refine OW_slice (lo := none) (mx := none) (lv := 0) (hv := n) (mv := xc) und_bytes one_u8 rfl rfl ⟨_, rfl⟩ rfl (fun h => by cases h) (by omega) ?_
        refine OW_nil ?_
        exact stay_mk _ _ _ _
      rw [show (0 : Int).toNat = 0 from rfl, show ((n : Nat) : Int).toNat = n from rfl, show ((xc : Nat) : Int).toNat = xc from rfl, Nat.sub_zero, Nat.sub_zero]
      refine oy_Dsk3 (k := ?_)
      refine OW_lit [.slice (cutA xA xc 0) n xc] und_bytess info_bytes rfl rfl (by simp [Value.oneCell']) (by decide) ?_
      intro w4 g4 hb4 hg4 hx4
      first | refine OW_nil (goY_mkE hC (hx3.trans' hx4) ?_) | refine OW_nil (goY_dropE hC (hx3.trans' hx4) ?_)
      refine oy_Dsk3 (k := ?_)
      have hx04 := ((hx1.trans' hx2).trans' hx3).trans' hx4
      refine OW_appendG und_bytess info_bytes rfl rfl (htk.ext hx04) (by simp; omega) hb4.rd rfl (by omega) (by unfold maxLen; omega) (by omega) ?_
      intro w5 g5 c5 hr5 hg5 hc5 hx5
      first | refine OW_nil (goY_mkE hC ((hx3.trans' hx4).trans' hx5) ?_) | refine OW_nil (goY_dropE hC ((hx3.trans' hx4).trans' hx5) ?_)
      refine oy_Dsk3 (k := ?_)
      have hx05 := hx04.trans' hx5
      have hnl : (xl.take n).length = n := by rw [List.length_take]; omega
      have hul : (vs.take kN ++ [(cutA xA xc 0, xc, xl.take n)]).length = kN + 1 := by simp; omega
      refine go_Dsk3 (k := ?_)
      refine ⟨rfl, some ⟨g5, 0, none⟩, c5, vs.take kN ++ [(cutA xA xc 0, xc, xl.take n)], rfl, rfl, rfl, by rw [hul]; rfl, ⟨?_, fun v hv => ?_⟩, by omega, ?_, hx05⟩
      · rw [List.map_append]
        show Rd w5 _ ((vs.take kN).map sv ++ [.slice (cutA xA xc 0) (xl.take n).length xc])
        rw [hnl]
        exact hr5
      · rcases List.mem_append.1 hv with hv | hv
        · have hm := List.mem_of_mem_take hv
          exact ⟨(hAL.bs v hm).1.ext hx05, (hAL.bs v hm).2⟩
        · rw [List.mem_singleton.1 hv]
          refine ⟨?_, by show (xl.take n).length ≤ xc; omega⟩
          have := hbk.cut xc 0 n (by omega)
          exact Bs.ext this ((((hx2.trans' hx3).trans' hx4).trans' hx5))
      · rw [List.map_append, List.flatten_append, ← hpk]
        simp
    · have hge : ¬ k < vs.length := by have := of_decide_eq_false hh; omega
      have hkk : kN = vs.length := by omega
      have hpk := crash_whole d k t (by omega)
      rw [List.take_of_length_le (by omega), ← h3] at hpk
      subst hkk
      refine go_Dsk3 (k := ?_)
      exact ⟨rfl, W, cW, vs, rfl, rfl, rfl, rfl, hAL.ext hx1, by omega, hpk, hx1⟩
  rintro e4 w4 ⟨A4, c4, us, q0, q1, q2, q4, hA4, hul, hus, hx4⟩
  rw [upd_self q0, upd_self q1, upd_self q2, upd_self q4]
  clear y_hgk y_hgt y_hd y_hB
  have hd4 := hd.ext hx4
  have hB4 := hB.ext hx4
  have hgd : gd ≠ g := fun hh => by
    subst hh
    have := hd.symm.trans hB
    injection this with this
    injection this with _ this
    exact absurd this (by decide)
  have hall : (((A, c, d.s) :: us).map pay).flatten = d.all.take (crashN d k t) := by rw [List.map_cons, List.flatten_cons, ← hus]
  have hcl : (d.all.take (crashN d k t)).length ≤ 1000000 := by rw [List.length_take]; omega
  clear hus h3
  generalize d.all.take (crashN d k t) = L at *
  clear hgk hgt hd hB hd1 hB1 hgt1
  refine go_Dsk3 (k := ?_)
  obtain ⟨C, hC⟩ : ∃ C : World → Prop, C = fun v => Ext w4 v := ⟨_, rfl⟩
  have y_hd4 := blkE hC hd4
  have y_hB4 := blkE hC hB4
  refine CW_tree2 [0, 1, 4] (.q 0 (.q 1 (.p 2 (.p 3 (.q 4 (.p 6 (.a 5 (.a 7 (.a 8 (.d 9 .done)))))))))) (C) (by kernel_rfl) (by kernel_rfl) (by kernel_rfl) ?_ ?_
  · exact inE hC
  intro w5 hx5 h_C
  refine oy_Dsk3 (k := ?_)
  refine OW_lit [.slice A d.s.length c] und_bytess info_bytes rfl rfl (by simp [Value.oneCell']) (by decide) ?_
  intro w6 g6 hb6 hg6 hx6
  first | refine OW_nil (goY_mkE hC (hx5.trans' hx6) ?_) | refine OW_nil (goY_dropE hC (hx5.trans' hx6) ?_)
  refine oy_Dsk3 (k := ?_)
  have hx46 := hx5.trans' hx6
  refine OW_append (base := w4.heap.size) und_bytess info_bytes rfl rfl rfl (hb6.own (by have := hx5.size; omega) (by show 1 ≤ maxLen; decide)) (hA4.rd.ext hx46) (by simp) (sv_one us) (by unfold maxLen; omega) (by omega) hx46.size ?_
  intro w7 A7 c7 ho7 hbl7
  have hx47 : Ext w4 w7 := hx46.trans hbl7
  obtain ⟨g7, cur7, rfl, _⟩ := own_blk ho7 (by omega)
  first | refine OW_nil (goY_mkE hC (hx47) ?_) | refine OW_nil (goY_dropE hC (hx47) ?_)
  refine oy_Dsk3 (k := ?_)
  refine OW_callC Try.func54 (by kernel_rfl) rfl (join_bytes w7 g7 0 (1 + us.length) c7 ((A, c, d.s) :: us) ⟨own_rd ho7, fun v hv => ?_⟩ (by simp) (by simp; omega) (own_cap ho7).1 (by rw [hall]; omega) (by omega)) rfl ?_
  · rcases List.mem_cons.1 hv with rfl | hv
    · exact ⟨h1.ext (hx4.trans' hx47), h1c⟩
    · exact ⟨(hA4.bs v hv).1.ext hx47, (hA4.bs v hv).2⟩
  rintro en w8 ⟨A8, c8, rfl, hc8, hf8, hx8⟩
  rw [hall] at hc8 hf8 ⊢
  refine ⟨_, rfl, ?_⟩
  have hx48 := hx47.trans' hx8
  first | refine OW_nil (goY_mkE hC (hx48) ?_) | refine OW_nil (goY_dropE hC (hx48) ?_)
  refine oy_Dsk3 (k := ?_)
  refine OW_callC Try.func52 (by kernel_rfl) rfl (settle_any w8 g _ _ _ (hB4.ext hx48) A8 L.length c8) rfl ?_
  rintro en w9 ⟨rfl, hB9, hg9⟩
  obtain ⟨hR9, hK9⟩ := h.settled (hx4.trans' hx48) (hf8.mono (hx4.trans' hx47).size) hc8 hg9 hB9
  have hd9 : Blk w9 gd 25 #[.pointer (some ⟨g, 0, none⟩)] := (hd4.ext hx48).only hg9 hgd
  refine ⟨_, rfl, OW_nil (goY_done ?_)⟩
  refine go_Dsk3 (k := ?_)
  refine OW_isLoad ?_
  refine OW_loadBk d_ptr rfl hd9 (.pointer (some ⟨g, 0, none⟩)) rfl ?_
  refine go_Dsk3 (k := ?_)
  refine OW_storeB s_bool rfl (.bool false) rfl rfl hB9 (by show 1 < 4; decide) ?_
  intro w10 hB10 hg10
  obtain ⟨hR10, hK10⟩ := hR9.upped (u := false) (Ext.rfl' w9) (fun cs hcs => by
    have := hcs.symm.trans hB9
    injection this with this
    injection this with this
    subst this
    exact hB10) hg10
  refine go_Dsk3 (k := ?_)
  refine bodyE_ret1 rfl (.int .i64 0) rfl ⟨rfl, hR10.mono (fun k hk => ?_) (more_lt hbd (by have := hK9.size; have := hK10.size; omega)), hK9.trans_more hK10⟩
  have s9 := hK9.size
  have s10 := hK10.size
  rcases hk with (hk | hk) | hk
  · exact .inl hk
  · exact .inr ⟨hk.1, by omega⟩
  · exact .inr ⟨by omega, hk.2⟩
set_option maxHeartbeats 8000000 in
theorem dCrash_any (w : World) (g : Nat) (S : Nat → Prop) (d : DS) (h : DR w g S d) (hl : d.all.length ≤ 1000000) (hn : d.ws.length ≤ 1000000) (keep torn : Int) (hkI : I64 keep) (htI : I64 torn) :
    Calls Try.prog 25 #[.pointer (some ⟨g, 0, none⟩), .int .i64 keep, .int .i64 torn] w (MP w g S (dCrash d keep torn)) := by
  refine calls_of_CW Try.func25 rfl (by simp [Try.ntmps25]) ?_
  rw [Try.ntmps25]
  refine go_Dsk3 (k := ?_)
  refine OW_box _ rfl ?_
  intro w1 gd hb1 hg1 hl1 hx1
  have hb1 : Blk w1 gd 25 #[.pointer (some ⟨g, 0, none⟩)] := hb1
  refine go_Dsk3 (k := ?_)
  refine OW_box _ rfl ?_
  intro w2 gk hb2 hg2 hl2 hx2
  have hb2 : Blk w2 gk 3 #[.int .i64 keep] := hb2
  refine go_Dsk3 (k := ?_)
  refine OW_box _ rfl ?_
  intro w3 gt hb3 hg3 hl3 hx3
  have hb3 : Blk w3 gt 3 #[.int .i64 torn] := hb3
  have hx13 := hx2.trans' hx3
  have hx03 := hx1.trans' hx13
  refine go_Dsk3 (k := ?_)
  refine OW_isLoad ?_
  refine OW_loadBk d_ptr rfl (hb1.ext hx13) (.pointer (some ⟨g, 0, none⟩)) rfl ?_
  refine OW_mkFunc [.pointer (some ⟨gk, 0, none⟩), .pointer (some ⟨gt, 0, none⟩), .pointer (some ⟨gd, 0, none⟩)] rfl ?_
  refine OW_callC Try.func48 (by kernel_rfl) rfl (upr_any w3 g S d (h.ext hx03) 53 _ [.pointer (some ⟨gk, 0, none⟩), .pointer (some ⟨gt, 0, none⟩), .pointer (some ⟨gd, 0, none⟩)] (MP w g S (dCrash d keep torn)) Try.func53 (by kernel_rfl) rfl (fun hu w4 hx4 => ?_) (fun hu w4 hx4 => ?_)) rfl ?_
  · refine (crash1_any w4 g S d ((h.ext hx03).ext hx4) hu hl hn gd gk gt ((hb1.ext hx13).ext hx4) keep torn ((hb2.ext hx3).ext hx4) (hb3.ext hx4) hkI htI).mono ?_
    intro en w5 hm
    have := hm.of (hx03.trans' hx4) h.bd
    exact ⟨_, hm.1, by rw [← hm.1]; exact this⟩
  · unfold dCrash
    rw [if_neg (by rw [hu]; decide)]
    exact MP.stay h (hx03.trans' hx4) 60
  intro en w5 hm
  refine ⟨_, hm.1, ?_⟩
  refine go_Dsk3 (k := ?_)
  exact bodyE_ret1 rfl (.int .i64 (dCrash d keep torn).1) rfl ⟨rfl, hm.2⟩
end Go.Proofs.Ytnfeibbnjdegfaa

/- Literal slices whose elements have many cells. No program in sight. -/
namespace Go.Proofs.Ytnfeibbnjdegfaa
open Go Go.RowKit
set_option linter.unusedVariables false
def partsM : List (List Value) → Nat → List (Nat × Value)
  | [], _ => []
  | cs :: l, k => (k, .agg cs.toArray) :: partsM l (k + 1)
theorem foldl_set (o : Nat) : ∀ (l : List Value) (j : Nat) (arr : Array Value), o + j + l.length ≤ arr.size →
    (l.zipIdx j).foldl (fun cs (x : Value × Nat) => cs.setIfInBounds (o + x.2) x.1) arr = (arr.toList.take (o + j) ++ l ++ arr.toList.drop (o + j + l.length)).toArray
  | [], j, arr, h => by simp
  | v :: l, j, arr, h => by
    simp only [List.length_cons] at h
    rw [List.zipIdx_cons, List.foldl_cons, foldl_set o l (j + 1) _ (by simp; omega)]
    apply Array.ext'
    simp only [Array.toList_setIfInBounds, List.length_cons]
    rw [show o + (j + 1) = o + j + 1 by omega, List.take_succ_eq_append_getElem (by simp; omega), List.getElem_set_self, List.take_set_of_le (Nat.le_refl _), List.drop_set_of_lt (by omega), show o + j + 1 + l.length = o + j + (l.length + 1) by omega]
    simp
theorem fill_partsM (m : Nat) : ∀ (vss : List (List Value)) (k : Nat) (cs : Array Value), (∀ v ∈ vss, v.length = m) → cs.size = (k + vss.length) * m → Instr.fill (fun i => some (i * m, m)) cs (partsM vss k) = some (cs.toList.take (k * m) ++ vss.flatten).toArray
  | [], k, cs, _, hs => by
    simp only [partsM, Instr.fill, List.flatten_nil, List.append_nil]
    rw [List.take_of_length_le (by simp at hs ⊢; omega)]
  | v :: vss, k, cs, h1, hs => by
    have hv := h1 v List.mem_cons_self
    simp only [List.length_cons] at hs
    have hkm : (k + 1) * m ≤ cs.size := by rw [hs]; exact Nat.mul_le_mul_right _ (by omega)
    rw [Nat.add_mul, Nat.one_mul] at hkm
    have hf := foldl_set (k * m) v 0 cs (by omega)
    unfold partsM Instr.fill
    have hc : ¬ ((decide ((Value.agg v.toArray).cells.size ≠ m) || decide (k * m + (Value.agg v.toArray).cells.size > cs.size)) = true) := by
      show ¬ ((decide (v.toArray.size ≠ m) || decide (k * m + v.toArray.size > cs.size)) = true)
      simp [hv]; omega
    have hz : (Value.agg v.toArray).cells.zipIdx.foldl (fun (cs : Array Value) (x : Value × Nat) => cs.setIfInBounds (k * m + x.2) x.1) cs = (cs.toList.take (k * m) ++ v ++ cs.toList.drop (k * m + v.length)).toArray := by
      rw [← Array.foldl_toList]
      show ((v.toArray.zipIdx).toList).foldl _ _ = _
      rw [Array.toList_zipIdx]
      exact hf
    have hl1 : (cs.toList.take (k * m) ++ v).length = (k + 1) * m := by simp only [List.length_append, List.length_take, Nat.add_mul, Nat.one_mul, Array.length_toList, hv]; omega
    have ih := fill_partsM m vss (k + 1) (cs.toList.take (k * m) ++ v ++ cs.toList.drop (k * m + v.length)).toArray (fun u hu => h1 u (List.mem_cons_of_mem _ hu)) (by
      rw [List.size_toArray, List.length_append, hl1, List.length_drop, Array.length_toList, hs, hv]
      have : (k + 1 + vss.length) * m = (k + (vss.length + 1)) * m := by congr 1; omega
      rw [this]
      have : k * m + m ≤ (k + (vss.length + 1)) * m := by rw [← hs]; omega
      rw [Nat.add_mul k 1 m]
      omega)
    have e : (cs.toList.take (k * m) ++ v ++ cs.toList.drop (k * m + v.length)).toArray.toList.take ((k + 1) * m) = cs.toList.take (k * m) ++ v := List.take_left' hl1
    rw [e, List.append_assoc (cs.toList.take (k * m)) v vss.flatten, ← List.flatten_cons] at ih
    simp only
    rw [if_neg hc]
    exact hz ▸ ih
section
variable {P : Program} {ops : Array Oper} {Q : Exit → (Nat → Value) → World → Prop} {rest : List Oper} {e : Nat → Value} {w : World} {d : Tmp} {ty : TypeId} {pos : String} {aft : Array Edge}
theorem OW_litM {t el : TypeId} {n : Nat} {parts : Array (Nat × Operand)} {m : Nat} {zs : List Value} (vss : List (List Value)) (ht : P.underlying t = some (.slice el)) (hel : AggT P el m zs)
    (hp : parts.toList.map (fun x => (x.1, ev e x.2)) = partsM vss 0) (hn : n = vss.length) (h1 : ∀ v ∈ vss, v.length = m) (hlt : n * m ≤ 10000)
    (h : ∀ w' g, Blk w' g el vss.flatten.toArray → w.heap.size ≤ g → g < w'.heap.size → Ext w w' → OW P ops Q rest (upd e d (.slice (some ⟨g, 0, none⟩) n n)) w') : OW P ops Q (⟨some d, .buildSlice t n parts, ty, pos, aft, none⟩ :: rest) e w := by
  refine OW_valw (.slice (some ⟨w.heap.size, 0, none⟩) n n) (w.alloc (.cells vss.flatten.toArray el)) rfl ?_ (h _ w.heap.size (Blk.new w el _) (Nat.le_refl _) (by simp) (Ext.alloc' w _))
  have hpp : (parts.map fun x => (x.1, ev e x.2)).toList = partsM vss 0 := by rw [Array.toList_map]; exact hp
  have hbig : ¬ (n * m > 2 ^ 24) := by omega
  have key : ∀ zs : Array Value, zs.size = n * m → Instr.fill (fun i => some (i * m, m)) zs (parts.map fun x => (x.1, ev e x.2)).toList = some vss.flatten.toArray := fun zs hz => by
    rw [hpp, fill_partsM m vss 0 zs h1 (by rw [hz, hn]; simp)]
    simp
  have hs : ∀ w, (sizeOf el).run P w = .ok m w := by
    obtain ⟨i, hi, hm⟩ := Option.map_eq_some_iff.1 hel.size
    intro w
    simp [sizeOf, typeInfo, hi, hm]
  have hzv : ∀ w, (zeroValue el).run P w = .ok (.agg zs.toArray) w := hel.zero
  have hrun : (Instr.buildSlice t n (parts.map fun x => (x.1, ev e x.2))).run P w = .ok (.slice (some ⟨w.heap.size, 0, none⟩) n n) (w.alloc (.cells vss.flatten.toArray el)) := by
    by_cases h0 : n * m = 0
    · simp only [Instr.buildSlice, Sem.run_bind, run_underlying ht, Result.andThen_ok, hs, Sem.run_pure, if_neg hbig, if_pos h0, key _ (show (Array.map (fun x => (#[] : Array Value)[x % (#[] : Array Value).size]!) (Array.range (n * m))).size = n * m by simp)]
      rfl
    · simp only [Instr.buildSlice, Sem.run_bind, run_underlying ht, Result.andThen_ok, hs, Sem.run_pure, if_neg hbig, if_neg h0, hzv, key _ (show (Array.map (fun x => (Value.agg zs.toArray).cells[x % (Value.agg zs.toArray).cells.size]!) (Array.range (n * m))).size = n * m by simp)]
      rfl
  simp only [execOp, Sem.run_bind]
  rw [show (parts.map fun (x : Nat × Operand) => match x with | (i, x) => (i, ev e x)) = parts.map fun x => (x.1, ev e x.2) from rfl, hrun]
  rfl
end
end Go.Proofs.Ytnfeibbnjdegfaa

/- The statements' acts on a disk: what comes in, whether they are too many. -/
namespace Go.Proofs.Ytnfeibbnjdegfaa
open Go Go.RowKit Go.ChangeShapes Go.WideShapes
set_option linter.unusedVariables false
set_option maxRecDepth 4000
theorem go_DskA {A B : Prop} (h : Held B → A := by
  intro hEnd
  repeat (first | refine OW_moveV (.int _ _) rfl ?_ | refine OW_moveV (.slice _ _ _) rfl ?_ | refine OW_moveV (.bool _) rfl ?_ | refine OW_moveV (.pointer _) rfl ?_ | refine OW_moveV (.string _) rfl ?_ | refine OW_moveV (.agg _) rfl ?_ | refine OW_moveV (.tuple _) rfl ?_ | refine OW_nil ?_ | refine thenE_normal ?_ | refine CW_seq ?_ | refine CW_region (by kernel_rfl) ?_ | refine OW_assignV (.int _ _) rfl ?_ | refine OW_assignV (.slice _ _ _) rfl ?_ | refine OW_assignV (.bool _) rfl ?_ | refine OW_assignV (.pointer _) rfl ?_ | refine OW_assignV (.string _) rfl ?_ | refine OW_assignV (.agg _) rfl ?_ | refine OW_assignV (.tuple _) rfl ?_ | refine OW_addI rfl rfl (by omega) ?_ | refine OW_subI rfl rfl (by omega) ?_ | refine OW_mulI rfl rfl (by omega) ?_ | refine OW_lss rfl rfl ?_ | refine OW_extract rfl rfl ?_ | refine OW_gtr rfl rfl ?_ | refine OW_leq rfl rfl ?_ | refine OW_geq rfl rfl ?_ | refine OW_eql rfl rfl ?_ | refine OW_neq rfl rfl ?_ | refine OW_not rfl ?_ | refine OW_pickT rfl _ rfl ?_ | refine OW_pickF rfl (.bool _) rfl ?_ | refine OW_pickB rfl rfl rfl ?_ | refine OW_move ?_ | refine OW_assign ?_ | refine OW_pass rfl ?_ | refine OW_take rfl ?_ | refine OW_lenS (by first | with_reducible exact und_bytes | with_reducible exact und_bytess) rfl ?_ | refine OW_convInt (by first | with_reducible exact und_u8 | with_reducible exact und_u64 | with_reducible exact und_int | with_reducible exact und_u32) (by first | with_reducible exact und_u8 | with_reducible exact und_u64 | with_reducible exact und_int | with_reducible exact und_u32) rfl ?_ | refine OW_add rfl rfl ?_ | refine OW_sub rfl rfl ?_ | refine OW_mul rfl rfl ?_ | refine OW_min2 rfl rfl ?_ | refine OW_max2 rfl rfl ?_ | refine OW_neg rfl ?_ | refine CW_block ?_ | refine CW_condT rfl ?_ | refine CW_condF rfl ?_ | refine CW_exit ?_ | refine CW_ret ?_ | refine CW_skip ?_ | refine LW_seq ?_ | refine LW_regC ?_ | refine LW_condC ?_ | refine LW_regF ?_ | refine LW_condF ?_ | refine FW_seq ?_ | refine FW_region (by kernel_rfl) ?_ | refine FW_block ?_ | refine FW_condT rfl ?_ | refine FW_condF rfl ?_ | refine FW_exit ?_ | refine FW_ret ?_ | refine FW_skip ?_ | refine LW_ret ?_ | refine LW_skip ?_ | refine thenE_exit ?_ | refine thenE_ret ?_ | refine inBlockE_normal ?_ | refine inBlockE_same ?_ | refine inBlockE_ret ?_ | refine inBlockE_ne (by rfl) ?_ | refine OW_eqlB (by with_reducible exact und_bool) rfl rfl ?_ | refine OW_neqB (by with_reducible exact und_bool) rfl rfl ?_ | refine OW_idxS (by with_reducible exact und_bytes) one_u8 rfl rfl _ rfl (by omega) ?_ | refine OW_idxS (by with_reducible exact und_bytess) one_bytes rfl rfl _ rfl (by omega) ?_ | refine OW_load1 (by first | with_reducible exact one_u8 | with_reducible exact one_bytes) rfl _ (by assumption) ?_ | refine OW_lenS (by with_reducible exact und_As) rfl ?_ | refine OW_idxN und_As el_A rfl rfl _ rfl (by omega) ?_ | refine OW_fieldO fldo_A3 rfl ?_ | refine OW_load1 (by with_reducible exact s_int) rfl _ (by assumption) ?_)
  exact hEnd.out) (k : B) : A := h ⟨k⟩
def acells (f : AD) (v : Value) : List Value := [.int .i64 f.kind, .int .i64 f.n, .int .i64 f.m, v]
structure AOk (w : World) (f : AD) (A : Option Addr) (c : Nat) : Prop where
  bs : Bs w A f.B
  cap : f.B.length ≤ c
  small : f.B.length ≤ 140737488351232
  kind : I64 f.kind
  n : I64 f.n
  m : I64 f.m
theorem AOk.ext {w w' : World} {f : AD} {A : Option Addr} {c : Nat} (h : AOk w f A c) (hx : Ext w w') : AOk w' f A c := ⟨h.bs.ext hx, h.cap, h.small, h.kind, h.n, h.m⟩
def kAct : KD Try.prog 37 AD where
  n := 4
  hn := by kernel_rfl
  R := fun w cs f => ∃ A c, cs = acells f (.slice A f.B.length c) ∧ AOk w f A c
  ext := fun hx ⟨A, c, h1, h2⟩ => ⟨A, c, h1, h2.ext hx⟩
  opn := fun {H enc w fuel cs x} h hw => by
    obtain ⟨hl, hp⟩ := kd_parts Try.underlying37 h hw
    have hl : cs.length = 4 := by rw [hl]; kernel_rfl
    obtain ⟨a0, h0, r0⟩ := hp 0 _ rfl kI
    obtain ⟨a1, h1, r1⟩ := hp 1 _ rfl kI
    obtain ⟨a2, h2, r2⟩ := hp 2 _ rfl kI
    obtain ⟨a3, A, c, h3, ⟨r3, r3'⟩, b3⟩ := hp 3 _ rfl kBs
    refine ⟨⟨a0, a1, a2, a3⟩, A, c, ?_, b3, r3, Nat.le_trans r3 r3', r0, r1, r2⟩
    have e0 : (cs.drop 0).take 1 = [.int .i64 a0] := h0
    have e1 : (cs.drop (0 + 1)).take 1 = [.int .i64 a1] := h1
    have e2 : (cs.drop (0 + 1 + 1)).take 1 = [.int .i64 a2] := h2
    have e3 : (cs.drop (0 + 1 + 1 + 1)).take 1 = [.slice A a3.length c] := h3
    have e4 : cs.drop (0 + 1 + 1 + 1 + 1) = [] := List.drop_of_length_le (by omega)
    have := cut_cons cs 0 1
    rw [cut_cons cs (0 + 1) 1, cut_cons cs (0 + 1 + 1) 1, cut_cons cs (0 + 1 + 1 + 1) 1, e0, e1, e2, e3, e4, List.drop_zero] at this
    rw [this]
    simp [acells]
def kActs : KD Try.prog 39 (List AD) := kSlice kAct Try.underlying39 (by kernel_rfl) (of_decide_eq_true (by kernel_rfl))
abbrev ACs (w : World) (A : Option Addr) (l : List AD) : Prop := SlR 4 kAct.R w A l
theorem ACs.ext {w w' : World} {A : Option Addr} {l : List AD} (h : ACs w A l) (hx : Ext w w') : ACs w' A l := fun i hi => by
  obtain ⟨ad, ce, e1, e2, e3, e4⟩ := h i hi
  exact ⟨ad, ce, e1, e2, e3.ext hx, kAct.ext hx e4⟩
theorem ACs.get {w : World} {A : Option Addr} {l : List AD} (h : ACs w A l) {i : Nat} (hi : i < l.length) : ∃ ad A' c', A = some ad ∧ At w (ad.add (i * 4)) (acells l[i] (.slice A' (l[i]).B.length c')) ∧ AOk w l[i] A' c' := by
  obtain ⟨ad, ce, e1, e2, e3, A', c', e4, e5⟩ := h i hi
  subst e4
  exact ⟨ad, A', c', e1, e3, e5⟩
theorem und_As : Try.prog.underlying 39 = some (.slice 37) := Try.underlying39
theorem el_A : ElT Try.prog 37 4 := ⟨by kernel_rfl⟩
theorem agg_A : AggT Try.prog 37 4 (acells ⟨0, 0, 0, []⟩ (.slice none 0 0)) := ⟨⟨_, Try.underlying37, rfl⟩, by kernel_rfl, fun w => by kernel_rfl⟩
theorem fldo_A0 : FldO Try.prog 37 0 0 := ⟨fun w a => by kernel_rfl⟩
theorem fldo_A1 : FldO Try.prog 37 1 1 := ⟨fun w a => by kernel_rfl⟩
theorem fldo_A2 : FldO Try.prog 37 2 2 := ⟨fun w a => by kernel_rfl⟩
theorem fldo_A3 : FldO Try.prog 37 3 3 := ⟨fun w a => by kernel_rfl⟩
def asum (k : Nat) (l : List AD) : Nat := (l.map fun f => f.B.length + k).sum
theorem asum_take_succ {k : Nat} {l : List AD} {i : Nat} (h : i < l.length) : asum k (l.take (i + 1)) = asum k (l.take i) + ((l[i]).B.length + k) := by
  unfold asum; rw [List.take_succ_eq_append_getElem h, List.map_append, List.sum_append]; simp
theorem asum_take_le (k : Nat) (l : List AD) (i : Nat) : asum k (l.take i) ≤ asum k l := by
  have h := congrArg (fun l => asum k l) (List.take_append_drop i l)
  simp only [asum, List.map_append, List.sum_append] at h ⊢
  omega
theorem asum_len (k : Nat) (l : List AD) : k * l.length ≤ asum k l := by
  unfold asum
  induction l with
  | nil => simp
  | cons f l ih => simp only [List.map_cons, List.sum_cons, List.length_cons, Nat.mul_add]; omega
theorem asum_mem {k : Nat} {l : List AD} {i : Nat} (h : i < l.length) : (l[i]).B.length + k ≤ asum k l := by
  have h1 := asum_take_succ (k := k) h
  have h2 := asum_take_le k l (i + 1)
  omega
set_option maxHeartbeats 8000000 in
theorem great6_any (w : World) (A : Option Addr) (c : Nat) (l : List AD) (h : ACs w A l) (hl : l.length ≤ 140737488351232) : Calls Try.prog 22 #[.slice A l.length c] w (RetV w (.bool (decide (4000 < asum 20 l)))) := by
  refine calls_of_CW Try.func22 rfl (by simp [Try.ntmps22]) ?_
  rw [Try.ntmps22]
  refine go_DskA (k := ?_)
  refine CW_loop (fun e' w' => ∃ k : Nat, k ≤ l.length ∧ asum 20 (l.take k) ≤ 4000 ∧ e' 0 = .slice A l.length c ∧ e' 3 = .int .i64 (asum 20 (l.take k)) ∧ e' 4 = .int .i64 k ∧ w' = w) (fun e' _ => l.length - (intOf (e' 4)).toNat) ⟨0, Nat.zero_le _, Nat.zero_le _, rfl, rfl, rfl, rfl⟩ ?_
  rintro e' w' ⟨k, hk, hg, e0, e3, e4, rfl⟩
  rw [upd_self e0, upd_self e3, upd_self e4]
  refine go_DskA (k := ?_)
  refine CW_cond _ rfl (fun hh => ?_) (fun hh => ?_)
  · have hlt : k < l.length := by have := of_decide_eq_true hh; omega
    clear hh
    obtain ⟨ad, A', c', hA, hat, hok⟩ := h.get hlt
    subst hA
    have hs := asum_take_succ (k := 20) hlt
    have hcap := hok.small
    have hc2 : w'.cell? ((ad.add (k * 4)).add 3) = some (.slice A' (l[k]).B.length c') := hat 3 _ rfl
    refine go_DskA (k := ?_)
    refine CW_cond _ rfl (fun hh => ?_) (fun hh => ?_)
    · have h2 := of_decide_eq_true hh
      have h3 := asum_take_le 20 l (k + 1)
      refine go_DskA (k := ?_)
      exact bodyE_ret1 rfl (.bool (decide (4000 < asum 20 l))) (by rw [decide_eq_true (show 4000 < asum 20 l by omega)]; rfl) ⟨rfl, Ext.rfl' _⟩
    · have h2 := of_decide_eq_false hh
      clear hh
      refine go_DskA (k := ?_)
      refine ⟨⟨k + 1, by omega, by omega, rfl, ?_, rfl, rfl⟩, ?_⟩
      · show Value.int _ _ = _
        rw [hs]
        congr 1
      · show l.length - ((k : Int) + 1).toNat < l.length - (k : Int).toNat
        omega
  · have hge : k = l.length := by have := of_decide_eq_false hh; omega
    subst hge
    rw [List.take_of_length_le (Nat.le_refl _)] at hg
    refine go_DskA (k := ?_)
    exact bodyE_ret1 rfl (.bool (decide (4000 < asum 20 l))) (by rw [decide_eq_false (show ¬ 4000 < asum 20 l by omega)]; rfl) ⟨rfl, Ext.rfl' _⟩
end Go.Proofs.Ytnfeibbnjdegfaa
