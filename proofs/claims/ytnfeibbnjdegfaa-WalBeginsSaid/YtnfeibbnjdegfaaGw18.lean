/- Several texts in one, as they stand in wip/src. -/
import Derived.Test.YtnfeibbnjdegfaaGw16
import Derived.Test.YtnfeibbnjdegfaaGw17
/- Walks: the reference's disk, by the same states. -/
namespace Go.Proofs.Ytnfeibbnjdegfaa
open Go Go.RowKit
set_option linter.unusedVariables false
set_option maxRecDepth 4000
theorem go_DskR {A B : Prop} (h : Held B → A := by
  intro hEnd
  repeat (first | refine OW_nilCheck rfl ?_ | refine OW_fieldB fldo_E0 rfl ?_ | refine OW_fieldB fldo_E1 rfl ?_ | refine OW_fieldB fldo_E2 rfl ?_ | refine OW_fieldB fldo_E3 rfl ?_ | refine OW_lenS und_ints rfl ?_ | refine OW_moveV (.int _ _) rfl ?_ | refine OW_moveV (.slice _ _ _) rfl ?_ | refine OW_moveV (.bool _) rfl ?_ | refine OW_moveV (.pointer _) rfl ?_ | refine OW_moveV (.string _) rfl ?_ | refine OW_moveV (.agg _) rfl ?_ | refine OW_moveV (.tuple _) rfl ?_ | refine OW_nil ?_ | refine thenE_normal ?_ | refine CW_seq ?_ | refine CW_region (by kernel_rfl) ?_ | refine OW_assignV (.int _ _) rfl ?_ | refine OW_assignV (.slice _ _ _) rfl ?_ | refine OW_assignV (.bool _) rfl ?_ | refine OW_assignV (.pointer _) rfl ?_ | refine OW_assignV (.string _) rfl ?_ | refine OW_assignV (.agg _) rfl ?_ | refine OW_assignV (.tuple _) rfl ?_ | refine OW_addI rfl rfl (by omega) ?_ | refine OW_subI rfl rfl (by omega) ?_ | refine OW_mulI rfl rfl (by omega) ?_ | refine OW_lss rfl rfl ?_ | refine OW_extract rfl rfl ?_ | refine OW_gtr rfl rfl ?_ | refine OW_leq rfl rfl ?_ | refine OW_geq rfl rfl ?_ | refine OW_eql rfl rfl ?_ | refine OW_neq rfl rfl ?_ | refine OW_not rfl ?_ | refine OW_pickT rfl _ rfl ?_ | refine OW_pickF rfl (.bool _) rfl ?_ | refine OW_pickB rfl rfl rfl ?_ | refine OW_move ?_ | refine OW_assign ?_ | refine OW_pass rfl ?_ | refine OW_take rfl ?_ | refine OW_lenS (by first | with_reducible exact und_bytes | with_reducible exact und_bytess) rfl ?_ | refine OW_convInt (by first | with_reducible exact und_u8 | with_reducible exact und_u64 | with_reducible exact und_int | with_reducible exact und_u32) (by first | with_reducible exact und_u8 | with_reducible exact und_u64 | with_reducible exact und_int | with_reducible exact und_u32) rfl ?_ | refine OW_add rfl rfl ?_ | refine OW_sub rfl rfl ?_ | refine OW_mul rfl rfl ?_ | refine OW_min2 rfl rfl ?_ | refine OW_max2 rfl rfl ?_ | refine OW_neg rfl ?_ | refine CW_block ?_ | refine CW_condT rfl ?_ | refine CW_condF rfl ?_ | refine CW_exit ?_ | refine CW_ret ?_ | refine CW_skip ?_ | refine LW_seq ?_ | refine LW_regC ?_ | refine LW_condC ?_ | refine LW_regF ?_ | refine LW_condF ?_ | refine FW_seq ?_ | refine FW_region (by kernel_rfl) ?_ | refine FW_block ?_ | refine FW_condT rfl ?_ | refine FW_condF rfl ?_ | refine FW_exit ?_ | refine FW_ret ?_ | refine FW_skip ?_ | refine LW_ret ?_ | refine LW_skip ?_ | refine thenE_exit ?_ | refine thenE_ret ?_ | refine inBlockE_normal ?_ | refine inBlockE_same ?_ | refine inBlockE_ret ?_ | refine inBlockE_ne (by rfl) ?_ | refine OW_eqlB (by with_reducible exact und_bool) rfl rfl ?_ | refine OW_neqB (by with_reducible exact und_bool) rfl rfl ?_ | refine OW_idxS (by with_reducible exact und_bytes) one_u8 rfl rfl _ rfl (by omega) ?_ | refine OW_idxS (by with_reducible exact und_bytess) one_bytes rfl rfl _ rfl (by omega) ?_ | refine OW_load1 (by first | with_reducible exact one_u8 | with_reducible exact one_bytes) rfl _ (by assumption) ?_ | (refine OW_isLoad ?_; refine OW_loadBk s_bool rfl (by assumption) _ rfl ?_) | (refine OW_isLoad ?_; refine OW_loadBk s_int rfl (by assumption) _ rfl ?_) | (refine OW_isLoad ?_; refine OW_loadBk one_bytes rfl (by assumption) _ rfl ?_) | (refine OW_isLoad ?_; refine OW_loadBk one_ints rfl (by assumption) _ rfl ?_) | refine OW_idxS und_ints s_int rfl rfl _ rfl (by omega) ?_)
  exact hEnd.out) (k : B) : A := h ⟨k⟩
theorem oy_DskR {A B : Prop} (h : Held B → A := by
  intro hEnd
  repeat (first
    | refine OY_done ?_
    | (apply OY_p _ rfl
       · intro wd
         (first | refine OW_nilCheck rfl ?_ | refine OW_fieldB fldo_E0 rfl ?_ | refine OW_fieldB fldo_E1 rfl ?_ | refine OW_fieldB fldo_E2 rfl ?_ | refine OW_fieldB fldo_E3 rfl ?_ | refine OW_lenS und_ints rfl ?_ | refine OW_moveV (.int _ _) rfl ?_ | refine OW_moveV (.slice _ _ _) rfl ?_ | refine OW_moveV (.bool _) rfl ?_ | refine OW_moveV (.pointer _) rfl ?_ | refine OW_moveV (.string _) rfl ?_ | refine OW_moveV (.agg _) rfl ?_ | refine OW_moveV (.tuple _) rfl ?_ | refine OW_nil ?_ | refine thenE_normal ?_ | refine CW_seq ?_ | refine CW_region (by kernel_rfl) ?_ | refine OW_assignV (.int _ _) rfl ?_ | refine OW_assignV (.slice _ _ _) rfl ?_ | refine OW_assignV (.bool _) rfl ?_ | refine OW_assignV (.pointer _) rfl ?_ | refine OW_assignV (.string _) rfl ?_ | refine OW_assignV (.agg _) rfl ?_ | refine OW_assignV (.tuple _) rfl ?_ | refine OW_addI rfl rfl (by omega) ?_ | refine OW_subI rfl rfl (by omega) ?_ | refine OW_mulI rfl rfl (by omega) ?_ | refine OW_lss rfl rfl ?_ | refine OW_extract rfl rfl ?_ | refine OW_gtr rfl rfl ?_ | refine OW_leq rfl rfl ?_ | refine OW_geq rfl rfl ?_ | refine OW_eql rfl rfl ?_ | refine OW_neq rfl rfl ?_ | refine OW_not rfl ?_ | refine OW_pickT rfl _ rfl ?_ | refine OW_pickF rfl (.bool _) rfl ?_ | refine OW_pickB rfl rfl rfl ?_ | refine OW_move ?_ | refine OW_assign ?_ | refine OW_pass rfl ?_ | refine OW_take rfl ?_ | refine OW_lenS (by first | with_reducible exact und_bytes | with_reducible exact und_bytess) rfl ?_ | refine OW_convInt (by first | with_reducible exact und_u8 | with_reducible exact und_u64 | with_reducible exact und_int | with_reducible exact und_u32) (by first | with_reducible exact und_u8 | with_reducible exact und_u64 | with_reducible exact und_int | with_reducible exact und_u32) rfl ?_ | refine OW_add rfl rfl ?_ | refine OW_sub rfl rfl ?_ | refine OW_mul rfl rfl ?_ | refine OW_min2 rfl rfl ?_ | refine OW_max2 rfl rfl ?_ | refine OW_neg rfl ?_ | refine CW_block ?_ | refine CW_condT rfl ?_ | refine CW_condF rfl ?_ | refine CW_exit ?_ | refine CW_ret ?_ | refine CW_skip ?_ | refine LW_seq ?_ | refine LW_regC ?_ | refine LW_condC ?_ | refine LW_regF ?_ | refine LW_condF ?_ | refine FW_seq ?_ | refine FW_region (by kernel_rfl) ?_ | refine FW_block ?_ | refine FW_condT rfl ?_ | refine FW_condF rfl ?_ | refine FW_exit ?_ | refine FW_ret ?_ | refine FW_skip ?_ | refine LW_ret ?_ | refine LW_skip ?_ | refine thenE_exit ?_ | refine thenE_ret ?_ | refine inBlockE_normal ?_ | refine inBlockE_same ?_ | refine inBlockE_ret ?_ | refine inBlockE_ne (by rfl) ?_ | refine OW_eqlB (by with_reducible exact und_bool) rfl rfl ?_ | refine OW_neqB (by with_reducible exact und_bool) rfl rfl ?_ | refine OW_idxS (by with_reducible exact und_bytes) one_u8 rfl rfl _ rfl (by omega) ?_ | refine OW_idxS (by with_reducible exact und_bytess) one_bytes rfl rfl _ rfl (by omega) ?_ | refine OW_load1 (by first | with_reducible exact one_u8 | with_reducible exact one_bytes) rfl _ (by assumption) ?_ | (refine OW_isLoad ?_; refine OW_loadBk s_bool rfl (by assumption) _ rfl ?_) | (refine OW_isLoad ?_; refine OW_loadBk s_int rfl (by assumption) _ rfl ?_) | (refine OW_isLoad ?_; refine OW_loadBk one_bytes rfl (by assumption) _ rfl ?_) | (refine OW_isLoad ?_; refine OW_loadBk one_ints rfl (by assumption) _ rfl ?_) | refine OW_idxS und_ints s_int rfl rfl _ rfl (by omega) ?_)
         refine OW_nil ?_
         exact stay_mk _ _ _ _)
    | (apply OY_q _ rfl
       · intro wd hwd
         (first | refine OW_nilCheck rfl ?_ | refine OW_fieldB fldo_E0 rfl ?_ | refine OW_fieldB fldo_E1 rfl ?_ | refine OW_fieldB fldo_E2 rfl ?_ | refine OW_fieldB fldo_E3 rfl ?_ | refine OW_lenS und_ints rfl ?_ | refine OW_moveV (.int _ _) rfl ?_ | refine OW_moveV (.slice _ _ _) rfl ?_ | refine OW_moveV (.bool _) rfl ?_ | refine OW_moveV (.pointer _) rfl ?_ | refine OW_moveV (.string _) rfl ?_ | refine OW_moveV (.agg _) rfl ?_ | refine OW_moveV (.tuple _) rfl ?_ | refine OW_nil ?_ | refine thenE_normal ?_ | refine CW_seq ?_ | refine CW_region (by kernel_rfl) ?_ | refine OW_assignV (.int _ _) rfl ?_ | refine OW_assignV (.slice _ _ _) rfl ?_ | refine OW_assignV (.bool _) rfl ?_ | refine OW_assignV (.pointer _) rfl ?_ | refine OW_assignV (.string _) rfl ?_ | refine OW_assignV (.agg _) rfl ?_ | refine OW_assignV (.tuple _) rfl ?_ | refine OW_addI rfl rfl (by omega) ?_ | refine OW_subI rfl rfl (by omega) ?_ | refine OW_mulI rfl rfl (by omega) ?_ | refine OW_lss rfl rfl ?_ | refine OW_extract rfl rfl ?_ | refine OW_gtr rfl rfl ?_ | refine OW_leq rfl rfl ?_ | refine OW_geq rfl rfl ?_ | refine OW_eql rfl rfl ?_ | refine OW_neq rfl rfl ?_ | refine OW_not rfl ?_ | refine OW_pickT rfl _ rfl ?_ | refine OW_pickF rfl (.bool _) rfl ?_ | refine OW_pickB rfl rfl rfl ?_ | refine OW_move ?_ | refine OW_assign ?_ | refine OW_pass rfl ?_ | refine OW_take rfl ?_ | refine OW_lenS (by first | with_reducible exact und_bytes | with_reducible exact und_bytess) rfl ?_ | refine OW_convInt (by first | with_reducible exact und_u8 | with_reducible exact und_u64 | with_reducible exact und_int | with_reducible exact und_u32) (by first | with_reducible exact und_u8 | with_reducible exact und_u64 | with_reducible exact und_int | with_reducible exact und_u32) rfl ?_ | refine OW_add rfl rfl ?_ | refine OW_sub rfl rfl ?_ | refine OW_mul rfl rfl ?_ | refine OW_min2 rfl rfl ?_ | refine OW_max2 rfl rfl ?_ | refine OW_neg rfl ?_ | refine CW_block ?_ | refine CW_condT rfl ?_ | refine CW_condF rfl ?_ | refine CW_exit ?_ | refine CW_ret ?_ | refine CW_skip ?_ | refine LW_seq ?_ | refine LW_regC ?_ | refine LW_condC ?_ | refine LW_regF ?_ | refine LW_condF ?_ | refine FW_seq ?_ | refine FW_region (by kernel_rfl) ?_ | refine FW_block ?_ | refine FW_condT rfl ?_ | refine FW_condF rfl ?_ | refine FW_exit ?_ | refine FW_ret ?_ | refine FW_skip ?_ | refine LW_ret ?_ | refine LW_skip ?_ | refine thenE_exit ?_ | refine thenE_ret ?_ | refine inBlockE_normal ?_ | refine inBlockE_same ?_ | refine inBlockE_ret ?_ | refine inBlockE_ne (by rfl) ?_ | refine OW_eqlB (by with_reducible exact und_bool) rfl rfl ?_ | refine OW_neqB (by with_reducible exact und_bool) rfl rfl ?_ | refine OW_idxS (by with_reducible exact und_bytes) one_u8 rfl rfl _ rfl (by omega) ?_ | refine OW_idxS (by with_reducible exact und_bytess) one_bytes rfl rfl _ rfl (by omega) ?_ | refine OW_load1 (by first | with_reducible exact one_u8 | with_reducible exact one_bytes) rfl _ (by assumption) ?_ | (refine OW_isLoad ?_; refine OW_loadBk s_bool rfl (by assumption) _ rfl ?_) | (refine OW_isLoad ?_; refine OW_loadBk s_int rfl (by assumption) _ rfl ?_) | (refine OW_isLoad ?_; refine OW_loadBk one_bytes rfl (by assumption) _ rfl ?_) | (refine OW_isLoad ?_; refine OW_loadBk one_ints rfl (by assumption) _ rfl ?_) | refine OW_idxS und_ints s_int rfl rfl _ rfl (by omega) ?_ | (refine OW_isLoad ?_; refine OW_loadBk (by first | with_reducible exact one_u8 | with_reducible exact one_bytes | with_reducible exact one_bool | with_reducible exact one_int | with_reducible exact one_errno | with_reducible exact one_u32 | with_reducible exact one_u64 | with_reducible exact one_string | with_reducible exact s_int | with_reducible exact s_bool | with_reducible exact one_ints) rfl (by apply_assumption; assumption) _ (by first | assumption | rfl) ?_) | refine OW_load1 (by first | with_reducible exact one_u8 | with_reducible exact one_bytes | with_reducible exact one_bool | with_reducible exact one_int | with_reducible exact one_errno | with_reducible exact one_u32 | with_reducible exact one_u64 | with_reducible exact one_string | with_reducible exact s_int | with_reducible exact s_bool | with_reducible exact one_ints) rfl _ (by apply_assumption; assumption) ?_)
         refine OW_nil ?_
         exact stay_mk _ _ _ _)
    | refine OY_ppass rfl rfl ?_
    | refine OY_qpass rfl rfl ?_
    | (apply OY_ptake _ rfl rfl
       · intro wd
         (first | refine OW_nilCheck rfl ?_ | refine OW_fieldB fldo_E0 rfl ?_ | refine OW_fieldB fldo_E1 rfl ?_ | refine OW_fieldB fldo_E2 rfl ?_ | refine OW_fieldB fldo_E3 rfl ?_ | refine OW_lenS und_ints rfl ?_ | refine OW_moveV (.int _ _) rfl ?_ | refine OW_moveV (.slice _ _ _) rfl ?_ | refine OW_moveV (.bool _) rfl ?_ | refine OW_moveV (.pointer _) rfl ?_ | refine OW_moveV (.string _) rfl ?_ | refine OW_moveV (.agg _) rfl ?_ | refine OW_moveV (.tuple _) rfl ?_ | refine OW_nil ?_ | refine thenE_normal ?_ | refine CW_seq ?_ | refine CW_region (by kernel_rfl) ?_ | refine OW_assignV (.int _ _) rfl ?_ | refine OW_assignV (.slice _ _ _) rfl ?_ | refine OW_assignV (.bool _) rfl ?_ | refine OW_assignV (.pointer _) rfl ?_ | refine OW_assignV (.string _) rfl ?_ | refine OW_assignV (.agg _) rfl ?_ | refine OW_assignV (.tuple _) rfl ?_ | refine OW_addI rfl rfl (by omega) ?_ | refine OW_subI rfl rfl (by omega) ?_ | refine OW_mulI rfl rfl (by omega) ?_ | refine OW_lss rfl rfl ?_ | refine OW_extract rfl rfl ?_ | refine OW_gtr rfl rfl ?_ | refine OW_leq rfl rfl ?_ | refine OW_geq rfl rfl ?_ | refine OW_eql rfl rfl ?_ | refine OW_neq rfl rfl ?_ | refine OW_not rfl ?_ | refine OW_pickT rfl _ rfl ?_ | refine OW_pickF rfl (.bool _) rfl ?_ | refine OW_pickB rfl rfl rfl ?_ | refine OW_move ?_ | refine OW_assign ?_ | refine OW_pass rfl ?_ | refine OW_take rfl ?_ | refine OW_lenS (by first | with_reducible exact und_bytes | with_reducible exact und_bytess) rfl ?_ | refine OW_convInt (by first | with_reducible exact und_u8 | with_reducible exact und_u64 | with_reducible exact und_int | with_reducible exact und_u32) (by first | with_reducible exact und_u8 | with_reducible exact und_u64 | with_reducible exact und_int | with_reducible exact und_u32) rfl ?_ | refine OW_add rfl rfl ?_ | refine OW_sub rfl rfl ?_ | refine OW_mul rfl rfl ?_ | refine OW_min2 rfl rfl ?_ | refine OW_max2 rfl rfl ?_ | refine OW_neg rfl ?_ | refine CW_block ?_ | refine CW_condT rfl ?_ | refine CW_condF rfl ?_ | refine CW_exit ?_ | refine CW_ret ?_ | refine CW_skip ?_ | refine LW_seq ?_ | refine LW_regC ?_ | refine LW_condC ?_ | refine LW_regF ?_ | refine LW_condF ?_ | refine FW_seq ?_ | refine FW_region (by kernel_rfl) ?_ | refine FW_block ?_ | refine FW_condT rfl ?_ | refine FW_condF rfl ?_ | refine FW_exit ?_ | refine FW_ret ?_ | refine FW_skip ?_ | refine LW_ret ?_ | refine LW_skip ?_ | refine thenE_exit ?_ | refine thenE_ret ?_ | refine inBlockE_normal ?_ | refine inBlockE_same ?_ | refine inBlockE_ret ?_ | refine inBlockE_ne (by rfl) ?_ | refine OW_eqlB (by with_reducible exact und_bool) rfl rfl ?_ | refine OW_neqB (by with_reducible exact und_bool) rfl rfl ?_ | refine OW_idxS (by with_reducible exact und_bytes) one_u8 rfl rfl _ rfl (by omega) ?_ | refine OW_idxS (by with_reducible exact und_bytess) one_bytes rfl rfl _ rfl (by omega) ?_ | refine OW_load1 (by first | with_reducible exact one_u8 | with_reducible exact one_bytes) rfl _ (by assumption) ?_ | (refine OW_isLoad ?_; refine OW_loadBk s_bool rfl (by assumption) _ rfl ?_) | (refine OW_isLoad ?_; refine OW_loadBk s_int rfl (by assumption) _ rfl ?_) | (refine OW_isLoad ?_; refine OW_loadBk one_bytes rfl (by assumption) _ rfl ?_) | (refine OW_isLoad ?_; refine OW_loadBk one_ints rfl (by assumption) _ rfl ?_) | refine OW_idxS und_ints s_int rfl rfl _ rfl (by omega) ?_)
         refine OW_nil ?_
         exact stay_mk _ _ _ _)
    | (apply OY_qtake _ rfl rfl
       · intro wd hwd
         (first | refine OW_nilCheck rfl ?_ | refine OW_fieldB fldo_E0 rfl ?_ | refine OW_fieldB fldo_E1 rfl ?_ | refine OW_fieldB fldo_E2 rfl ?_ | refine OW_fieldB fldo_E3 rfl ?_ | refine OW_lenS und_ints rfl ?_ | refine OW_moveV (.int _ _) rfl ?_ | refine OW_moveV (.slice _ _ _) rfl ?_ | refine OW_moveV (.bool _) rfl ?_ | refine OW_moveV (.pointer _) rfl ?_ | refine OW_moveV (.string _) rfl ?_ | refine OW_moveV (.agg _) rfl ?_ | refine OW_moveV (.tuple _) rfl ?_ | refine OW_nil ?_ | refine thenE_normal ?_ | refine CW_seq ?_ | refine CW_region (by kernel_rfl) ?_ | refine OW_assignV (.int _ _) rfl ?_ | refine OW_assignV (.slice _ _ _) rfl ?_ | refine OW_assignV (.bool _) rfl ?_ | refine OW_assignV (.pointer _) rfl ?_ | refine OW_assignV (.string _) rfl ?_ | refine OW_assignV (.agg _) rfl ?_ | refine OW_assignV (.tuple _) rfl ?_ | refine OW_addI rfl rfl (by omega) ?_ | refine OW_subI rfl rfl (by omega) ?_ | refine OW_mulI rfl rfl (by omega) ?_ | refine OW_lss rfl rfl ?_ | refine OW_extract rfl rfl ?_ | refine OW_gtr rfl rfl ?_ | refine OW_leq rfl rfl ?_ | refine OW_geq rfl rfl ?_ | refine OW_eql rfl rfl ?_ | refine OW_neq rfl rfl ?_ | refine OW_not rfl ?_ | refine OW_pickT rfl _ rfl ?_ | refine OW_pickF rfl (.bool _) rfl ?_ | refine OW_pickB rfl rfl rfl ?_ | refine OW_move ?_ | refine OW_assign ?_ | refine OW_pass rfl ?_ | refine OW_take rfl ?_ | refine OW_lenS (by first | with_reducible exact und_bytes | with_reducible exact und_bytess) rfl ?_ | refine OW_convInt (by first | with_reducible exact und_u8 | with_reducible exact und_u64 | with_reducible exact und_int | with_reducible exact und_u32) (by first | with_reducible exact und_u8 | with_reducible exact und_u64 | with_reducible exact und_int | with_reducible exact und_u32) rfl ?_ | refine OW_add rfl rfl ?_ | refine OW_sub rfl rfl ?_ | refine OW_mul rfl rfl ?_ | refine OW_min2 rfl rfl ?_ | refine OW_max2 rfl rfl ?_ | refine OW_neg rfl ?_ | refine CW_block ?_ | refine CW_condT rfl ?_ | refine CW_condF rfl ?_ | refine CW_exit ?_ | refine CW_ret ?_ | refine CW_skip ?_ | refine LW_seq ?_ | refine LW_regC ?_ | refine LW_condC ?_ | refine LW_regF ?_ | refine LW_condF ?_ | refine FW_seq ?_ | refine FW_region (by kernel_rfl) ?_ | refine FW_block ?_ | refine FW_condT rfl ?_ | refine FW_condF rfl ?_ | refine FW_exit ?_ | refine FW_ret ?_ | refine FW_skip ?_ | refine LW_ret ?_ | refine LW_skip ?_ | refine thenE_exit ?_ | refine thenE_ret ?_ | refine inBlockE_normal ?_ | refine inBlockE_same ?_ | refine inBlockE_ret ?_ | refine inBlockE_ne (by rfl) ?_ | refine OW_eqlB (by with_reducible exact und_bool) rfl rfl ?_ | refine OW_neqB (by with_reducible exact und_bool) rfl rfl ?_ | refine OW_idxS (by with_reducible exact und_bytes) one_u8 rfl rfl _ rfl (by omega) ?_ | refine OW_idxS (by with_reducible exact und_bytess) one_bytes rfl rfl _ rfl (by omega) ?_ | refine OW_load1 (by first | with_reducible exact one_u8 | with_reducible exact one_bytes) rfl _ (by assumption) ?_ | (refine OW_isLoad ?_; refine OW_loadBk s_bool rfl (by assumption) _ rfl ?_) | (refine OW_isLoad ?_; refine OW_loadBk s_int rfl (by assumption) _ rfl ?_) | (refine OW_isLoad ?_; refine OW_loadBk one_bytes rfl (by assumption) _ rfl ?_) | (refine OW_isLoad ?_; refine OW_loadBk one_ints rfl (by assumption) _ rfl ?_) | refine OW_idxS und_ints s_int rfl rfl _ rfl (by omega) ?_ | (refine OW_isLoad ?_; refine OW_loadBk (by first | with_reducible exact one_u8 | with_reducible exact one_bytes | with_reducible exact one_bool | with_reducible exact one_int | with_reducible exact one_errno | with_reducible exact one_u32 | with_reducible exact one_u64 | with_reducible exact one_string | with_reducible exact s_int | with_reducible exact s_bool | with_reducible exact one_ints) rfl (by apply_assumption; assumption) _ (by first | assumption | rfl) ?_) | refine OW_load1 (by first | with_reducible exact one_u8 | with_reducible exact one_bytes | with_reducible exact one_bool | with_reducible exact one_int | with_reducible exact one_errno | with_reducible exact one_u32 | with_reducible exact one_u64 | with_reducible exact one_string | with_reducible exact s_int | with_reducible exact s_bool | with_reducible exact one_ints) rfl _ (by apply_assumption; assumption) ?_)
         refine OW_nil ?_
         exact stay_mk _ _ _ _)
    | refine OY_a (actY_of rfl ?_)
    | refine OY_d (actY_of rfl ?_)
    | refine OY_a (actY_pass rfl rfl ?_)
    | refine OY_d (actY_pass rfl rfl ?_)
    | refine OY_a (actY_take rfl rfl ?_)
    | refine OY_d (actY_take rfl rfl ?_))
  exact hEnd.out) (k : B) : A := h ⟨k⟩
theorem fldo_E0 : FldO Try.prog 50 0 0 := ⟨fun w a => by kernel_rfl⟩
theorem fldo_E1 : FldO Try.prog 50 1 1 := ⟨fun w a => by kernel_rfl⟩
theorem fldo_E2 : FldO Try.prog 50 2 2 := ⟨fun w a => by kernel_rfl⟩
theorem fldo_E3 : FldO Try.prog 50 3 3 := ⟨fun w a => by kernel_rfl⟩
theorem one_ints : OneT Try.prog 48 := ⟨.slice none 0 0, 24, by kernel_rfl, rfl, by kernel_rfl⟩
theorem info_int : (Try.prog.info? 3).map (fun i => (i.zero, i.size, i.bytes)) = some (some (.int .i64 0), 1, 8) := by kernel_rfl
theorem bld_E : ∀ w, (Instr.build 50 [].toArray).run Try.prog w = .ok (.agg #[.slice none 0 0, .int .i64 0, .slice none 0 0, .bool false]) w := fun w => by kernel_rfl
/-- The reference's disk, at block g; its blocks lie in S. -/
structure ER (w : World) (g : Nat) (S : Nat → Prop) (d : DS) : Prop where
  in_ : S g
  at_ : ∃ (A : Option Addr) (c : Nat) (E : Option Addr) (cE : Nat), Blk w g 50 #[.slice A d.all.length c, .int .i64 d.s.length, .slice E d.ws.length cE, .bool (!d.up)] ∧ (Bs w A d.all ∧ d.all.length ≤ c ∧ dFar S g E A d.all) ∧
    (w.ownsRow 0 3 1 (.slice E d.ws.length cE) d.ws.length ((dEnds d).map iv) ∧ ∀ ad, E = some ad → S ad.block ∧ ad.block ≠ g)
  bd : ∀ k, S k → k < w.heap.size
theorem ER.keeps {w w' : World} {g : Nat} {S X : Nat → Prop} {d : DS} (h : ER w g S d) (hk : Keeps w w' X) (hn : ∀ k, S k → ¬ X k) : ER w' g S d := by
  obtain ⟨A, c, E, cE, h1, ⟨h2, h3, h4⟩, ⟨h5, h6⟩⟩ := h.at_
  exact ⟨h.in_, ⟨A, c, E, cE, h1.keeps hk (hn g h.in_), ⟨h2.far h4 hk (fun k hs _ => hn k hs), h3, h4⟩, ⟨own_keeps h5 hk (fun ad ha => hn _ (h6 ad ha).1), h6⟩⟩, fun k hk2 => Nat.lt_of_lt_of_le (h.bd k hk2) hk.size⟩
theorem ER.ext {w w' : World} {g : Nat} {S : Nat → Prop} {d : DS} (h : ER w g S d) (hx : Ext w w') : ER w' g S d :=
  h.keeps (Keeps.of_ext hx (fun _ => False)) (fun _ _ h => h)
theorem ER.mono {w : World} {g : Nat} {S S' : Nat → Prop} {d : DS} (h : ER w g S d) (hs : ∀ k, S k → S' k) (hb : ∀ k, S' k → k < w.heap.size) : ER w g S' d := by
  obtain ⟨A, c, E, cE, h1, ⟨h2, h3, h4⟩, ⟨h5, h6⟩⟩ := h.at_
  exact ⟨hs g h.in_, ⟨A, c, E, cE, h1, ⟨h2, h3, h4.mono hs⟩, ⟨h5, fun ad ha => ⟨hs _ (h6 ad ha).1, (h6 ad ha).2⟩⟩⟩, hb⟩
def EP (w : World) (g : Nat) (S : Nat → Prop) (x : Int × DS) : Ending → World → Prop := fun en w' => en = .returned (.int .i64 x.1) ∧ ER w' g (more S w w') x.2 ∧ Keeps w w' S
theorem EP.stay {w w' : World} {g : Nat} {S : Nat → Prop} {d : DS} (h : ER w g S d) (hx : Ext w w') (n : Int) : EP w g S (n, d) (.returned (.int .i64 n)) w' :=
  ⟨rfl, (h.ext hx).mono (fun k hk => .inl hk) (more_lt h.bd hx.size), Keeps.of_ext hx S⟩
/-- A disk of which all is synced, of fresh bytes. -/
theorem ER.settled {w w1 w2 : World} {g : Nat} {S : Nat → Prop} {d : DS} {A : Option Addr} {c : Nat} {u : Bool} {l : List UInt8} (h : ER w g S d) (hx : Ext w w1) (hf : FreB w1 w.heap.size A l) (hc : l.length ≤ c) (hg : w1.grownBy w2 (some g))
    (hB : Blk w2 g 50 #[.slice A l.length c, .int .i64 l.length, .slice none 0 0, .bool (!u)]) : ER w2 g (more S w w2) ⟨u, l, []⟩ ∧ Keeps w w2 S := by
  have hk : Keeps w1 w2 S := Keeps.of_only hg h.in_
  have lg := h.bd g h.in_
  have hal : DS.all ⟨u, l, []⟩ = l := List.append_nil l
  refine ⟨⟨.inl h.in_, ⟨A, c, none, 0, by rw [hal]; exact hB, ?_, ⟨World.ownsRow_nil _ _ _ _, fun ad h => (by cases h)⟩⟩, more_lt h.bd (by have := hx.size; have := hk.size; omega)⟩, (Keeps.of_ext hx S).trans' hk⟩
  rw [hal]
  refine ⟨?_, hc, fun ad ha hl => ?_⟩
  · by_cases hl : l = []
    · subst hl; exact Bs.nil _ _
    · refine hf.bs.keeps (Keeps.of_only hg (S := (· = g)) rfl) (fun ad ha hh => ?_)
      obtain ⟨g', rfl, h1, h2⟩ := hf.at_ ad ha hl
      have hh : g' = g := hh
      omega
  · obtain ⟨g', rfl, h1, h2⟩ := hf.at_ ad ha hl
    refine ⟨.inr ⟨h1, Nat.lt_of_lt_of_le h2 hk.size⟩, fun hh => ?_⟩
    rcases hh with hh | ⟨ad, ha2, _⟩
    · have hh : g' = g := hh
      omega
    · cases ha2
/-- The same cells of one block, turned. -/
theorem ER.upped {w w2 : World} {g : Nat} {S : Nat → Prop} {d d2 : DS} (h : ER w g S d) (hst : ∀ A c E cE, Blk w g 50 #[.slice A d.all.length c, .int .i64 d.s.length, .slice E d.ws.length cE, .bool (!d.up)] → Bs w A d.all → ∃ E2 cE2, (E2 = E ∧ cE2 = cE ∧ d2.ws = d.ws ∧ d2.s = d.s ∨ E2 = none ∧ cE2 = 0 ∧ d2.ws = []) ∧ Blk w2 g 50 #[.slice A d2.all.length c, .int .i64 d2.s.length, .slice E2 d2.ws.length cE2, .bool (!d2.up)])
    (hall : d2.all = d.all) (hg : w.grownBy w2 (some g)) : ER w2 g (more S w w2) d2 ∧ Keeps w w2 S := by
  obtain ⟨A, c, E, cE, hB, ⟨h1, h1c, h1f⟩, ⟨h2, h2f⟩⟩ := h.at_
  obtain ⟨E2, cE2, hE, hB2⟩ := hst A c E cE hB h1
  have hKg : Keeps w w2 (· = g) := Keeps.of_only hg rfl
  have hKS : Keeps w w2 S := hKg.mono fun k _ hk => hk ▸ h.in_
  have hn : ∀ k, S k → ¬ dRow g E k → ¬ k = g := fun k _ h hk => h (.inl hk)
  have hfar : dFar (more S w w2) g E2 A d.all := fun ad ha hl => by
    obtain ⟨f1, f2⟩ := h1f ad ha hl
    refine ⟨.inl f1, fun hh => ?_⟩
    rcases hE with ⟨rfl, _⟩ | ⟨rfl, _⟩
    · exact f2 hh
    · rcases hh with hh | ⟨ad2, ha2, _⟩
      · exact f2 (.inl hh)
      · cases ha2
  refine ⟨⟨.inl h.in_, ⟨A, c, E2, cE2, hB2, ?_, ?_⟩, more_lt h.bd hKS.size⟩, hKS⟩
  · rw [hall]
    exact ⟨h1.far h1f hKg hn, h1c, hfar⟩
  · rcases hE with ⟨rfl, rfl, hw, hs⟩ | ⟨rfl, rfl, hw⟩
    · have hd : dEnds d2 = dEnds d := by unfold dEnds; rw [hw, hs]
      rw [hw, hd]
      exact ⟨own_keeps h2 hKg (fun ad ha => (h2f ad ha).2), fun ad ha => ⟨.inl (h2f ad ha).1, (h2f ad ha).2⟩⟩
    · have hd : dEnds d2 = [] := by unfold dEnds; rw [hw]; rfl
      rw [hw, hd]
      exact ⟨World.ownsRow_nil _ _ _ _, fun ad h => (by cases h)⟩
set_option maxHeartbeats 8000000 in
theorem eSync_any (w : World) (g : Nat) (S : Nat → Prop) (d : DS) (h : ER w g S d) :
    Calls Try.prog 59 #[.pointer (some ⟨g, 0, none⟩)] w (EP w g S (dSync d)) := by
  obtain ⟨A, c, E, cE, hB, ⟨h1, h1c, h1f⟩, ⟨h2, h2f⟩⟩ := h.at_
  obtain ⟨u, hu⟩ : ∃ u, d.up = u := ⟨_, rfl⟩
  rw [hu] at hB
  refine calls_of_CW Try.func59 rfl (by simp [Try.ntmps59]) ?_
  rw [Try.ntmps59]
  refine go_DskR (k := ?_)
  cases u with
  | false =>
    rw [show dSync d = (60, d) by unfold dSync; rw [if_neg (by rw [hu]; decide)]]
    refine go_DskR (k := ?_)
    exact bodyE_ret1 rfl (.int .i64 60) rfl (EP.stay h (Ext.rfl' w) 60)
  | true =>
    rw [show dSync d = (0, ⟨true, d.all, []⟩) by unfold dSync; rw [if_pos hu]]
    refine go_DskR (k := ?_)
    refine OW_storeB s_int rfl (.int .i64 d.all.length) rfl rfl hB (by show 1 < 4; decide) ?_
    intro w1 hb1 hg1
    have hb1 : Blk w1 g 50 #[.slice A d.all.length c, .int .i64 d.all.length, .slice E d.ws.length cE, .bool (!true)] := hb1
    refine go_DskR (k := ?_)
    refine OW_storeB one_ints rfl (.slice none 0 0) rfl rfl hb1 (by show 2 < 4; decide) ?_
    intro w2 hb2 hg2
    have hg02 := grown_trans' hg1 hg2
    obtain ⟨hR, hK⟩ := h.upped (d2 := ⟨true, d.all, []⟩) (fun A' c' E' cE' hB' _ => by
      have := hB'.symm.trans hB
      injection this with this
      injection this with this
      have h0 := congrArg (fun l => l[0]?) this
      simp at h0
      obtain ⟨rfl, rfl⟩ := h0
      refine ⟨none, 0, .inr ⟨rfl, rfl, rfl⟩, ?_⟩
      rw [show DS.all ⟨true, d.all, []⟩ = d.all from List.append_nil _]
      exact hb2) (List.append_nil _) hg02
    refine go_DskR (k := ?_)
    exact bodyE_ret1 rfl (.int .i64 0) rfl ⟨rfl, hR, hK⟩
set_option maxHeartbeats 8000000 in
theorem eStart_any (w : World) (g : Nat) (S : Nat → Prop) (d : DS) (h : ER w g S d) :
    Calls Try.prog 61 #[.pointer (some ⟨g, 0, none⟩)] w (EP w g S (dStart d)) := by
  obtain ⟨A, c, E, cE, hB, ⟨h1, h1c, h1f⟩, ⟨h2, h2f⟩⟩ := h.at_
  obtain ⟨u, hu⟩ : ∃ u, d.up = u := ⟨_, rfl⟩
  rw [hu] at hB
  refine calls_of_CW Try.func61 rfl (by simp [Try.ntmps61]) ?_
  rw [Try.ntmps61]
  refine go_DskR (k := ?_)
  cases u with
  | true =>
    rw [show dStart d = (2, d) by unfold dStart; rw [if_pos hu]]
    refine go_DskR (k := ?_)
    exact bodyE_ret1 rfl (.int .i64 2) rfl (EP.stay h (Ext.rfl' w) 2)
  | false =>
    rw [show dStart d = (0, ⟨true, d.s, d.ws⟩) by unfold dStart; rw [if_neg (by rw [hu]; decide)]]
    refine go_DskR (k := ?_)
    refine OW_storeB s_bool rfl (.bool false) rfl rfl hB (by show 3 < 4; decide) ?_
    intro w1 hb1 hg1
    obtain ⟨hR, hK⟩ := h.upped (d2 := ⟨true, d.s, d.ws⟩) (fun A' c' E' cE' hB' _ => by
      have := hB'.symm.trans hB
      injection this with this
      injection this with this
      have h0 := congrArg (fun l => l[0]?) this
      have h2 := congrArg (fun l => l[2]?) this
      simp at h0 h2
      obtain ⟨rfl, rfl⟩ := h0
      obtain ⟨rfl, rfl⟩ := h2
      exact ⟨_, _, .inl ⟨rfl, rfl, rfl, rfl⟩, hb1⟩) rfl hg1
    refine go_DskR (k := ?_)
    exact bodyE_ret1 rfl (.int .i64 0) rfl ⟨rfl, hR, hK⟩
set_option maxHeartbeats 8000000 in
theorem eCut_any (w : World) (g : Nat) (S : Nat → Prop) (d : DS) (h : ER w g S d) (n : Int) (hl : d.all.length ≤ 1000000) :
    Calls Try.prog 62 #[.pointer (some ⟨g, 0, none⟩), .int .i64 n] w (EP w g S (dCut d n)) := by
  obtain ⟨A, c, E, cE, hB, ⟨h1, h1c, h1f⟩, ⟨h2, h2f⟩⟩ := h.at_
  obtain ⟨u, hu⟩ : ∃ u, d.up = u := ⟨_, rfl⟩
  rw [hu] at hB
  refine calls_of_CW Try.func62 rfl (by simp [Try.ntmps62]) ?_
  rw [Try.ntmps62]
  refine go_DskR (k := ?_)
  cases u with
  | false =>
    rw [show dCut d n = (60, d) by unfold dCut; rw [if_neg (by rw [hu]; decide)]]
    refine go_DskR (k := ?_)
    exact bodyE_ret1 rfl (.int .i64 60) rfl (EP.stay h (Ext.rfl' w) 60)
  | true =>
    refine go_DskR (k := ?_)
    refine OW_meet (fun e' w' => e' 0 = .pointer (some ⟨g, 0, none⟩) ∧ e' 1 = .int .i64 n ∧ e' 19 = .bool (decide (n < 0) || decide ((d.all.length : Int) < n)) ∧ w' = w) ?_ ?_
    · refine OW_split 11 _ rfl (fun hh => ?_) (fun hh => ?_)
      · rw [hh]
        refine go_DskR (k := ?_)
        exact ⟨rfl, rfl, rfl, rfl, rfl⟩
      · rw [hh]
        refine go_DskR (k := ?_)
        exact ⟨rfl, rfl, rfl, rfl, rfl⟩
    rintro e1 w1 ⟨q0, q1, q19, rfl⟩
    rw [upd_self q0, upd_self q1, upd_self q19]
    refine go_DskR (k := ?_)
    refine CW_cond _ rfl (fun hh => ?_) (fun hh => ?_)
    · have hbad : n < 0 ∨ (d.all.length : Int) < n := by simpa using hh
      rw [show dCut d n = (2, d) by unfold dCut; rw [if_pos hu, if_pos hbad]]
      refine go_DskR (k := ?_)
      exact bodyE_ret1 rfl (.int .i64 2) rfl (EP.stay h (Ext.rfl' _) 2)
    have hok : ¬ (n < 0 ∨ (d.all.length : Int) < n) := by simpa using hh
    rw [show dCut d n = (0, ⟨true, d.all.take n.toNat, []⟩) by unfold dCut; rw [if_pos hu, if_neg hok]]
    clear hh
    obtain ⟨m, rfl⟩ : ∃ m : Nat, n = m := ⟨n.toNat, by omega⟩
    rw [show ((m : Nat) : Int).toNat = m from rfl]
    refine go_DskR (k := ?_)
    refine OW_sliceBs und_bytes one_u8 h1 rfl h1c rfl rfl ⟨_, rfl⟩ 0 m rfl rfl (by omega) ?_
    intro A3 hb3 hl3
    rw [show (d.all.drop 0).take (m - 0) = d.all.take m from rfl] at hb3 hl3
    rw [← hl3]
    refine go_DskR (k := ?_)
    refine OW_callBs Try.func57 (by kernel_rfl) rfl (refCopy_any _ A3 (d.all.take m) (c - 0) hb3 (by omega)) rfl ?_
    intro w2 A4 c4 hf4
    have hB2 := hB.ext hf4.ext
    refine go_DskR (k := ?_)
    refine OW_storeB one_bytes rfl (.slice A4 (d.all.take m).length c4) rfl rfl hB2 (by show 0 < 4; decide) ?_
    intro w3 hb3' hg3
    have hb3' : Blk w3 g 50 #[.slice A4 (d.all.take m).length c4, .int .i64 d.s.length, .slice E d.ws.length cE, .bool (!true)] := hb3'
    refine go_DskR (k := ?_)
    refine OW_storeB s_int rfl (.int .i64 m) rfl rfl hb3' (by show 1 < 4; decide) ?_
    intro w4 hb4 hg4
    have hb4 : Blk w4 g 50 #[.slice A4 (d.all.take m).length c4, .int .i64 m, .slice E d.ws.length cE, .bool (!true)] := hb4
    refine go_DskR (k := ?_)
    refine OW_storeB one_ints rfl (.slice none 0 0) rfl rfl hb4 (by show 2 < 4; decide) ?_
    intro w5 hb5 hg5
    have hlm : (d.all.take m).length = m := by omega
    have hb5 : Blk w5 g 50 #[.slice A4 (d.all.take m).length c4, .int .i64 (d.all.take m).length, .slice none 0 0, .bool (!true)] := by
      have : Blk w5 g 50 #[.slice A4 (d.all.take m).length c4, .int .i64 m, .slice none 0 0, .bool (!true)] := hb5
      rw [hlm] at this ⊢
      exact this
    have hg25 := grown_trans' hg3 (grown_trans' hg4 hg5)
    obtain ⟨hR, hK⟩ := h.settled hf4.ext (FreB.own hf4.own) hf4.cap hg25 hb5
    refine go_DskR (k := ?_)
    exact bodyE_ret1 rfl (.int .i64 0) rfl ⟨rfl, hR, hK⟩
set_option maxHeartbeats 8000000 in
theorem eWrite_any (w : World) (g : Nat) (S : Nat → Prop) (d : DS) (h : ER w g S d) (B : Option Addr) (cb : Nat) (b : List UInt8) (hb : Bs w B b) (hl : d.all.length + b.length ≤ 1000000) (hn : d.ws.length ≤ 1000000) :
    Calls Try.prog 58 #[.pointer (some ⟨g, 0, none⟩), .slice B b.length cb] w (EP w g S (dWrite d b)) := by
  obtain ⟨A, c, E, cE, hB, ⟨h1, h1c, h1f⟩, ⟨h2, h2f⟩⟩ := h.at_
  obtain ⟨u, hu⟩ : ∃ u, d.up = u := ⟨_, rfl⟩
  have hbd := h.bd
  have hin := h.in_
  rw [hu] at hB
  refine calls_of_CW Try.func58 rfl (by simp [Try.ntmps58]) ?_
  rw [Try.ntmps58]
  refine go_DskR (k := ?_)
  cases u with
  | false =>
    rw [show dWrite d b = (60, d) by unfold dWrite; rw [if_neg (by rw [hu]; decide)]]
    refine go_DskR (k := ?_)
    exact bodyE_ret1 rfl (.int .i64 60) rfl (EP.stay h (Ext.rfl' w) 60)
  | true =>
    rw [show dWrite d b = (0, ⟨true, d.s, d.ws ++ [b]⟩) by unfold dWrite; rw [if_pos hu]]
    have hall : DS.all ⟨true, d.s, d.ws ++ [b]⟩ = d.all ++ b := dAll_write d.up d.s d.ws b
    have hend : dEnds ⟨true, d.s, d.ws ++ [b]⟩ = dEnds d ++ [((d.all ++ b).length : Int)] := dEnds_write d.up d.s d.ws b true
    have hlen : (d.all ++ b).length = d.all.length + b.length := List.length_append
    obtain ⟨L, hL⟩ : ∃ L, d.all ++ b = L := ⟨_, rfl⟩
    rw [hL] at hall hend hlen
    refine go_DskR (k := ?_)
    refine OW_callBs Try.func74 (by kernel_rfl) rfl (refCat_any _ A B d.all b c cb h1 hb hl) rfl ?_
    intro w1 A4 c4 hf4
    rw [hL] at hf4 ⊢
    have hB1 := hB.ext hf4.ext
    refine go_DskR (k := ?_)
    refine OW_storeB one_bytes rfl (.slice A4 L.length c4) rfl rfl hB1 (by show 0 < 4; decide) ?_
    intro w2 hB2 hg2
    have hB2 : Blk w2 g 50 #[.slice A4 L.length c4, .int .i64 d.s.length, .slice E d.ws.length cE, .bool (!true)] := hB2
    have hK2 : Keeps w1 w2 (· = g) := Keeps.of_only hg2 rfl
    have lg := hbd g hin
    have hO2 := own_keeps (own_ext h2 hf4.ext) hK2 (fun ad ha => (h2f ad ha).2)
    clear hB hB1
    refine go_DskR (k := ?_)
    obtain ⟨C, hC⟩ : ∃ C : World → Prop, C = fun v => Ext w2 v := ⟨_, rfl⟩
    have y_hB2 := blkE hC hB2
    refine CW_tree2 [4, 8] (.p 0 (.p 1 (.p 2 (.p 3 (.q 4 (.p 5 (.p 6 (.p 7 (.q 8 (.p 9 (.a 10 (.d 11 (.p 12 (.p 13 (.d 14 .done))))))))))))))) (C) (by kernel_rfl) (by kernel_rfl) (by kernel_rfl) ?_ ?_
    · exact inE hC
    intro w3 hx3 h_C
    refine oy_DskR (k := ?_)
    refine OW_lit [iv (L.length : Int)] und_ints info_int rfl rfl (by simp [iv, Value.oneCell']) (by decide) ?_
    intro w4 g4 hb4 hg4 hx4
    have hx24 := hx3.trans' hx4
    first | refine OW_nil (goY_mkE hC (hx24) ?_) | refine OW_nil (goY_dropE hC (hx24) ?_)
    refine oy_DskR (k := ?_)
    refine OW_appendK und_ints info_int rfl rfl rfl (own_ext hO2 hx24) (by simpa using hb4.rd) rfl (by simp [iv, Value.oneCell']) (by unfold maxLen; omega) (by omega) (Nat.zero_le _) ?_
    intro w5 A5 c5 ho5 hg5 hw5
    have hK5 : Keeps w4 w5 (fun k => ∃ ad, E = some ad ∧ ad.block = k) := Keeps.of_grown hg5 (fun g hg => by
      cases E with
      | none => cases hg
      | some ad => cases hg; exact ⟨ad, rfl, rfl⟩)
    have hB5 := (hB2.ext hx24).keeps hK5 (fun ⟨ad, ha, hk⟩ => (h2f ad ha).2 hk)
    refine OW_nil (goY_drop (fun _ => True) trivial ?_)
    refine oy_DskR (k := ?_)
    refine OW_storeB one_ints rfl (.slice A5 (d.ws.length + 1) c5) rfl rfl hB5 (by show 2 < 4; decide) ?_
    intro w6 hB6 hg6
    have hB6 : Blk w6 g 50 #[.slice A4 L.length c4, .int .i64 d.s.length, .slice A5 (d.ws.length + 1) c5, .bool (!true)] := hB6
    have hK6 : Keeps w5 w6 (· = g) := Keeps.of_only hg6 rfl
    refine OW_nil (goY_done ?_)
    refine go_DskR (k := ?_)
    have s1 := hf4.ext.size
    have s2 := hK2.size
    have s4 := hx24.size
    have s5 := hK5.size
    have s6 := hK6.size
    have hKS : Keeps w w6 S := ((((Keeps.of_ext hf4.ext S).trans' (hK2.mono fun k _ hk => hk ▸ hin)).trans' (Keeps.of_ext hx24 S)).trans' (hK5.mono fun k _ ⟨ad, ha, hk⟩ => hk ▸ (h2f ad ha).1)).trans' (hK6.mono fun k _ hk => hk ▸ hin)
    have hKR : Keeps w1 w6 (dRow g E) := (((hK2.mono fun k _ h => .inl h).trans' (Keeps.of_ext hx24 _)).trans' (hK5.mono fun k _ h => .inr h)).trans' (hK6.mono fun k _ h => .inl h)
    have hA5 : ∀ ad, A5 = some ad → (∃ ad0, E = some ad0 ∧ ad.block = ad0.block) ∨ ad.block = w4.heap.size := fun ad ha => by
      rcases hw5 with hh | hh
      · rw [ha] at hh
        cases E with
        | none => cases hh
        | some ad0 => left; refine ⟨ad0, rfl, ?_⟩; simpa [Value.ownBlock] using hh
      · rw [ha] at hh
        right; simpa [Value.ownBlock] using hh
    have hFre := FreB.own hf4.own
    have hnR : ∀ ad, A4 = some ad → L ≠ [] → w.heap.size ≤ ad.block ∧ ad.block < w1.heap.size := fun ad ha hl => by
      obtain ⟨g', rfl, q1, q2⟩ := hFre.at_ ad ha hl
      exact ⟨q1, q2⟩
    have hnot : ∀ ad, A4 = some ad → L ≠ [] → ¬ dRow g E ad.block := fun ad ha hl hh => by
      have := hnR ad ha hl
      rcases hh with hh | ⟨ad0, h0, hh⟩
      · omega
      · have := hbd _ (h2f ad0 h0).1; omega
    have hwl : (DS.ws ⟨true, d.s, d.ws ++ [b]⟩).length = d.ws.length + 1 := by simp
    refine bodyE_ret1 rfl (.int .i64 0) rfl ⟨rfl, ⟨.inl hin, ⟨A4, c4, A5, c5, ?_, ?_, ?_⟩, more_lt hbd hKS.size⟩, hKS⟩
    · rw [hall, hwl]
      exact hB6
    · rw [hall]
      refine ⟨?_, hf4.cap, fun ad ha hl => ?_⟩
      · by_cases hl : L = []
        · rw [hl]; exact Bs.nil _ _
        · exact hf4.bs.keeps hKR (fun ad ha => hnot ad ha hl)
      · have h5 := hnR ad ha hl
        refine ⟨.inr ⟨h5.1, by omega⟩, fun hh => ?_⟩
        rcases hh with hh | ⟨ad2, ha2, hh⟩
        · omega
        · rcases hA5 ad2 ha2 with ⟨ad0, q0, q1⟩ | q1
          · have := hbd _ (h2f ad0 q0).1; omega
          · omega
    · rw [hend, hwl, List.map_append]
      refine ⟨own_keeps ho5 hK6 (fun ad ha hh => ?_), fun ad ha => ?_⟩
      · have hh : ad.block = g := hh
        rcases hA5 ad ha with ⟨ad0, q0, q1⟩ | q1
        · exact (h2f ad0 q0).2 (by omega)
        · omega
      · have hlt := (own_block ho5 ad ha).2
        rcases hA5 ad ha with ⟨ad0, q0, q1⟩ | q1
        · rw [q1]; exact ⟨.inl (h2f ad0 q0).1, (h2f ad0 q0).2⟩
        · rw [q1]; exact ⟨.inr ⟨by omega, by omega⟩, by omega⟩
set_option maxHeartbeats 8000000 in
theorem eCrash_any (w : World) (g : Nat) (S : Nat → Prop) (d : DS) (h : ER w g S d) (keep torn : Int) (hkI : I64 keep) (htI : I64 torn) (hl : d.all.length ≤ 1000000) (hn : d.ws.length ≤ 1000000) :
    Calls Try.prog 60 #[.pointer (some ⟨g, 0, none⟩), .int .i64 keep, .int .i64 torn] w (EP w g S (dCrash d keep torn)) := by
  obtain ⟨A, c, E, cE, hB, ⟨h1, h1c, h1f⟩, ⟨h2, h2f⟩⟩ := h.at_
  obtain ⟨u, hu⟩ : ∃ u, d.up = u := ⟨_, rfl⟩
  rw [hu] at hB
  refine calls_of_CW Try.func60 rfl (by simp [Try.ntmps60]) ?_
  rw [Try.ntmps60]
  refine go_DskR (k := ?_)
  cases u with
  | false =>
    rw [show dCrash d keep torn = (60, d) by unfold dCrash; rw [if_neg (by rw [hu]; decide)]]
    refine go_DskR (k := ?_)
    exact bodyE_ret1 rfl (.int .i64 60) rfl (EP.stay h (Ext.rfl' w) 60)
  | true =>
    refine go_DskR (k := ?_)
    refine OW_meet (fun e' w' => e' 0 = .pointer (some ⟨g, 0, none⟩) ∧ e' 1 = .int .i64 keep ∧ e' 2 = .int .i64 torn ∧ e' 19 = .bool (decide (keep < 0) || decide (torn < 0)) ∧ w' = w) ?_ ?_
    · refine OW_split 16 _ rfl (fun hh => ?_) (fun hh => ?_)
      · rw [hh]
        refine go_DskR (k := ?_)
        exact ⟨rfl, rfl, rfl, rfl, rfl, rfl⟩
      · rw [hh]
        refine go_DskR (k := ?_)
        exact ⟨rfl, rfl, rfl, rfl, rfl, rfl⟩
    rintro e1 w1 ⟨q0, q1, q2, q19, rfl⟩
    rw [upd_self q0, upd_self q1, upd_self q2, upd_self q19]
    refine go_DskR (k := ?_)
    refine CW_cond _ rfl (fun hh => ?_) (fun hh => ?_)
    · have hbad : min keep torn < 0 := by
        have : keep < 0 ∨ torn < 0 := by simpa using hh
        omega
      rw [show dCrash d keep torn = (2, d) by unfold dCrash; rw [if_pos hu, if_pos hbad]]
      refine go_DskR (k := ?_)
      exact bodyE_ret1 rfl (.int .i64 2) rfl (EP.stay h (Ext.rfl' _) 2)
    have hok : ¬ min keep torn < 0 := by
      have : ¬ (keep < 0 ∨ torn < 0) := by simpa using hh
      omega
    rw [show dCrash d keep torn = (0, ⟨false, d.all.take (crashN d keep.toNat torn.toNat), []⟩) by unfold dCrash; rw [if_pos hu, if_neg hok]]
    clear hh
    obtain ⟨k, rfl⟩ : ∃ m : Nat, keep = m := ⟨keep.toNat, by omega⟩
    obtain ⟨t, rfl⟩ : ∃ m : Nat, torn = m := ⟨torn.toNat, by omega⟩
    rw [show ((k : Nat) : Int).toNat = k from rfl, show ((t : Nat) : Int).toNat = t from rfl]
    obtain ⟨fl, hfl⟩ : ∃ fl : Nat → Nat, fl = fun i => d.s.length + (d.ws.take i).flatten.length := ⟨_, rfl⟩
    have hfl0 : fl 0 = d.s.length := by rw [hfl]; simp
    have hE : ∀ i (hi : i < d.ws.length), ∃ ad, E = some ad ∧ w1.cell? (ad.add i) = some (.int .i64 ((fl (i + 1) : Nat) : Int)) := fun i hi => by
      obtain ⟨ad, ha, hcl⟩ := (own_rd h2).at_ (j := i) (by rw [List.length_map, dEnds_length]; exact hi)
      refine ⟨ad, ha, ?_⟩
      rw [hcl, List.getElem_map, dEnds_get hi, hfl]
      rfl
    have hflm : ∀ i, fl i ≤ 1000000 := fun i => by
      rw [hfl]
      have := congrArg List.length (flat_split d.ws i)
      have h7 : d.all.length = d.s.length + d.ws.flatten.length := by unfold DS.all; rw [List.length_append]
      rw [List.length_append] at this
      show d.s.length + (d.ws.take i).flatten.length ≤ _
      omega
    have hcn := crashN_le d k t
    have hcr : crashN d k t = fl (min k d.ws.length) + tornN d k t := by
      unfold crashN
      rw [hfl]
      show _ = d.s.length + (d.ws.take (min k d.ws.length)).flatten.length + _
      by_cases hk : k ≤ d.ws.length
      · rw [Nat.min_eq_left hk]
      · rw [Nat.min_eq_right (by omega), List.take_of_length_le (by omega), List.take_of_length_le (Nat.le_refl _)]
    have htn : ∀ (hk : k < d.ws.length), tornN d k t = min t (fl (k + 1) - fl k - 1) ∧ fl k ≤ fl (k + 1) := fun hk => by
      unfold tornN
      rw [dif_pos hk, hfl]
      have := congrArg List.length (ws_take_succ hk)
      rw [List.length_append] at this
      constructor
      · congr 1
        simp only
        omega
      · simp only
        omega
    have htz : ¬ k < d.ws.length → tornN d k t = 0 := fun hk => by unfold tornN; rw [dif_neg hk]
    clear hfl
    refine go_DskR (k := ?_)
    rw [← hfl0]
    refine CW_meetB (fun e' w' => e' 0 = .pointer (some ⟨g, 0, none⟩) ∧ e' 1 = .int .i64 k ∧ e' 2 = .int .i64 t ∧ e' 7 = .int .i64 ((fl (min k d.ws.length) : Nat) : Int) ∧ w' = w1) ?_ ?_
    · refine CW_loop (fun e' w' => ∃ i : Nat, i ≤ min k d.ws.length ∧ e' 0 = .pointer (some ⟨g, 0, none⟩) ∧ e' 1 = .int .i64 k ∧ e' 2 = .int .i64 t ∧ e' 7 = .int .i64 ((fl i : Nat) : Int) ∧ e' 8 = .int .i64 i ∧ w' = w1) (fun e' _ => k - (intOf (e' 8)).toNat) ?_ ?_
      · exact ⟨0, by omega, rfl, rfl, rfl, rfl, rfl, rfl⟩
      rintro e2 w2 ⟨i, hi, q0, q1, q2, q7, q8, rfl⟩
      rw [upd_self q0, upd_self q1, upd_self q2, upd_self q7, upd_self q8]
      refine go_DskR (k := ?_)
      refine OW_split 31 _ rfl (fun hh => ?_) (fun hh => ?_)
      · have hil : i < d.ws.length := by simpa using hh
        clear hh
        refine go_DskR (k := ?_)
        refine CW_cond _ rfl (fun hh => ?_) (fun hh => ?_)
        · have hik : i < k := by simpa using hh
          clear hh
          obtain ⟨ad, rfl, hcl⟩ := hE i hil
          refine go_DskR (k := ?_)
          refine OW_load1 s_int rfl _ hcl ?_
          refine go_DskR (k := ?_)
          refine ⟨⟨i + 1, by omega, rfl, rfl, rfl, rfl, rfl, rfl⟩, ?_⟩
          show k - ((i : Int) + 1).toNat < k - (i : Int).toNat
          omega
        · have hik : ¬ i < k := by simpa using hh
          have : i = min k d.ws.length := by omega
          subst this
          refine go_DskR (k := ?_)
          exact ⟨rfl, rfl, rfl, rfl, rfl, rfl⟩
      · have hil : ¬ i < d.ws.length := by simpa using hh
        have : i = min k d.ws.length := by omega
        subst this
        refine go_DskR (k := ?_)
        exact ⟨rfl, rfl, rfl, rfl, rfl, rfl⟩
    rintro e2 w2 ⟨q0, q1, q2, q7, rfl⟩
    rw [upd_self q0, upd_self q1, upd_self q2, upd_self q7]
    refine go_DskR (k := ?_)
    refine CW_meet (fun e' w' => e' 0 = .pointer (some ⟨g, 0, none⟩) ∧ e' 7 = .int .i64 ((crashN d k t : Nat) : Int) ∧ w' = w2) ?_ ?_
    · refine CW_cond _ rfl (fun hh => ?_) (fun hh => ?_)
      · have hk : k < d.ws.length := by simpa using hh
        clear hh
        obtain ⟨ht1, ht2⟩ := htn hk
        have hmk : min k d.ws.length = k := by omega
        rw [hmk] at hcr ⊢
        obtain ⟨ad, rfl, hcl⟩ := hE k hk
        have f1 := hflm k
        have f2 := hflm (k + 1)
        unfold I64 at htI
        refine go_DskR (k := ?_)
        refine OW_load1 s_int rfl _ hcl ?_
        refine go_DskR (k := ?_)
        refine CW_meet (fun e' w' => e' 0 = .pointer (some ⟨g, 0, none⟩) ∧ e' 2 = .int .i64 (min (t : Int) ((fl (k + 1) : Int) - (fl k : Int) - 1)) ∧ e' 7 = .int .i64 ((fl k : Nat) : Int) ∧ w' = w2) ?_ ?_
        · refine CW_cond _ rfl (fun hh => ?_) (fun hh => ?_)
          · have h3 := of_decide_eq_true hh
            refine go_DskR (k := ?_)
            refine ⟨rfl, rfl, ?_, rfl, rfl⟩
            show Value.int _ _ = _
            congr 1
            omega
          · have h3 := of_decide_eq_false hh
            refine go_DskR (k := ?_)
            refine ⟨rfl, rfl, ?_, rfl, rfl⟩
            show Value.int _ _ = _
            congr 1
            omega
        rintro e3 w3 ⟨q0, q2, q7, rfl⟩
        rw [upd_self q0, upd_self q2, upd_self q7]
        refine go_DskR (k := ?_)
        refine CW_cond _ rfl (fun hh => ?_) (fun hh => ?_)
        · have h3 := of_decide_eq_true hh
          refine go_DskR (k := ?_)
          refine ⟨rfl, rfl, ?_, rfl⟩
          show Value.int _ _ = _
          congr 1
          omega
        · have h3 := of_decide_eq_false hh
          refine go_DskR (k := ?_)
          refine ⟨rfl, rfl, ?_, rfl⟩
          show Value.int _ _ = _
          congr 1
          omega
      · have hk : ¬ k < d.ws.length := by simpa using hh
        rw [htz hk] at hcr
        refine go_DskR (k := ?_)
        refine ⟨rfl, rfl, ?_, rfl⟩
        show Value.int _ _ = _
        congr 1
        omega
    rintro e3 w3 ⟨q0, q7, rfl⟩
    rw [upd_self q0, upd_self q7]
    clear hcr htn htz hE hflm
    obtain ⟨m, hm⟩ : ∃ m, crashN d k t = m := ⟨_, rfl⟩
    rw [hm] at hcn ⊢
    refine go_DskR (k := ?_)
    refine OW_sliceBs und_bytes one_u8 h1 rfl h1c rfl rfl ⟨_, rfl⟩ 0 m rfl rfl (by omega) ?_
    intro A3 hb3 hl3
    rw [show (d.all.drop 0).take (m - 0) = d.all.take m from rfl] at hb3 hl3
    rw [← hl3]
    refine go_DskR (k := ?_)
    refine OW_callBs Try.func57 (by kernel_rfl) rfl (refCopy_any _ A3 (d.all.take m) (c - 0) hb3 (by omega)) rfl ?_
    intro w4 A4 c4 hf4
    have hB2 := hB.ext hf4.ext
    clear hB
    refine go_DskR (k := ?_)
    refine OW_storeB one_bytes rfl (.slice A4 (d.all.take m).length c4) rfl rfl hB2 (by show 0 < 4; decide) ?_
    intro w5 hb5 hg5
    have hb5 : Blk w5 g 50 #[.slice A4 (d.all.take m).length c4, .int .i64 d.s.length, .slice E d.ws.length cE, .bool (!true)] := hb5
    refine go_DskR (k := ?_)
    refine OW_storeB s_int rfl (.int .i64 m) rfl rfl hb5 (by show 1 < 4; decide) ?_
    intro w6 hb6 hg6
    have hb6 : Blk w6 g 50 #[.slice A4 (d.all.take m).length c4, .int .i64 m, .slice E d.ws.length cE, .bool (!true)] := hb6
    refine go_DskR (k := ?_)
    refine OW_storeB one_ints rfl (.slice none 0 0) rfl rfl hb6 (by show 2 < 4; decide) ?_
    intro w7 hb7 hg7
    have hb7 : Blk w7 g 50 #[.slice A4 (d.all.take m).length c4, .int .i64 m, .slice none 0 0, .bool (!true)] := hb7
    refine go_DskR (k := ?_)
    refine OW_storeB s_bool rfl (.bool true) rfl rfl hb7 (by show 3 < 4; decide) ?_
    intro w8 hb8 hg8
    have hlm : (d.all.take m).length = m := by omega
    have hb8 : Blk w8 g 50 #[.slice A4 (d.all.take m).length c4, .int .i64 (d.all.take m).length, .slice none 0 0, .bool (!false)] := by
      have : Blk w8 g 50 #[.slice A4 (d.all.take m).length c4, .int .i64 m, .slice none 0 0, .bool (!false)] := hb8
      rw [hlm] at this ⊢
      exact this
    obtain ⟨hR, hK⟩ := h.settled hf4.ext (FreB.own hf4.own) hf4.cap (grown_trans' hg5 (grown_trans' hg6 (grown_trans' hg7 hg8))) hb8
    refine go_DskR (k := ?_)
    exact bodyE_ret1 rfl (.int .i64 0) rfl ⟨rfl, hR, hK⟩
end Go.Proofs.Ytnfeibbnjdegfaa
