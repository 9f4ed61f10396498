/- Several texts in one, as they stand in wip/src. -/
import Derived.Test.YtdpomchhbbopbaaGr14
/- Walk: the reference reads a reply. -/
namespace Go.Proofs.Ytdpomchhbbopbaa
open Go Go.RowKit
set_option linter.unusedVariables false
set_option maxRecDepth 4000
theorem go_Rep6 {A B : Prop} (h : Held B → A := by
  intro hEnd
  repeat (first | refine OW_fieldF fld_P0 rfl ?_ | refine OW_fieldF fld_P1 rfl ?_ | refine OW_fieldF fld_P2 rfl ?_ | refine OW_fieldF fld_P3 rfl ?_ | refine OW_fieldF fld_P4 rfl ?_ | refine OW_fieldO fldo_L0 rfl ?_ | refine OW_fieldO fldo_L1 rfl ?_ | refine OW_fieldO fldo_L2 rfl ?_ | refine OW_fieldO fldo_L3 rfl ?_ | refine OW_fieldO fldo_L4 rfl ?_ | refine OW_fieldO fldo_L5 rfl ?_ | refine OW_fieldO fldo_L6 rfl ?_ | refine OW_fieldO fldo_L7 rfl ?_ | refine OW_fieldO fldo_L8 rfl ?_ | (refine OW_isLoad ?_; refine OW_loadBk one_strs rfl (by apply_assumption; assumption) _ rfl ?_) | refine OW_strOf und_bytes und_u8 und_string (by apply_assumption; assumption) rfl ?_ | refine OW_moveV (.int _ _) rfl ?_ | refine OW_moveV (.slice _ _ _) rfl ?_ | refine OW_moveV (.bool _) rfl ?_ | refine OW_moveV (.pointer _) rfl ?_ | refine OW_moveV (.string _) rfl ?_ | refine OW_moveV (.agg _) rfl ?_ | refine OW_moveV (.tuple _) rfl ?_ | refine OW_nil ?_ | refine thenE_normal ?_ | refine CW_seq ?_ | refine CW_region (by kernel_rfl) ?_ | refine OW_assignV (.int _ _) rfl ?_ | refine OW_assignV (.slice _ _ _) rfl ?_ | refine OW_assignV (.bool _) rfl ?_ | refine OW_assignV (.pointer _) rfl ?_ | refine OW_assignV (.string _) rfl ?_ | refine OW_assignV (.agg _) rfl ?_ | refine OW_assignV (.tuple _) rfl ?_ | refine OW_addI rfl rfl (by omega) ?_ | refine OW_subI rfl rfl (by omega) ?_ | refine OW_mulI rfl rfl (by omega) ?_ | refine OW_lss rfl rfl ?_ | refine OW_extract rfl rfl ?_ | refine OW_gtr rfl rfl ?_ | refine OW_leq rfl rfl ?_ | refine OW_geq rfl rfl ?_ | refine OW_eql rfl rfl ?_ | refine OW_neq rfl rfl ?_ | refine OW_not rfl ?_ | refine OW_pickT rfl _ rfl ?_ | refine OW_pickF rfl (.bool _) rfl ?_ | refine OW_pickB rfl rfl rfl ?_ | refine OW_move ?_ | refine OW_assign ?_ | refine OW_pass rfl ?_ | refine OW_take rfl ?_ | refine OW_lenS (by first | with_reducible exact und_bytes | with_reducible exact und_bytess) rfl ?_ | refine OW_convInt (by first | with_reducible exact und_u8 | with_reducible exact und_u64 | with_reducible exact und_int | with_reducible exact und_u32) (by first | with_reducible exact und_u8 | with_reducible exact und_u64 | with_reducible exact und_int | with_reducible exact und_u32) rfl ?_ | refine OW_add rfl rfl ?_ | refine OW_sub rfl rfl ?_ | refine OW_mul rfl rfl ?_ | refine OW_min2 rfl rfl ?_ | refine OW_max2 rfl rfl ?_ | refine OW_neg rfl ?_ | refine CW_block ?_ | refine CW_condT rfl ?_ | refine CW_condF rfl ?_ | refine CW_exit ?_ | refine CW_ret ?_ | refine CW_skip ?_ | refine LW_seq ?_ | refine LW_regC ?_ | refine LW_condC ?_ | refine LW_regF ?_ | refine LW_condF ?_ | refine FW_seq ?_ | refine FW_region (by kernel_rfl) ?_ | refine FW_block ?_ | refine FW_condT rfl ?_ | refine FW_condF rfl ?_ | refine FW_exit ?_ | refine FW_ret ?_ | refine FW_skip ?_ | refine LW_ret ?_ | refine LW_skip ?_ | refine thenE_exit ?_ | refine thenE_ret ?_ | refine inBlockE_normal ?_ | refine inBlockE_same ?_ | refine inBlockE_ret ?_ | refine inBlockE_ne (by rfl) ?_ | refine OW_eqlB (by with_reducible exact und_bool) rfl rfl ?_ | refine OW_neqB (by with_reducible exact und_bool) rfl rfl ?_ | refine OW_idxS (by with_reducible exact und_bytes) one_u8 rfl rfl _ rfl (by omega) ?_ | refine OW_idxS (by with_reducible exact und_bytess) one_bytes rfl rfl _ rfl (by omega) ?_ | refine OW_load1 (by first | with_reducible exact one_u8 | with_reducible exact one_bytes) rfl _ (by assumption) ?_)
  exact hEnd.out) (k : B) : A := h ⟨k⟩
theorem oy_Rep6 {A B : Prop} (h : Held B → A := by
  intro hEnd
  repeat (first
    | refine OY_done ?_
    | (apply OY_p _ rfl
       · intro wd
         (first | refine OW_fieldF fld_P0 rfl ?_ | refine OW_fieldF fld_P1 rfl ?_ | refine OW_fieldF fld_P2 rfl ?_ | refine OW_fieldF fld_P3 rfl ?_ | refine OW_fieldF fld_P4 rfl ?_ | refine OW_fieldO fldo_L0 rfl ?_ | refine OW_fieldO fldo_L1 rfl ?_ | refine OW_fieldO fldo_L2 rfl ?_ | refine OW_fieldO fldo_L3 rfl ?_ | refine OW_fieldO fldo_L4 rfl ?_ | refine OW_fieldO fldo_L5 rfl ?_ | refine OW_fieldO fldo_L6 rfl ?_ | refine OW_fieldO fldo_L7 rfl ?_ | refine OW_fieldO fldo_L8 rfl ?_ | (refine OW_isLoad ?_; refine OW_loadBk one_strs rfl (by apply_assumption; assumption) _ rfl ?_) | refine OW_strOf und_bytes und_u8 und_string (by apply_assumption; assumption) rfl ?_ | refine OW_moveV (.int _ _) rfl ?_ | refine OW_moveV (.slice _ _ _) rfl ?_ | refine OW_moveV (.bool _) rfl ?_ | refine OW_moveV (.pointer _) rfl ?_ | refine OW_moveV (.string _) rfl ?_ | refine OW_moveV (.agg _) rfl ?_ | refine OW_moveV (.tuple _) rfl ?_ | refine OW_nil ?_ | refine thenE_normal ?_ | refine CW_seq ?_ | refine CW_region (by kernel_rfl) ?_ | refine OW_assignV (.int _ _) rfl ?_ | refine OW_assignV (.slice _ _ _) rfl ?_ | refine OW_assignV (.bool _) rfl ?_ | refine OW_assignV (.pointer _) rfl ?_ | refine OW_assignV (.string _) rfl ?_ | refine OW_assignV (.agg _) rfl ?_ | refine OW_assignV (.tuple _) rfl ?_ | refine OW_addI rfl rfl (by omega) ?_ | refine OW_subI rfl rfl (by omega) ?_ | refine OW_mulI rfl rfl (by omega) ?_ | refine OW_lss rfl rfl ?_ | refine OW_extract rfl rfl ?_ | refine OW_gtr rfl rfl ?_ | refine OW_leq rfl rfl ?_ | refine OW_geq rfl rfl ?_ | refine OW_eql rfl rfl ?_ | refine OW_neq rfl rfl ?_ | refine OW_not rfl ?_ | refine OW_pickT rfl _ rfl ?_ | refine OW_pickF rfl (.bool _) rfl ?_ | refine OW_pickB rfl rfl rfl ?_ | refine OW_move ?_ | refine OW_assign ?_ | refine OW_pass rfl ?_ | refine OW_take rfl ?_ | refine OW_lenS (by first | with_reducible exact und_bytes | with_reducible exact und_bytess) rfl ?_ | refine OW_convInt (by first | with_reducible exact und_u8 | with_reducible exact und_u64 | with_reducible exact und_int | with_reducible exact und_u32) (by first | with_reducible exact und_u8 | with_reducible exact und_u64 | with_reducible exact und_int | with_reducible exact und_u32) rfl ?_ | refine OW_add rfl rfl ?_ | refine OW_sub rfl rfl ?_ | refine OW_mul rfl rfl ?_ | refine OW_min2 rfl rfl ?_ | refine OW_max2 rfl rfl ?_ | refine OW_neg rfl ?_ | refine CW_block ?_ | refine CW_condT rfl ?_ | refine CW_condF rfl ?_ | refine CW_exit ?_ | refine CW_ret ?_ | refine CW_skip ?_ | refine LW_seq ?_ | refine LW_regC ?_ | refine LW_condC ?_ | refine LW_regF ?_ | refine LW_condF ?_ | refine FW_seq ?_ | refine FW_region (by kernel_rfl) ?_ | refine FW_block ?_ | refine FW_condT rfl ?_ | refine FW_condF rfl ?_ | refine FW_exit ?_ | refine FW_ret ?_ | refine FW_skip ?_ | refine LW_ret ?_ | refine LW_skip ?_ | refine thenE_exit ?_ | refine thenE_ret ?_ | refine inBlockE_normal ?_ | refine inBlockE_same ?_ | refine inBlockE_ret ?_ | refine inBlockE_ne (by rfl) ?_ | refine OW_eqlB (by with_reducible exact und_bool) rfl rfl ?_ | refine OW_neqB (by with_reducible exact und_bool) rfl rfl ?_ | refine OW_idxS (by with_reducible exact und_bytes) one_u8 rfl rfl _ rfl (by omega) ?_ | refine OW_idxS (by with_reducible exact und_bytess) one_bytes rfl rfl _ rfl (by omega) ?_ | refine OW_load1 (by first | with_reducible exact one_u8 | with_reducible exact one_bytes) rfl _ (by assumption) ?_)
         refine OW_nil ?_
         exact stay_mk _ _ _ _)
    | (apply OY_q _ rfl
       · intro wd hwd
         (first | refine OW_fieldF fld_P0 rfl ?_ | refine OW_fieldF fld_P1 rfl ?_ | refine OW_fieldF fld_P2 rfl ?_ | refine OW_fieldF fld_P3 rfl ?_ | refine OW_fieldF fld_P4 rfl ?_ | refine OW_fieldO fldo_L0 rfl ?_ | refine OW_fieldO fldo_L1 rfl ?_ | refine OW_fieldO fldo_L2 rfl ?_ | refine OW_fieldO fldo_L3 rfl ?_ | refine OW_fieldO fldo_L4 rfl ?_ | refine OW_fieldO fldo_L5 rfl ?_ | refine OW_fieldO fldo_L6 rfl ?_ | refine OW_fieldO fldo_L7 rfl ?_ | refine OW_fieldO fldo_L8 rfl ?_ | (refine OW_isLoad ?_; refine OW_loadBk one_strs rfl (by apply_assumption; assumption) _ rfl ?_) | refine OW_strOf und_bytes und_u8 und_string (by apply_assumption; assumption) rfl ?_ | refine OW_moveV (.int _ _) rfl ?_ | refine OW_moveV (.slice _ _ _) rfl ?_ | refine OW_moveV (.bool _) rfl ?_ | refine OW_moveV (.pointer _) rfl ?_ | refine OW_moveV (.string _) rfl ?_ | refine OW_moveV (.agg _) rfl ?_ | refine OW_moveV (.tuple _) rfl ?_ | refine OW_nil ?_ | refine thenE_normal ?_ | refine CW_seq ?_ | refine CW_region (by kernel_rfl) ?_ | refine OW_assignV (.int _ _) rfl ?_ | refine OW_assignV (.slice _ _ _) rfl ?_ | refine OW_assignV (.bool _) rfl ?_ | refine OW_assignV (.pointer _) rfl ?_ | refine OW_assignV (.string _) rfl ?_ | refine OW_assignV (.agg _) rfl ?_ | refine OW_assignV (.tuple _) rfl ?_ | refine OW_addI rfl rfl (by omega) ?_ | refine OW_subI rfl rfl (by omega) ?_ | refine OW_mulI rfl rfl (by omega) ?_ | refine OW_lss rfl rfl ?_ | refine OW_extract rfl rfl ?_ | refine OW_gtr rfl rfl ?_ | refine OW_leq rfl rfl ?_ | refine OW_geq rfl rfl ?_ | refine OW_eql rfl rfl ?_ | refine OW_neq rfl rfl ?_ | refine OW_not rfl ?_ | refine OW_pickT rfl _ rfl ?_ | refine OW_pickF rfl (.bool _) rfl ?_ | refine OW_pickB rfl rfl rfl ?_ | refine OW_move ?_ | refine OW_assign ?_ | refine OW_pass rfl ?_ | refine OW_take rfl ?_ | refine OW_lenS (by first | with_reducible exact und_bytes | with_reducible exact und_bytess) rfl ?_ | refine OW_convInt (by first | with_reducible exact und_u8 | with_reducible exact und_u64 | with_reducible exact und_int | with_reducible exact und_u32) (by first | with_reducible exact und_u8 | with_reducible exact und_u64 | with_reducible exact und_int | with_reducible exact und_u32) rfl ?_ | refine OW_add rfl rfl ?_ | refine OW_sub rfl rfl ?_ | refine OW_mul rfl rfl ?_ | refine OW_min2 rfl rfl ?_ | refine OW_max2 rfl rfl ?_ | refine OW_neg rfl ?_ | refine CW_block ?_ | refine CW_condT rfl ?_ | refine CW_condF rfl ?_ | refine CW_exit ?_ | refine CW_ret ?_ | refine CW_skip ?_ | refine LW_seq ?_ | refine LW_regC ?_ | refine LW_condC ?_ | refine LW_regF ?_ | refine LW_condF ?_ | refine FW_seq ?_ | refine FW_region (by kernel_rfl) ?_ | refine FW_block ?_ | refine FW_condT rfl ?_ | refine FW_condF rfl ?_ | refine FW_exit ?_ | refine FW_ret ?_ | refine FW_skip ?_ | refine LW_ret ?_ | refine LW_skip ?_ | refine thenE_exit ?_ | refine thenE_ret ?_ | refine inBlockE_normal ?_ | refine inBlockE_same ?_ | refine inBlockE_ret ?_ | refine inBlockE_ne (by rfl) ?_ | refine OW_eqlB (by with_reducible exact und_bool) rfl rfl ?_ | refine OW_neqB (by with_reducible exact und_bool) rfl rfl ?_ | refine OW_idxS (by with_reducible exact und_bytes) one_u8 rfl rfl _ rfl (by omega) ?_ | refine OW_idxS (by with_reducible exact und_bytess) one_bytes rfl rfl _ rfl (by omega) ?_ | refine OW_load1 (by first | with_reducible exact one_u8 | with_reducible exact one_bytes) rfl _ (by assumption) ?_ | (refine OW_isLoad ?_; refine OW_loadBk (by first | with_reducible exact one_u8 | with_reducible exact one_bytes | with_reducible exact one_bool | with_reducible exact one_int | with_reducible exact one_errno | with_reducible exact one_u32 | with_reducible exact one_u64 | with_reducible exact one_string | with_reducible exact one_strs) rfl (by apply_assumption; assumption) _ (by first | assumption | rfl) ?_) | refine OW_load1 (by first | with_reducible exact one_u8 | with_reducible exact one_bytes | with_reducible exact one_bool | with_reducible exact one_int | with_reducible exact one_errno | with_reducible exact one_u32 | with_reducible exact one_u64 | with_reducible exact one_string | with_reducible exact one_strs) rfl _ (by apply_assumption; assumption) ?_)
         refine OW_nil ?_
         exact stay_mk _ _ _ _)
    | refine OY_ppass rfl rfl ?_
    | refine OY_qpass rfl rfl ?_
    | (apply OY_ptake _ rfl rfl
       · intro wd
         (first | refine OW_fieldF fld_P0 rfl ?_ | refine OW_fieldF fld_P1 rfl ?_ | refine OW_fieldF fld_P2 rfl ?_ | refine OW_fieldF fld_P3 rfl ?_ | refine OW_fieldF fld_P4 rfl ?_ | refine OW_fieldO fldo_L0 rfl ?_ | refine OW_fieldO fldo_L1 rfl ?_ | refine OW_fieldO fldo_L2 rfl ?_ | refine OW_fieldO fldo_L3 rfl ?_ | refine OW_fieldO fldo_L4 rfl ?_ | refine OW_fieldO fldo_L5 rfl ?_ | refine OW_fieldO fldo_L6 rfl ?_ | refine OW_fieldO fldo_L7 rfl ?_ | refine OW_fieldO fldo_L8 rfl ?_ | (refine OW_isLoad ?_; refine OW_loadBk one_strs rfl (by apply_assumption; assumption) _ rfl ?_) | refine OW_strOf und_bytes und_u8 und_string (by apply_assumption; assumption) rfl ?_ | refine OW_moveV (.int _ _) rfl ?_ | refine OW_moveV (.slice _ _ _) rfl ?_ | refine OW_moveV (.bool _) rfl ?_ | refine OW_moveV (.pointer _) rfl ?_ | refine OW_moveV (.string _) rfl ?_ | refine OW_moveV (.agg _) rfl ?_ | refine OW_moveV (.tuple _) rfl ?_ | refine OW_nil ?_ | refine thenE_normal ?_ | refine CW_seq ?_ | refine CW_region (by kernel_rfl) ?_ | refine OW_assignV (.int _ _) rfl ?_ | refine OW_assignV (.slice _ _ _) rfl ?_ | refine OW_assignV (.bool _) rfl ?_ | refine OW_assignV (.pointer _) rfl ?_ | refine OW_assignV (.string _) rfl ?_ | refine OW_assignV (.agg _) rfl ?_ | refine OW_assignV (.tuple _) rfl ?_ | refine OW_addI rfl rfl (by omega) ?_ | refine OW_subI rfl rfl (by omega) ?_ | refine OW_mulI rfl rfl (by omega) ?_ | refine OW_lss rfl rfl ?_ | refine OW_extract rfl rfl ?_ | refine OW_gtr rfl rfl ?_ | refine OW_leq rfl rfl ?_ | refine OW_geq rfl rfl ?_ | refine OW_eql rfl rfl ?_ | refine OW_neq rfl rfl ?_ | refine OW_not rfl ?_ | refine OW_pickT rfl _ rfl ?_ | refine OW_pickF rfl (.bool _) rfl ?_ | refine OW_pickB rfl rfl rfl ?_ | refine OW_move ?_ | refine OW_assign ?_ | refine OW_pass rfl ?_ | refine OW_take rfl ?_ | refine OW_lenS (by first | with_reducible exact und_bytes | with_reducible exact und_bytess) rfl ?_ | refine OW_convInt (by first | with_reducible exact und_u8 | with_reducible exact und_u64 | with_reducible exact und_int | with_reducible exact und_u32) (by first | with_reducible exact und_u8 | with_reducible exact und_u64 | with_reducible exact und_int | with_reducible exact und_u32) rfl ?_ | refine OW_add rfl rfl ?_ | refine OW_sub rfl rfl ?_ | refine OW_mul rfl rfl ?_ | refine OW_min2 rfl rfl ?_ | refine OW_max2 rfl rfl ?_ | refine OW_neg rfl ?_ | refine CW_block ?_ | refine CW_condT rfl ?_ | refine CW_condF rfl ?_ | refine CW_exit ?_ | refine CW_ret ?_ | refine CW_skip ?_ | refine LW_seq ?_ | refine LW_regC ?_ | refine LW_condC ?_ | refine LW_regF ?_ | refine LW_condF ?_ | refine FW_seq ?_ | refine FW_region (by kernel_rfl) ?_ | refine FW_block ?_ | refine FW_condT rfl ?_ | refine FW_condF rfl ?_ | refine FW_exit ?_ | refine FW_ret ?_ | refine FW_skip ?_ | refine LW_ret ?_ | refine LW_skip ?_ | refine thenE_exit ?_ | refine thenE_ret ?_ | refine inBlockE_normal ?_ | refine inBlockE_same ?_ | refine inBlockE_ret ?_ | refine inBlockE_ne (by rfl) ?_ | refine OW_eqlB (by with_reducible exact und_bool) rfl rfl ?_ | refine OW_neqB (by with_reducible exact und_bool) rfl rfl ?_ | refine OW_idxS (by with_reducible exact und_bytes) one_u8 rfl rfl _ rfl (by omega) ?_ | refine OW_idxS (by with_reducible exact und_bytess) one_bytes rfl rfl _ rfl (by omega) ?_ | refine OW_load1 (by first | with_reducible exact one_u8 | with_reducible exact one_bytes) rfl _ (by assumption) ?_)
         refine OW_nil ?_
         exact stay_mk _ _ _ _)
    | (apply OY_qtake _ rfl rfl
       · intro wd hwd
         (first | refine OW_fieldF fld_P0 rfl ?_ | refine OW_fieldF fld_P1 rfl ?_ | refine OW_fieldF fld_P2 rfl ?_ | refine OW_fieldF fld_P3 rfl ?_ | refine OW_fieldF fld_P4 rfl ?_ | refine OW_fieldO fldo_L0 rfl ?_ | refine OW_fieldO fldo_L1 rfl ?_ | refine OW_fieldO fldo_L2 rfl ?_ | refine OW_fieldO fldo_L3 rfl ?_ | refine OW_fieldO fldo_L4 rfl ?_ | refine OW_fieldO fldo_L5 rfl ?_ | refine OW_fieldO fldo_L6 rfl ?_ | refine OW_fieldO fldo_L7 rfl ?_ | refine OW_fieldO fldo_L8 rfl ?_ | (refine OW_isLoad ?_; refine OW_loadBk one_strs rfl (by apply_assumption; assumption) _ rfl ?_) | refine OW_strOf und_bytes und_u8 und_string (by apply_assumption; assumption) rfl ?_ | refine OW_moveV (.int _ _) rfl ?_ | refine OW_moveV (.slice _ _ _) rfl ?_ | refine OW_moveV (.bool _) rfl ?_ | refine OW_moveV (.pointer _) rfl ?_ | refine OW_moveV (.string _) rfl ?_ | refine OW_moveV (.agg _) rfl ?_ | refine OW_moveV (.tuple _) rfl ?_ | refine OW_nil ?_ | refine thenE_normal ?_ | refine CW_seq ?_ | refine CW_region (by kernel_rfl) ?_ | refine OW_assignV (.int _ _) rfl ?_ | refine OW_assignV (.slice _ _ _) rfl ?_ | refine OW_assignV (.bool _) rfl ?_ | refine OW_assignV (.pointer _) rfl ?_ | refine OW_assignV (.string _) rfl ?_ | refine OW_assignV (.agg _) rfl ?_ | refine OW_assignV (.tuple _) rfl ?_ | refine OW_addI rfl rfl (by omega) ?_ | refine OW_subI rfl rfl (by omega) ?_ | refine OW_mulI rfl rfl (by omega) ?_ | refine OW_lss rfl rfl ?_ | refine OW_extract rfl rfl ?_ | refine OW_gtr rfl rfl ?_ | refine OW_leq rfl rfl ?_ | refine OW_geq rfl rfl ?_ | refine OW_eql rfl rfl ?_ | refine OW_neq rfl rfl ?_ | refine OW_not rfl ?_ | refine OW_pickT rfl _ rfl ?_ | refine OW_pickF rfl (.bool _) rfl ?_ | refine OW_pickB rfl rfl rfl ?_ | refine OW_move ?_ | refine OW_assign ?_ | refine OW_pass rfl ?_ | refine OW_take rfl ?_ | refine OW_lenS (by first | with_reducible exact und_bytes | with_reducible exact und_bytess) rfl ?_ | refine OW_convInt (by first | with_reducible exact und_u8 | with_reducible exact und_u64 | with_reducible exact und_int | with_reducible exact und_u32) (by first | with_reducible exact und_u8 | with_reducible exact und_u64 | with_reducible exact und_int | with_reducible exact und_u32) rfl ?_ | refine OW_add rfl rfl ?_ | refine OW_sub rfl rfl ?_ | refine OW_mul rfl rfl ?_ | refine OW_min2 rfl rfl ?_ | refine OW_max2 rfl rfl ?_ | refine OW_neg rfl ?_ | refine CW_block ?_ | refine CW_condT rfl ?_ | refine CW_condF rfl ?_ | refine CW_exit ?_ | refine CW_ret ?_ | refine CW_skip ?_ | refine LW_seq ?_ | refine LW_regC ?_ | refine LW_condC ?_ | refine LW_regF ?_ | refine LW_condF ?_ | refine FW_seq ?_ | refine FW_region (by kernel_rfl) ?_ | refine FW_block ?_ | refine FW_condT rfl ?_ | refine FW_condF rfl ?_ | refine FW_exit ?_ | refine FW_ret ?_ | refine FW_skip ?_ | refine LW_ret ?_ | refine LW_skip ?_ | refine thenE_exit ?_ | refine thenE_ret ?_ | refine inBlockE_normal ?_ | refine inBlockE_same ?_ | refine inBlockE_ret ?_ | refine inBlockE_ne (by rfl) ?_ | refine OW_eqlB (by with_reducible exact und_bool) rfl rfl ?_ | refine OW_neqB (by with_reducible exact und_bool) rfl rfl ?_ | refine OW_idxS (by with_reducible exact und_bytes) one_u8 rfl rfl _ rfl (by omega) ?_ | refine OW_idxS (by with_reducible exact und_bytess) one_bytes rfl rfl _ rfl (by omega) ?_ | refine OW_load1 (by first | with_reducible exact one_u8 | with_reducible exact one_bytes) rfl _ (by assumption) ?_ | (refine OW_isLoad ?_; refine OW_loadBk (by first | with_reducible exact one_u8 | with_reducible exact one_bytes | with_reducible exact one_bool | with_reducible exact one_int | with_reducible exact one_errno | with_reducible exact one_u32 | with_reducible exact one_u64 | with_reducible exact one_string | with_reducible exact one_strs) rfl (by apply_assumption; assumption) _ (by first | assumption | rfl) ?_) | refine OW_load1 (by first | with_reducible exact one_u8 | with_reducible exact one_bytes | with_reducible exact one_bool | with_reducible exact one_int | with_reducible exact one_errno | with_reducible exact one_u32 | with_reducible exact one_u64 | with_reducible exact one_string | with_reducible exact one_strs) rfl _ (by apply_assumption; assumption) ?_)
         refine OW_nil ?_
         exact stay_mk _ _ _ _)
    | refine OY_a (actY_of rfl ?_)
    | refine OY_d (actY_of rfl ?_)
    | refine OY_a (actY_pass rfl rfl ?_)
    | refine OY_d (actY_pass rfl rfl ?_)
    | refine OY_a (actY_take rfl rfl ?_)
    | refine OY_d (actY_take rfl rfl ?_))
  exact hEnd.out) (k : B) : A := h ⟨k⟩
theorem vNew_own (w0 w : World) (hx : Ext w0 w) (A : Option Addr) (b : List UInt8) (c : Nat) (hb : Bs w0 A b) (hc : b.length ≤ c) (hl : b.length ≤ 65536) : Calls Try.prog 67 #[.slice A b.length c] w (fun en w' => ∃ g S, en = .returned (.pointer (some ⟨g, 0, none⟩)) ∧ Ext w w' ∧ VR w' g S (b, 0) ∧ w.heap.size ≤ g ∧ (∀ k, S k → k < w0.heap.size ∨ w.heap.size ≤ k) ∧ (∀ k, S k → k < w'.heap.size)) :=
  (vNew_any w A b c (hb.ext hx) hc (by omega)).mono fun en w' ⟨g, h1, h2, h3, h4⟩ => ⟨g, _, h1, h3, by rw [if_neg (by omega)] at h4; exact h4, h2, fun k hk => by
    rcases hk with hk | ⟨ad, ha, hn, hk⟩
    · exact .inr (by omega)
    · exact .inl (hk ▸ Rd.lt hb (by simpa using hn) ad ha), h4.bd⟩
theorem rset (r : RP) (v : Value) (i : Nat) (x : Value) (r' : RP) (h : (rcells r v).set i x = rcells r' v) {w : World} {g : Nat} {T : TypeId} (hb : Blk w g T ((rcells r v).toArray.setIfInBounds i x)) : Blk w g T (rcells r' v).toArray := by
  have e : (rcells r v).toArray.setIfInBounds i x = (rcells r' v).toArray := by rw [← h]; simp
  rw [← e]; exact hb
set_option maxHeartbeats 8000000 in
theorem refParseReply_any (w : World) (A : Option Addr) (c : Nat) (b : List UInt8) (hb : Bs w A b) (hc : b.length ≤ c) (hl : b.length ≤ 65536) : Calls Try.prog 27 #[.slice A b.length c] w (ParP w (parR b) (parE b)) := by
  refine calls_of_CW Try.func27 rfl (by simp [Try.ntmps27]) ?_
  rw [Try.ntmps27]
  refine go_Rep6 (k := ?_)
  refine OW_allocA agg_Rep ?_
  intro w1 g1 hb1 hg1 hlt1 hx1
  refine go_Rep6 (k := ?_)
  refine OW_callC Try.func67 (by kernel_rfl) rfl (vNew_own w w1 hx1 A b c hb hc hl) rfl ?_
  rintro en w2 ⟨gr, S, rfl, hx2, hR2, lgr, hS1, hS2⟩
  refine ⟨_, rfl, ?_⟩
  have hin := hR2.in_
  have ugr := hS2 _ hin
  have n1 : ¬ g1 = gr := by omega
  have nS1 : ¬ S g1 := fun hh => by have := hS1 _ hh; omega
  have hb2 : Blk w2 g1 29 (rcells rp0 (.slice none 0 0)).toArray := hb1.ext hx2
  have hx02 := hx1.trans' hx2
  have ext_r : ∀ {u v : World}, Ext w u → Keeps u v (· = gr) → Ext w v := fun h k => k.ext h (fun j hj => by have hj : j = gr := hj; have := hx1.size; omega)
  clear hb1
  refine go_Rep6 (k := ?_)
  refine OW_allocA agg_Rep ?_
  intro w3 g5 hb5 hg5 hlt5 hx3
  have n5 : ¬ g5 = gr := by omega
  have n15 : ¬ g1 = g5 := by have := hb2.lt; omega
  have nS5 : ¬ S g5 := fun hh => by have := hS2 _ hh; omega
  have hB1 := hb2.ext hx3
  have hB5 : Blk w3 g5 29 (rcells rp0 (.slice none 0 0)).toArray := hb5
  have hR3 := hR2.ext hx3
  have hx03 := hx02.trans' hx3
  have s23 := hx3.size
  have ext_5 : ∀ {u v : World}, Ext w u → Keeps u v (· = g5) → Ext w v := fun h k => k.ext h (fun j hj => by have hj : j = g5 := hj; have := hx02.size; omega)
  clear hb2 hb5 hR2
  have hl0 : LOk rp0.link := lk0_ok
  refine go_Rep6 (k := ?_)
  refine OW_callC Try.func68 (by kernel_rfl) rfl (vInt_any w3 gr S _ hR3) rfl ?_
  rintro en w4 ⟨rfl, hR4, hk4⟩
  refine ⟨_, rfl, ?_⟩
  replace hR4 : VR w4 gr S (s8 (b, 0)) := hR4
  replace hB1 := hB1.keeps hk4 n1
  replace hB5 := hB5.keeps hk4 n5
  have hx04 := ext_r hx03 hk4
  rw [show (if fits (b, 0) 8 = true then i64L ((b, 0).1.take 8) else 0) = rdI (b, 0) from rfl]
  clear hR3
  refine go_Rep6 (k := ?_)
  refine OW_storeB one_errno rfl (.int .i64 (rdI (b, 0))) rfl rfl hB5 (by simp [rcells, lcells]) ?_
  intro w5 hSt5 hg5
  have hk5 : Keeps w4 w5 (· = g5) := Keeps.of_only hg5 rfl
  replace hB5 := rset _ _ _ _ ({ rp0 with err := rdI (b, 0) }) (by simp [rcells, lcells]) hSt5
  have hR5 := hR4.keeps hk5 (fun k hk hh => by have hh : k = g5 := hh; exact nS5 (hh ▸ hk))
  replace hB1 := hB1.keeps hk5 n15
  have hx05 := ext_5 hx04 hk5
  clear hR4 hSt5
  refine go_Rep6 (k := ?_)
  refine OW_callC Try.func69 (by kernel_rfl) rfl (vBytes_any w5 gr S _ hR5) rfl ?_
  rintro en w6 ⟨A6, c6, rfl, ho6, hR6, hk6⟩
  refine ⟨_, rfl, ?_⟩
  replace hR6 : VR w6 gr S (rp2 b) := hR6
  replace hB1 := hB1.keeps hk6 n1
  replace hB5 := hB5.keeps hk6 n5
  have hx06 := ext_r hx05 hk6
  clear hR5
  refine go_Rep6 (k := ?_)
  refine OW_strOf und_bytes und_u8 und_string (own_rd ho6) rfl ?_
  rw [show (Value.string ⟨(bytesV (s8 (b, 0))).toArray⟩) = stv (bytesV (s8 (b, 0))) from rfl]
  refine go_Rep6 (k := ?_)
  refine OW_storeB one_str rfl (stv (bytesV (s8 (b, 0)))) rfl rfl hB5 (by simp [rcells, lcells]) ?_
  intro w7 hB7 hg7
  have hk7 : Keeps w6 w7 (· = g5) := Keeps.of_only hg7 rfl
  replace hB5 := rset _ _ _ _ ({ rp0 with err := rdI (b, 0), value := bytesV (s8 (b, 0)) }) (by simp [rcells, lcells]) hB7
  have hR7 := hR6.keeps hk7 (fun k hk hh => by have hh : k = g5 := hh; exact nS5 (hh ▸ hk))
  replace hB1 := hB1.keeps hk7 n15
  have hx07 := ext_5 hx06 hk7
  clear hR6 hB7
  refine go_Rep6 (k := ?_)
  refine OW_callC Try.func70 (by kernel_rfl) rfl (vCount_any w7 gr S _ hR7 16) rfl ?_
  rintro en w8 ⟨rfl, hR8, hk8⟩
  refine ⟨_, rfl, ?_⟩
  replace hR8 : VR w8 gr S (rp3 b) := hR8
  replace hB1 := hB1.keeps hk8 n1
  replace hB5 := hB5.keeps hk8 n5
  have hx08 := ext_r hx07 hk8
  clear hR7
  have hcp := count_pos (rp2 b) 16
  obtain ⟨N, hN⟩ : ∃ N : Nat, rpN b = N := ⟨(rpN b).toNat, (Int.toNat_of_nonneg hcp.1).symm⟩
  have hN16 : N ≤ 16 := by have := hcp.2 (by omega); unfold rpN at hN; omega
  rw [show countV (rp2 b) 16 = (N : Int) from hN]
  have hNt : (rpN b).toNat = N := by rw [hN]; rfl
  obtain ⟨r1, hr1⟩ : ∃ r1 : RP, ({ rp0 with err := rdI (b, 0), value := bytesV (s8 (b, 0)) } : RP) = r1 := ⟨_, rfl⟩
  have hr1l : r1.link = lk0 := by rw [← hr1]; rfl
  have hlk : LOk r1.link := by rw [hr1l]; exact lk0_ok
  rw [hr1] at hB5
  have s48 : w2.heap.size ≤ w8.heap.size := by have := hk4.size; have := hk5.size; have := hk6.size; have := hk7.size; have := hk8.size; omega
  refine go_Rep6 (k := ?_)
  refine CW_meetB (fun e' w' => e' 2 = .pointer (some ⟨g1, 0, none⟩) ∧ e' 4 = .pointer (some ⟨gr, 0, none⟩) ∧ e' 5 = .pointer (some ⟨g5, 0, none⟩) ∧ ∃ B d, VR w' gr S (rp4 b) ∧ Blk w' g1 29 (rcells rp0 (.slice none 0 0)).toArray ∧ Blk w' g5 29 (rcells r1 (.slice B N d)).toArray ∧ w'.ownsRow w2.heap.size 9 1 (.slice B N d) N ((readKeys N (rp3 b)).1.map stv) ∧ Ext w w') ?_ ?_
  · refine CW_loop (fun e' w' => ∃ (k : Nat) (B : Option Addr) (d : Nat), k ≤ N ∧ e' 2 = .pointer (some ⟨g1, 0, none⟩) ∧ e' 4 = .pointer (some ⟨gr, 0, none⟩) ∧ e' 5 = .pointer (some ⟨g5, 0, none⟩) ∧ e' 6 = .int .i64 N ∧ e' 7 = .int .i64 k ∧ VR w' gr S (readKeys k (rp3 b)).2 ∧ Blk w' g1 29 (rcells rp0 (.slice none 0 0)).toArray ∧ Blk w' g5 29 (rcells r1 (.slice B k d)).toArray ∧ w'.ownsRow w2.heap.size 9 1 (.slice B k d) k ((readKeys k (rp3 b)).1.map stv) ∧ Ext w w' ∧ w2.heap.size ≤ w'.heap.size) (fun e' _ => N - (intOf (e' 7)).toNat) ?_ ?_
    · exact ⟨0, none, 0, Nat.zero_le _, rfl, rfl, rfl, rfl, rfl, hR8, hB1, hB5, World.ownsRow_nil _ _ _ _, hx08, s48⟩
    clear hR8 hB1 hB5
    rintro e8 w9 ⟨k, B, d, hk, e2, e4, e5, e6, e7, hR, hB1, hB5, hO, hx, hsz⟩
    rw [upd_self e2, upd_self e4, upd_self e5, upd_self e6, upd_self e7]
    refine go_Rep6 (k := ?_)
    refine CW_cond _ rfl (fun hh => ?_) (fun hh => ?_)
    · have hlt : k < N := by have := of_decide_eq_true hh; omega
      clear hh
      obtain ⟨C, hC⟩ : ∃ C : World → Prop, C = fun v => Blk v g5 29 (rcells r1 (.slice B k d)).toArray := ⟨_, rfl⟩
      have y1 : ∀ v, C v → Blk v g5 29 (rcells r1 (.slice B k d)).toArray := by rw [hC]; exact fun v h => h
      have yx : ∀ v, Ext w9 v → C v := by rw [hC]; exact fun v hx => hB5.ext hx
      have yk : ∀ v u, C v → Keeps v u (· = gr) → C u := by rw [hC]; exact fun v u h hk => h.keeps hk n5
      have ye : ∀ v u, C v → Ext v u → C u := by rw [hC]; exact fun v u h hk => h.ext hk
      refine go_Rep6 (k := ?_)
      refine CW_tree2 [1, 4] (.p 0 (.q 1 (.p 2 (.a 3 (.q 4 (.a 5 (.d 6 (.p 7 (.d 8 .done))))))))) (C) (by kernel_rfl) (by kernel_rfl) (by kernel_rfl) ?_ ?_
      · exact yx
      intro w10 hx10 hC10
      refine oy_Rep6 (k := ?_)
      refine OW_callC Try.func69 (by kernel_rfl) rfl (vBytes_any w10 gr S _ (hR.ext hx10)) rfl ?_
      rintro en w11 ⟨A11, c11, rfl, ho11, hR11, hk11⟩
      have hC11 := yk _ _ hC10 hk11
      refine ⟨_, rfl, ?_⟩
      have nB : ∀ ad, B = some ad → ¬ ad.block = gr := fun ad ha => by have := (own_block hO ad ha).1; omega
      have hO11 := own_keeps (own_ext hO hx10) hk11 nB
      have hx11 := ext_r (hx.trans' hx10) hk11
      have hB11 := (hB1.ext hx10).keeps hk11 n1
      have s10 := hx10.size
      have s11 := hk11.size
      obtain ⟨D, hD⟩ : ∃ D : World → Prop, D = fun v => C v ∧ Bs v A11 (bytesV (readKeys k (rp3 b)).2) := ⟨_, rfl⟩
      have hDC : ∀ v, D v → C v := by rw [hD]; exact fun v h => h.1
      have y2 : ∀ v, D v → Blk v g5 29 (rcells r1 (.slice B k d)).toArray := fun v h => y1 v (hDC v h)
      have y3 : ∀ v, D v → Bs v A11 (bytesV (readKeys k (rp3 b)).2) := by rw [hD]; exact fun v h => h.2
      have ye2 : ∀ v u, D v → Ext v u → D u := by rw [hD]; exact fun v u h hk => ⟨ye v u h.1 hk, h.2.ext hk⟩
      have hD11 : D w11 := by rw [hD]; exact ⟨hC11, own_rd ho11⟩
      have hy1 := y1
      clear y1
      first | refine OW_nil (goY_sub D hDC hD11 ?_) | refine OW_nil (goY_drop D hD11 ?_)
      refine oy_Rep6 (k := ?_)
      rw [show (Value.string ⟨(bytesV (readKeys k (rp3 b)).2).toArray⟩) = stv (bytesV (readKeys k (rp3 b)).2) from rfl]
      refine oy_Rep6 (k := ?_)
      refine OW_lit [stv (bytesV (readKeys k (rp3 b)).2)] und_strs info_str rfl rfl (by simp [stv, Value.oneCell']) (by decide) ?_
      intro w12 g12 hb12 hg12 hx12
      have hD12 := ye2 _ _ hD11 hx12
      first | refine OW_nil (goY_mk hD12 ?_) | refine OW_nil (goY_drop D hD12 ?_)
      refine oy_Rep6 (k := ?_)
      have s12 := hx12.size
      refine OW_appendK und_strs info_str rfl rfl rfl (own_ext hO11 hx12) (by simpa using hb12.rd) rfl (by simp [stv, Value.oneCell']) (by unfold maxLen; omega) (by omega) (by omega) ?_
      intro w13 B13 d13 hO13 hg13 hw13
      have hK13 : Keeps w12 w13 (fun k => ∃ ad, B = some ad ∧ ad.block = k) := Keeps.of_grown hg13 (fun g hg => by
        cases B with
        | none => cases hg
        | some ad => cases hg; exact ⟨ad, rfl, rfl⟩)
      have hne5 := own_ne_blk hO hB5 (by decide)
      have hne1 := own_ne_blk hO hB1 (by decide)
      have hB13 := (y2 _ hD12).keeps hK13 (fun ⟨ad, ha, hh⟩ => hne5 ad ha hh)
      have hD13 : D w13 := by
        rw [hD, hC]
        refine ⟨hB13, (Bs.ext (show Bs w11 A11 (bytesV (readKeys k (rp3 b)).2) from own_rd ho11) hx12).keepsN hK13 (fun ad ha hn ⟨ad2, ha2, hh⟩ => ?_)⟩
        have h1 := (own_block ho11 ad ha).1
        have h2 := (own_block (own_ext hO hx10) ad2 ha2).2
        omega
      first | refine OW_nil (goY_mk hD13 ?_) | refine OW_nil (goY_drop D hD13 ?_)
      refine oy_Rep6 (k := ?_)
      refine OW_storeB one_strs rfl (.slice B13 (k + 1) d13) rfl rfl hB13 (by show 2 < (rcells r1 _).toArray.size; simp [rcells_length hlk]) ?_
      intro w14 hB14 hg14
      have hK14 : Keeps w13 w14 (· = g5) := Keeps.of_only hg14 rfl
      refine OW_nil (goY_done ?_)
      refine go_Rep6 (k := ?_)
      have hB14' : Blk w14 g5 29 (rcells r1 (.slice B13 (k + 1) d13)).toArray := by
        have e : (rcells r1 (.slice B k d)).toArray.setIfInBounds 2 (.slice B13 (k + 1) d13) = (rcells r1 (.slice B13 (k + 1) d13)).toArray := by simp [rcells]
        rw [← e]; exact hB14
      have nO : ∀ ad, B13 = some ad → ¬ ad.block = g5 := fun ad ha hh => by
        rcases hw13 with h | h
        · rw [ha] at h
          cases B with
          | none => cases h
          | some ad0 => have hq : ad.block = ad0.block := by simpa [Value.ownBlock] using h
                        exact hne5 ad0 rfl (by rw [← hq, hh])
        · rw [ha] at h
          have hq : ad.block = w12.heap.size := by simpa [Value.ownBlock] using h
          have := hB5.lt; omega
      have hO13' : w13.ownsRow w2.heap.size 9 1 (.slice B13 (k + 1) d13) (k + 1) ((readKeys (k + 1) (rp3 b)).1.map stv) := by
        have e : (readKeys (k + 1) (rp3 b)).1.map stv = (readKeys k (rp3 b)).1.map stv ++ [stv (bytesV (readKeys k (rp3 b)).2)] := by
          show ((readKeys k (rp3 b)).1 ++ [_]).map stv = _
          simp
        rw [e]; exact hO13
      have hext13 : Ext w w13 := hK13.ext (hx11.trans' hx12) (fun j ⟨ad, ha, hh⟩ => by have := (own_block hO ad ha).1; have := hx02.size; omega)
      have s13 := hK13.size
      have s14 := hK14.size
      refine ⟨⟨k + 1, B13, d13, by omega, rfl, rfl, rfl, rfl, rfl, ?_, ?_, hB14', own_keeps hO13' hK14 nO, ext_5 hext13 hK14, by omega⟩, ?_⟩
      · refine ((hR11.ext hx12).keeps hK13 (fun j hj ⟨ad, ha, hh⟩ => ?_)).keeps hK14 (fun j hj hh => ?_)
        · have := (own_block hO ad ha).1; have := hS2 j hj; omega
        · have hh : j = g5 := hh; exact nS5 (hh ▸ hj)
      · exact ((hB11.ext hx12).keeps hK13 (fun ⟨ad, ha, hh⟩ => hne1 ad ha hh)).keeps hK14 n15
      · show N - ((k : Int) + 1).toNat < N - (k : Int).toNat
        omega
    · have hge : k = N := by have := of_decide_eq_false hh; omega
      subst hge
      refine go_Rep6 (k := ?_)
      refine ⟨rfl, rfl, rfl, rfl, B, d, ?_, hB1, hB5, hO, hx⟩
      unfold rp4
      rw [hNt]
      exact hR
  clear hR8 hB1 hB5
  rintro e8 w20 ⟨e2, e4, e5, B, d, hR20, hB1, hB5, hO8, hx020⟩
  rw [upd_self e2, upd_self e4, upd_self e5]
  obtain ⟨keys, hkeys⟩ : ∃ keys, (readKeys N (rp3 b)).1 = keys := ⟨_, rfl⟩
  have hkl : keys.length = N := by rw [← hkeys]; exact readKeys_length _ _
  rw [hkeys] at hO8
  have hne5 := own_ne_blk hO8 hB5 (by decide)
  have nB : ∀ ad, B = some ad → ¬ ad.block = gr := fun ad ha => by have := (own_block hO8 ad ha).1; omega
  replace hl0 := hlk
  refine go_Rep6 (k := ?_)
  refine OW_callC Try.func68 (by kernel_rfl) rfl (vInt_any w20 gr S _ hR20) rfl ?_
  rintro en w21 ⟨rfl, hR21, hk21⟩
  refine ⟨_, rfl, ?_⟩
  replace hR21 : VR w21 gr S (s8 (rp4 b)) := hR21
  replace hB1 := hB1.keeps hk21 n1
  replace hB5 := hB5.keeps hk21 n5
  replace hO8 := own_keeps hO8 hk21 nB
  have hx021 := ext_r hx020 hk21
  rw [show (if fits (rp4 b) 8 = true then i64L ((rp4 b).1.take 8) else 0) = rdI (rp4 b) from rfl]
  clear hR20
  refine go_Rep6 (k := ?_)
  refine OW_storeB one_int rfl (.int .i64 (rdI (rp4 b))) rfl rfl hB5 (by simp [rcells, lcells]) ?_
  intro w22 hB22 hg22
  have hk22 : Keeps w21 w22 (· = g5) := Keeps.of_only hg22 rfl
  replace hB5 := rset _ _ _ _ ({ r1 with n := rdI (rp4 b) }) (by simp [rcells, lcells]) hB22
  have hR22 := hR21.keeps hk22 (fun k hk hh => by have hh : k = g5 := hh; exact nS5 (hh ▸ hk))
  replace hB1 := hB1.keeps hk22 n15
  replace hO8 := own_keeps hO8 hk22 (fun ad ha => hne5 ad ha)
  have hx022 := ext_5 hx021 hk22
  clear hR21 hB22
  refine go_Rep6 (k := ?_)
  obtain ⟨r2, hr2⟩ : ∃ r2 : RP, { r1 with n := rdI (rp4 b) } = r2 := ⟨_, rfl⟩
  have hr2l : r2.link = lk0 := by rw [← hr2]; exact hr1l
  rw [hr2] at hB5
  obtain ⟨s, hs⟩ : ∃ s, s8 (rp4 b) = s := ⟨_, rfl⟩
  rw [hs] at hR22
  have hrs : ∀ l : LK, LOk l → LOk ({ r2 with link := l } : RP).link := fun l h => h
  have e2l : r2 = { r2 with link := lk0 } := by rw [← hr2l]
  rw [e2l] at hB5
  replace hl0 : LOk lk0 := lk0_ok
  refine OW_callC Try.func68 (by kernel_rfl) rfl (vInt_any w22 gr S _ hR22) rfl ?_
  rintro en w23 ⟨rfl, hR23, hk23⟩
  refine ⟨_, rfl, ?_⟩
  replace hR23 : VR w23 gr S (s8 s) := hR23
  replace hB1 := hB1.keeps hk23 n1
  replace hB5 := hB5.keeps hk23 n5
  replace hO8 := own_keeps hO8 hk23 nB
  have hx023 := ext_r hx022 hk23
  rw [show (if fits s 8 = true then i64L (s.1.take 8) else 0) = rdI s from rfl]
  clear hR22
  refine go_Rep6 (k := ?_)
  refine OW_storeB one_int rfl (.int .i64 (rdI s)) rfl rfl hB5 (by simp [rcells, lcells]) ?_
  intro w24 hB24 hg24
  have hk24 : Keeps w23 w24 (· = g5) := Keeps.of_only hg24 rfl
  replace hB5 := rset _ _ _ _ ({ r2 with link := { lk0 with n := rdI s } }) (by simp [rcells, lcells]) hB24
  have hR24 := hR23.keeps hk24 (fun k hk hh => by have hh : k = g5 := hh; exact nS5 (hh ▸ hk))
  replace hB1 := hB1.keeps hk24 n15
  replace hO8 := own_keeps hO8 hk24 (fun ad ha => hne5 ad ha)
  have hx024 := ext_5 hx023 hk24
  clear hR23 hB24
  refine go_Rep6 (k := ?_)
  refine OW_callC Try.func68 (by kernel_rfl) rfl (vInt_any w24 gr S _ hR24) rfl ?_
  rintro en w25 ⟨rfl, hR25, hk25⟩
  refine ⟨_, rfl, ?_⟩
  replace hR25 : VR w25 gr S (s8 (s8 s)) := hR25
  replace hB1 := hB1.keeps hk25 n1
  replace hB5 := hB5.keeps hk25 n5
  replace hO8 := own_keeps hO8 hk25 nB
  have hx025 := ext_r hx024 hk25
  rw [show (if fits (s8 s) 8 = true then i64L ((s8 s).1.take 8) else 0) = rdI (s8 s) from rfl]
  clear hR24
  refine go_Rep6 (k := ?_)
  refine OW_storeB one_int rfl (.int .i64 (rdI (s8 s))) rfl rfl hB5 (by simp [rcells, lcells]) ?_
  intro w26 hB26 hg26
  have hk26 : Keeps w25 w26 (· = g5) := Keeps.of_only hg26 rfl
  replace hB5 := rset _ _ _ _ ({ r2 with link := { lk0 with n := rdI s, stamp := rdI (s8 s) } }) (by simp [rcells, lcells]) hB26
  have hR26 := hR25.keeps hk26 (fun k hk hh => by have hh : k = g5 := hh; exact nS5 (hh ▸ hk))
  replace hB1 := hB1.keeps hk26 n15
  replace hO8 := own_keeps hO8 hk26 (fun ad ha => hne5 ad ha)
  have hx026 := ext_5 hx025 hk26
  clear hR25 hB26
  refine go_Rep6 (k := ?_)
  refine OW_callC Try.func71 (by kernel_rfl) rfl (vByte_any w26 gr S _ hR26) rfl ?_
  rintro en w27 ⟨rfl, hR27, hk27⟩
  refine ⟨_, rfl, ?_⟩
  replace hR27 : VR w27 gr S (s1 (s8 (s8 s))) := hR27
  replace hB1 := hB1.keeps hk27 n1
  replace hB5 := hB5.keeps hk27 n5
  replace hO8 := own_keeps hO8 hk27 nB
  have hx027 := ext_r hx026 hk27
  rw [show (if fits (s8 (s8 s)) 1 = true then (s8 (s8 s)).1.headD 0 else 0) = rdB (s8 (s8 s)) from rfl]
  clear hR26
  refine go_Rep6 (k := ?_)
  refine OW_storeB one_u8 rfl (bv (rdB (s8 (s8 s)))) rfl rfl hB5 (by simp [rcells, lcells]) ?_
  intro w28 hB28 hg28
  have hk28 : Keeps w27 w28 (· = g5) := Keeps.of_only hg28 rfl
  replace hB5 := rset _ _ _ _ ({ r2 with link := { lk0 with n := rdI s, stamp := rdI (s8 s), op := rdB (s8 (s8 s)) } }) (by simp [rcells, lcells]) hB28
  have hR28 := hR27.keeps hk28 (fun k hk hh => by have hh : k = g5 := hh; exact nS5 (hh ▸ hk))
  replace hB1 := hB1.keeps hk28 n15
  replace hO8 := own_keeps hO8 hk28 (fun ad ha => hne5 ad ha)
  have hx028 := ext_5 hx027 hk28
  clear hR27 hB28
  refine go_Rep6 (k := ?_)
  refine OW_callC Try.func68 (by kernel_rfl) rfl (vInt_any w28 gr S _ hR28) rfl ?_
  rintro en w29 ⟨rfl, hR29, hk29⟩
  refine ⟨_, rfl, ?_⟩
  replace hR29 : VR w29 gr S (s8 (s1 (s8 (s8 s)))) := hR29
  replace hB1 := hB1.keeps hk29 n1
  replace hB5 := hB5.keeps hk29 n5
  replace hO8 := own_keeps hO8 hk29 nB
  have hx029 := ext_r hx028 hk29
  rw [show (if fits (s1 (s8 (s8 s))) 8 = true then i64L ((s1 (s8 (s8 s))).1.take 8) else 0) = rdI (s1 (s8 (s8 s))) from rfl]
  clear hR28
  refine go_Rep6 (k := ?_)
  refine OW_storeB one_int rfl (.int .i64 (rdI (s1 (s8 (s8 s))))) rfl rfl hB5 (by simp [rcells, lcells]) ?_
  intro w30 hB30 hg30
  have hk30 : Keeps w29 w30 (· = g5) := Keeps.of_only hg30 rfl
  replace hB5 := rset _ _ _ _ ({ r2 with link := { lk0 with n := rdI s, stamp := rdI (s8 s), op := rdB (s8 (s8 s)), ten := rdI (s1 (s8 (s8 s))) } }) (by simp [rcells, lcells]) hB30
  have hR30 := hR29.keeps hk30 (fun k hk hh => by have hh : k = g5 := hh; exact nS5 (hh ▸ hk))
  replace hB1 := hB1.keeps hk30 n15
  replace hO8 := own_keeps hO8 hk30 (fun ad ha => hne5 ad ha)
  have hx030 := ext_5 hx029 hk30
  clear hR29 hB30
  refine go_Rep6 (k := ?_)
  refine OW_callC Try.func68 (by kernel_rfl) rfl (vInt_any w30 gr S _ hR30) rfl ?_
  rintro en w31 ⟨rfl, hR31, hk31⟩
  refine ⟨_, rfl, ?_⟩
  replace hR31 : VR w31 gr S (s8 (s8 (s1 (s8 (s8 s))))) := hR31
  replace hB1 := hB1.keeps hk31 n1
  replace hB5 := hB5.keeps hk31 n5
  replace hO8 := own_keeps hO8 hk31 nB
  have hx031 := ext_r hx030 hk31
  rw [show (if fits (s8 (s1 (s8 (s8 s)))) 8 = true then i64L ((s8 (s1 (s8 (s8 s)))).1.take 8) else 0) = rdI (s8 (s1 (s8 (s8 s)))) from rfl]
  clear hR30
  refine go_Rep6 (k := ?_)
  refine OW_storeB one_int rfl (.int .i64 (rdI (s8 (s1 (s8 (s8 s)))))) rfl rfl hB5 (by simp [rcells, lcells]) ?_
  intro w32 hB32 hg32
  have hk32 : Keeps w31 w32 (· = g5) := Keeps.of_only hg32 rfl
  replace hB5 := rset _ _ _ _ ({ r2 with link := { lk0 with n := rdI s, stamp := rdI (s8 s), op := rdB (s8 (s8 s)), ten := rdI (s1 (s8 (s8 s))), a := rdI (s8 (s1 (s8 (s8 s)))) } }) (by simp [rcells, lcells]) hB32
  have hR32 := hR31.keeps hk32 (fun k hk hh => by have hh : k = g5 := hh; exact nS5 (hh ▸ hk))
  replace hB1 := hB1.keeps hk32 n15
  replace hO8 := own_keeps hO8 hk32 (fun ad ha => hne5 ad ha)
  have hx032 := ext_5 hx031 hk32
  clear hR31 hB32
  refine go_Rep6 (k := ?_)
  refine OW_callC Try.func68 (by kernel_rfl) rfl (vInt_any w32 gr S _ hR32) rfl ?_
  rintro en w33 ⟨rfl, hR33, hk33⟩
  refine ⟨_, rfl, ?_⟩
  replace hR33 : VR w33 gr S (s8 (s8 (s8 (s1 (s8 (s8 s)))))) := hR33
  replace hB1 := hB1.keeps hk33 n1
  replace hB5 := hB5.keeps hk33 n5
  replace hO8 := own_keeps hO8 hk33 nB
  have hx033 := ext_r hx032 hk33
  rw [show (if fits (s8 (s8 (s1 (s8 (s8 s))))) 8 = true then i64L ((s8 (s8 (s1 (s8 (s8 s))))).1.take 8) else 0) = rdI (s8 (s8 (s1 (s8 (s8 s))))) from rfl]
  clear hR32
  refine go_Rep6 (k := ?_)
  refine OW_storeB one_int rfl (.int .i64 (rdI (s8 (s8 (s1 (s8 (s8 s))))))) rfl rfl hB5 (by simp [rcells, lcells]) ?_
  intro w34 hB34 hg34
  have hk34 : Keeps w33 w34 (· = g5) := Keeps.of_only hg34 rfl
  replace hB5 := rset _ _ _ _ ({ r2 with link := { lk0 with n := rdI s, stamp := rdI (s8 s), op := rdB (s8 (s8 s)), ten := rdI (s1 (s8 (s8 s))), a := rdI (s8 (s1 (s8 (s8 s)))), b := rdI (s8 (s8 (s1 (s8 (s8 s))))) } }) (by simp [rcells, lcells]) hB34
  have hR34 := hR33.keeps hk34 (fun k hk hh => by have hh : k = g5 := hh; exact nS5 (hh ▸ hk))
  replace hB1 := hB1.keeps hk34 n15
  replace hO8 := own_keeps hO8 hk34 (fun ad ha => hne5 ad ha)
  have hx034 := ext_5 hx033 hk34
  clear hR33 hB34
  refine go_Rep6 (k := ?_)
  refine OW_callC Try.func68 (by kernel_rfl) rfl (vInt_any w34 gr S _ hR34) rfl ?_
  rintro en w35 ⟨rfl, hR35, hk35⟩
  refine ⟨_, rfl, ?_⟩
  replace hR35 : VR w35 gr S (s8 (s8 (s8 (s8 (s1 (s8 (s8 s))))))) := hR35
  replace hB1 := hB1.keeps hk35 n1
  replace hB5 := hB5.keeps hk35 n5
  replace hO8 := own_keeps hO8 hk35 nB
  have hx035 := ext_r hx034 hk35
  rw [show (if fits (s8 (s8 (s8 (s1 (s8 (s8 s)))))) 8 = true then i64L ((s8 (s8 (s8 (s1 (s8 (s8 s)))))).1.take 8) else 0) = rdI (s8 (s8 (s8 (s1 (s8 (s8 s)))))) from rfl]
  clear hR34
  refine go_Rep6 (k := ?_)
  refine OW_storeB one_int rfl (.int .i64 (rdI (s8 (s8 (s8 (s1 (s8 (s8 s)))))))) rfl rfl hB5 (by simp [rcells, lcells]) ?_
  intro w36 hB36 hg36
  have hk36 : Keeps w35 w36 (· = g5) := Keeps.of_only hg36 rfl
  replace hB5 := rset _ _ _ _ ({ r2 with link := { lk0 with n := rdI s, stamp := rdI (s8 s), op := rdB (s8 (s8 s)), ten := rdI (s1 (s8 (s8 s))), a := rdI (s8 (s1 (s8 (s8 s)))), b := rdI (s8 (s8 (s1 (s8 (s8 s))))), c := rdI (s8 (s8 (s8 (s1 (s8 (s8 s)))))) } }) (by simp [rcells, lcells]) hB36
  have hR36 := hR35.keeps hk36 (fun k hk hh => by have hh : k = g5 := hh; exact nS5 (hh ▸ hk))
  replace hB1 := hB1.keeps hk36 n15
  replace hO8 := own_keeps hO8 hk36 (fun ad ha => hne5 ad ha)
  have hx036 := ext_5 hx035 hk36
  clear hR35 hB36
  refine go_Rep6 (k := ?_)
  obtain ⟨l7, hl7⟩ : ∃ l7 : LK, { lk0 with n := rdI s, stamp := rdI (s8 s), op := rdB (s8 (s8 s)), ten := rdI (s1 (s8 (s8 s))), a := rdI (s8 (s1 (s8 (s8 s)))), b := rdI (s8 (s8 (s1 (s8 (s8 s))))), c := rdI (s8 (s8 (s8 (s1 (s8 (s8 s)))))) } = l7 := ⟨_, rfl⟩
  have hl7a : l7.ahead = tz := by rw [← hl7]; rfl
  have hl7s : l7.self = tz := by rw [← hl7]; rfl
  rw [hl7] at hB5
  refine OW_callC Try.func72 (by kernel_rfl) rfl (vTag_any w36 gr S _ hR36) rfl ?_
  rintro en w37 ⟨rfl, hR37, hk37⟩
  refine ⟨_, rfl, ?_⟩
  replace hR37 : VR w37 gr S (s32 (s8 (s8 (s8 (s8 (s1 (s8 (s8 s)))))))) := hR37
  replace hB1 := hB1.keeps hk37 n1
  replace hB5 := hB5.keeps hk37 n5
  replace hO8 := own_keeps hO8 hk37 nB
  have hx037 := ext_r hx036 hk37
  clear hR36
  refine go_Rep6 (k := ?_)
  have hta := tagV_length (s8 (s8 (s8 (s8 (s1 (s8 (s8 s)))))))
  refine OW_storeM agg_Tag rfl ((tagV (s8 (s8 (s8 (s8 (s1 (s8 (s8 s)))))))).map bv) rfl (by simp [hta]) hB5 (by simp [rcells, lcells, hl7a, hl7s, tz]) (bv_one' _) ?_
  intro w38 hB38 hg38
  have hk38 : Keeps w37 w38 (· = g5) := Keeps.of_only hg38 rfl
  replace hB5 : Blk w38 g5 29 (rcells { r2 with link := { l7 with ahead := tagV (s8 (s8 (s8 (s8 (s1 (s8 (s8 s))))))) } } (.slice B N d)).toArray := by
    have e : (rcells { r2 with link := l7 } (.slice B N d)).take 11 ++ (tagV (s8 (s8 (s8 (s8 (s1 (s8 (s8 s)))))))).map bv ++ (rcells { r2 with link := l7 } (.slice B N d)).drop (11 + 32) = rcells { r2 with link := { l7 with ahead := tagV (s8 (s8 (s8 (s8 (s1 (s8 (s8 s))))))) } } (.slice B N d) := by
      simp [rcells, lcells, hl7a, tz]
    rw [← e]; exact hB38
  have hR38 := hR37.keeps hk38 (fun k hk hh => by have hh : k = g5 := hh; exact nS5 (hh ▸ hk))
  replace hB1 := hB1.keeps hk38 n15
  replace hO8 := own_keeps hO8 hk38 (fun ad ha => hne5 ad ha)
  have hx038 := ext_5 hx037 hk38
  clear hR37 hB38
  refine go_Rep6 (k := ?_)
  refine OW_callC Try.func72 (by kernel_rfl) rfl (vTag_any w38 gr S _ hR38) rfl ?_
  rintro en w39 ⟨rfl, hR39, hk39⟩
  refine ⟨_, rfl, ?_⟩
  replace hR39 : VR w39 gr S (s32 (s32 (s8 (s8 (s8 (s8 (s1 (s8 (s8 s))))))))) := hR39
  replace hB1 := hB1.keeps hk39 n1
  replace hB5 := hB5.keeps hk39 n5
  replace hO8 := own_keeps hO8 hk39 nB
  have hx039 := ext_r hx038 hk39
  clear hR38
  refine go_Rep6 (k := ?_)
  have hts := tagV_length (s32 (s8 (s8 (s8 (s8 (s1 (s8 (s8 s))))))))
  refine OW_storeM agg_Tag rfl ((tagV (s32 (s8 (s8 (s8 (s8 (s1 (s8 (s8 s))))))))).map bv) rfl (by simp [hts]) hB5 (by simp [rcells, lcells, hta, hl7s, tz]) (bv_one' _) ?_
  intro w40 hB40 hg40
  have hk40 : Keeps w39 w40 (· = g5) := Keeps.of_only hg40 rfl
  replace hB5 : Blk w40 g5 29 (rcells { r2 with link := readLk s } (.slice B N d)).toArray := by
    have e : (rcells { r2 with link := { l7 with ahead := tagV (s8 (s8 (s8 (s8 (s1 (s8 (s8 s))))))) } } (.slice B N d)).take 43 ++ (tagV (s32 (s8 (s8 (s8 (s8 (s1 (s8 (s8 s))))))))).map bv ++ (rcells { r2 with link := { l7 with ahead := tagV (s8 (s8 (s8 (s8 (s1 (s8 (s8 s))))))) } } (.slice B N d)).drop (43 + 32) = rcells { r2 with link := { l7 with ahead := tagV (s8 (s8 (s8 (s8 (s1 (s8 (s8 s))))))), self := tagV (s32 (s8 (s8 (s8 (s8 (s1 (s8 (s8 s)))))))) } } (.slice B N d) := by
      simp [rcells, lcells, hta, hl7s, tz]
    have e2 : ({ l7 with ahead := tagV (s8 (s8 (s8 (s8 (s1 (s8 (s8 s))))))), self := tagV (s32 (s8 (s8 (s8 (s8 (s1 (s8 (s8 s)))))))) } : LK) = readLk s := by rw [← hl7]; rfl
    rw [← e2, ← e]; exact hB40
  have hR40 := hR39.keeps hk40 (fun k hk hh => by have hh : k = g5 := hh; exact nS5 (hh ▸ hk))
  replace hB1 := hB1.keeps hk40 n15
  replace hO8 := own_keeps hO8 hk40 (fun ad ha => hne5 ad ha)
  have hx040 := ext_5 hx039 hk40
  clear hR39 hB40
  obtain ⟨r3, hr3⟩ : ∃ r3 : RP, readRp b = r3 := ⟨_, rfl⟩
  have hr3e : ({ r2 with link := readLk s, keys := keys } : RP) = r3 := by rw [← hr3, ← hr2, ← hr1, ← hs]; unfold readRp; rw [hNt, hkeys]
  have hr3k : r3.keys = keys := by rw [← hr3e]
  have hr3l : LOk r3.link := by rw [← hr3e]; exact readLk_ok s
  replace hB5 : Blk w40 g5 29 (rcells r3 (.slice B r3.keys.length d)).toArray := by rw [hr3k, hkl, ← hr3e]; exact hB5
  have hend : stLk s = endRp b := by rw [← hs]; rfl
  replace hR40 : VR w40 gr S (endRp b) := by rw [← hend]; exact hR40
  have hgood : goodR b = (decide (endE (endRp b) = 0) && mayP r3) := by unfold goodR; rw [hr3]
  have hpR : parR b = if goodR b then r3 else rp0 := by unfold parR; rw [hr3]
  have hpE : parE b = if goodR b then 0 else 150 := rfl
  clear hr3e
  have hw2 : w.heap.size ≤ w2.heap.size := hx02.size
  rw [hpR, hpE, hgood]
  rw [← hkl, ← hr3k] at hO8
  have hok : ROk w40 r3 B d := par_ok hO8 hr3l (by rw [hr3k, hkl]; omega) hr3 hl
  have hx20 := hx040
  refine go_Rep6 (k := ?_)
  refine OW_callV Try.func73 (by kernel_rfl) rfl (vEnd_any w40 gr S _ hR40) rfl ?_
  intro w61 hx61
  have zero : ∀ u, Ext w u → Blk u g1 29 (rcells rp0 (.slice none 0 0)).toArray → ParP w rp0 150 (.returned (.tuple #[.agg (rcells rp0 (.slice none 0 0)).toArray, .int .i64 150])) u := fun u hu _ => ⟨none, 0, rfl, World.ownsRow_nil _ _ _ _, hu⟩
  have hx061 := hx20.trans' hx61
  replace hB1 := hB1.ext hx61
  replace hB5 := hB5.ext hx61
  refine go_Rep6 (k := ?_)
  refine OW_split 74 _ rfl (fun hh => ?_) (fun hh => ?_)
  · have he : ¬ endE (endRp b) = 0 := by simpa using hh
    rw [decide_eq_false he]
    refine go_Rep6 (k := ?_)
    refine OW_build _ _ bld_P0 rfl ?_
    refine go_Rep6 (k := ?_)
    refine OW_storeA agg_Rep rfl (rcells rp0 (.slice none 0 0)) rfl (rcells_length lk0_ok) hB1 (by kernel_rfl) (rcells_one rp0 none 0) ?_
    intro w62 hb62 hg62
    have hx62 : Ext w w62 := (Keeps.of_only (S := (· = g1)) hg62 rfl).ext hx061 (fun j hj => by have hj : j = g1 := hj; omega)
    refine go_Rep6 (k := ?_)
    exact bodyE_retc2 rfl agg_Rep rfl (rcells rp0 (.slice none 0 0)) (.int .i64 150) rfl (rcells_length lk0_ok) (Blk.range hb62) (zero _ hx62 hb62)
  have he : endE (endRp b) = 0 := by simpa using hh
  rw [decide_eq_true he]
  clear hh
  refine go_Rep6 (k := ?_)
  refine OW_loadX agg_Rep rfl (rcells r3 (.slice B r3.keys.length d)) (rcells_length hr3l) hB5.atL ?_
  refine go_Rep6 (k := ?_)
  refine OW_callV Try.func18 (by kernel_rfl) rfl (refMayReply_any w61 B d r3 (hok.ext hx61)) rfl ?_
  intro w62 hx62
  have hx062 := hx061.trans' hx62
  replace hB1 := hB1.ext hx62
  replace hB5 := hB5.ext hx62
  cases hm : mayP r3 with
  | false =>
    refine go_Rep6 (k := ?_)
    refine OW_build _ _ bld_P0 rfl ?_
    refine go_Rep6 (k := ?_)
    refine OW_storeA agg_Rep rfl (rcells rp0 (.slice none 0 0)) rfl (rcells_length lk0_ok) hB1 (by kernel_rfl) (rcells_one rp0 none 0) ?_
    intro w63 hb63 hg63
    have hx63 : Ext w w63 := (Keeps.of_only (S := (· = g1)) hg63 rfl).ext hx062 (fun j hj => by have hj : j = g1 := hj; omega)
    refine go_Rep6 (k := ?_)
    exact bodyE_retc2 rfl agg_Rep rfl (rcells rp0 (.slice none 0 0)) (.int .i64 150) rfl (rcells_length lk0_ok) (Blk.range hb63) (zero _ hx63 hb63)
  | true =>
    refine go_Rep6 (k := ?_)
    refine OW_loadX agg_Rep rfl (rcells r3 (.slice B r3.keys.length d)) (rcells_length hr3l) hB5.atL ?_
    refine go_Rep6 (k := ?_)
    refine OW_storeA agg_Rep rfl (rcells r3 (.slice B r3.keys.length d)) rfl (rcells_length hr3l) hB1 (by kernel_rfl) (rcells_one r3 B d) ?_
    intro w63 hb63 hg63
    have hK63 : Keeps w62 w63 (· = g1) := Keeps.of_only hg63 rfl
    have hx63 : Ext w w63 := hK63.ext hx062 (fun j hj => by have hj : j = g1 := hj; omega)
    have hO63 := own_keeps (own_ext (own_ext hO8 hx61) hx62) hK63 (fun ad ha hh => by have hh : ad.block = g1 := hh; have := (own_block hO8 ad ha).1; omega)
    refine go_Rep6 (k := ?_)
    exact bodyE_retc2 rfl agg_Rep rfl (rcells r3 (.slice B r3.keys.length d)) (.int .i64 0) rfl (rcells_length hr3l) (Blk.range hb63) ⟨B, d, rfl, own_mono hO63 hw2, hx63⟩
end Go.Proofs.Ytdpomchhbbopbaa
