/- Walks: a reply is printed. -/
import Derived.Test.YthhphmbhlddihaaRep1
import Derived.Test.YthhphmbhlddihaaWireY
namespace Go.Proofs.Ythhphmbhlddihaa
open Go Go.RowKit
set_option linter.unusedVariables false
set_option maxRecDepth 4000
theorem go_Rep2 {A B : Prop} (h : Held B → A := by
  intro hEnd
  repeat (first | refine OW_fieldF fld_P0 rfl ?_ | refine OW_fieldF fld_P1 rfl ?_ | refine OW_fieldF fld_P2 rfl ?_ | refine OW_fieldF fld_P3 rfl ?_ | refine OW_fieldF fld_P4 rfl ?_ | refine OW_lenL und_string rfl ?_ | refine OW_lenS und_strs rfl ?_ | refine OW_idxS und_strs one_str rfl rfl _ rfl (by omega) ?_ | refine OW_fieldF fld_L0 rfl ?_ | refine OW_fieldF fld_L1 rfl ?_ | refine OW_fieldF fld_L2 rfl ?_ | refine OW_fieldF fld_L3 rfl ?_ | refine OW_fieldF fld_L4 rfl ?_ | refine OW_fieldF fld_L5 rfl ?_ | refine OW_fieldF fld_L6 rfl ?_ | refine OW_fieldF fld_L7 rfl ?_ | refine OW_fieldBL fldo_L8 rfl ?_ | refine OW_loadN agg_Tag rfl (by apply_assumption; assumption) ?_ | refine OW_moveV (.int _ _) rfl ?_ | refine OW_moveV (.slice _ _ _) rfl ?_ | refine OW_moveV (.bool _) rfl ?_ | refine OW_moveV (.pointer _) rfl ?_ | refine OW_moveV (.string _) rfl ?_ | refine OW_moveV (.agg _) rfl ?_ | refine OW_moveV (.tuple _) rfl ?_ | refine OW_nil ?_ | refine thenE_normal ?_ | refine CW_seq ?_ | refine CW_region (by kernel_rfl) ?_ | refine OW_assignV (.int _ _) rfl ?_ | refine OW_assignV (.slice _ _ _) rfl ?_ | refine OW_assignV (.bool _) rfl ?_ | refine OW_assignV (.pointer _) rfl ?_ | refine OW_assignV (.string _) rfl ?_ | refine OW_assignV (.agg _) rfl ?_ | refine OW_assignV (.tuple _) rfl ?_ | refine OW_addI rfl rfl (by omega) ?_ | refine OW_subI rfl rfl (by omega) ?_ | refine OW_mulI rfl rfl (by omega) ?_ | refine OW_lss rfl rfl ?_ | refine OW_extract rfl rfl ?_ | refine OW_gtr rfl rfl ?_ | refine OW_leq rfl rfl ?_ | refine OW_geq rfl rfl ?_ | refine OW_eql rfl rfl ?_ | refine OW_neq rfl rfl ?_ | refine OW_not rfl ?_ | refine OW_pickT rfl _ rfl ?_ | refine OW_pickF rfl (.bool _) rfl ?_ | refine OW_pickB rfl rfl rfl ?_ | refine OW_move ?_ | refine OW_assign ?_ | refine OW_pass rfl ?_ | refine OW_take rfl ?_ | refine OW_lenS (by first | with_reducible exact und_bytes | with_reducible exact und_bytess) rfl ?_ | refine OW_convInt (by first | with_reducible exact und_u8 | with_reducible exact und_u64 | with_reducible exact und_int | with_reducible exact und_u32) (by first | with_reducible exact und_u8 | with_reducible exact und_u64 | with_reducible exact und_int | with_reducible exact und_u32) rfl ?_ | refine OW_add rfl rfl ?_ | refine OW_sub rfl rfl ?_ | refine OW_mul rfl rfl ?_ | refine OW_min2 rfl rfl ?_ | refine OW_max2 rfl rfl ?_ | refine OW_neg rfl ?_ | refine CW_block ?_ | refine CW_condT rfl ?_ | refine CW_condF rfl ?_ | refine CW_exit ?_ | refine CW_ret ?_ | refine CW_skip ?_ | refine LW_seq ?_ | refine LW_regC ?_ | refine LW_condC ?_ | refine LW_regF ?_ | refine LW_condF ?_ | refine FW_seq ?_ | refine FW_region (by kernel_rfl) ?_ | refine FW_block ?_ | refine FW_condT rfl ?_ | refine FW_condF rfl ?_ | refine FW_exit ?_ | refine FW_ret ?_ | refine FW_skip ?_ | refine LW_ret ?_ | refine LW_skip ?_ | refine thenE_exit ?_ | refine thenE_ret ?_ | refine inBlockE_normal ?_ | refine inBlockE_same ?_ | refine inBlockE_ret ?_ | refine inBlockE_ne (by rfl) ?_ | refine OW_eqlB (by with_reducible exact und_bool) rfl rfl ?_ | refine OW_neqB (by with_reducible exact und_bool) rfl rfl ?_ | refine OW_idxS (by with_reducible exact und_bytes) one_u8 rfl rfl _ rfl (by omega) ?_ | refine OW_idxS (by with_reducible exact und_bytess) one_bytes rfl rfl _ rfl (by omega) ?_ | refine OW_load1 (by first | with_reducible exact one_u8 | with_reducible exact one_bytes) rfl _ (by assumption) ?_ | refine OW_load1 (by first | with_reducible exact one_int | with_reducible exact one_str | with_reducible exact one_strs | with_reducible exact one_errno) rfl _ (by assumption) ?_)
  exact hEnd.out) (k : B) : A := h ⟨k⟩
theorem oy_Rep2 {A B : Prop} (h : Held B → A := by
  intro hEnd
  repeat (first
    | refine OY_done ?_
    | (apply OY_p _ rfl
       · intro wd
         (first | refine OW_fieldF fld_P0 rfl ?_ | refine OW_fieldF fld_P1 rfl ?_ | refine OW_fieldF fld_P2 rfl ?_ | refine OW_fieldF fld_P3 rfl ?_ | refine OW_fieldF fld_P4 rfl ?_ | refine OW_lenL und_string rfl ?_ | refine OW_lenS und_strs rfl ?_ | refine OW_idxS und_strs one_str rfl rfl _ rfl (by omega) ?_ | refine OW_fieldF fld_L0 rfl ?_ | refine OW_fieldF fld_L1 rfl ?_ | refine OW_fieldF fld_L2 rfl ?_ | refine OW_fieldF fld_L3 rfl ?_ | refine OW_fieldF fld_L4 rfl ?_ | refine OW_fieldF fld_L5 rfl ?_ | refine OW_fieldF fld_L6 rfl ?_ | refine OW_fieldF fld_L7 rfl ?_ | refine OW_fieldBL fldo_L8 rfl ?_ | refine OW_loadN agg_Tag rfl (by apply_assumption; assumption) ?_ | refine OW_moveV (.int _ _) rfl ?_ | refine OW_moveV (.slice _ _ _) rfl ?_ | refine OW_moveV (.bool _) rfl ?_ | refine OW_moveV (.pointer _) rfl ?_ | refine OW_moveV (.string _) rfl ?_ | refine OW_moveV (.agg _) rfl ?_ | refine OW_moveV (.tuple _) rfl ?_ | refine OW_nil ?_ | refine thenE_normal ?_ | refine CW_seq ?_ | refine CW_region (by kernel_rfl) ?_ | refine OW_assignV (.int _ _) rfl ?_ | refine OW_assignV (.slice _ _ _) rfl ?_ | refine OW_assignV (.bool _) rfl ?_ | refine OW_assignV (.pointer _) rfl ?_ | refine OW_assignV (.string _) rfl ?_ | refine OW_assignV (.agg _) rfl ?_ | refine OW_assignV (.tuple _) rfl ?_ | refine OW_addI rfl rfl (by omega) ?_ | refine OW_subI rfl rfl (by omega) ?_ | refine OW_mulI rfl rfl (by omega) ?_ | refine OW_lss rfl rfl ?_ | refine OW_extract rfl rfl ?_ | refine OW_gtr rfl rfl ?_ | refine OW_leq rfl rfl ?_ | refine OW_geq rfl rfl ?_ | refine OW_eql rfl rfl ?_ | refine OW_neq rfl rfl ?_ | refine OW_not rfl ?_ | refine OW_pickT rfl _ rfl ?_ | refine OW_pickF rfl (.bool _) rfl ?_ | refine OW_pickB rfl rfl rfl ?_ | refine OW_move ?_ | refine OW_assign ?_ | refine OW_pass rfl ?_ | refine OW_take rfl ?_ | refine OW_lenS (by first | with_reducible exact und_bytes | with_reducible exact und_bytess) rfl ?_ | refine OW_convInt (by first | with_reducible exact und_u8 | with_reducible exact und_u64 | with_reducible exact und_int | with_reducible exact und_u32) (by first | with_reducible exact und_u8 | with_reducible exact und_u64 | with_reducible exact und_int | with_reducible exact und_u32) rfl ?_ | refine OW_add rfl rfl ?_ | refine OW_sub rfl rfl ?_ | refine OW_mul rfl rfl ?_ | refine OW_min2 rfl rfl ?_ | refine OW_max2 rfl rfl ?_ | refine OW_neg rfl ?_ | refine CW_block ?_ | refine CW_condT rfl ?_ | refine CW_condF rfl ?_ | refine CW_exit ?_ | refine CW_ret ?_ | refine CW_skip ?_ | refine LW_seq ?_ | refine LW_regC ?_ | refine LW_condC ?_ | refine LW_regF ?_ | refine LW_condF ?_ | refine FW_seq ?_ | refine FW_region (by kernel_rfl) ?_ | refine FW_block ?_ | refine FW_condT rfl ?_ | refine FW_condF rfl ?_ | refine FW_exit ?_ | refine FW_ret ?_ | refine FW_skip ?_ | refine LW_ret ?_ | refine LW_skip ?_ | refine thenE_exit ?_ | refine thenE_ret ?_ | refine inBlockE_normal ?_ | refine inBlockE_same ?_ | refine inBlockE_ret ?_ | refine inBlockE_ne (by rfl) ?_ | refine OW_eqlB (by with_reducible exact und_bool) rfl rfl ?_ | refine OW_neqB (by with_reducible exact und_bool) rfl rfl ?_ | refine OW_idxS (by with_reducible exact und_bytes) one_u8 rfl rfl _ rfl (by omega) ?_ | refine OW_idxS (by with_reducible exact und_bytess) one_bytes rfl rfl _ rfl (by omega) ?_ | refine OW_load1 (by first | with_reducible exact one_u8 | with_reducible exact one_bytes) rfl _ (by assumption) ?_ | refine OW_load1 (by first | with_reducible exact one_int | with_reducible exact one_str | with_reducible exact one_strs | with_reducible exact one_errno) rfl _ (by assumption) ?_)
         refine OW_nil ?_
         exact stay_mk _ _ _ _)
    | (apply OY_q _ rfl
       · intro wd hwd
         (first | refine OW_fieldF fld_P0 rfl ?_ | refine OW_fieldF fld_P1 rfl ?_ | refine OW_fieldF fld_P2 rfl ?_ | refine OW_fieldF fld_P3 rfl ?_ | refine OW_fieldF fld_P4 rfl ?_ | refine OW_lenL und_string rfl ?_ | refine OW_lenS und_strs rfl ?_ | refine OW_idxS und_strs one_str rfl rfl _ rfl (by omega) ?_ | refine OW_fieldF fld_L0 rfl ?_ | refine OW_fieldF fld_L1 rfl ?_ | refine OW_fieldF fld_L2 rfl ?_ | refine OW_fieldF fld_L3 rfl ?_ | refine OW_fieldF fld_L4 rfl ?_ | refine OW_fieldF fld_L5 rfl ?_ | refine OW_fieldF fld_L6 rfl ?_ | refine OW_fieldF fld_L7 rfl ?_ | refine OW_fieldBL fldo_L8 rfl ?_ | refine OW_loadN agg_Tag rfl (by apply_assumption; assumption) ?_ | refine OW_moveV (.int _ _) rfl ?_ | refine OW_moveV (.slice _ _ _) rfl ?_ | refine OW_moveV (.bool _) rfl ?_ | refine OW_moveV (.pointer _) rfl ?_ | refine OW_moveV (.string _) rfl ?_ | refine OW_moveV (.agg _) rfl ?_ | refine OW_moveV (.tuple _) rfl ?_ | refine OW_nil ?_ | refine thenE_normal ?_ | refine CW_seq ?_ | refine CW_region (by kernel_rfl) ?_ | refine OW_assignV (.int _ _) rfl ?_ | refine OW_assignV (.slice _ _ _) rfl ?_ | refine OW_assignV (.bool _) rfl ?_ | refine OW_assignV (.pointer _) rfl ?_ | refine OW_assignV (.string _) rfl ?_ | refine OW_assignV (.agg _) rfl ?_ | refine OW_assignV (.tuple _) rfl ?_ | refine OW_addI rfl rfl (by omega) ?_ | refine OW_subI rfl rfl (by omega) ?_ | refine OW_mulI rfl rfl (by omega) ?_ | refine OW_lss rfl rfl ?_ | refine OW_extract rfl rfl ?_ | refine OW_gtr rfl rfl ?_ | refine OW_leq rfl rfl ?_ | refine OW_geq rfl rfl ?_ | refine OW_eql rfl rfl ?_ | refine OW_neq rfl rfl ?_ | refine OW_not rfl ?_ | refine OW_pickT rfl _ rfl ?_ | refine OW_pickF rfl (.bool _) rfl ?_ | refine OW_pickB rfl rfl rfl ?_ | refine OW_move ?_ | refine OW_assign ?_ | refine OW_pass rfl ?_ | refine OW_take rfl ?_ | refine OW_lenS (by first | with_reducible exact und_bytes | with_reducible exact und_bytess) rfl ?_ | refine OW_convInt (by first | with_reducible exact und_u8 | with_reducible exact und_u64 | with_reducible exact und_int | with_reducible exact und_u32) (by first | with_reducible exact und_u8 | with_reducible exact und_u64 | with_reducible exact und_int | with_reducible exact und_u32) rfl ?_ | refine OW_add rfl rfl ?_ | refine OW_sub rfl rfl ?_ | refine OW_mul rfl rfl ?_ | refine OW_min2 rfl rfl ?_ | refine OW_max2 rfl rfl ?_ | refine OW_neg rfl ?_ | refine CW_block ?_ | refine CW_condT rfl ?_ | refine CW_condF rfl ?_ | refine CW_exit ?_ | refine CW_ret ?_ | refine CW_skip ?_ | refine LW_seq ?_ | refine LW_regC ?_ | refine LW_condC ?_ | refine LW_regF ?_ | refine LW_condF ?_ | refine FW_seq ?_ | refine FW_region (by kernel_rfl) ?_ | refine FW_block ?_ | refine FW_condT rfl ?_ | refine FW_condF rfl ?_ | refine FW_exit ?_ | refine FW_ret ?_ | refine FW_skip ?_ | refine LW_ret ?_ | refine LW_skip ?_ | refine thenE_exit ?_ | refine thenE_ret ?_ | refine inBlockE_normal ?_ | refine inBlockE_same ?_ | refine inBlockE_ret ?_ | refine inBlockE_ne (by rfl) ?_ | refine OW_eqlB (by with_reducible exact und_bool) rfl rfl ?_ | refine OW_neqB (by with_reducible exact und_bool) rfl rfl ?_ | refine OW_idxS (by with_reducible exact und_bytes) one_u8 rfl rfl _ rfl (by omega) ?_ | refine OW_idxS (by with_reducible exact und_bytess) one_bytes rfl rfl _ rfl (by omega) ?_ | refine OW_load1 (by first | with_reducible exact one_u8 | with_reducible exact one_bytes) rfl _ (by assumption) ?_ | refine OW_load1 (by first | with_reducible exact one_int | with_reducible exact one_str | with_reducible exact one_strs | with_reducible exact one_errno) rfl _ (by assumption) ?_ | (refine OW_isLoad ?_; refine OW_loadBk (by first | with_reducible exact one_u8 | with_reducible exact one_bytes | with_reducible exact one_bool | with_reducible exact one_int | with_reducible exact one_errno | with_reducible exact one_u32 | with_reducible exact one_u64 | with_reducible exact one_string | with_reducible exact one_int | with_reducible exact one_str | with_reducible exact one_strs | with_reducible exact one_errno) rfl (by apply_assumption; assumption) _ (by first | assumption | rfl) ?_) | refine OW_load1 (by first | with_reducible exact one_u8 | with_reducible exact one_bytes | with_reducible exact one_bool | with_reducible exact one_int | with_reducible exact one_errno | with_reducible exact one_u32 | with_reducible exact one_u64 | with_reducible exact one_string | with_reducible exact one_int | with_reducible exact one_str | with_reducible exact one_strs | with_reducible exact one_errno) rfl _ (by apply_assumption; assumption) ?_)
         refine OW_nil ?_
         exact stay_mk _ _ _ _)
    | refine OY_ppass rfl rfl ?_
    | refine OY_qpass rfl rfl ?_
    | (apply OY_ptake _ rfl rfl
       · intro wd
         (first | refine OW_fieldF fld_P0 rfl ?_ | refine OW_fieldF fld_P1 rfl ?_ | refine OW_fieldF fld_P2 rfl ?_ | refine OW_fieldF fld_P3 rfl ?_ | refine OW_fieldF fld_P4 rfl ?_ | refine OW_lenL und_string rfl ?_ | refine OW_lenS und_strs rfl ?_ | refine OW_idxS und_strs one_str rfl rfl _ rfl (by omega) ?_ | refine OW_fieldF fld_L0 rfl ?_ | refine OW_fieldF fld_L1 rfl ?_ | refine OW_fieldF fld_L2 rfl ?_ | refine OW_fieldF fld_L3 rfl ?_ | refine OW_fieldF fld_L4 rfl ?_ | refine OW_fieldF fld_L5 rfl ?_ | refine OW_fieldF fld_L6 rfl ?_ | refine OW_fieldF fld_L7 rfl ?_ | refine OW_fieldBL fldo_L8 rfl ?_ | refine OW_loadN agg_Tag rfl (by apply_assumption; assumption) ?_ | refine OW_moveV (.int _ _) rfl ?_ | refine OW_moveV (.slice _ _ _) rfl ?_ | refine OW_moveV (.bool _) rfl ?_ | refine OW_moveV (.pointer _) rfl ?_ | refine OW_moveV (.string _) rfl ?_ | refine OW_moveV (.agg _) rfl ?_ | refine OW_moveV (.tuple _) rfl ?_ | refine OW_nil ?_ | refine thenE_normal ?_ | refine CW_seq ?_ | refine CW_region (by kernel_rfl) ?_ | refine OW_assignV (.int _ _) rfl ?_ | refine OW_assignV (.slice _ _ _) rfl ?_ | refine OW_assignV (.bool _) rfl ?_ | refine OW_assignV (.pointer _) rfl ?_ | refine OW_assignV (.string _) rfl ?_ | refine OW_assignV (.agg _) rfl ?_ | refine OW_assignV (.tuple _) rfl ?_ | refine OW_addI rfl rfl (by omega) ?_ | refine OW_subI rfl rfl (by omega) ?_ | refine OW_mulI rfl rfl (by omega) ?_ | refine OW_lss rfl rfl ?_ | refine OW_extract rfl rfl ?_ | refine OW_gtr rfl rfl ?_ | refine OW_leq rfl rfl ?_ | refine OW_geq rfl rfl ?_ | refine OW_eql rfl rfl ?_ | refine OW_neq rfl rfl ?_ | refine OW_not rfl ?_ | refine OW_pickT rfl _ rfl ?_ | refine OW_pickF rfl (.bool _) rfl ?_ | refine OW_pickB rfl rfl rfl ?_ | refine OW_move ?_ | refine OW_assign ?_ | refine OW_pass rfl ?_ | refine OW_take rfl ?_ | refine OW_lenS (by first | with_reducible exact und_bytes | with_reducible exact und_bytess) rfl ?_ | refine OW_convInt (by first | with_reducible exact und_u8 | with_reducible exact und_u64 | with_reducible exact und_int | with_reducible exact und_u32) (by first | with_reducible exact und_u8 | with_reducible exact und_u64 | with_reducible exact und_int | with_reducible exact und_u32) rfl ?_ | refine OW_add rfl rfl ?_ | refine OW_sub rfl rfl ?_ | refine OW_mul rfl rfl ?_ | refine OW_min2 rfl rfl ?_ | refine OW_max2 rfl rfl ?_ | refine OW_neg rfl ?_ | refine CW_block ?_ | refine CW_condT rfl ?_ | refine CW_condF rfl ?_ | refine CW_exit ?_ | refine CW_ret ?_ | refine CW_skip ?_ | refine LW_seq ?_ | refine LW_regC ?_ | refine LW_condC ?_ | refine LW_regF ?_ | refine LW_condF ?_ | refine FW_seq ?_ | refine FW_region (by kernel_rfl) ?_ | refine FW_block ?_ | refine FW_condT rfl ?_ | refine FW_condF rfl ?_ | refine FW_exit ?_ | refine FW_ret ?_ | refine FW_skip ?_ | refine LW_ret ?_ | refine LW_skip ?_ | refine thenE_exit ?_ | refine thenE_ret ?_ | refine inBlockE_normal ?_ | refine inBlockE_same ?_ | refine inBlockE_ret ?_ | refine inBlockE_ne (by rfl) ?_ | refine OW_eqlB (by with_reducible exact und_bool) rfl rfl ?_ | refine OW_neqB (by with_reducible exact und_bool) rfl rfl ?_ | refine OW_idxS (by with_reducible exact und_bytes) one_u8 rfl rfl _ rfl (by omega) ?_ | refine OW_idxS (by with_reducible exact und_bytess) one_bytes rfl rfl _ rfl (by omega) ?_ | refine OW_load1 (by first | with_reducible exact one_u8 | with_reducible exact one_bytes) rfl _ (by assumption) ?_ | refine OW_load1 (by first | with_reducible exact one_int | with_reducible exact one_str | with_reducible exact one_strs | with_reducible exact one_errno) rfl _ (by assumption) ?_)
         refine OW_nil ?_
         exact stay_mk _ _ _ _)
    | (apply OY_qtake _ rfl rfl
       · intro wd hwd
         (first | refine OW_fieldF fld_P0 rfl ?_ | refine OW_fieldF fld_P1 rfl ?_ | refine OW_fieldF fld_P2 rfl ?_ | refine OW_fieldF fld_P3 rfl ?_ | refine OW_fieldF fld_P4 rfl ?_ | refine OW_lenL und_string rfl ?_ | refine OW_lenS und_strs rfl ?_ | refine OW_idxS und_strs one_str rfl rfl _ rfl (by omega) ?_ | refine OW_fieldF fld_L0 rfl ?_ | refine OW_fieldF fld_L1 rfl ?_ | refine OW_fieldF fld_L2 rfl ?_ | refine OW_fieldF fld_L3 rfl ?_ | refine OW_fieldF fld_L4 rfl ?_ | refine OW_fieldF fld_L5 rfl ?_ | refine OW_fieldF fld_L6 rfl ?_ | refine OW_fieldF fld_L7 rfl ?_ | refine OW_fieldBL fldo_L8 rfl ?_ | refine OW_loadN agg_Tag rfl (by apply_assumption; assumption) ?_ | refine OW_moveV (.int _ _) rfl ?_ | refine OW_moveV (.slice _ _ _) rfl ?_ | refine OW_moveV (.bool _) rfl ?_ | refine OW_moveV (.pointer _) rfl ?_ | refine OW_moveV (.string _) rfl ?_ | refine OW_moveV (.agg _) rfl ?_ | refine OW_moveV (.tuple _) rfl ?_ | refine OW_nil ?_ | refine thenE_normal ?_ | refine CW_seq ?_ | refine CW_region (by kernel_rfl) ?_ | refine OW_assignV (.int _ _) rfl ?_ | refine OW_assignV (.slice _ _ _) rfl ?_ | refine OW_assignV (.bool _) rfl ?_ | refine OW_assignV (.pointer _) rfl ?_ | refine OW_assignV (.string _) rfl ?_ | refine OW_assignV (.agg _) rfl ?_ | refine OW_assignV (.tuple _) rfl ?_ | refine OW_addI rfl rfl (by omega) ?_ | refine OW_subI rfl rfl (by omega) ?_ | refine OW_mulI rfl rfl (by omega) ?_ | refine OW_lss rfl rfl ?_ | refine OW_extract rfl rfl ?_ | refine OW_gtr rfl rfl ?_ | refine OW_leq rfl rfl ?_ | refine OW_geq rfl rfl ?_ | refine OW_eql rfl rfl ?_ | refine OW_neq rfl rfl ?_ | refine OW_not rfl ?_ | refine OW_pickT rfl _ rfl ?_ | refine OW_pickF rfl (.bool _) rfl ?_ | refine OW_pickB rfl rfl rfl ?_ | refine OW_move ?_ | refine OW_assign ?_ | refine OW_pass rfl ?_ | refine OW_take rfl ?_ | refine OW_lenS (by first | with_reducible exact und_bytes | with_reducible exact und_bytess) rfl ?_ | refine OW_convInt (by first | with_reducible exact und_u8 | with_reducible exact und_u64 | with_reducible exact und_int | with_reducible exact und_u32) (by first | with_reducible exact und_u8 | with_reducible exact und_u64 | with_reducible exact und_int | with_reducible exact und_u32) rfl ?_ | refine OW_add rfl rfl ?_ | refine OW_sub rfl rfl ?_ | refine OW_mul rfl rfl ?_ | refine OW_min2 rfl rfl ?_ | refine OW_max2 rfl rfl ?_ | refine OW_neg rfl ?_ | refine CW_block ?_ | refine CW_condT rfl ?_ | refine CW_condF rfl ?_ | refine CW_exit ?_ | refine CW_ret ?_ | refine CW_skip ?_ | refine LW_seq ?_ | refine LW_regC ?_ | refine LW_condC ?_ | refine LW_regF ?_ | refine LW_condF ?_ | refine FW_seq ?_ | refine FW_region (by kernel_rfl) ?_ | refine FW_block ?_ | refine FW_condT rfl ?_ | refine FW_condF rfl ?_ | refine FW_exit ?_ | refine FW_ret ?_ | refine FW_skip ?_ | refine LW_ret ?_ | refine LW_skip ?_ | refine thenE_exit ?_ | refine thenE_ret ?_ | refine inBlockE_normal ?_ | refine inBlockE_same ?_ | refine inBlockE_ret ?_ | refine inBlockE_ne (by rfl) ?_ | refine OW_eqlB (by with_reducible exact und_bool) rfl rfl ?_ | refine OW_neqB (by with_reducible exact und_bool) rfl rfl ?_ | refine OW_idxS (by with_reducible exact und_bytes) one_u8 rfl rfl _ rfl (by omega) ?_ | refine OW_idxS (by with_reducible exact und_bytess) one_bytes rfl rfl _ rfl (by omega) ?_ | refine OW_load1 (by first | with_reducible exact one_u8 | with_reducible exact one_bytes) rfl _ (by assumption) ?_ | refine OW_load1 (by first | with_reducible exact one_int | with_reducible exact one_str | with_reducible exact one_strs | with_reducible exact one_errno) rfl _ (by assumption) ?_ | (refine OW_isLoad ?_; refine OW_loadBk (by first | with_reducible exact one_u8 | with_reducible exact one_bytes | with_reducible exact one_bool | with_reducible exact one_int | with_reducible exact one_errno | with_reducible exact one_u32 | with_reducible exact one_u64 | with_reducible exact one_string | with_reducible exact one_int | with_reducible exact one_str | with_reducible exact one_strs | with_reducible exact one_errno) rfl (by apply_assumption; assumption) _ (by first | assumption | rfl) ?_) | refine OW_load1 (by first | with_reducible exact one_u8 | with_reducible exact one_bytes | with_reducible exact one_bool | with_reducible exact one_int | with_reducible exact one_errno | with_reducible exact one_u32 | with_reducible exact one_u64 | with_reducible exact one_string | with_reducible exact one_int | with_reducible exact one_str | with_reducible exact one_strs | with_reducible exact one_errno) rfl _ (by apply_assumption; assumption) ?_)
         refine OW_nil ?_
         exact stay_mk _ _ _ _)
    | refine OY_a (actY_of rfl ?_)
    | refine OY_d (actY_of rfl ?_)
    | refine OY_a (actY_pass rfl rfl ?_)
    | refine OY_d (actY_pass rfl rfl ?_)
    | refine OY_a (actY_take rfl rfl ?_)
    | refine OY_d (actY_take rfl rfl ?_))
  exact hEnd.out) (k : B) : A := h ⟨k⟩
theorem fld_L0 : Fld Try.prog 67 0 := ⟨fun w g => by kernel_rfl⟩
theorem fld_L1 : Fld Try.prog 67 1 := ⟨fun w g => by kernel_rfl⟩
theorem fld_L2 : Fld Try.prog 67 2 := ⟨fun w g => by kernel_rfl⟩
theorem fld_L3 : Fld Try.prog 67 3 := ⟨fun w g => by kernel_rfl⟩
theorem fld_L4 : Fld Try.prog 67 4 := ⟨fun w g => by kernel_rfl⟩
theorem fld_L5 : Fld Try.prog 67 5 := ⟨fun w g => by kernel_rfl⟩
theorem fld_L6 : Fld Try.prog 67 6 := ⟨fun w g => by kernel_rfl⟩
theorem fld_L7 : Fld Try.prog 67 7 := ⟨fun w g => by kernel_rfl⟩
theorem fldo_L8 : FldO Try.prog 67 8 39 := ⟨fun w a => by kernel_rfl⟩
theorem agg_Link : AggT Try.prog 67 71 (lcells ⟨0, 0, 0, 0, 0, 0, 0, tz, tz⟩) := ⟨⟨_, Try.underlying67, rfl⟩, by kernel_rfl, fun w => by kernel_rfl⟩
theorem agg_Rep : AggT Try.prog 69 75 (rcells ⟨0, [], [], 0, ⟨0, 0, 0, 0, 0, 0, 0, tz, tz⟩⟩ (.slice none 0 0)) := ⟨⟨_, Try.underlying69, rfl⟩, by kernel_rfl, fun w => by kernel_rfl⟩
theorem lcells_one (l : LK) : ∀ v ∈ lcells l, v.oneCell' = true := by
  intro v hv
  simp only [lcells, List.mem_append, List.mem_cons, List.not_mem_nil, or_false] at hv
  rcases hv with (rfl | rfl | rfl | rfl | rfl | rfl | rfl) | hv | hv
  · rfl
  · rfl
  · rfl
  · rfl
  · rfl
  · rfl
  · rfl
  · exact bv_one l.ahead v hv
  · exact bv_one l.self v hv
theorem link_in {w : World} {g : Nat} {r : RP} {v : Value} (hb : Blk w g 69 (rcells r v).toArray) : At w ⟨g, 4, none⟩ (lcells r.link) := fun j u hu => by
  rw [addr_add_off, hb.cell, show 4 + j = j + 1 + 1 + 1 + 1 by omega]
  simpa [rcells] using hu
theorem ahead_in {w : World} {g : Nat} {T : TypeId} {l : LK} (h : LOk l) (hb : Blk w g T (lcells l).toArray) : At w ⟨g, 7, none⟩ (l.ahead.map bv) := fun j u hu => by
  have hj : j < 32 := by have := (List.getElem?_eq_some_iff.1 hu).1; simpa [h.ahead] using this
  rw [addr_add_off, hb.cell]
  simp only [lcells, List.getElem?_toArray]
  rw [List.getElem?_append_right (by simp), List.getElem?_append_left (by simp [h.ahead]; omega)]
  simpa using hu
theorem self_in {w : World} {g : Nat} {T : TypeId} {l : LK} (h : LOk l) (hb : Blk w g T (lcells l).toArray) : At w ⟨g, 39, none⟩ (l.self.map bv) := fun j u hu => by
  rw [addr_add_off, hb.cell]
  simp only [lcells, List.getElem?_toArray]
  rw [List.getElem?_append_right (by simp; omega), List.getElem?_append_right (by simp [h.ahead]; omega)]
  simp only [List.length_cons, List.length_nil, List.length_map, h.ahead]
  rw [show 39 + j - (0 + 1 + 1 + 1 + 1 + 1 + 1 + 1) - 32 = j by omega]
  exact hu
theorem addAll_app (s : Bool × List UInt8) (a b : List (List UInt8)) : addAll (addAll s a) b = addAll s (a ++ b) := by unfold addAll; rw [List.foldl_append]
section
variable {w0 w : World} {g : Nat} {z : Bool × List UInt8} {ps : List (List UInt8)}
theorem WPly.int (h : WPly w0 w g (addAll z ps)) (n : Int) : Calls Try.prog 31 #[.pointer (some ⟨g, 0, none⟩), .int .i64 n] w (fun en w' => en = .returned (.pointer (some ⟨g, 0, none⟩)) ∧ WPly w0 w' g (addAll z (ps ++ [putL (u64N n) 8]))) :=
  h.call fun S hS => by rw [← addAll_app]; exact wInt_any w g S _ hS n
theorem WPly.byte (h : WPly w0 w g (addAll z ps)) (b : UInt8) : Calls Try.prog 35 #[.pointer (some ⟨g, 0, none⟩), bv b] w (fun en w' => en = .returned (.pointer (some ⟨g, 0, none⟩)) ∧ WPly w0 w' g (addAll z (ps ++ [[b]]))) :=
  h.call fun S hS => by rw [← addAll_app]; exact wByte_any w g S _ hS b
theorem WPly.text (h : WPly w0 w g (addAll z ps)) (l : List UInt8) (hl : l.length ≤ 1000000) : Calls Try.prog 38 #[.pointer (some ⟨g, 0, none⟩), stv l] w (fun en w' => en = .returned (.pointer (some ⟨g, 0, none⟩)) ∧ WPly w0 w' g (addAll z (ps ++ [putL l.length 4, l]))) :=
  h.call fun S hS => by rw [← addAll_app]; exact wText_any w g S _ hS ⟨l.toArray⟩ hl
theorem WPly.tag (h : WPly w0 w g (addAll z ps)) (t : List UInt8) (hl : t.length = 32) : Calls Try.prog 39 #[.pointer (some ⟨g, 0, none⟩), .agg (t.map bv).toArray] w (fun en w' => en = .returned (.pointer (some ⟨g, 0, none⟩)) ∧ WPly w0 w' g (addAll z (ps ++ [t]))) :=
  h.call fun S hS => by rw [← addAll_app]; exact wTag_any w g S _ hS t hl
theorem WPly.bytes (h : WPly w0 w g (addAll z ps)) (A : Option Addr) (b : List UInt8) (c : Nat) (hb : Bs w0 A b) (hl : b.length ≤ 1000000) : Calls Try.prog 37 #[.pointer (some ⟨g, 0, none⟩), .slice A b.length c] w (fun en w' => en = .returned (.pointer (some ⟨g, 0, none⟩)) ∧ WPly w0 w' g (addAll z (ps ++ [putL b.length 4, b]))) := by
  obtain ⟨S, h1, h2, h3⟩ := h
  refine (wBytes_any w g S _ h1 A b c (hb.ext h3) (fun ad ha hn hs => by have h4 := h2 _ hs; have h5 := Rd.lt hb (by simpa using hn) ad ha; omega) hl).mono ?_
  rintro en w' ⟨q1, q2, q3⟩
  rw [addAll_app] at q2
  exact ⟨q1, more S w w', q2, fun k hk => by rcases hk with hk | hk; exact h2 k hk; have := h3.size; omega, q3.ext h3 h2⟩
end
/-- A writer in play, beside a block that stays. -/
def WBes (w0 w : World) (g : Nat) (s : Bool × List UInt8) (gb : Nat) (T : TypeId) (cs : Array Value) : Prop := ∃ S, WR w g S s ∧ (∀ k, S k → w0.heap.size ≤ k) ∧ Ext w0 w ∧ ¬ S gb ∧ Blk w gb T cs
section
variable {w0 w w' : World} {g gb : Nat} {s s' z : Bool × List UInt8} {ps : List (List UInt8)} {T : TypeId} {cs : Array Value} {f : FuncId} {args : Array Value}
theorem WPly.beside (h : WPly w0 w g s) (hx : Ext w w') (hg : w.heap.size ≤ gb) (hb : Blk w' gb T cs) : WBes w0 w' g s gb T cs := by
  obtain ⟨S, h1, h2, h3⟩ := h
  exact ⟨S, h1.ext hx, h2, h3.trans' hx, fun hh => by have := h1.bd _ hh; omega, hb⟩
theorem WBes.to (h : WBes w0 w g s gb T cs) : Ext w0 w ∧ Blk w gb T cs := by obtain ⟨S, h1, h2, h3, h4, h5⟩ := h; exact ⟨h3, h5⟩
theorem WBes.ext (h : WBes w0 w g s gb T cs) (hx : Ext w w') : WBes w0 w' g s gb T cs := by
  obtain ⟨S, h1, h2, h3, h4, h5⟩ := h
  exact ⟨S, h1.ext hx, h2, h3.trans' hx, h4, h5.ext hx⟩
theorem WBes.ply (h : WBes w0 w g s gb T cs) : WPly w0 w g s := by obtain ⟨S, h1, h2, h3, h4, h5⟩ := h; exact ⟨S, h1, h2, h3⟩
theorem WBes.call (h : WBes w0 w g s gb T cs) (hc : ∀ S, WR w g S s → Calls Try.prog f args w (WPost w g S s')) : Calls Try.prog f args w (fun en w' => en = .returned (.pointer (some ⟨g, 0, none⟩)) ∧ WBes w0 w' g s' gb T cs) := by
  obtain ⟨S, h1, h2, h3, h4, h5⟩ := h
  refine (hc S h1).mono ?_
  rintro en w' ⟨q1, q2, q3⟩
  exact ⟨q1, more S w w', q2, fun k hk => by rcases hk with hk | hk; exact h2 k hk; have := h3.size; omega, q3.ext h3 h2, fun hh => by rcases hh with hh | hh; exact h4 hh; have := h5.lt; omega, h5.keeps q3 h4⟩
theorem WBes.int (h : WBes w0 w g (addAll z ps) gb T cs) (n : Int) : Calls Try.prog 31 #[.pointer (some ⟨g, 0, none⟩), .int .i64 n] w (fun en w' => en = .returned (.pointer (some ⟨g, 0, none⟩)) ∧ WBes w0 w' g (addAll z (ps ++ [putL (u64N n) 8])) gb T cs) :=
  h.call fun S hS => by rw [← addAll_app]; exact wInt_any w g S _ hS n
theorem WBes.byte (h : WBes w0 w g (addAll z ps) gb T cs) (b : UInt8) : Calls Try.prog 35 #[.pointer (some ⟨g, 0, none⟩), bv b] w (fun en w' => en = .returned (.pointer (some ⟨g, 0, none⟩)) ∧ WBes w0 w' g (addAll z (ps ++ [[b]])) gb T cs) :=
  h.call fun S hS => by rw [← addAll_app]; exact wByte_any w g S _ hS b
theorem WBes.tag (h : WBes w0 w g (addAll z ps) gb T cs) (t : List UInt8) (hl : t.length = 32) : Calls Try.prog 39 #[.pointer (some ⟨g, 0, none⟩), .agg (t.map bv).toArray] w (fun en w' => en = .returned (.pointer (some ⟨g, 0, none⟩)) ∧ WBes w0 w' g (addAll z (ps ++ [t])) gb T cs) :=
  h.call fun S hS => by rw [← addAll_app]; exact wTag_any w g S _ hS t hl
end
/-- A reply's form, in pieces. -/
def keyP (k : List UInt8) : List (List UInt8) := [putL k.length 4, k]
def linkP (l : LK) : List (List UInt8) := [putL (u64N l.n) 8, putL (u64N l.stamp) 8, [l.op], putL (u64N l.ten) 8, putL (u64N l.a) 8, putL (u64N l.b) 8, putL (u64N l.c) 8, l.ahead, l.self]
def headP (r : RP) : List (List UInt8) := [putL (u64N r.err) 8, putL r.value.length 4, r.value, putL (u64N r.keys.length) 8]
def repP (r : RP) : List (List UInt8) := headP r ++ (r.keys.flatMap keyP ++ (putL (u64N r.n) 8 :: linkP r.link))
def repF (r : RP) : List UInt8 := (repP r).flatten
theorem keys_flat : ∀ l : List (List UInt8), (l.flatMap keyP).flatten.length ≤ ksum l
  | [] => by simp [ksum]
  | k :: l => by
    have ih := keys_flat l
    unfold ksum at ih ⊢
    rw [List.flatMap_cons, List.flatten_append, List.length_append, List.map_cons, List.sum_cons]
    simp only [keyP, List.flatten_cons, List.flatten_nil, List.append_nil, List.length_append, putL_length]
    omega
theorem ksum_ok : ∀ {l : List (List UInt8)}, l.all okK = true → ksum l ≤ 522 * l.length
  | [], _ => by simp [ksum]
  | k :: l, h => by
    rw [List.all_cons, Bool.and_eq_true] at h
    have ih := ksum_ok h.2
    have hk := of_decide_eq_true h.1
    unfold ksum at ih ⊢
    rw [List.map_cons, List.sum_cons, List.length_cons]
    omega
theorem repF_len {r : RP} (h : mayP r = true) (hl : LOk r.link) : (repF r).length ≤ 20000 := by
  unfold mayP at h
  rw [Bool.and_eq_true, Bool.and_eq_true] at h
  have h1 := of_decide_eq_true h.1.1
  have h2 := of_decide_eq_true h.1.2
  have h3 := keys_flat r.keys
  have h4 := ksum_ok h.2
  unfold repF repP headP linkP
  simp only [List.flatten_append, List.flatten_cons, List.flatten_nil, List.append_nil, List.length_append, putL_length, List.length_cons, List.length_nil, hl.ahead, hl.self]
  omega
section
variable {P : Program} {ops : Array Oper} {Q : Exit → (Nat → Value) → World → Prop} {rest : List Oper} {e : Nat → Value} {w : World} {d : Tmp} {ty : TypeId} {pos : String} {aft : Array Edge}
theorem OW_fieldBL {x : Operand} {t : TypeId} {g f o : Nat} (hr : FldO P t f o) (hx : ev e x = .pointer (some ⟨g, 0, none⟩))
    (h : OW P ops Q rest (upd e d (.pointer (some ⟨g, o, none⟩))) w) : OW P ops Q (⟨some d, .fieldAddr t x f, ty, pos, aft, none⟩ :: rest) e w :=
  OW_fieldO hr hx (by rw [addr0]; exact h)
structure AtN (w : World) (ad : Addr) (cs : List Value) (n : Nat) : Prop where
  at_ : At w ad cs
  len : cs.length = n
theorem OW_loadN {x : Operand} {t : TypeId} {n : Nat} {ad : Addr} {zs cs : List Value} (ht : AggT P t n zs) (hx : ev e x = .pointer (some ad)) (hc : AtN w ad cs n)
    (h : OW P ops Q rest (upd e d (.agg cs.toArray)) w) : OW P ops Q (⟨some d, .load t x, ty, pos, aft, none⟩ :: rest) e w := OW_loadX ht hx cs hc.len hc.at_ h
end
set_option maxHeartbeats 8000000 in
theorem printReply_any (w : World) (A : Option Addr) (c : Nat) (r : RP) (h : ROk w r A c) : Calls Try.prog 42 #[.agg (rcells r (.slice A r.keys.length c)).toArray] w
    (fun en w' => Ext w w' ∧ ((mayP r = false ∧ en = .returned (.tuple #[.slice none 0 0, .int .i64 2])) ∨ (mayP r = true ∧ ∃ B d, en = .returned (.tuple #[.slice B (repF r).length d, .int .i64 0]) ∧ Fresh 5 w w' B d (repF r)))) := by
  refine calls_of_CW Try.func42 rfl (by simp [Try.ntmps42]) ?_
  rw [Try.ntmps42]
  refine go_Rep2 (k := ?_)
  refine OW_box _ rfl ?_
  intro w1 g hb hg hlt hx
  have hb : Blk w1 g 69 (rcells r (.slice A r.keys.length c)).toArray := hb
  have m0 : w1.cell? ⟨g, 0, none⟩ = some (.int .i64 r.err) := hb.cell 0
  have m1 : w1.cell? ⟨g, 1, none⟩ = some (stv r.value) := hb.cell 1
  have m2 : w1.cell? ⟨g, 2, none⟩ = some (.slice A r.keys.length c) := hb.cell 2
  have m3 : w1.cell? ⟨g, 3, none⟩ = some (.int .i64 r.n) := hb.cell 3
  have mL := link_in hb
  have hrl := rcells_length (v := .slice A r.keys.length c) h.l
  have h1 := h.ext hx
  refine go_Rep2 (k := ?_)
  refine OW_loadX agg_Rep rfl (rcells r (.slice A r.keys.length c)) hrl hb.atL ?_
  refine go_Rep2 (k := ?_)
  refine OW_callV Try.func78 (by kernel_rfl) rfl (mayReply_any w1 A c r h1) rfl ?_
  intro w2 hx2
  cases hm : mayP r with
  | false =>
    refine go_Rep2 (k := ?_)
    exact bodyE_ret2 rfl (.slice none 0 0) (.int .i64 2) rfl rfl ⟨hx.trans' hx2, .inl ⟨rfl, rfl⟩⟩
  | true =>
    have hx02 := hx.trans' hx2
    have hflen := repF_len hm h.l
    have hmay := hm
    unfold mayP at hm
    rw [Bool.and_eq_true, Bool.and_eq_true] at hm
    have hk16 := of_decide_eq_true hm.1.1
    have hv512 := of_decide_eq_true hm.1.2
    have hkall := hm.2
    clear hm
    replace m0 := hx2.cell' m0
    replace m1 := hx2.cell' m1
    replace m2 := hx2.cell' m2
    replace m3 := hx2.cell' m3
    replace mL := mL.ext hx2
    have hks := h1.ks.ext hx2
    have hLo := h.l
    clear hb
    refine go_Rep2 (k := ?_)
    obtain ⟨C, hC⟩ : ∃ C : World → Prop, C = fun v => Ext w2 v := ⟨_, rfl⟩
    have y_m0 := cellE hC m0
    have y_m1 := cellE hC m1
    have y_m2 := cellE hC m2
    refine CW_tree2 [2, 5, 8] (.p 1 (.q 2 (.p 4 (.q 5 (.p 7 (.q 8 (.p 9 (.a 0 (.a 3 (.a 6 (.d 10 (.p 11 .done)))))))))))) (C) (by kernel_rfl) (by kernel_rfl) (by kernel_rfl) ?_ ?_
    · exact inE hC
    intro w3 hx3 h_C
    refine oy_Rep2 (k := ?_)
    refine OW_callC Try.func30 (by kernel_rfl) rfl (newWriter_ply w2 w3 hx3) rfl ?_
    rintro en w4 ⟨gw, rfl, hx4, hR4⟩
    refine ⟨_, rfl, ?_⟩
    replace hR4 : WPly w2 w4 gw (addAll (false, []) []) := hR4
    first | refine OW_nil (goY_mkE hC (hR4.to) ?_) | refine OW_nil (goY_dropE hC (hR4.to) ?_)
    refine oy_Rep2 (k := ?_)
    refine OW_callC Try.func31 (by kernel_rfl) rfl (hR4.int r.err) rfl ?_
    rintro en w5 ⟨rfl, hR5⟩
    refine ⟨_, rfl, ?_⟩
    first | refine OW_nil (goY_mkE hC (hR5.to) ?_) | refine OW_nil (goY_dropE hC (hR5.to) ?_)
    refine oy_Rep2 (k := ?_)
    refine OW_callC Try.func38 (by kernel_rfl) rfl (hR5.text r.value (by omega)) rfl ?_
    rintro en w6 ⟨rfl, hR6⟩
    refine ⟨_, rfl, ?_⟩
    first | refine OW_nil (goY_mkE hC (hR6.to) ?_) | refine OW_nil (goY_dropE hC (hR6.to) ?_)
    refine oy_Rep2 (k := ?_)
    refine OW_callC Try.func31 (by kernel_rfl) rfl (hR6.int r.keys.length) rfl ?_
    rintro en w7 ⟨rfl, hR7⟩
    refine ⟨_, rfl, ?_⟩
    first | refine OW_nil (goY_mkE hC (hR7.to) ?_) | refine OW_nil (goY_dropE hC (hR7.to) ?_)
    refine oy_Rep2 (k := ?_)
    replace hR7 : WPly w2 w7 gw (addAll (false, []) (headP r)) := hR7
    clear y_m0 y_m1 y_m2 h_C hC hR4 hR5 hR6
    have hx27 := hR7.to
    have m2' := hx27.cell' m2
    refine go_Rep2 (k := ?_)
    refine CW_meetB (fun e' w' => e' 1 = .pointer (some ⟨g, 0, none⟩) ∧ e' 4 = .pointer (some ⟨gw, 0, none⟩) ∧ WPly w2 w' gw (addAll (false, []) (headP r ++ r.keys.flatMap keyP))) ?_ ?_
    · refine go_Rep2 (k := ?_)
      refine CW_loop (fun e' w' => ∃ k : Nat, k ≤ r.keys.length ∧ e' 1 = .pointer (some ⟨g, 0, none⟩) ∧ e' 4 = .pointer (some ⟨gw, 0, none⟩) ∧ e' 23 = .slice A r.keys.length c ∧ e' 24 = .int .i64 r.keys.length ∧ e' 25 = .int .i64 k ∧ WPly w2 w' gw (addAll (false, []) (headP r ++ (r.keys.take k).flatMap keyP))) (fun e' _ => r.keys.length - (intOf (e' 25)).toNat) ⟨0, Nat.zero_le _, rfl, rfl, rfl, rfl, rfl, by rw [List.take_zero, List.flatMap_nil, List.append_nil]; exact hR7⟩ ?_
      rintro e' w8 ⟨k, hk, e1, e4, e23, e24, e25, hR8⟩
      rw [upd_self e1, upd_self e4, upd_self e23, upd_self e24, upd_self e25]
      refine go_Rep2 (k := ?_)
      refine CW_cond _ rfl (fun hh => ?_) (fun hh => ?_)
      · have hlt : k < r.keys.length := by have := of_decide_eq_true hh; omega
        clear hh
        obtain ⟨ad, hA, hc⟩ := keys_at (hks.ext hR8.to) hlt
        have hsucc : (r.keys.take (k + 1)).flatMap keyP = (r.keys.take k).flatMap keyP ++ keyP r.keys[k] := by rw [List.take_succ_eq_append_getElem hlt, List.flatMap_append]; simp
        have hkl : (r.keys[k]).length ≤ 1000000 := by
          have := of_decide_eq_true (List.all_eq_true.1 hkall _ (List.getElem_mem hlt)); omega
        generalize r.keys[k] = y at *
        subst hA
        refine go_Rep2 (k := ?_)
        refine OW_callC Try.func38 (by kernel_rfl) rfl (hR8.text y hkl) rfl ?_
        rintro en w9 ⟨rfl, hR9⟩
        refine ⟨_, rfl, ?_⟩
        rw [List.append_assoc] at hR9
        replace hR9 : WPly w2 w9 gw (addAll (false, []) (headP r ++ ((r.keys.take k).flatMap keyP ++ keyP y))) := hR9
        rw [← hsucc] at hR9
        refine go_Rep2 (k := ?_)
        refine ⟨⟨k + 1, by omega, rfl, rfl, rfl, rfl, rfl, hR9⟩, ?_⟩
        show r.keys.length - ((k : Int) + 1).toNat < r.keys.length - (k : Int).toNat
        omega
      · have hge : k = r.keys.length := by have := of_decide_eq_false hh; omega
        subst hge
        rw [List.take_of_length_le (Nat.le_refl _)] at hR8
        refine go_Rep2 (k := ?_)
        exact ⟨rfl, rfl, rfl, hR8⟩
    rintro e8 w8 ⟨q1, q4, hR8⟩
    rw [upd_self q1, upd_self q4]
    have hx28 := hR8.to
    refine go_Rep2 (k := ?_)
    refine OW_loadX agg_Link rfl (lcells r.link) (lcells_length hLo) (mL.ext hx28) ?_
    refine go_Rep2 (k := ?_)
    refine OW_allocA agg_Link ?_
    intro w9 g7 hb9 hg9 hlt9 hx9
    refine go_Rep2 (k := ?_)
    refine OW_storeA agg_Link rfl (lcells r.link) rfl (lcells_length hLo) hb9 (by kernel_rfl) (lcells_one _) ?_
    intro w10 hb10 hg10
    have hx810 : Ext w8 w10 := (Keeps.of_only (S := (· = g7)) hg10 rfl).ext hx9 (fun j hj => by omega)
    have hR10 := hR8.ext hx810
    have lA : (r.link.ahead.map bv).length = 32 := by simp [hLo.ahead]
    have lS : (r.link.self.map bv).length = 32 := by simp [hLo.self]
    have hW10 := hR8.beside hx810 hg9 hb10
    obtain ⟨C, hC⟩ : ∃ C : World → Prop, C = fun v => Ext w2 v ∧ Blk v g7 67 (lcells r.link).toArray := ⟨_, rfl⟩
    have yx : ∀ v, Ext w10 v → C v := by rw [hC]; exact fun v hv => ⟨(hx28.trans' hx810).trans' hv, hb10.ext hv⟩
    have yw : ∀ v s, WBes w2 v gw s g7 67 (lcells r.link).toArray → C v := by rw [hC]; exact fun v s hv => hv.to
    have y3 : ∀ v, C v → v.cell? ⟨g, 3, none⟩ = some (.int .i64 r.n) := by rw [hC]; exact fun v hv => hv.1.cell' m3
    have n0 : ∀ v, C v → v.cell? ⟨g7, 0, none⟩ = some (.int .i64 r.link.n) := by rw [hC]; exact fun v hv => hv.2.cell 0
    have n1 : ∀ v, C v → v.cell? ⟨g7, 1, none⟩ = some (.int .i64 r.link.stamp) := by rw [hC]; exact fun v hv => hv.2.cell 1
    have n2 : ∀ v, C v → v.cell? ⟨g7, 2, none⟩ = some (bv r.link.op) := by rw [hC]; exact fun v hv => hv.2.cell 2
    have n4 : ∀ v, C v → v.cell? ⟨g7, 3, none⟩ = some (.int .i64 r.link.ten) := by rw [hC]; exact fun v hv => hv.2.cell 3
    have n5 : ∀ v, C v → v.cell? ⟨g7, 4, none⟩ = some (.int .i64 r.link.a) := by rw [hC]; exact fun v hv => hv.2.cell 4
    have n6 : ∀ v, C v → v.cell? ⟨g7, 5, none⟩ = some (.int .i64 r.link.b) := by rw [hC]; exact fun v hv => hv.2.cell 5
    have n7 : ∀ v, C v → v.cell? ⟨g7, 6, none⟩ = some (.int .i64 r.link.c) := by rw [hC]; exact fun v hv => hv.2.cell 6
    have nA : ∀ v, C v → AtN v ⟨g7, 7, none⟩ (r.link.ahead.map bv) 32 := by rw [hC]; exact fun v hv => ⟨ahead_in hLo hv.2, lA⟩
    have nS : ∀ v, C v → AtN v ⟨g7, 39, none⟩ (r.link.self.map bv) 32 := by rw [hC]; exact fun v hv => ⟨self_in hLo hv.2, lS⟩
    clear m0 m1 m2 m2' mL hks
    clear hC
    refine go_Rep2 (k := ?_)
    refine CW_tree2 [2, 5, 8, 11, 14, 17, 20, 23, 26, 29] (.p 0 (.p 1 (.q 2 (.p 4 (.q 5 (.p 7 (.q 8 (.p 10 (.q 11 (.p 13 (.q 14 (.p 16 (.q 17 (.p 19 (.q 20 (.p 22 (.q 23 (.p 25 (.q 26 (.p 28 (.q 29 (.a 3 (.a 6 (.a 9 (.a 12 (.a 15 (.a 18 (.a 21 (.a 24 (.a 27 (.d 30 (.d 31 (.p 32 (.p 33 (.p 34 (.p 35 .done)))))))))))))))))))))))))))))))))))) (C) (by kernel_rfl) (by kernel_rfl) (by kernel_rfl) ?_ ?_
    · exact yx
    intro w11 hx11 hC11
    have hW11 := hW10.ext hx11
    refine oy_Rep2 (k := ?_)
    refine OW_callC Try.func31 (by kernel_rfl) rfl (hW11.int r.n) rfl ?_
    rintro en w12 ⟨rfl, hW12⟩
    refine ⟨_, rfl, ?_⟩
    first | refine OW_nil (goY_mk (yw _ _ hW12) ?_) | refine OW_nil (goY_drop C (yw _ _ hW12) ?_)
    refine oy_Rep2 (k := ?_)
    refine OW_callC Try.func31 (by kernel_rfl) rfl (hW12.int r.link.n) rfl ?_
    rintro en w13 ⟨rfl, hW13⟩
    refine ⟨_, rfl, ?_⟩
    first | refine OW_nil (goY_mk (yw _ _ hW13) ?_) | refine OW_nil (goY_drop C (yw _ _ hW13) ?_)
    refine oy_Rep2 (k := ?_)
    refine OW_callC Try.func31 (by kernel_rfl) rfl (hW13.int r.link.stamp) rfl ?_
    rintro en w14 ⟨rfl, hW14⟩
    refine ⟨_, rfl, ?_⟩
    first | refine OW_nil (goY_mk (yw _ _ hW14) ?_) | refine OW_nil (goY_drop C (yw _ _ hW14) ?_)
    refine oy_Rep2 (k := ?_)
    refine OW_callC Try.func35 (by kernel_rfl) rfl (hW14.byte r.link.op) rfl ?_
    rintro en w15 ⟨rfl, hW15⟩
    refine ⟨_, rfl, ?_⟩
    first | refine OW_nil (goY_mk (yw _ _ hW15) ?_) | refine OW_nil (goY_drop C (yw _ _ hW15) ?_)
    refine oy_Rep2 (k := ?_)
    refine OW_callC Try.func31 (by kernel_rfl) rfl (hW15.int r.link.ten) rfl ?_
    rintro en w16 ⟨rfl, hW16⟩
    refine ⟨_, rfl, ?_⟩
    first | refine OW_nil (goY_mk (yw _ _ hW16) ?_) | refine OW_nil (goY_drop C (yw _ _ hW16) ?_)
    refine oy_Rep2 (k := ?_)
    refine OW_callC Try.func31 (by kernel_rfl) rfl (hW16.int r.link.a) rfl ?_
    rintro en w17 ⟨rfl, hW17⟩
    refine ⟨_, rfl, ?_⟩
    first | refine OW_nil (goY_mk (yw _ _ hW17) ?_) | refine OW_nil (goY_drop C (yw _ _ hW17) ?_)
    refine oy_Rep2 (k := ?_)
    refine OW_callC Try.func31 (by kernel_rfl) rfl (hW17.int r.link.b) rfl ?_
    rintro en w18 ⟨rfl, hW18⟩
    refine ⟨_, rfl, ?_⟩
    first | refine OW_nil (goY_mk (yw _ _ hW18) ?_) | refine OW_nil (goY_drop C (yw _ _ hW18) ?_)
    refine oy_Rep2 (k := ?_)
    refine OW_callC Try.func31 (by kernel_rfl) rfl (hW18.int r.link.c) rfl ?_
    rintro en w19 ⟨rfl, hW19⟩
    refine ⟨_, rfl, ?_⟩
    first | refine OW_nil (goY_mk (yw _ _ hW19) ?_) | refine OW_nil (goY_drop C (yw _ _ hW19) ?_)
    refine oy_Rep2 (k := ?_)
    refine OW_callC Try.func39 (by kernel_rfl) rfl (hW19.tag r.link.ahead hLo.ahead) rfl ?_
    rintro en w20 ⟨rfl, hW20⟩
    refine ⟨_, rfl, ?_⟩
    first | refine OW_nil (goY_mk (yw _ _ hW20) ?_) | refine OW_nil (goY_drop C (yw _ _ hW20) ?_)
    refine oy_Rep2 (k := ?_)
    refine OW_callC Try.func39 (by kernel_rfl) rfl (hW20.tag r.link.self hLo.self) rfl ?_
    rintro en w21 ⟨rfl, hW21⟩
    refine ⟨_, rfl, ?_⟩
    first | refine OW_nil (goY_mk (yw _ _ hW21) ?_) | refine OW_nil (goY_drop C (yw _ _ hW21) ?_)
    refine oy_Rep2 (k := ?_)
    have hfin := addAll_ok (repP r) [] (by have : (repP r).flatten.length ≤ 20000 := hflen; simp only [List.length_nil]; omega)
    rw [List.nil_append] at hfin
    have hP : WPly w2 w21 gw (false, repF r) := by
      have h9 : WPly w2 w21 gw (addAll (false, []) (repP r)) := by
        have := hW21.ply
        simpa [repP, linkP] using this
      rw [hfin] at h9
      exact h9
    generalize repF r = F at *
    refine OW_callC Try.func18 (by kernel_rfl) rfl (done_ply hP) rfl ?_
    rintro en w22 ⟨B, d, rfl, hf⟩
    refine ⟨_, rfl, ?_⟩
    have hxe := hP.to.trans' hf.ext
    first | refine OW_nil (goY_mk ?_ ?_) | refine OW_nil (goY_drop (fun _ => True) trivial ?_)
    refine oy_Rep2 (k := ?_)
    refine go_Rep2 (k := ?_)
    exact bodyE_ret2 rfl (.slice B F.length d) (.int .i64 0) rfl rfl ⟨hx02.trans' hxe, .inr ⟨rfl, B, d, rfl, hf.back (hx02.trans' hP.to)⟩⟩
end Go.Proofs.Ythhphmbhlddihaa
