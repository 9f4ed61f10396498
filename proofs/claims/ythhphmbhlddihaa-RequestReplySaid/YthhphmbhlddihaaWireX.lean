/- Walks: writers and readers in play, a field read back, the chapter's examples. -/
import Derived.Test.YthhphmbhlddihaaForm
import Derived.Test.YthhphmbhlddihaaOrd3
namespace Go.Proofs.Ythhphmbhlddihaa
open Go Go.RowKit
set_option linter.unusedVariables false
set_option maxRecDepth 4000
theorem go_WireX {A B : Prop} (h : Held B → A := by
  intro hEnd
  repeat (first | refine OW_nilCheck rfl ?_ | refine OW_moveV (.int _ _) rfl ?_ | refine OW_moveV (.slice _ _ _) rfl ?_ | refine OW_moveV (.bool _) rfl ?_ | refine OW_moveV (.pointer _) rfl ?_ | refine OW_moveV (.string _) rfl ?_ | refine OW_moveV (.agg _) rfl ?_ | refine OW_moveV (.tuple _) rfl ?_ | refine OW_nil ?_ | refine thenE_normal ?_ | refine CW_seq ?_ | refine CW_region (by kernel_rfl) ?_ | refine OW_assignV (.int _ _) rfl ?_ | refine OW_assignV (.slice _ _ _) rfl ?_ | refine OW_assignV (.bool _) rfl ?_ | refine OW_assignV (.pointer _) rfl ?_ | refine OW_assignV (.string _) rfl ?_ | refine OW_assignV (.agg _) rfl ?_ | refine OW_assignV (.tuple _) rfl ?_ | refine OW_addI rfl rfl (by omega) ?_ | refine OW_subI rfl rfl (by omega) ?_ | refine OW_mulI rfl rfl (by omega) ?_ | refine OW_lss rfl rfl ?_ | refine OW_extract rfl rfl ?_ | refine OW_gtr rfl rfl ?_ | refine OW_leq rfl rfl ?_ | refine OW_geq rfl rfl ?_ | refine OW_eql rfl rfl ?_ | refine OW_neq rfl rfl ?_ | refine OW_not rfl ?_ | refine OW_pickT rfl _ rfl ?_ | refine OW_pickF rfl (.bool _) rfl ?_ | refine OW_pickB rfl rfl rfl ?_ | refine OW_move ?_ | refine OW_assign ?_ | refine OW_pass rfl ?_ | refine OW_take rfl ?_ | refine OW_lenS (by first | with_reducible exact und_bytes | with_reducible exact und_bytess) rfl ?_ | refine OW_convInt (by first | with_reducible exact und_u8 | with_reducible exact und_u64 | with_reducible exact und_int | with_reducible exact und_u32) (by first | with_reducible exact und_u8 | with_reducible exact und_u64 | with_reducible exact und_int | with_reducible exact und_u32) rfl ?_ | refine OW_add rfl rfl ?_ | refine OW_sub rfl rfl ?_ | refine OW_mul rfl rfl ?_ | refine OW_min2 rfl rfl ?_ | refine OW_max2 rfl rfl ?_ | refine OW_neg rfl ?_ | refine CW_block ?_ | refine CW_condT rfl ?_ | refine CW_condF rfl ?_ | refine CW_exit ?_ | refine CW_ret ?_ | refine CW_skip ?_ | refine LW_seq ?_ | refine LW_regC ?_ | refine LW_condC ?_ | refine LW_regF ?_ | refine LW_condF ?_ | refine FW_seq ?_ | refine FW_region (by kernel_rfl) ?_ | refine FW_block ?_ | refine FW_condT rfl ?_ | refine FW_condF rfl ?_ | refine FW_exit ?_ | refine FW_ret ?_ | refine FW_skip ?_ | refine LW_ret ?_ | refine LW_skip ?_ | refine thenE_exit ?_ | refine thenE_ret ?_ | refine inBlockE_normal ?_ | refine inBlockE_same ?_ | refine inBlockE_ret ?_ | refine inBlockE_ne (by rfl) ?_ | refine OW_eqlB (by with_reducible exact und_bool) rfl rfl ?_ | refine OW_neqB (by with_reducible exact und_bool) rfl rfl ?_ | refine OW_idxS (by with_reducible exact und_bytes) one_u8 rfl rfl _ rfl (by omega) ?_ | refine OW_idxS (by with_reducible exact und_bytess) one_bytes rfl rfl _ rfl (by omega) ?_ | refine OW_load1 (by first | with_reducible exact one_u8 | with_reducible exact one_bytes) rfl _ (by assumption) ?_ | refine OW_strOf und_bytes und_u8 und_string (by apply_assumption; assumption) rfl ?_ | refine OW_eqlS rfl rfl ?_ | refine OW_eqlR eqr_Tag rfl rfl (by assumption) (by assumption) ?_ | refine OW_loadX agg_Tag rfl _ (by assumption) (by apply_assumption; assumption) ?_ | refine OW_rem rfl rfl (by decide) ?_ | refine OW_fieldF fld_F0 rfl ?_ | refine OW_fieldF fld_F1 rfl ?_ | refine OW_fieldF fld_F2 rfl ?_ | refine OW_fieldF fld_F3 rfl ?_ | refine OW_load1 (by first | with_reducible exact one_int) rfl _ (by assumption) ?_)
  exact hEnd.out) (k : B) : A := h ⟨k⟩
theorem oy_WireX {A B : Prop} (h : Held B → A := by
  intro hEnd
  repeat (first
    | refine OY_done ?_
    | (apply OY_p _ rfl
       · intro wd
         (first | refine OW_nilCheck rfl ?_ | refine OW_moveV (.int _ _) rfl ?_ | refine OW_moveV (.slice _ _ _) rfl ?_ | refine OW_moveV (.bool _) rfl ?_ | refine OW_moveV (.pointer _) rfl ?_ | refine OW_moveV (.string _) rfl ?_ | refine OW_moveV (.agg _) rfl ?_ | refine OW_moveV (.tuple _) rfl ?_ | refine OW_nil ?_ | refine thenE_normal ?_ | refine CW_seq ?_ | refine CW_region (by kernel_rfl) ?_ | refine OW_assignV (.int _ _) rfl ?_ | refine OW_assignV (.slice _ _ _) rfl ?_ | refine OW_assignV (.bool _) rfl ?_ | refine OW_assignV (.pointer _) rfl ?_ | refine OW_assignV (.string _) rfl ?_ | refine OW_assignV (.agg _) rfl ?_ | refine OW_assignV (.tuple _) rfl ?_ | refine OW_addI rfl rfl (by omega) ?_ | refine OW_subI rfl rfl (by omega) ?_ | refine OW_mulI rfl rfl (by omega) ?_ | refine OW_lss rfl rfl ?_ | refine OW_extract rfl rfl ?_ | refine OW_gtr rfl rfl ?_ | refine OW_leq rfl rfl ?_ | refine OW_geq rfl rfl ?_ | refine OW_eql rfl rfl ?_ | refine OW_neq rfl rfl ?_ | refine OW_not rfl ?_ | refine OW_pickT rfl _ rfl ?_ | refine OW_pickF rfl (.bool _) rfl ?_ | refine OW_pickB rfl rfl rfl ?_ | refine OW_move ?_ | refine OW_assign ?_ | refine OW_pass rfl ?_ | refine OW_take rfl ?_ | refine OW_lenS (by first | with_reducible exact und_bytes | with_reducible exact und_bytess) rfl ?_ | refine OW_convInt (by first | with_reducible exact und_u8 | with_reducible exact und_u64 | with_reducible exact und_int | with_reducible exact und_u32) (by first | with_reducible exact und_u8 | with_reducible exact und_u64 | with_reducible exact und_int | with_reducible exact und_u32) rfl ?_ | refine OW_add rfl rfl ?_ | refine OW_sub rfl rfl ?_ | refine OW_mul rfl rfl ?_ | refine OW_min2 rfl rfl ?_ | refine OW_max2 rfl rfl ?_ | refine OW_neg rfl ?_ | refine CW_block ?_ | refine CW_condT rfl ?_ | refine CW_condF rfl ?_ | refine CW_exit ?_ | refine CW_ret ?_ | refine CW_skip ?_ | refine LW_seq ?_ | refine LW_regC ?_ | refine LW_condC ?_ | refine LW_regF ?_ | refine LW_condF ?_ | refine FW_seq ?_ | refine FW_region (by kernel_rfl) ?_ | refine FW_block ?_ | refine FW_condT rfl ?_ | refine FW_condF rfl ?_ | refine FW_exit ?_ | refine FW_ret ?_ | refine FW_skip ?_ | refine LW_ret ?_ | refine LW_skip ?_ | refine thenE_exit ?_ | refine thenE_ret ?_ | refine inBlockE_normal ?_ | refine inBlockE_same ?_ | refine inBlockE_ret ?_ | refine inBlockE_ne (by rfl) ?_ | refine OW_eqlB (by with_reducible exact und_bool) rfl rfl ?_ | refine OW_neqB (by with_reducible exact und_bool) rfl rfl ?_ | refine OW_idxS (by with_reducible exact und_bytes) one_u8 rfl rfl _ rfl (by omega) ?_ | refine OW_idxS (by with_reducible exact und_bytess) one_bytes rfl rfl _ rfl (by omega) ?_ | refine OW_load1 (by first | with_reducible exact one_u8 | with_reducible exact one_bytes) rfl _ (by assumption) ?_ | refine OW_strOf und_bytes und_u8 und_string (by apply_assumption; assumption) rfl ?_ | refine OW_eqlS rfl rfl ?_ | refine OW_eqlR eqr_Tag rfl rfl (by assumption) (by assumption) ?_ | refine OW_loadX agg_Tag rfl _ (by assumption) (by apply_assumption; assumption) ?_ | refine OW_rem rfl rfl (by decide) ?_ | refine OW_fieldF fld_F0 rfl ?_ | refine OW_fieldF fld_F1 rfl ?_ | refine OW_fieldF fld_F2 rfl ?_ | refine OW_fieldF fld_F3 rfl ?_ | refine OW_load1 (by first | with_reducible exact one_int) rfl _ (by assumption) ?_)
         refine OW_nil ?_
         exact stay_mk _ _ _ _)
    | (apply OY_q _ rfl
       · intro wd hwd
         (first | refine OW_nilCheck rfl ?_ | refine OW_moveV (.int _ _) rfl ?_ | refine OW_moveV (.slice _ _ _) rfl ?_ | refine OW_moveV (.bool _) rfl ?_ | refine OW_moveV (.pointer _) rfl ?_ | refine OW_moveV (.string _) rfl ?_ | refine OW_moveV (.agg _) rfl ?_ | refine OW_moveV (.tuple _) rfl ?_ | refine OW_nil ?_ | refine thenE_normal ?_ | refine CW_seq ?_ | refine CW_region (by kernel_rfl) ?_ | refine OW_assignV (.int _ _) rfl ?_ | refine OW_assignV (.slice _ _ _) rfl ?_ | refine OW_assignV (.bool _) rfl ?_ | refine OW_assignV (.pointer _) rfl ?_ | refine OW_assignV (.string _) rfl ?_ | refine OW_assignV (.agg _) rfl ?_ | refine OW_assignV (.tuple _) rfl ?_ | refine OW_addI rfl rfl (by omega) ?_ | refine OW_subI rfl rfl (by omega) ?_ | refine OW_mulI rfl rfl (by omega) ?_ | refine OW_lss rfl rfl ?_ | refine OW_extract rfl rfl ?_ | refine OW_gtr rfl rfl ?_ | refine OW_leq rfl rfl ?_ | refine OW_geq rfl rfl ?_ | refine OW_eql rfl rfl ?_ | refine OW_neq rfl rfl ?_ | refine OW_not rfl ?_ | refine OW_pickT rfl _ rfl ?_ | refine OW_pickF rfl (.bool _) rfl ?_ | refine OW_pickB rfl rfl rfl ?_ | refine OW_move ?_ | refine OW_assign ?_ | refine OW_pass rfl ?_ | refine OW_take rfl ?_ | refine OW_lenS (by first | with_reducible exact und_bytes | with_reducible exact und_bytess) rfl ?_ | refine OW_convInt (by first | with_reducible exact und_u8 | with_reducible exact und_u64 | with_reducible exact und_int | with_reducible exact und_u32) (by first | with_reducible exact und_u8 | with_reducible exact und_u64 | with_reducible exact und_int | with_reducible exact und_u32) rfl ?_ | refine OW_add rfl rfl ?_ | refine OW_sub rfl rfl ?_ | refine OW_mul rfl rfl ?_ | refine OW_min2 rfl rfl ?_ | refine OW_max2 rfl rfl ?_ | refine OW_neg rfl ?_ | refine CW_block ?_ | refine CW_condT rfl ?_ | refine CW_condF rfl ?_ | refine CW_exit ?_ | refine CW_ret ?_ | refine CW_skip ?_ | refine LW_seq ?_ | refine LW_regC ?_ | refine LW_condC ?_ | refine LW_regF ?_ | refine LW_condF ?_ | refine FW_seq ?_ | refine FW_region (by kernel_rfl) ?_ | refine FW_block ?_ | refine FW_condT rfl ?_ | refine FW_condF rfl ?_ | refine FW_exit ?_ | refine FW_ret ?_ | refine FW_skip ?_ | refine LW_ret ?_ | refine LW_skip ?_ | refine thenE_exit ?_ | refine thenE_ret ?_ | refine inBlockE_normal ?_ | refine inBlockE_same ?_ | refine inBlockE_ret ?_ | refine inBlockE_ne (by rfl) ?_ | refine OW_eqlB (by with_reducible exact und_bool) rfl rfl ?_ | refine OW_neqB (by with_reducible exact und_bool) rfl rfl ?_ | refine OW_idxS (by with_reducible exact und_bytes) one_u8 rfl rfl _ rfl (by omega) ?_ | refine OW_idxS (by with_reducible exact und_bytess) one_bytes rfl rfl _ rfl (by omega) ?_ | refine OW_load1 (by first | with_reducible exact one_u8 | with_reducible exact one_bytes) rfl _ (by assumption) ?_ | refine OW_strOf und_bytes und_u8 und_string (by apply_assumption; assumption) rfl ?_ | refine OW_eqlS rfl rfl ?_ | refine OW_eqlR eqr_Tag rfl rfl (by assumption) (by assumption) ?_ | refine OW_loadX agg_Tag rfl _ (by assumption) (by apply_assumption; assumption) ?_ | refine OW_rem rfl rfl (by decide) ?_ | refine OW_fieldF fld_F0 rfl ?_ | refine OW_fieldF fld_F1 rfl ?_ | refine OW_fieldF fld_F2 rfl ?_ | refine OW_fieldF fld_F3 rfl ?_ | refine OW_load1 (by first | with_reducible exact one_int) rfl _ (by assumption) ?_ | (refine OW_isLoad ?_; refine OW_loadBk (by first | with_reducible exact one_u8 | with_reducible exact one_bytes | with_reducible exact one_bool | with_reducible exact one_int | with_reducible exact one_errno | with_reducible exact one_u32 | with_reducible exact one_u64 | with_reducible exact one_string | with_reducible exact one_int | with_reducible exact one_bytes) rfl (by apply_assumption; assumption) _ (by first | assumption | rfl) ?_) | refine OW_load1 (by first | with_reducible exact one_u8 | with_reducible exact one_bytes | with_reducible exact one_bool | with_reducible exact one_int | with_reducible exact one_errno | with_reducible exact one_u32 | with_reducible exact one_u64 | with_reducible exact one_string | with_reducible exact one_int | with_reducible exact one_bytes) rfl _ (by apply_assumption; assumption) ?_)
         refine OW_nil ?_
         exact stay_mk _ _ _ _)
    | refine OY_ppass rfl rfl ?_
    | refine OY_qpass rfl rfl ?_
    | (apply OY_ptake _ rfl rfl
       · intro wd
         (first | refine OW_nilCheck rfl ?_ | refine OW_moveV (.int _ _) rfl ?_ | refine OW_moveV (.slice _ _ _) rfl ?_ | refine OW_moveV (.bool _) rfl ?_ | refine OW_moveV (.pointer _) rfl ?_ | refine OW_moveV (.string _) rfl ?_ | refine OW_moveV (.agg _) rfl ?_ | refine OW_moveV (.tuple _) rfl ?_ | refine OW_nil ?_ | refine thenE_normal ?_ | refine CW_seq ?_ | refine CW_region (by kernel_rfl) ?_ | refine OW_assignV (.int _ _) rfl ?_ | refine OW_assignV (.slice _ _ _) rfl ?_ | refine OW_assignV (.bool _) rfl ?_ | refine OW_assignV (.pointer _) rfl ?_ | refine OW_assignV (.string _) rfl ?_ | refine OW_assignV (.agg _) rfl ?_ | refine OW_assignV (.tuple _) rfl ?_ | refine OW_addI rfl rfl (by omega) ?_ | refine OW_subI rfl rfl (by omega) ?_ | refine OW_mulI rfl rfl (by omega) ?_ | refine OW_lss rfl rfl ?_ | refine OW_extract rfl rfl ?_ | refine OW_gtr rfl rfl ?_ | refine OW_leq rfl rfl ?_ | refine OW_geq rfl rfl ?_ | refine OW_eql rfl rfl ?_ | refine OW_neq rfl rfl ?_ | refine OW_not rfl ?_ | refine OW_pickT rfl _ rfl ?_ | refine OW_pickF rfl (.bool _) rfl ?_ | refine OW_pickB rfl rfl rfl ?_ | refine OW_move ?_ | refine OW_assign ?_ | refine OW_pass rfl ?_ | refine OW_take rfl ?_ | refine OW_lenS (by first | with_reducible exact und_bytes | with_reducible exact und_bytess) rfl ?_ | refine OW_convInt (by first | with_reducible exact und_u8 | with_reducible exact und_u64 | with_reducible exact und_int | with_reducible exact und_u32) (by first | with_reducible exact und_u8 | with_reducible exact und_u64 | with_reducible exact und_int | with_reducible exact und_u32) rfl ?_ | refine OW_add rfl rfl ?_ | refine OW_sub rfl rfl ?_ | refine OW_mul rfl rfl ?_ | refine OW_min2 rfl rfl ?_ | refine OW_max2 rfl rfl ?_ | refine OW_neg rfl ?_ | refine CW_block ?_ | refine CW_condT rfl ?_ | refine CW_condF rfl ?_ | refine CW_exit ?_ | refine CW_ret ?_ | refine CW_skip ?_ | refine LW_seq ?_ | refine LW_regC ?_ | refine LW_condC ?_ | refine LW_regF ?_ | refine LW_condF ?_ | refine FW_seq ?_ | refine FW_region (by kernel_rfl) ?_ | refine FW_block ?_ | refine FW_condT rfl ?_ | refine FW_condF rfl ?_ | refine FW_exit ?_ | refine FW_ret ?_ | refine FW_skip ?_ | refine LW_ret ?_ | refine LW_skip ?_ | refine thenE_exit ?_ | refine thenE_ret ?_ | refine inBlockE_normal ?_ | refine inBlockE_same ?_ | refine inBlockE_ret ?_ | refine inBlockE_ne (by rfl) ?_ | refine OW_eqlB (by with_reducible exact und_bool) rfl rfl ?_ | refine OW_neqB (by with_reducible exact und_bool) rfl rfl ?_ | refine OW_idxS (by with_reducible exact und_bytes) one_u8 rfl rfl _ rfl (by omega) ?_ | refine OW_idxS (by with_reducible exact und_bytess) one_bytes rfl rfl _ rfl (by omega) ?_ | refine OW_load1 (by first | with_reducible exact one_u8 | with_reducible exact one_bytes) rfl _ (by assumption) ?_ | refine OW_strOf und_bytes und_u8 und_string (by apply_assumption; assumption) rfl ?_ | refine OW_eqlS rfl rfl ?_ | refine OW_eqlR eqr_Tag rfl rfl (by assumption) (by assumption) ?_ | refine OW_loadX agg_Tag rfl _ (by assumption) (by apply_assumption; assumption) ?_ | refine OW_rem rfl rfl (by decide) ?_ | refine OW_fieldF fld_F0 rfl ?_ | refine OW_fieldF fld_F1 rfl ?_ | refine OW_fieldF fld_F2 rfl ?_ | refine OW_fieldF fld_F3 rfl ?_ | refine OW_load1 (by first | with_reducible exact one_int) rfl _ (by assumption) ?_)
         refine OW_nil ?_
         exact stay_mk _ _ _ _)
    | (apply OY_qtake _ rfl rfl
       · intro wd hwd
         (first | refine OW_nilCheck rfl ?_ | refine OW_moveV (.int _ _) rfl ?_ | refine OW_moveV (.slice _ _ _) rfl ?_ | refine OW_moveV (.bool _) rfl ?_ | refine OW_moveV (.pointer _) rfl ?_ | refine OW_moveV (.string _) rfl ?_ | refine OW_moveV (.agg _) rfl ?_ | refine OW_moveV (.tuple _) rfl ?_ | refine OW_nil ?_ | refine thenE_normal ?_ | refine CW_seq ?_ | refine CW_region (by kernel_rfl) ?_ | refine OW_assignV (.int _ _) rfl ?_ | refine OW_assignV (.slice _ _ _) rfl ?_ | refine OW_assignV (.bool _) rfl ?_ | refine OW_assignV (.pointer _) rfl ?_ | refine OW_assignV (.string _) rfl ?_ | refine OW_assignV (.agg _) rfl ?_ | refine OW_assignV (.tuple _) rfl ?_ | refine OW_addI rfl rfl (by omega) ?_ | refine OW_subI rfl rfl (by omega) ?_ | refine OW_mulI rfl rfl (by omega) ?_ | refine OW_lss rfl rfl ?_ | refine OW_extract rfl rfl ?_ | refine OW_gtr rfl rfl ?_ | refine OW_leq rfl rfl ?_ | refine OW_geq rfl rfl ?_ | refine OW_eql rfl rfl ?_ | refine OW_neq rfl rfl ?_ | refine OW_not rfl ?_ | refine OW_pickT rfl _ rfl ?_ | refine OW_pickF rfl (.bool _) rfl ?_ | refine OW_pickB rfl rfl rfl ?_ | refine OW_move ?_ | refine OW_assign ?_ | refine OW_pass rfl ?_ | refine OW_take rfl ?_ | refine OW_lenS (by first | with_reducible exact und_bytes | with_reducible exact und_bytess) rfl ?_ | refine OW_convInt (by first | with_reducible exact und_u8 | with_reducible exact und_u64 | with_reducible exact und_int | with_reducible exact und_u32) (by first | with_reducible exact und_u8 | with_reducible exact und_u64 | with_reducible exact und_int | with_reducible exact und_u32) rfl ?_ | refine OW_add rfl rfl ?_ | refine OW_sub rfl rfl ?_ | refine OW_mul rfl rfl ?_ | refine OW_min2 rfl rfl ?_ | refine OW_max2 rfl rfl ?_ | refine OW_neg rfl ?_ | refine CW_block ?_ | refine CW_condT rfl ?_ | refine CW_condF rfl ?_ | refine CW_exit ?_ | refine CW_ret ?_ | refine CW_skip ?_ | refine LW_seq ?_ | refine LW_regC ?_ | refine LW_condC ?_ | refine LW_regF ?_ | refine LW_condF ?_ | refine FW_seq ?_ | refine FW_region (by kernel_rfl) ?_ | refine FW_block ?_ | refine FW_condT rfl ?_ | refine FW_condF rfl ?_ | refine FW_exit ?_ | refine FW_ret ?_ | refine FW_skip ?_ | refine LW_ret ?_ | refine LW_skip ?_ | refine thenE_exit ?_ | refine thenE_ret ?_ | refine inBlockE_normal ?_ | refine inBlockE_same ?_ | refine inBlockE_ret ?_ | refine inBlockE_ne (by rfl) ?_ | refine OW_eqlB (by with_reducible exact und_bool) rfl rfl ?_ | refine OW_neqB (by with_reducible exact und_bool) rfl rfl ?_ | refine OW_idxS (by with_reducible exact und_bytes) one_u8 rfl rfl _ rfl (by omega) ?_ | refine OW_idxS (by with_reducible exact und_bytess) one_bytes rfl rfl _ rfl (by omega) ?_ | refine OW_load1 (by first | with_reducible exact one_u8 | with_reducible exact one_bytes) rfl _ (by assumption) ?_ | refine OW_strOf und_bytes und_u8 und_string (by apply_assumption; assumption) rfl ?_ | refine OW_eqlS rfl rfl ?_ | refine OW_eqlR eqr_Tag rfl rfl (by assumption) (by assumption) ?_ | refine OW_loadX agg_Tag rfl _ (by assumption) (by apply_assumption; assumption) ?_ | refine OW_rem rfl rfl (by decide) ?_ | refine OW_fieldF fld_F0 rfl ?_ | refine OW_fieldF fld_F1 rfl ?_ | refine OW_fieldF fld_F2 rfl ?_ | refine OW_fieldF fld_F3 rfl ?_ | refine OW_load1 (by first | with_reducible exact one_int) rfl _ (by assumption) ?_ | (refine OW_isLoad ?_; refine OW_loadBk (by first | with_reducible exact one_u8 | with_reducible exact one_bytes | with_reducible exact one_bool | with_reducible exact one_int | with_reducible exact one_errno | with_reducible exact one_u32 | with_reducible exact one_u64 | with_reducible exact one_string | with_reducible exact one_int | with_reducible exact one_bytes) rfl (by apply_assumption; assumption) _ (by first | assumption | rfl) ?_) | refine OW_load1 (by first | with_reducible exact one_u8 | with_reducible exact one_bytes | with_reducible exact one_bool | with_reducible exact one_int | with_reducible exact one_errno | with_reducible exact one_u32 | with_reducible exact one_u64 | with_reducible exact one_string | with_reducible exact one_int | with_reducible exact one_bytes) rfl _ (by apply_assumption; assumption) ?_)
         refine OW_nil ?_
         exact stay_mk _ _ _ _)
    | refine OY_a (actY_of rfl ?_)
    | refine OY_d (actY_of rfl ?_)
    | refine OY_a (actY_pass rfl rfl ?_)
    | refine OY_d (actY_pass rfl rfl ?_)
    | refine OY_a (actY_take rfl rfl ?_)
    | refine OY_d (actY_take rfl rfl ?_))
  exact hEnd.out) (k : B) : A := h ⟨k⟩
/-- A writer in play: all its blocks are of the call's own. -/
def WPly (w0 w : World) (g : Nat) (s : Bool × List UInt8) : Prop := ∃ S, WR w g S s ∧ (∀ k, S k → w0.heap.size ≤ k) ∧ Ext w0 w
theorem WPly.ext {w0 w w' : World} {g : Nat} {s : Bool × List UInt8} (h : WPly w0 w g s) (hx : Ext w w') : WPly w0 w' g s := by
  obtain ⟨S, h1, h2, h3⟩ := h
  exact ⟨S, h1.ext hx, h2, h3.trans' hx⟩
theorem WPly.to {w0 w : World} {g : Nat} {s : Bool × List UInt8} (h : WPly w0 w g s) : Ext w0 w := by obtain ⟨S, h1, h2, h3⟩ := h; exact h3
theorem WPly.call {w0 w : World} {g : Nat} {s s' : Bool × List UInt8} {f : FuncId} {args : Array Value} (h : WPly w0 w g s) (hc : ∀ S, WR w g S s → Calls Try.prog f args w (WPost w g S s')) : Calls Try.prog f args w (fun en w' => en = .returned (.pointer (some ⟨g, 0, none⟩)) ∧ WPly w0 w' g s') := by
  obtain ⟨S, h1, h2, h3⟩ := h
  refine (hc S h1).mono ?_
  rintro en w' ⟨q1, q2, q3⟩
  exact ⟨q1, more S w w', q2, fun k hk => by rcases hk with hk | hk; exact h2 k hk; have := h3.size; omega, q3.ext h3 h2⟩
theorem WPly.use {w0 w : World} {g : Nat} {s : Bool × List UInt8} {f : FuncId} {args : Array Value} {R : Ending → World → Prop} (h : WPly w0 w g s) (hc : ∀ S, WR w g S s → Calls Try.prog f args w R) : Calls Try.prog f args w R := by
  obtain ⟨S, h1, h2, h3⟩ := h
  exact hc S h1
theorem newWriter_ply (w0 w : World) (hx0 : Ext w0 w) : Calls Try.prog 30 #[] w (fun en w' => ∃ g, en = .returned (.pointer (some ⟨g, 0, none⟩)) ∧ Ext w w' ∧ WPly w0 w' g (false, [])) :=
  (newWriter_any w).mono fun en w' ⟨g, h1, h2, h3, h4⟩ => ⟨g, h1, h3, _, h4, fun k hk => by rcases hk with hk | hk; exact hk.elim; have := hx0.size; omega, hx0.trans' h3⟩
/-- A reader in play. -/
def RPly (w0 w : World) (g : Nat) (s : List UInt8 × Int) : Prop := ∃ S, RR w g S s ∧ (∀ k, S k → w0.heap.size ≤ k) ∧ Ext w0 w
theorem RPly.ext {w0 w w' : World} {g : Nat} {s : List UInt8 × Int} (h : RPly w0 w g s) (hx : Ext w w') : RPly w0 w' g s := by
  obtain ⟨S, h1, h2, h3⟩ := h
  exact ⟨S, h1.ext hx, h2, h3.trans' hx⟩
theorem RPly.to {w0 w : World} {g : Nat} {s : List UInt8 × Int} (h : RPly w0 w g s) : Ext w0 w := by obtain ⟨S, h1, h2, h3⟩ := h; exact h3
theorem RPly.put {w0 w w' : World} {g : Nat} {s s' : List UInt8 × Int} {S : Nat → Prop} (h1 : RR w g S s) (h2 : ∀ k, S k → w0.heap.size ≤ k) (h3 : Ext w0 w) (q2 : RR w' g S s') (q3 : Keeps w w' (· = g)) : RPly w0 w' g s' :=
  ⟨S, q2, h2, q3.ext h3 (fun j hj => by have hj : j = g := hj; subst hj; exact h2 j h1.in_)⟩
theorem RPly.call {w0 w : World} {g : Nat} {s s' : List UInt8 × Int} {v : Value} {f : FuncId} {args : Array Value} (h : RPly w0 w g s) (hc : ∀ S, RR w g S s → Calls Try.prog f args w (RPost w g S v s')) : Calls Try.prog f args w (fun en w' => en = .returned v ∧ RPly w0 w' g s') := by
  obtain ⟨S, h1, h2, h3⟩ := h
  refine (hc S h1).mono ?_
  rintro en w' ⟨q1, q2, q3⟩
  exact ⟨q1, RPly.put h1 h2 h3 q2 q3⟩
theorem RPly.callB {w0 w : World} {g : Nat} {s s' : List UInt8 × Int} {l : List UInt8} {f : FuncId} {args : Array Value} (h : RPly w0 w g s) (hc : ∀ S, RR w g S s → Calls Try.prog f args w (RBytes w g S l s')) : Calls Try.prog f args w (fun en w' => ∃ A c, en = .returned (.slice A l.length c) ∧ w'.ownsRow w.heap.size 5 1 (.slice A l.length c) l.length (l.map bv) ∧ RPly w0 w' g s') := by
  obtain ⟨S, h1, h2, h3⟩ := h
  refine (hc S h1).mono ?_
  rintro en w' ⟨A, c, q1, qo, q2, q3⟩
  exact ⟨A, c, q1, qo, RPly.put h1 h2 h3 q2 q3⟩
theorem RPly.use {w0 w : World} {g : Nat} {s : List UInt8 × Int} {f : FuncId} {args : Array Value} {R : Ending → World → Prop} (h : RPly w0 w g s) (hc : ∀ S, RR w g S s → Calls Try.prog f args w R) : Calls Try.prog f args w R := by
  obtain ⟨S, h1, h2, h3⟩ := h
  exact hc S h1
theorem newReader_ply (w0 w : World) (hx0 : Ext w0 w) (A : Option Addr) (b : List UInt8) (c : Nat) (hb : Bs w A b) (hl : b.length ≤ 65536) : Calls Try.prog 32 #[.slice A b.length c] w (fun en w' => ∃ g, en = .returned (.pointer (some ⟨g, 0, none⟩)) ∧ Ext w w' ∧ RPly w0 w' g (b, 0)) :=
  (newReader_any w A b c hb (by omega)).mono fun en w' ⟨g, h1, h2, h3, h4⟩ => ⟨g, h1, h3, _, by rw [if_neg (by omega)] at h4; exact h4, fun k hk => by rcases hk with hk | hk; exact hk.elim; have := hx0.size; omega, hx0.trans' h3⟩

def flOk (s : List UInt8 × Int) : Bool := decide (((s.1.headD 0).toNat : Int) ≤ 1)
/-- A reader behind a field; whether the field is what was asked. -/
def rdS (s : List UInt8 × Int) (f : FD) : List UInt8 × Int :=
  if f.kind = 0 then stepS s 1 true else if f.kind = 1 then stepS s 8 true else if f.kind = 2 then stepS s 1 (flOk s) else if f.kind = 3 then bytesS s else if f.kind = 4 then bytesS s else if f.kind = 5 then stepS s 32 true else s
def backV (s : List UInt8 × Int) (f : FD) : Bool :=
  if f.kind = 0 then ((if fits s 1 then s.1.headD 0 else 0) == byteOf f.n) else if f.kind = 1 then ((if fits s 8 then i64L (s.1.take 8) else 0) == f.n) else if f.kind = 2 then ((fits s 1 && decide (((s.1.headD 0).toNat : Int) = 1)) == flagOf f.n)
  else if f.kind = 3 then (bytesV s == f.B) else if f.kind = 4 then (bytesV s == f.B) else if f.kind = 5 then (tagV s == f.T) else true
def BackP (w : World) (g : Nat) (S : Nat → Prop) (b : Bool) (s : List UInt8 × Int) : Ending → World → Prop := fun en w' => en = .returned (.bool b) ∧ RR w' g S s ∧ Keeps w w' (· = g)
theorem beq_u8 (a b : UInt8) : ((a.toNat : Int) == (b.toNat : Int)) = (a == b) := by
  by_cases h : a = b
  · subst h; simp
  · have : ¬ a.toNat = b.toNat := fun hh => h (UInt8.toNat_inj.1 hh)
    have h1 : (a == b) = false := by simpa using h
    rw [h1]
    simp only [beq_eq_false_iff_ne, ne_eq]
    omega
theorem decide_str (a b : List UInt8) : decide ((⟨a.toArray⟩ : ByteArray) = ⟨b.toArray⟩) = (a == b) := by
  by_cases h : a = b
  · subst h; simp
  · have h1 : (a == b) = false := by simpa using h
    rw [h1]
    simpa using h
theorem dec_beq (a b : List UInt8) : decide (a = b) = (a == b) := by
  by_cases h : a = b
  · subst h; simp
  · have h1 : (a == b) = false := by simpa using h
    rw [h1]; simpa using h
set_option maxHeartbeats 8000000 in
theorem back_any (w : World) (g : Nat) (S : Nat → Prop) (s : List UInt8 × Int) (h : RR w g S s) (f : FD) (A : Option Addr) (c : Nat) (hf : FOk w f A c) (hfB : ∀ v, Keeps w v (· = g) → Bs v A f.B) :
    Calls Try.prog 34 #[.pointer (some ⟨g, 0, none⟩), .agg (fcells f (.slice A f.B.length c)).toArray] w (BackP w g S (backV s f) (rdS s f)) := by
  refine calls_of_CW Try.func34 rfl (by simp [Try.ntmps34]) ?_
  rw [Try.ntmps34]
  refine go_WireX (k := ?_)
  refine OW_box _ rfl ?_
  intro w1 g3 hb hg3 hlt hx
  have hb : Blk w1 g3 26 (fcells f (.slice A f.B.length c)).toArray := hb
  have m0 : w1.cell? ⟨g3, 0, none⟩ = some (.int .i64 f.kind) := hb.cell 0
  have m1 : w1.cell? ⟨g3, 1, none⟩ = some (.int .i64 f.n) := hb.cell 1
  have m2 : w1.cell? ⟨g3, 2, none⟩ = some (.slice A f.B.length c) := hb.cell 2
  have mT := fcells_tag hb
  have hs := h.ext hx
  have hne : g3 ≠ g := by have := h.bd _ h.in_; omega
  have hb1 := hf.bs.ext hx
  have hcap := hf.cap
  obtain ⟨C, hC⟩ : ∃ C : World → Prop, C = fun v => Keeps w1 v (· = g) := ⟨_, rfl⟩
  have y1 : ∀ v, C v → v.cell? ⟨g3, 1, none⟩ = some (.int .i64 f.n) := by rw [hC]; exact fun v hk => hk.cell m1 hne
  have y2 : ∀ v, C v → v.cell? ⟨g3, 2, none⟩ = some (.slice A f.B.length c) := by rw [hC]; exact fun v hk => hk.cell m2 hne
  have yT : ∀ v, C v → At v ⟨g3, 3, none⟩ (f.T.map bv) := by rw [hC]; exact fun v hk => mT.keeps hk hne
  have yx : ∀ v, Ext w1 v → C v := by rw [hC]; exact fun v hv => Keeps.of_ext hv _
  have yk : ∀ v u, Ext w1 v → Keeps v u (· = g) → C u := by rw [hC]; exact fun v u hv hk => (Keeps.of_ext hv _).trans' hk
  have fin : ∀ (b : Bool) (s' : List UInt8 × Int) (v u : World), b = backV s f → s' = rdS s f → Ext w1 v → RR u g S s' → Keeps v u (· = g) → BackP w g S (backV s f) (rdS s f) (.returned (.bool b)) u := by
    intro b s' v u hb hs' hv hr hk
    subst hb; subst hs'
    exact ⟨rfl, hr, (Keeps.of_ext (hx.trans' hv) _).trans' hk⟩
  refine go_WireX (k := ?_)
  refine CW_cond _ rfl (fun hh => ?_) (fun hh => ?_)
  · have hk0 : f.kind = 0 := by simpa using hh
    clear hh m0 m1 m2 hb
    refine go_WireX (k := ?_)
    refine CW_tree2 [3, 4] (.p 0 (.p 2 (.q 3 (.q 4 (.a 1 (.p 5 (.p 6 .done))))))) (C) (by kernel_rfl) (by kernel_rfl) (by kernel_rfl) ?_ ?_
    · exact yx
    intro w2 hx2 hC2
    refine oy_WireX (k := ?_)
    refine OW_callC Try.func19 (by kernel_rfl) rfl (rByte_any _ _ _ _ (hs.ext hx2)) rfl ?_
    rintro en w3 ⟨rfl, hr3, hk3⟩
    refine ⟨_, rfl, ?_⟩
    first | refine OW_nil (goY_mk (yk _ _ hx2 hk3) ?_) | refine OW_nil (goY_drop C (yk _ _ hx2 hk3) ?_)
    generalize hbx : (if fits s 1 = true then s.1.headD 0 else 0) = b at *
    rw [show bv b = .int .u8 (b.toNat : Int) from rfl]
    refine oy_WireX (k := ?_)
    rw [wrap_u8I, beq_u8]
    refine go_WireX (k := ?_)
    refine bodyE_ret1 rfl (.bool _) rfl (fin _ _ _ _ ?_ ?_ hx2 hr3 hk3)
    · unfold backV; rw [if_pos hk0, hbx]
    · unfold rdS; rw [if_pos hk0]
  have h0 : ¬ f.kind = 0 := by simpa using hh
  clear hh
  refine go_WireX (k := ?_)
  refine CW_cond _ rfl (fun hh => ?_) (fun hh => ?_)
  · have hk1 : f.kind = 1 := by simpa using hh
    clear hh m0 m1 m2 hb
    refine go_WireX (k := ?_)
    refine CW_tree2 [3] (.p 0 (.p 2 (.q 3 (.a 1 (.p 4 (.p 5 .done)))))) (C) (by kernel_rfl) (by kernel_rfl) (by kernel_rfl) ?_ ?_
    · exact yx
    intro w2 hx2 hC2
    refine oy_WireX (k := ?_)
    refine OW_callC Try.func20 (by kernel_rfl) rfl (rInt_any _ _ _ _ (hs.ext hx2)) rfl ?_
    rintro en w3 ⟨rfl, hr3, hk3⟩
    refine ⟨_, rfl, ?_⟩
    first | refine OW_nil (goY_mk (yk _ _ hx2 hk3) ?_) | refine OW_nil (goY_drop C (yk _ _ hx2 hk3) ?_)
    refine oy_WireX (k := ?_)
    refine go_WireX (k := ?_)
    refine bodyE_ret1 rfl (.bool _) rfl (fin _ _ _ _ ?_ ?_ hx2 hr3 hk3)
    · unfold backV; rw [if_neg h0, if_pos hk1]
    · unfold rdS; rw [if_neg h0, if_pos hk1]
  have h1 : ¬ f.kind = 1 := by simpa using hh
  clear hh
  refine go_WireX (k := ?_)
  refine CW_cond _ rfl (fun hh => ?_) (fun hh => ?_)
  · have hk2 : f.kind = 2 := by simpa using hh
    clear hh m0 m1 m2 hb
    refine go_WireX (k := ?_)
    refine CW_tree2 [3] (.p 0 (.p 2 (.q 3 (.p 4 (.p 5 (.a 1 (.p 6 (.p 7 .done)))))))) (C) (by kernel_rfl) (by kernel_rfl) (by kernel_rfl) ?_ ?_
    · exact yx
    intro w2 hx2 hC2
    refine oy_WireX (k := ?_)
    refine OW_callC Try.func21 (by kernel_rfl) rfl (rFlag_any _ _ _ _ (hs.ext hx2)) rfl ?_
    rintro en w3 ⟨rfl, hr3, hk3⟩
    refine ⟨_, rfl, ?_⟩
    first | refine OW_nil (goY_mk (yk _ _ hx2 hk3) ?_) | refine OW_nil (goY_drop C (yk _ _ hx2 hk3) ?_)
    refine oy_WireX (k := ?_)
    refine go_WireX (k := ?_)
    refine bodyE_ret1 rfl (.bool _) rfl (fin _ _ _ _ ?_ ?_ hx2 hr3 hk3)
    · unfold backV; rw [if_neg h0, if_neg h1, if_pos hk2]; rfl
    · unfold rdS flOk; rw [if_neg h0, if_neg h1, if_pos hk2]
  have h2 : ¬ f.kind = 2 := by simpa using hh
  clear hh
  refine go_WireX (k := ?_)
  refine CW_cond _ rfl (fun hh => ?_) (fun hh => ?_)
  · have hk3 : f.kind = 3 := by simpa using hh
    clear hh m0 m1 m2 hb
    have hbl : (bytesV s).length ≤ 65536 := bytesV_len h
    refine go_WireX (k := ?_)
    refine CW_tree2 [3] (.p 0 (.p 2 (.q 3 (.a 1 (.d 4 (.p 5 .done)))))) (C) (by kernel_rfl) (by kernel_rfl) (by kernel_rfl) ?_ ?_
    · exact yx
    intro w2 hx2 hC2
    refine oy_WireX (k := ?_)
    refine OW_callC Try.func22 (by kernel_rfl) rfl (rBytes_any _ _ _ _ (hs.ext hx2)) rfl ?_
    rintro en w3 ⟨A3, c3, rfl, ho3, hr3, hk3'⟩
    refine ⟨_, rfl, ?_⟩
    have hcap3 := own_cap ho3
    first | refine OW_nil (goY_mk (yk _ _ hx2 hk3') ?_) | refine OW_nil (goY_drop C (yk _ _ hx2 hk3') ?_)
    refine oy_WireX (k := ?_)
    have hB3 : Bs w3 A f.B := hfB _ ((Keeps.of_ext (hx.trans' hx2) _).trans' hk3')
    refine OW_callV Try.func40 (by kernel_rfl) rfl (sameL_any w3 A3 A (bytesV s) f.B c3 c (own_rd ho3) hB3 hcap3.1 (by omega)) rfl ?_
    intro w4 hx4
    have hk4 := hk3'.trans' (Keeps.of_ext hx4 _)
    first | refine OW_nil (goY_mk (yk _ _ hx2 hk4) ?_) | refine OW_nil (goY_drop C (yk _ _ hx2 hk4) ?_)
    refine oy_WireX (k := ?_)
    refine go_WireX (k := ?_)
    refine bodyE_ret1 rfl (.bool _) rfl (fin _ _ _ _ ?_ ?_ hx2 (hr3.ext hx4) hk4)
    · unfold backV; rw [if_neg h0, if_neg h1, if_neg h2, if_pos hk3]
    · unfold rdS; rw [if_neg h0, if_neg h1, if_neg h2, if_pos hk3]
  have h3 : ¬ f.kind = 3 := by simpa using hh
  clear hh
  refine go_WireX (k := ?_)
  refine CW_cond _ rfl (fun hh => ?_) (fun hh => ?_)
  · have hk4 : f.kind = 4 := by simpa using hh
    clear hh m0 m1 m2 hb
    have yS : ∀ v, C v → Bs v A f.B := by rw [hC]; exact fun v hk => hfB _ ((Keeps.of_ext hx _).trans' hk)
    clear hfB
    refine go_WireX (k := ?_)
    refine CW_tree2 [3, 4] (.p 0 (.p 2 (.q 3 (.q 4 (.a 1 (.p 5 (.p 6 .done))))))) (C) (by kernel_rfl) (by kernel_rfl) (by kernel_rfl) ?_ ?_
    · exact yx
    intro w2 hx2 hC2
    refine oy_WireX (k := ?_)
    refine OW_callC Try.func23 (by kernel_rfl) rfl (rText_any _ _ _ _ (hs.ext hx2)) rfl ?_
    rintro en w3 ⟨rfl, hr3, hk3⟩
    refine ⟨_, rfl, ?_⟩
    first | refine OW_nil (goY_mk (yk _ _ hx2 hk3) ?_) | refine OW_nil (goY_drop C (yk _ _ hx2 hk3) ?_)
    refine oy_WireX (k := ?_)
    rw [decide_str]
    refine go_WireX (k := ?_)
    refine bodyE_ret1 rfl (.bool _) rfl (fin _ _ _ _ ?_ ?_ hx2 hr3 hk3)
    · unfold backV; rw [if_neg h0, if_neg h1, if_neg h2, if_neg h3, if_pos hk4]
    · unfold rdS; rw [if_neg h0, if_neg h1, if_neg h2, if_neg h3, if_pos hk4]
  have h4 : ¬ f.kind = 4 := by simpa using hh
  clear hh
  refine go_WireX (k := ?_)
  refine CW_cond _ rfl (fun hh => ?_) (fun hh => ?_)
  · have hk5 : f.kind = 5 := by simpa using hh
    clear hh m0 m1 m2 hb
    have htl := tagV_length s
    have hTl := hf.tag
    have hTl2 : (f.T.map bv).length = 32 := by simp [hTl]
    refine go_WireX (k := ?_)
    refine CW_tree2 [3] (.p 0 (.p 2 (.q 3 (.a 1 (.p 4 (.p 5 .done)))))) (C) (by kernel_rfl) (by kernel_rfl) (by kernel_rfl) ?_ ?_
    · exact yx
    intro w2 hx2 hC2
    refine oy_WireX (k := ?_)
    refine OW_callC Try.func24 (by kernel_rfl) rfl (rTag_any _ _ _ _ (hs.ext hx2)) rfl ?_
    rintro en w3 ⟨rfl, hr3, hk3⟩
    refine ⟨_, rfl, ?_⟩
    first | refine OW_nil (goY_mk (yk _ _ hx2 hk3) ?_) | refine OW_nil (goY_drop C (yk _ _ hx2 hk3) ?_)
    refine oy_WireX (k := ?_)
    refine go_WireX (k := ?_)
    refine bodyE_ret1 rfl (.bool _) rfl (fin _ _ _ _ ?_ ?_ hx2 hr3 hk3)
    · unfold backV; rw [if_neg h0, if_neg h1, if_neg h2, if_neg h3, if_neg h4, if_pos hk5]; exact dec_beq _ _
    · unfold rdS; rw [if_neg h0, if_neg h1, if_neg h2, if_neg h3, if_neg h4, if_pos hk5]
  have h5 : ¬ f.kind = 5 := by simpa using hh
  refine go_WireX (k := ?_)
  refine bodyE_ret1 rfl (.bool true) rfl (fin _ _ _ _ ?_ ?_ (Ext.rfl' _) hs (Keeps.rfl' _ _))
  · unfold backV; rw [if_neg h0, if_neg h1, if_neg h2, if_neg h3, if_neg h4, if_neg h5]
  · unfold rdS; rw [if_neg h0, if_neg h1, if_neg h2, if_neg h3, if_neg h4, if_neg h5]
end Go.Proofs.Ythhphmbhlddihaa
