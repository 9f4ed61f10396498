/- Several texts in one, as they stand in wip/src. -/
import Derived.Test.YtdpomchhbbopbaaGr2
import Derived.Test.YtdpomchhbbopbaaGr10
import Derived.Test.YtdpomchhbbopbaaGr11
/- Walks: writers and readers in play, a field read back, the chapter's examples. -/
namespace Go.Proofs.Ytdpomchhbbopbaa
open Go Go.RowKit
set_option linter.unusedVariables false
set_option maxRecDepth 4000
theorem go_WireX {A B : Prop} (h : Held B → A := by
  intro hEnd
  repeat (first | refine OW_nilCheck rfl ?_ | refine OW_moveV (.int _ _) rfl ?_ | refine OW_moveV (.slice _ _ _) rfl ?_ | refine OW_moveV (.bool _) rfl ?_ | refine OW_moveV (.pointer _) rfl ?_ | refine OW_moveV (.string _) rfl ?_ | refine OW_moveV (.agg _) rfl ?_ | refine OW_moveV (.tuple _) rfl ?_ | refine OW_nil ?_ | refine thenE_normal ?_ | refine CW_seq ?_ | refine CW_region (by kernel_rfl) ?_ | refine OW_assignV (.int _ _) rfl ?_ | refine OW_assignV (.slice _ _ _) rfl ?_ | refine OW_assignV (.bool _) rfl ?_ | refine OW_assignV (.pointer _) rfl ?_ | refine OW_assignV (.string _) rfl ?_ | refine OW_assignV (.agg _) rfl ?_ | refine OW_assignV (.tuple _) rfl ?_ | refine OW_addI rfl rfl (by omega) ?_ | refine OW_subI rfl rfl (by omega) ?_ | refine OW_mulI rfl rfl (by omega) ?_ | refine OW_lss rfl rfl ?_ | refine OW_extract rfl rfl ?_ | refine OW_gtr rfl rfl ?_ | refine OW_leq rfl rfl ?_ | refine OW_geq rfl rfl ?_ | refine OW_eql rfl rfl ?_ | refine OW_neq rfl rfl ?_ | refine OW_not rfl ?_ | refine OW_pickT rfl _ rfl ?_ | refine OW_pickF rfl (.bool _) rfl ?_ | refine OW_pickB rfl rfl rfl ?_ | refine OW_move ?_ | refine OW_assign ?_ | refine OW_pass rfl ?_ | refine OW_take rfl ?_ | refine OW_lenS (by first | with_reducible exact und_bytes | with_reducible exact und_bytess) rfl ?_ | refine OW_convInt (by first | with_reducible exact und_u8 | with_reducible exact und_u64 | with_reducible exact und_int | with_reducible exact und_u32) (by first | with_reducible exact und_u8 | with_reducible exact und_u64 | with_reducible exact und_int | with_reducible exact und_u32) rfl ?_ | refine OW_add rfl rfl ?_ | refine OW_sub rfl rfl ?_ | refine OW_mul rfl rfl ?_ | refine OW_min2 rfl rfl ?_ | refine OW_max2 rfl rfl ?_ | refine OW_neg rfl ?_ | refine CW_block ?_ | refine CW_condT rfl ?_ | refine CW_condF rfl ?_ | refine CW_exit ?_ | refine CW_ret ?_ | refine CW_skip ?_ | refine LW_seq ?_ | refine LW_regC ?_ | refine LW_condC ?_ | refine LW_regF ?_ | refine LW_condF ?_ | refine FW_seq ?_ | refine FW_region (by kernel_rfl) ?_ | refine FW_block ?_ | refine FW_condT rfl ?_ | refine FW_condF rfl ?_ | refine FW_exit ?_ | refine FW_ret ?_ | refine FW_skip ?_ | refine LW_ret ?_ | refine LW_skip ?_ | refine thenE_exit ?_ | refine thenE_ret ?_ | refine inBlockE_normal ?_ | refine inBlockE_same ?_ | refine inBlockE_ret ?_ | refine inBlockE_ne (by rfl) ?_ | refine OW_eqlB (by with_reducible exact und_bool) rfl rfl ?_ | refine OW_neqB (by with_reducible exact und_bool) rfl rfl ?_ | refine OW_idxS (by with_reducible exact und_bytes) one_u8 rfl rfl _ rfl (by omega) ?_ | refine OW_idxS (by with_reducible exact und_bytess) one_bytes rfl rfl _ rfl (by omega) ?_ | refine OW_load1 (by first | with_reducible exact one_u8 | with_reducible exact one_bytes) rfl _ (by assumption) ?_ | refine OW_strOf und_bytes und_u8 und_string (by apply_assumption; assumption) rfl ?_ | refine OW_eqlS rfl rfl ?_ | refine OW_eqlR eqr_Tag rfl rfl (by assumption) (by assumption) ?_ | refine OW_loadX agg_Tag rfl _ (by assumption) (by apply_assumption; assumption) ?_ | refine OW_rem rfl rfl (by decide) ?_ | refine OW_fieldF fld_F0 rfl ?_ | refine OW_fieldF fld_F1 rfl ?_ | refine OW_fieldF fld_F2 rfl ?_ | refine OW_fieldF fld_F3 rfl ?_ | refine OW_load1 (by first | with_reducible exact one_int) rfl _ (by assumption) ?_)
  exact hEnd.out) (k : B) : A := h ⟨k⟩
theorem oy_WireX {A B : Prop} (h : Held B → A := by
  intro hEnd
  repeat (first
    | refine OY_done ?_
    | (apply OY_p _ rfl
       · intro wd
         (first | refine OW_nilCheck rfl ?_ | refine OW_moveV (.int _ _) rfl ?_ | refine OW_moveV (.slice _ _ _) rfl ?_ | refine OW_moveV (.bool _) rfl ?_ | refine OW_moveV (.pointer _) rfl ?_ | refine OW_moveV (.string _) rfl ?_ | refine OW_moveV (.agg _) rfl ?_ | refine OW_moveV (.tuple _) rfl ?_ | refine OW_nil ?_ | refine thenE_normal ?_ | refine CW_seq ?_ | refine CW_region (by kernel_rfl) ?_ | refine OW_assignV (.int _ _) rfl ?_ | refine OW_assignV (.slice _ _ _) rfl ?_ | refine OW_assignV (.bool _) rfl ?_ | refine OW_assignV (.pointer _) rfl ?_ | refine OW_assignV (.string _) rfl ?_ | refine OW_assignV (.agg _) rfl ?_ | refine OW_assignV (.tuple _) rfl ?_ | refine OW_addI rfl rfl (by omega) ?_ | refine OW_subI rfl rfl (by omega) ?_ | refine OW_mulI rfl rfl (by omega) ?_ | refine OW_lss rfl rfl ?_ | refine OW_extract rfl rfl ?_ | refine OW_gtr rfl rfl ?_ | refine OW_leq rfl rfl ?_ | refine OW_geq rfl rfl ?_ | refine OW_eql rfl rfl ?_ | refine OW_neq rfl rfl ?_ | refine OW_not rfl ?_ | refine OW_pickT rfl _ rfl ?_ | refine OW_pickF rfl (.bool _) rfl ?_ | refine OW_pickB rfl rfl rfl ?_ | refine OW_move ?_ | refine OW_assign ?_ | refine OW_pass rfl ?_ | refine OW_take rfl ?_ | refine OW_lenS (by first | with_reducible exact und_bytes | with_reducible exact und_bytess) rfl ?_ | refine OW_convInt (by first | with_reducible exact und_u8 | with_reducible exact und_u64 | with_reducible exact und_int | with_reducible exact und_u32) (by first | with_reducible exact und_u8 | with_reducible exact und_u64 | with_reducible exact und_int | with_reducible exact und_u32) rfl ?_ | refine OW_add rfl rfl ?_ | refine OW_sub rfl rfl ?_ | refine OW_mul rfl rfl ?_ | refine OW_min2 rfl rfl ?_ | refine OW_max2 rfl rfl ?_ | refine OW_neg rfl ?_ | refine CW_block ?_ | refine CW_condT rfl ?_ | refine CW_condF rfl ?_ | refine CW_exit ?_ | refine CW_ret ?_ | refine CW_skip ?_ | refine LW_seq ?_ | refine LW_regC ?_ | refine LW_condC ?_ | refine LW_regF ?_ | refine LW_condF ?_ | refine FW_seq ?_ | refine FW_region (by kernel_rfl) ?_ | refine FW_block ?_ | refine FW_condT rfl ?_ | refine FW_condF rfl ?_ | refine FW_exit ?_ | refine FW_ret ?_ | refine FW_skip ?_ | refine LW_ret ?_ | refine LW_skip ?_ | refine thenE_exit ?_ | refine thenE_ret ?_ | refine inBlockE_normal ?_ | refine inBlockE_same ?_ | refine inBlockE_ret ?_ | refine inBlockE_ne (by rfl) ?_ | refine OW_eqlB (by with_reducible exact und_bool) rfl rfl ?_ | refine OW_neqB (by with_reducible exact und_bool) rfl rfl ?_ | refine OW_idxS (by with_reducible exact und_bytes) one_u8 rfl rfl _ rfl (by omega) ?_ | refine OW_idxS (by with_reducible exact und_bytess) one_bytes rfl rfl _ rfl (by omega) ?_ | refine OW_load1 (by first | with_reducible exact one_u8 | with_reducible exact one_bytes) rfl _ (by assumption) ?_ | refine OW_strOf und_bytes und_u8 und_string (by apply_assumption; assumption) rfl ?_ | refine OW_eqlS rfl rfl ?_ | refine OW_eqlR eqr_Tag rfl rfl (by assumption) (by assumption) ?_ | refine OW_loadX agg_Tag rfl _ (by assumption) (by apply_assumption; assumption) ?_ | refine OW_rem rfl rfl (by decide) ?_ | refine OW_fieldF fld_F0 rfl ?_ | refine OW_fieldF fld_F1 rfl ?_ | refine OW_fieldF fld_F2 rfl ?_ | refine OW_fieldF fld_F3 rfl ?_ | refine OW_load1 (by first | with_reducible exact one_int) rfl _ (by assumption) ?_)
         refine OW_nil ?_
         exact stay_mk _ _ _ _)
    | (apply OY_q _ rfl
       · intro wd hwd
         (first | refine OW_nilCheck rfl ?_ | refine OW_moveV (.int _ _) rfl ?_ | refine OW_moveV (.slice _ _ _) rfl ?_ | refine OW_moveV (.bool _) rfl ?_ | refine OW_moveV (.pointer _) rfl ?_ | refine OW_moveV (.string _) rfl ?_ | refine OW_moveV (.agg _) rfl ?_ | refine OW_moveV (.tuple _) rfl ?_ | refine OW_nil ?_ | refine thenE_normal ?_ | refine CW_seq ?_ | refine CW_region (by kernel_rfl) ?_ | refine OW_assignV (.int _ _) rfl ?_ | refine OW_assignV (.slice _ _ _) rfl ?_ | refine OW_assignV (.bool _) rfl ?_ | refine OW_assignV (.pointer _) rfl ?_ | refine OW_assignV (.string _) rfl ?_ | refine OW_assignV (.agg _) rfl ?_ | refine OW_assignV (.tuple _) rfl ?_ | refine OW_addI rfl rfl (by omega) ?_ | refine OW_subI rfl rfl (by omega) ?_ | refine OW_mulI rfl rfl (by omega) ?_ | refine OW_lss rfl rfl ?_ | refine OW_extract rfl rfl ?_ | refine OW_gtr rfl rfl ?_ | refine OW_leq rfl rfl ?_ | refine OW_geq rfl rfl ?_ | refine OW_eql rfl rfl ?_ | refine OW_neq rfl rfl ?_ | refine OW_not rfl ?_ | refine OW_pickT rfl _ rfl ?_ | refine OW_pickF rfl (.bool _) rfl ?_ | refine OW_pickB rfl rfl rfl ?_ | refine OW_move ?_ | refine OW_assign ?_ | refine OW_pass rfl ?_ | refine OW_take rfl ?_ | refine OW_lenS (by first | with_reducible exact und_bytes | with_reducible exact und_bytess) rfl ?_ | refine OW_convInt (by first | with_reducible exact und_u8 | with_reducible exact und_u64 | with_reducible exact und_int | with_reducible exact und_u32) (by first | with_reducible exact und_u8 | with_reducible exact und_u64 | with_reducible exact und_int | with_reducible exact und_u32) rfl ?_ | refine OW_add rfl rfl ?_ | refine OW_sub rfl rfl ?_ | refine OW_mul rfl rfl ?_ | refine OW_min2 rfl rfl ?_ | refine OW_max2 rfl rfl ?_ | refine OW_neg rfl ?_ | refine CW_block ?_ | refine CW_condT rfl ?_ | refine CW_condF rfl ?_ | refine CW_exit ?_ | refine CW_ret ?_ | refine CW_skip ?_ | refine LW_seq ?_ | refine LW_regC ?_ | refine LW_condC ?_ | refine LW_regF ?_ | refine LW_condF ?_ | refine FW_seq ?_ | refine FW_region (by kernel_rfl) ?_ | refine FW_block ?_ | refine FW_condT rfl ?_ | refine FW_condF rfl ?_ | refine FW_exit ?_ | refine FW_ret ?_ | refine FW_skip ?_ | refine LW_ret ?_ | refine LW_skip ?_ | refine thenE_exit ?_ | refine thenE_ret ?_ | refine inBlockE_normal ?_ | refine inBlockE_same ?_ | refine inBlockE_ret ?_ | refine inBlockE_ne (by rfl) ?_ | refine OW_eqlB (by with_reducible exact und_bool) rfl rfl ?_ | refine OW_neqB (by with_reducible exact und_bool) rfl rfl ?_ | refine OW_idxS (by with_reducible exact und_bytes) one_u8 rfl rfl _ rfl (by omega) ?_ | refine OW_idxS (by with_reducible exact und_bytess) one_bytes rfl rfl _ rfl (by omega) ?_ | refine OW_load1 (by first | with_reducible exact one_u8 | with_reducible exact one_bytes) rfl _ (by assumption) ?_ | refine OW_strOf und_bytes und_u8 und_string (by apply_assumption; assumption) rfl ?_ | refine OW_eqlS rfl rfl ?_ | refine OW_eqlR eqr_Tag rfl rfl (by assumption) (by assumption) ?_ | refine OW_loadX agg_Tag rfl _ (by assumption) (by apply_assumption; assumption) ?_ | refine OW_rem rfl rfl (by decide) ?_ | refine OW_fieldF fld_F0 rfl ?_ | refine OW_fieldF fld_F1 rfl ?_ | refine OW_fieldF fld_F2 rfl ?_ | refine OW_fieldF fld_F3 rfl ?_ | refine OW_load1 (by first | with_reducible exact one_int) rfl _ (by assumption) ?_ | (refine OW_isLoad ?_; refine OW_loadBk (by first | with_reducible exact one_u8 | with_reducible exact one_bytes | with_reducible exact one_bool | with_reducible exact one_int | with_reducible exact one_errno | with_reducible exact one_u32 | with_reducible exact one_u64 | with_reducible exact one_string | with_reducible exact one_int | with_reducible exact one_bytes) rfl (by apply_assumption; assumption) _ (by first | assumption | rfl) ?_) | refine OW_load1 (by first | with_reducible exact one_u8 | with_reducible exact one_bytes | with_reducible exact one_bool | with_reducible exact one_int | with_reducible exact one_errno | with_reducible exact one_u32 | with_reducible exact one_u64 | with_reducible exact one_string | with_reducible exact one_int | with_reducible exact one_bytes) rfl _ (by apply_assumption; assumption) ?_)
         refine OW_nil ?_
         exact stay_mk _ _ _ _)
    | refine OY_ppass rfl rfl ?_
    | refine OY_qpass rfl rfl ?_
    | (apply OY_ptake _ rfl rfl
       · intro wd
         (first | refine OW_nilCheck rfl ?_ | refine OW_moveV (.int _ _) rfl ?_ | refine OW_moveV (.slice _ _ _) rfl ?_ | refine OW_moveV (.bool _) rfl ?_ | refine OW_moveV (.pointer _) rfl ?_ | refine OW_moveV (.string _) rfl ?_ | refine OW_moveV (.agg _) rfl ?_ | refine OW_moveV (.tuple _) rfl ?_ | refine OW_nil ?_ | refine thenE_normal ?_ | refine CW_seq ?_ | refine CW_region (by kernel_rfl) ?_ | refine OW_assignV (.int _ _) rfl ?_ | refine OW_assignV (.slice _ _ _) rfl ?_ | refine OW_assignV (.bool _) rfl ?_ | refine OW_assignV (.pointer _) rfl ?_ | refine OW_assignV (.string _) rfl ?_ | refine OW_assignV (.agg _) rfl ?_ | refine OW_assignV (.tuple _) rfl ?_ | refine OW_addI rfl rfl (by omega) ?_ | refine OW_subI rfl rfl (by omega) ?_ | refine OW_mulI rfl rfl (by omega) ?_ | refine OW_lss rfl rfl ?_ | refine OW_extract rfl rfl ?_ | refine OW_gtr rfl rfl ?_ | refine OW_leq rfl rfl ?_ | refine OW_geq rfl rfl ?_ | refine OW_eql rfl rfl ?_ | refine OW_neq rfl rfl ?_ | refine OW_not rfl ?_ | refine OW_pickT rfl _ rfl ?_ | refine OW_pickF rfl (.bool _) rfl ?_ | refine OW_pickB rfl rfl rfl ?_ | refine OW_move ?_ | refine OW_assign ?_ | refine OW_pass rfl ?_ | refine OW_take rfl ?_ | refine OW_lenS (by first | with_reducible exact und_bytes | with_reducible exact und_bytess) rfl ?_ | refine OW_convInt (by first | with_reducible exact und_u8 | with_reducible exact und_u64 | with_reducible exact und_int | with_reducible exact und_u32) (by first | with_reducible exact und_u8 | with_reducible exact und_u64 | with_reducible exact und_int | with_reducible exact und_u32) rfl ?_ | refine OW_add rfl rfl ?_ | refine OW_sub rfl rfl ?_ | refine OW_mul rfl rfl ?_ | refine OW_min2 rfl rfl ?_ | refine OW_max2 rfl rfl ?_ | refine OW_neg rfl ?_ | refine CW_block ?_ | refine CW_condT rfl ?_ | refine CW_condF rfl ?_ | refine CW_exit ?_ | refine CW_ret ?_ | refine CW_skip ?_ | refine LW_seq ?_ | refine LW_regC ?_ | refine LW_condC ?_ | refine LW_regF ?_ | refine LW_condF ?_ | refine FW_seq ?_ | refine FW_region (by kernel_rfl) ?_ | refine FW_block ?_ | refine FW_condT rfl ?_ | refine FW_condF rfl ?_ | refine FW_exit ?_ | refine FW_ret ?_ | refine FW_skip ?_ | refine LW_ret ?_ | refine LW_skip ?_ | refine thenE_exit ?_ | refine thenE_ret ?_ | refine inBlockE_normal ?_ | refine inBlockE_same ?_ | refine inBlockE_ret ?_ | refine inBlockE_ne (by rfl) ?_ | refine OW_eqlB (by with_reducible exact und_bool) rfl rfl ?_ | refine OW_neqB (by with_reducible exact und_bool) rfl rfl ?_ | refine OW_idxS (by with_reducible exact und_bytes) one_u8 rfl rfl _ rfl (by omega) ?_ | refine OW_idxS (by with_reducible exact und_bytess) one_bytes rfl rfl _ rfl (by omega) ?_ | refine OW_load1 (by first | with_reducible exact one_u8 | with_reducible exact one_bytes) rfl _ (by assumption) ?_ | refine OW_strOf und_bytes und_u8 und_string (by apply_assumption; assumption) rfl ?_ | refine OW_eqlS rfl rfl ?_ | refine OW_eqlR eqr_Tag rfl rfl (by assumption) (by assumption) ?_ | refine OW_loadX agg_Tag rfl _ (by assumption) (by apply_assumption; assumption) ?_ | refine OW_rem rfl rfl (by decide) ?_ | refine OW_fieldF fld_F0 rfl ?_ | refine OW_fieldF fld_F1 rfl ?_ | refine OW_fieldF fld_F2 rfl ?_ | refine OW_fieldF fld_F3 rfl ?_ | refine OW_load1 (by first | with_reducible exact one_int) rfl _ (by assumption) ?_)
         refine OW_nil ?_
         exact stay_mk _ _ _ _)
    | (apply OY_qtake _ rfl rfl
       · intro wd hwd
         (first | refine OW_nilCheck rfl ?_ | refine OW_moveV (.int _ _) rfl ?_ | refine OW_moveV (.slice _ _ _) rfl ?_ | refine OW_moveV (.bool _) rfl ?_ | refine OW_moveV (.pointer _) rfl ?_ | refine OW_moveV (.string _) rfl ?_ | refine OW_moveV (.agg _) rfl ?_ | refine OW_moveV (.tuple _) rfl ?_ | refine OW_nil ?_ | refine thenE_normal ?_ | refine CW_seq ?_ | refine CW_region (by kernel_rfl) ?_ | refine OW_assignV (.int _ _) rfl ?_ | refine OW_assignV (.slice _ _ _) rfl ?_ | refine OW_assignV (.bool _) rfl ?_ | refine OW_assignV (.pointer _) rfl ?_ | refine OW_assignV (.string _) rfl ?_ | refine OW_assignV (.agg _) rfl ?_ | refine OW_assignV (.tuple _) rfl ?_ | refine OW_addI rfl rfl (by omega) ?_ | refine OW_subI rfl rfl (by omega) ?_ | refine OW_mulI rfl rfl (by omega) ?_ | refine OW_lss rfl rfl ?_ | refine OW_extract rfl rfl ?_ | refine OW_gtr rfl rfl ?_ | refine OW_leq rfl rfl ?_ | refine OW_geq rfl rfl ?_ | refine OW_eql rfl rfl ?_ | refine OW_neq rfl rfl ?_ | refine OW_not rfl ?_ | refine OW_pickT rfl _ rfl ?_ | refine OW_pickF rfl (.bool _) rfl ?_ | refine OW_pickB rfl rfl rfl ?_ | refine OW_move ?_ | refine OW_assign ?_ | refine OW_pass rfl ?_ | refine OW_take rfl ?_ | refine OW_lenS (by first | with_reducible exact und_bytes | with_reducible exact und_bytess) rfl ?_ | refine OW_convInt (by first | with_reducible exact und_u8 | with_reducible exact und_u64 | with_reducible exact und_int | with_reducible exact und_u32) (by first | with_reducible exact und_u8 | with_reducible exact und_u64 | with_reducible exact und_int | with_reducible exact und_u32) rfl ?_ | refine OW_add rfl rfl ?_ | refine OW_sub rfl rfl ?_ | refine OW_mul rfl rfl ?_ | refine OW_min2 rfl rfl ?_ | refine OW_max2 rfl rfl ?_ | refine OW_neg rfl ?_ | refine CW_block ?_ | refine CW_condT rfl ?_ | refine CW_condF rfl ?_ | refine CW_exit ?_ | refine CW_ret ?_ | refine CW_skip ?_ | refine LW_seq ?_ | refine LW_regC ?_ | refine LW_condC ?_ | refine LW_regF ?_ | refine LW_condF ?_ | refine FW_seq ?_ | refine FW_region (by kernel_rfl) ?_ | refine FW_block ?_ | refine FW_condT rfl ?_ | refine FW_condF rfl ?_ | refine FW_exit ?_ | refine FW_ret ?_ | refine FW_skip ?_ | refine LW_ret ?_ | refine LW_skip ?_ | refine thenE_exit ?_ | refine thenE_ret ?_ | refine inBlockE_normal ?_ | refine inBlockE_same ?_ | refine inBlockE_ret ?_ | refine inBlockE_ne (by rfl) ?_ | refine OW_eqlB (by with_reducible exact und_bool) rfl rfl ?_ | refine OW_neqB (by with_reducible exact und_bool) rfl rfl ?_ | refine OW_idxS (by with_reducible exact und_bytes) one_u8 rfl rfl _ rfl (by omega) ?_ | refine OW_idxS (by with_reducible exact und_bytess) one_bytes rfl rfl _ rfl (by omega) ?_ | refine OW_load1 (by first | with_reducible exact one_u8 | with_reducible exact one_bytes) rfl _ (by assumption) ?_ | refine OW_strOf und_bytes und_u8 und_string (by apply_assumption; assumption) rfl ?_ | refine OW_eqlS rfl rfl ?_ | refine OW_eqlR eqr_Tag rfl rfl (by assumption) (by assumption) ?_ | refine OW_loadX agg_Tag rfl _ (by assumption) (by apply_assumption; assumption) ?_ | refine OW_rem rfl rfl (by decide) ?_ | refine OW_fieldF fld_F0 rfl ?_ | refine OW_fieldF fld_F1 rfl ?_ | refine OW_fieldF fld_F2 rfl ?_ | refine OW_fieldF fld_F3 rfl ?_ | refine OW_load1 (by first | with_reducible exact one_int) rfl _ (by assumption) ?_ | (refine OW_isLoad ?_; refine OW_loadBk (by first | with_reducible exact one_u8 | with_reducible exact one_bytes | with_reducible exact one_bool | with_reducible exact one_int | with_reducible exact one_errno | with_reducible exact one_u32 | with_reducible exact one_u64 | with_reducible exact one_string | with_reducible exact one_int | with_reducible exact one_bytes) rfl (by apply_assumption; assumption) _ (by first | assumption | rfl) ?_) | refine OW_load1 (by first | with_reducible exact one_u8 | with_reducible exact one_bytes | with_reducible exact one_bool | with_reducible exact one_int | with_reducible exact one_errno | with_reducible exact one_u32 | with_reducible exact one_u64 | with_reducible exact one_string | with_reducible exact one_int | with_reducible exact one_bytes) rfl _ (by apply_assumption; assumption) ?_)
         refine OW_nil ?_
         exact stay_mk _ _ _ _)
    | refine OY_a (actY_of rfl ?_)
    | refine OY_d (actY_of rfl ?_)
    | refine OY_a (actY_pass rfl rfl ?_)
    | refine OY_d (actY_pass rfl rfl ?_)
    | refine OY_a (actY_take rfl rfl ?_)
    | refine OY_d (actY_take rfl rfl ?_))
  exact hEnd.out) (k : B) : A := h ⟨k⟩
/-- A writer in play: all its blocks are of the call's own. -/
def WPly (w0 w : World) (g : Nat) (s : Bool × List UInt8) : Prop := ∃ S, WR w g S s ∧ (∀ k, S k → w0.heap.size ≤ k) ∧ Ext w0 w
theorem WPly.ext {w0 w w' : World} {g : Nat} {s : Bool × List UInt8} (h : WPly w0 w g s) (hx : Ext w w') : WPly w0 w' g s := by
  obtain ⟨S, h1, h2, h3⟩ := h
  exact ⟨S, h1.ext hx, h2, h3.trans' hx⟩
theorem WPly.to {w0 w : World} {g : Nat} {s : Bool × List UInt8} (h : WPly w0 w g s) : Ext w0 w := by obtain ⟨S, h1, h2, h3⟩ := h; exact h3
theorem WPly.call {w0 w : World} {g : Nat} {s s' : Bool × List UInt8} {f : FuncId} {args : Array Value} (h : WPly w0 w g s) (hc : ∀ S, WR w g S s → Calls Try.prog f args w (WPost w g S s')) : Calls Try.prog f args w (fun en w' => en = .returned (.pointer (some ⟨g, 0, none⟩)) ∧ WPly w0 w' g s') := by
  obtain ⟨S, h1, h2, h3⟩ := h
  refine (hc S h1).mono ?_
  rintro en w' ⟨q1, q2, q3⟩
  exact ⟨q1, more S w w', q2, fun k hk => by rcases hk with hk | hk; exact h2 k hk; have := h3.size; omega, q3.ext h3 h2⟩
theorem WPly.use {w0 w : World} {g : Nat} {s : Bool × List UInt8} {f : FuncId} {args : Array Value} {R : Ending → World → Prop} (h : WPly w0 w g s) (hc : ∀ S, WR w g S s → Calls Try.prog f args w R) : Calls Try.prog f args w R := by
  obtain ⟨S, h1, h2, h3⟩ := h
  exact hc S h1
theorem newWriter_ply (w0 w : World) (hx0 : Ext w0 w) : Calls Try.prog 47 #[] w (fun en w' => ∃ g, en = .returned (.pointer (some ⟨g, 0, none⟩)) ∧ Ext w w' ∧ WPly w0 w' g (false, [])) :=
  (newWriter_any w).mono fun en w' ⟨g, h1, h2, h3, h4⟩ => ⟨g, h1, h3, _, h4, fun k hk => by rcases hk with hk | hk; exact hk.elim; have := hx0.size; omega, hx0.trans' h3⟩
/-- A reader in play. -/
def RPly (w0 w : World) (g : Nat) (s : List UInt8 × Int) : Prop := ∃ S, RR w g S s ∧ (∀ k, S k → w0.heap.size ≤ k) ∧ Ext w0 w
theorem RPly.ext {w0 w w' : World} {g : Nat} {s : List UInt8 × Int} (h : RPly w0 w g s) (hx : Ext w w') : RPly w0 w' g s := by
  obtain ⟨S, h1, h2, h3⟩ := h
  exact ⟨S, h1.ext hx, h2, h3.trans' hx⟩
theorem RPly.to {w0 w : World} {g : Nat} {s : List UInt8 × Int} (h : RPly w0 w g s) : Ext w0 w := by obtain ⟨S, h1, h2, h3⟩ := h; exact h3
theorem RPly.put {w0 w w' : World} {g : Nat} {s s' : List UInt8 × Int} {S : Nat → Prop} (h1 : RR w g S s) (h2 : ∀ k, S k → w0.heap.size ≤ k) (h3 : Ext w0 w) (q2 : RR w' g S s') (q3 : Keeps w w' (· = g)) : RPly w0 w' g s' :=
  ⟨S, q2, h2, q3.ext h3 (fun j hj => by have hj : j = g := hj; subst hj; exact h2 j h1.in_)⟩
theorem RPly.call {w0 w : World} {g : Nat} {s s' : List UInt8 × Int} {v : Value} {f : FuncId} {args : Array Value} (h : RPly w0 w g s) (hc : ∀ S, RR w g S s → Calls Try.prog f args w (RPost w g S v s')) : Calls Try.prog f args w (fun en w' => en = .returned v ∧ RPly w0 w' g s') := by
  obtain ⟨S, h1, h2, h3⟩ := h
  refine (hc S h1).mono ?_
  rintro en w' ⟨q1, q2, q3⟩
  exact ⟨q1, RPly.put h1 h2 h3 q2 q3⟩
theorem RPly.callB {w0 w : World} {g : Nat} {s s' : List UInt8 × Int} {l : List UInt8} {f : FuncId} {args : Array Value} (h : RPly w0 w g s) (hc : ∀ S, RR w g S s → Calls Try.prog f args w (RBytes w g S l s')) : Calls Try.prog f args w (fun en w' => ∃ A c, en = .returned (.slice A l.length c) ∧ w'.ownsRow w.heap.size 5 1 (.slice A l.length c) l.length (l.map bv) ∧ RPly w0 w' g s') := by
  obtain ⟨S, h1, h2, h3⟩ := h
  refine (hc S h1).mono ?_
  rintro en w' ⟨A, c, q1, qo, q2, q3⟩
  exact ⟨A, c, q1, qo, RPly.put h1 h2 h3 q2 q3⟩
theorem RPly.use {w0 w : World} {g : Nat} {s : List UInt8 × Int} {f : FuncId} {args : Array Value} {R : Ending → World → Prop} (h : RPly w0 w g s) (hc : ∀ S, RR w g S s → Calls Try.prog f args w R) : Calls Try.prog f args w R := by
  obtain ⟨S, h1, h2, h3⟩ := h
  exact hc S h1
theorem newReader_ply (w0 w : World) (hx0 : Ext w0 w) (A : Option Addr) (b : List UInt8) (c : Nat) (hb : Bs w A b) (hl : b.length ≤ 65536) : Calls Try.prog 49 #[.slice A b.length c] w (fun en w' => ∃ g, en = .returned (.pointer (some ⟨g, 0, none⟩)) ∧ Ext w w' ∧ RPly w0 w' g (b, 0)) :=
  (newReader_any w A b c hb (by omega)).mono fun en w' ⟨g, h1, h2, h3, h4⟩ => ⟨g, h1, h3, _, by rw [if_neg (by omega)] at h4; exact h4, fun k hk => by rcases hk with hk | hk; exact hk.elim; have := hx0.size; omega, hx0.trans' h3⟩

def flOk (s : List UInt8 × Int) : Bool := decide (((s.1.headD 0).toNat : Int) ≤ 1)
/-- A reader behind a field; whether the field is what was asked. -/
def rdS (s : List UInt8 × Int) (f : FD) : List UInt8 × Int :=
  if f.kind = 0 then stepS s 1 true else if f.kind = 1 then stepS s 8 true else if f.kind = 2 then stepS s 1 (flOk s) else if f.kind = 3 then bytesS s else if f.kind = 4 then bytesS s else if f.kind = 5 then stepS s 32 true else s
def backV (s : List UInt8 × Int) (f : FD) : Bool :=
  if f.kind = 0 then ((if fits s 1 then s.1.headD 0 else 0) == byteOf f.n) else if f.kind = 1 then ((if fits s 8 then i64L (s.1.take 8) else 0) == f.n) else if f.kind = 2 then ((fits s 1 && decide (((s.1.headD 0).toNat : Int) = 1)) == flagOf f.n)
  else if f.kind = 3 then (bytesV s == f.B) else if f.kind = 4 then (bytesV s == f.B) else if f.kind = 5 then (tagV s == f.T) else true
def BackP (w : World) (g : Nat) (S : Nat → Prop) (b : Bool) (s : List UInt8 × Int) : Ending → World → Prop := fun en w' => en = .returned (.bool b) ∧ RR w' g S s ∧ Keeps w w' (· = g)
theorem beq_u8 (a b : UInt8) : ((a.toNat : Int) == (b.toNat : Int)) = (a == b) := by
  by_cases h : a = b
  · subst h; simp
  · have : ¬ a.toNat = b.toNat := fun hh => h (UInt8.toNat_inj.1 hh)
    have h1 : (a == b) = false := by simpa using h
    rw [h1]
    simp only [beq_eq_false_iff_ne, ne_eq]
    omega
theorem decide_str (a b : List UInt8) : decide ((⟨a.toArray⟩ : ByteArray) = ⟨b.toArray⟩) = (a == b) := by
  by_cases h : a = b
  · subst h; simp
  · have h1 : (a == b) = false := by simpa using h
    rw [h1]
    simpa using h
theorem dec_beq (a b : List UInt8) : decide (a = b) = (a == b) := by
  by_cases h : a = b
  · subst h; simp
  · have h1 : (a == b) = false := by simpa using h
    rw [h1]; simpa using h
set_option maxHeartbeats 8000000 in
theorem back_any (w : World) (g : Nat) (S : Nat → Prop) (s : List UInt8 × Int) (h : RR w g S s) (f : FD) (A : Option Addr) (c : Nat) (hf : FOk w f A c) (hfB : ∀ v, Keeps w v (· = g) → Bs v A f.B) :
    Calls Try.prog 51 #[.pointer (some ⟨g, 0, none⟩), .agg (fcells f (.slice A f.B.length c)).toArray] w (BackP w g S (backV s f) (rdS s f)) := by
  refine calls_of_CW Try.func51 rfl (by simp [Try.ntmps51]) ?_
  rw [Try.ntmps51]
  refine go_WireX (k := ?_)
  refine OW_box _ rfl ?_
  intro w1 g3 hb hg3 hlt hx
  have hb : Blk w1 g3 51 (fcells f (.slice A f.B.length c)).toArray := hb
  have m0 : w1.cell? ⟨g3, 0, none⟩ = some (.int .i64 f.kind) := hb.cell 0
  have m1 : w1.cell? ⟨g3, 1, none⟩ = some (.int .i64 f.n) := hb.cell 1
  have m2 : w1.cell? ⟨g3, 2, none⟩ = some (.slice A f.B.length c) := hb.cell 2
  have mT := fcells_tag hb
  have hs := h.ext hx
  have hne : g3 ≠ g := by have := h.bd _ h.in_; omega
  have hb1 := hf.bs.ext hx
  have hcap := hf.cap
  obtain ⟨C, hC⟩ : ∃ C : World → Prop, C = fun v => Keeps w1 v (· = g) := ⟨_, rfl⟩
  have y1 : ∀ v, C v → v.cell? ⟨g3, 1, none⟩ = some (.int .i64 f.n) := by rw [hC]; exact fun v hk => hk.cell m1 hne
  have y2 : ∀ v, C v → v.cell? ⟨g3, 2, none⟩ = some (.slice A f.B.length c) := by rw [hC]; exact fun v hk => hk.cell m2 hne
  have yT : ∀ v, C v → At v ⟨g3, 3, none⟩ (f.T.map bv) := by rw [hC]; exact fun v hk => mT.keeps hk hne
  have yx : ∀ v, Ext w1 v → C v := by rw [hC]; exact fun v hv => Keeps.of_ext hv _
  have yk : ∀ v u, Ext w1 v → Keeps v u (· = g) → C u := by rw [hC]; exact fun v u hv hk => (Keeps.of_ext hv _).trans' hk
  have fin : ∀ (b : Bool) (s' : List UInt8 × Int) (v u : World), b = backV s f → s' = rdS s f → Ext w1 v → RR u g S s' → Keeps v u (· = g) → BackP w g S (backV s f) (rdS s f) (.returned (.bool b)) u := by
    intro b s' v u hb hs' hv hr hk
    subst hb; subst hs'
    exact ⟨rfl, hr, (Keeps.of_ext (hx.trans' hv) _).trans' hk⟩
  refine go_WireX (k := ?_)
  refine CW_cond _ rfl (fun hh => ?_) (fun hh => ?_)
  · have hk0 : f.kind = 0 := by simpa using hh
    clear hh m0 m1 m2 hb
    refine go_WireX (k := ?_)
    refine CW_tree2 [3, 4] (.p 0 (.p 2 (.q 3 (.q 4 (.a 1 (.p 5 (.p 6 .done))))))) (C) (by kernel_rfl) (by kernel_rfl) (by kernel_rfl) ?_ ?_
    · exact yx
    intro w2 hx2 hC2
    refine oy_WireX (k := ?_)
    refine OW_callC Try.func33 (by kernel_rfl) rfl (rByte_any _ _ _ _ (hs.ext hx2)) rfl ?_
    rintro en w3 ⟨rfl, hr3, hk3⟩
    refine ⟨_, rfl, ?_⟩
    first | refine OW_nil (goY_mk (yk _ _ hx2 hk3) ?_) | refine OW_nil (goY_drop C (yk _ _ hx2 hk3) ?_)
    generalize hbx : (if fits s 1 = true then s.1.headD 0 else 0) = b at *
    rw [show bv b = .int .u8 (b.toNat : Int) from rfl]
    refine oy_WireX (k := ?_)
    rw [wrap_u8I, beq_u8]
    refine go_WireX (k := ?_)
    refine bodyE_ret1 rfl (.bool _) rfl (fin _ _ _ _ ?_ ?_ hx2 hr3 hk3)
    · unfold backV; rw [if_pos hk0, hbx]
    · unfold rdS; rw [if_pos hk0]
  have h0 : ¬ f.kind = 0 := by simpa using hh
  clear hh
  refine go_WireX (k := ?_)
  refine CW_cond _ rfl (fun hh => ?_) (fun hh => ?_)
  · have hk1 : f.kind = 1 := by simpa using hh
    clear hh m0 m1 m2 hb
    refine go_WireX (k := ?_)
    refine CW_tree2 [3] (.p 0 (.p 2 (.q 3 (.a 1 (.p 4 (.p 5 .done)))))) (C) (by kernel_rfl) (by kernel_rfl) (by kernel_rfl) ?_ ?_
    · exact yx
    intro w2 hx2 hC2
    refine oy_WireX (k := ?_)
    refine OW_callC Try.func34 (by kernel_rfl) rfl (rInt_any _ _ _ _ (hs.ext hx2)) rfl ?_
    rintro en w3 ⟨rfl, hr3, hk3⟩
    refine ⟨_, rfl, ?_⟩
    first | refine OW_nil (goY_mk (yk _ _ hx2 hk3) ?_) | refine OW_nil (goY_drop C (yk _ _ hx2 hk3) ?_)
    refine oy_WireX (k := ?_)
    refine go_WireX (k := ?_)
    refine bodyE_ret1 rfl (.bool _) rfl (fin _ _ _ _ ?_ ?_ hx2 hr3 hk3)
    · unfold backV; rw [if_neg h0, if_pos hk1]
    · unfold rdS; rw [if_neg h0, if_pos hk1]
  have h1 : ¬ f.kind = 1 := by simpa using hh
  clear hh
  refine go_WireX (k := ?_)
  refine CW_cond _ rfl (fun hh => ?_) (fun hh => ?_)
  · have hk2 : f.kind = 2 := by simpa using hh
    clear hh m0 m1 m2 hb
    refine go_WireX (k := ?_)
    refine CW_tree2 [3] (.p 0 (.p 2 (.q 3 (.p 4 (.p 5 (.a 1 (.p 6 (.p 7 .done)))))))) (C) (by kernel_rfl) (by kernel_rfl) (by kernel_rfl) ?_ ?_
    · exact yx
    intro w2 hx2 hC2
    refine oy_WireX (k := ?_)
    refine OW_callC Try.func35 (by kernel_rfl) rfl (rFlag_any _ _ _ _ (hs.ext hx2)) rfl ?_
    rintro en w3 ⟨rfl, hr3, hk3⟩
    refine ⟨_, rfl, ?_⟩
    first | refine OW_nil (goY_mk (yk _ _ hx2 hk3) ?_) | refine OW_nil (goY_drop C (yk _ _ hx2 hk3) ?_)
    refine oy_WireX (k := ?_)
    refine go_WireX (k := ?_)
    refine bodyE_ret1 rfl (.bool _) rfl (fin _ _ _ _ ?_ ?_ hx2 hr3 hk3)
    · unfold backV; rw [if_neg h0, if_neg h1, if_pos hk2]; rfl
    · unfold rdS flOk; rw [if_neg h0, if_neg h1, if_pos hk2]
  have h2 : ¬ f.kind = 2 := by simpa using hh
  clear hh
  refine go_WireX (k := ?_)
  refine CW_cond _ rfl (fun hh => ?_) (fun hh => ?_)
  · have hk3 : f.kind = 3 := by simpa using hh
    clear hh m0 m1 m2 hb
    have hbl : (bytesV s).length ≤ 65536 := bytesV_len h
    refine go_WireX (k := ?_)
    refine CW_tree2 [3] (.p 0 (.p 2 (.q 3 (.a 1 (.d 4 (.p 5 .done)))))) (C) (by kernel_rfl) (by kernel_rfl) (by kernel_rfl) ?_ ?_
    · exact yx
    intro w2 hx2 hC2
    refine oy_WireX (k := ?_)
    refine OW_callC Try.func36 (by kernel_rfl) rfl (rBytes_any _ _ _ _ (hs.ext hx2)) rfl ?_
    rintro en w3 ⟨A3, c3, rfl, ho3, hr3, hk3'⟩
    refine ⟨_, rfl, ?_⟩
    have hcap3 := own_cap ho3
    first | refine OW_nil (goY_mk (yk _ _ hx2 hk3') ?_) | refine OW_nil (goY_drop C (yk _ _ hx2 hk3') ?_)
    refine oy_WireX (k := ?_)
    have hB3 : Bs w3 A f.B := hfB _ ((Keeps.of_ext (hx.trans' hx2) _).trans' hk3')
    refine OW_callV Try.func57 (by kernel_rfl) rfl (sameL_any w3 A3 A (bytesV s) f.B c3 c (own_rd ho3) hB3 hcap3.1 (by omega)) rfl ?_
    intro w4 hx4
    have hk4 := hk3'.trans' (Keeps.of_ext hx4 _)
    first | refine OW_nil (goY_mk (yk _ _ hx2 hk4) ?_) | refine OW_nil (goY_drop C (yk _ _ hx2 hk4) ?_)
    refine oy_WireX (k := ?_)
    refine go_WireX (k := ?_)
    refine bodyE_ret1 rfl (.bool _) rfl (fin _ _ _ _ ?_ ?_ hx2 (hr3.ext hx4) hk4)
    · unfold backV; rw [if_neg h0, if_neg h1, if_neg h2, if_pos hk3]
    · unfold rdS; rw [if_neg h0, if_neg h1, if_neg h2, if_pos hk3]
  have h3 : ¬ f.kind = 3 := by simpa using hh
  clear hh
  refine go_WireX (k := ?_)
  refine CW_cond _ rfl (fun hh => ?_) (fun hh => ?_)
  · have hk4 : f.kind = 4 := by simpa using hh
    clear hh m0 m1 m2 hb
    have yS : ∀ v, C v → Bs v A f.B := by rw [hC]; exact fun v hk => hfB _ ((Keeps.of_ext hx _).trans' hk)
    clear hfB
    refine go_WireX (k := ?_)
    refine CW_tree2 [3, 4] (.p 0 (.p 2 (.q 3 (.q 4 (.a 1 (.p 5 (.p 6 .done))))))) (C) (by kernel_rfl) (by kernel_rfl) (by kernel_rfl) ?_ ?_
    · exact yx
    intro w2 hx2 hC2
    refine oy_WireX (k := ?_)
    refine OW_callC Try.func37 (by kernel_rfl) rfl (rText_any _ _ _ _ (hs.ext hx2)) rfl ?_
    rintro en w3 ⟨rfl, hr3, hk3⟩
    refine ⟨_, rfl, ?_⟩
    first | refine OW_nil (goY_mk (yk _ _ hx2 hk3) ?_) | refine OW_nil (goY_drop C (yk _ _ hx2 hk3) ?_)
    refine oy_WireX (k := ?_)
    rw [decide_str]
    refine go_WireX (k := ?_)
    refine bodyE_ret1 rfl (.bool _) rfl (fin _ _ _ _ ?_ ?_ hx2 hr3 hk3)
    · unfold backV; rw [if_neg h0, if_neg h1, if_neg h2, if_neg h3, if_pos hk4]
    · unfold rdS; rw [if_neg h0, if_neg h1, if_neg h2, if_neg h3, if_pos hk4]
  have h4 : ¬ f.kind = 4 := by simpa using hh
  clear hh
  refine go_WireX (k := ?_)
  refine CW_cond _ rfl (fun hh => ?_) (fun hh => ?_)
  · have hk5 : f.kind = 5 := by simpa using hh
    clear hh m0 m1 m2 hb
    have htl := tagV_length s
    have hTl := hf.tag
    have hTl2 : (f.T.map bv).length = 32 := by simp [hTl]
    refine go_WireX (k := ?_)
    refine CW_tree2 [3] (.p 0 (.p 2 (.q 3 (.a 1 (.p 4 (.p 5 .done)))))) (C) (by kernel_rfl) (by kernel_rfl) (by kernel_rfl) ?_ ?_
    · exact yx
    intro w2 hx2 hC2
    refine oy_WireX (k := ?_)
    refine OW_callC Try.func38 (by kernel_rfl) rfl (rTag_any _ _ _ _ (hs.ext hx2)) rfl ?_
    rintro en w3 ⟨rfl, hr3, hk3⟩
    refine ⟨_, rfl, ?_⟩
    first | refine OW_nil (goY_mk (yk _ _ hx2 hk3) ?_) | refine OW_nil (goY_drop C (yk _ _ hx2 hk3) ?_)
    refine oy_WireX (k := ?_)
    refine go_WireX (k := ?_)
    refine bodyE_ret1 rfl (.bool _) rfl (fin _ _ _ _ ?_ ?_ hx2 hr3 hk3)
    · unfold backV; rw [if_neg h0, if_neg h1, if_neg h2, if_neg h3, if_neg h4, if_pos hk5]; exact dec_beq _ _
    · unfold rdS; rw [if_neg h0, if_neg h1, if_neg h2, if_neg h3, if_neg h4, if_pos hk5]
  have h5 : ¬ f.kind = 5 := by simpa using hh
  refine go_WireX (k := ?_)
  refine bodyE_ret1 rfl (.bool true) rfl (fin _ _ _ _ ?_ ?_ (Ext.rfl' _) hs (Keeps.rfl' _ _))
  · unfold backV; rw [if_neg h0, if_neg h1, if_neg h2, if_neg h3, if_neg h4, if_neg h5]
  · unfold rdS; rw [if_neg h0, if_neg h1, if_neg h2, if_neg h3, if_neg h4, if_neg h5]
end Go.Proofs.Ytdpomchhbbopbaa

/- Numbers as bytes, there and back. No program in sight. -/
namespace Go.Proofs.Ytdpomchhbbopbaa
open Go Go.RowKit
set_option linter.unusedVariables false
theorem loadL_putL (n : Nat) : ∀ x, x < 256 ^ n → loadL (putL x n) = x := by
  induction n with
  | zero => intro x hx; simp at hx; subst hx; rfl
  | succ n ih =>
    intro x hx
    have h1 : putL x (n + 1) = putL (x / 256) n ++ [UInt8.ofNat x] := by
      unfold putL
      rw [List.range_succ, List.map_append]
      congr 1
      · apply List.map_congr_left
        intro i hi
        have hi' : i < n := List.mem_range.1 hi
        rw [show n + 1 - 1 - i = (n - 1 - i) + 1 by omega, Nat.pow_succ, Nat.mul_comm, ← Nat.div_div_eq_div_mul]
      · simp
    rw [h1, loadL_snoc, ih _ (by rw [Nat.pow_succ] at hx; omega), UInt8.toNat_ofNat']
    omega
theorem putL_snoc (x n : Nat) : putL x (n + 1) = putL (x / 256) n ++ [UInt8.ofNat x] := by
  unfold putL
  rw [List.range_succ, List.map_append]
  congr 1
  · apply List.map_congr_left
    intro i hi
    have hi' : i < n := List.mem_range.1 hi
    rw [show n + 1 - 1 - i = (n - 1 - i) + 1 by omega, Nat.pow_succ, Nat.mul_comm, ← Nat.div_div_eq_div_mul]
  · simp
theorem putL_loadL : ∀ (n : Nat) (l : List UInt8), l.length = n → putL (loadL l) n = l
  | 0, l, h => by rw [List.eq_nil_of_length_eq_zero h]; rfl
  | n + 1, l, h => by
    obtain ⟨l', b, rfl⟩ : ∃ l' b, l = l' ++ [b] := ⟨l.dropLast, l.getLast (by intro hh; rw [hh] at h; cases h), (List.dropLast_concat_getLast _).symm⟩
    have hb := b.toNat_lt
    rw [putL_snoc, loadL_snoc, show (256 * loadL l' + b.toNat) / 256 = loadL l' by omega, putL_loadL n l' (by simpa using h)]
    congr 2
    apply UInt8.toNat_inj.1
    rw [UInt8.toNat_ofNat']
    omega
end Go.Proofs.Ytdpomchhbbopbaa

/- What is written is read back; what is cut off is not. Plainly. -/
namespace Go.Proofs.Ytdpomchhbbopbaa
open Go Go.RowKit
set_option linter.unusedVariables false
set_option maxRecDepth 4000
theorem i64_back {n : Int} (h : I64 n) : i64L (putL (u64N n) 8) = n := by
  unfold i64L
  rw [loadL_putL 8 _ (by have := u64N_lt n; omega)]
  unfold I64 at h
  unfold u64N
  simp [IntKind.wrap, IntKind.signed, IntKind.bits]
  omega
theorem i64_there (l : List UInt8) (h : l.length = 8) : putL (u64N (i64L l)) 8 = l := by
  have hlt := loadL_lt l
  rw [h] at hlt
  have : u64N (i64L l) = loadL l := by
    unfold i64L u64N
    simp [IntKind.wrap, IntKind.signed, IntKind.bits]
    omega
  rw [this, putL_loadL 8 l h]
theorem fitsW_ok {l r : List UInt8} {n : Int} (h : n = l.length) : fits (l ++ r, 0) n = true := decide_eq_true ⟨rfl, by omega, by simp; omega⟩
theorem stW_ok {l r : List UInt8} {n : Int} (h : n = l.length) : stepS (l ++ r, 0) n true = (r, 0) := by
  unfold stepS
  rw [if_neg (by simp), if_neg (by simp; omega), if_pos rfl]
  subst h
  simp
theorem stW_short {l : List UInt8} {n : Int} {b : Bool} (h : (l.length : Int) < n) : stepS (l, 0) n b = ([], 40) := by
  unfold stepS
  rw [if_neg (by simp), if_pos (.inr h)]
theorem stW_bad {s : List UInt8 × Int} {n : Int} {b : Bool} (h : s.2 ≠ 0) : stepS s n b = s := by
  unfold stepS
  rw [if_pos h]
theorem fitsW_bad {s : List UInt8 × Int} {n : Int} (h : s.2 ≠ 0) : fits s n = false := decide_eq_false fun hh => h hh.1
theorem len_ok {l r : List UInt8} (h : l.length ≤ 65536) : lenOk (putL l.length 4 ++ (l ++ r), 0) = true ∧ lenN (putL l.length 4 ++ (l ++ r), 0) = l.length := by
  have ht : (putL l.length 4 ++ (l ++ r)).take 4 = putL l.length 4 := by
    rw [List.take_append_of_le_length (by rw [putL_length]; exact Nat.le_refl _), List.take_of_length_le (by rw [putL_length]; exact Nat.le_refl _)]
  have hl : loadL (putL l.length 4) = l.length := loadL_putL 4 _ (by omega)
  have h1 : lenOk (putL l.length 4 ++ (l ++ r), 0) = true := by
    unfold lenOk
    rw [ht, hl]
    exact decide_eq_true (by omega)
  refine ⟨h1, ?_⟩
  unfold lenN
  rw [h1, fitsW_ok (by rw [putL_length]; rfl)]
  simp only [Bool.and_self, if_true, ht, hl]
theorem bytes_ok {l r : List UInt8} (h : l.length ≤ 65536) : bytesV (putL l.length 4 ++ (l ++ r), 0) = l ∧ bytesS (putL l.length 4 ++ (l ++ r), 0) = (r, 0) := by
  obtain ⟨h1, h2⟩ := len_ok (r := r) h
  have h3 : stepS (putL l.length 4 ++ (l ++ r), 0) 4 true = (l ++ r, 0) := stW_ok (by rw [putL_length]; rfl)
  unfold bytesV bytesS
  rw [h1, h2, h3, fitsW_ok rfl, stW_ok rfl]
  simp
theorem bytes_bad {s : List UInt8 × Int} (h : s.2 ≠ 0) : bytesV s = [] ∧ bytesS s = s := by
  unfold bytesV bytesS
  rw [stW_bad h, fitsW_bad h, stW_bad h]
  exact ⟨rfl, rfl⟩
theorem bytes_short {l p : List UInt8} (h : l.length ≤ 65536) {m : Nat} (hm : m < 4 + l.length) (hp : p = (putL l.length 4 ++ l).take m) : bytesS (p, 0) = ([], 40) := by
  subst hp
  have hpl := putL_length l.length 4
  by_cases h4 : m < 4
  · have hs : stepS ((putL l.length 4 ++ l).take m, 0) 4 (lenOk ((putL l.length 4 ++ l).take m, 0)) = ([], 40) := stW_short (by simp; omega)
    unfold bytesS
    rw [hs]
    exact stW_bad (by simp)
  · have he : (putL l.length 4 ++ l).take m = putL l.length 4 ++ (l.take (m - 4)) := by
      rw [List.take_append, hpl, List.take_of_length_le (by omega)]
    rw [he]
    have ht : (putL l.length 4 ++ l.take (m - 4)).take 4 = putL l.length 4 := by
      rw [List.take_append_of_le_length (by omega), List.take_of_length_le (by omega)]
    have hl : loadL (putL l.length 4) = l.length := loadL_putL 4 _ (by omega)
    have h1 : lenOk (putL l.length 4 ++ l.take (m - 4), 0) = true := by
      unfold lenOk
      rw [ht, hl]
      exact decide_eq_true (by omega)
    have h2 : lenN (putL l.length 4 ++ l.take (m - 4), 0) = l.length := by
      unfold lenN
      rw [h1, fitsW_ok (by rw [putL_length]; rfl)]
      simp only [Bool.and_self, if_true, ht, hl]
    have h3 : stepS (putL l.length 4 ++ l.take (m - 4), 0) 4 true = (l.take (m - 4), 0) := stW_ok (by rw [putL_length]; rfl)
    unfold bytesS
    rw [h1, h2, h3]
    exact stW_short (by simp; omega)
theorem tagV_ok {l r : List UInt8} (h : l.length = 32) : tagV (l ++ r, 0) = l := by
  unfold tagV
  rw [fitsW_ok (by omega)]
  simp [← h]
/-- A field that was written is read. -/
theorem read_back {f : FD} {r : List UInt8} (hT : f.T.length = 32) (hB : f.B.length ≤ 65536) (hn : I64 f.n) : backV (pieceL f ++ r, 0) f = true ∧ rdS (pieceL f ++ r, 0) f = (r, 0) := by
  unfold pieceL pieces backV rdS
  by_cases h0 : f.kind = 0
  · simp only [if_pos h0, List.flatten_cons, List.flatten_nil, List.append_nil]
    rw [fitsW_ok (l := [byteOf f.n]) (n := 1) rfl, stW_ok (l := [byteOf f.n]) (n := 1) rfl]
    simp
  by_cases h1 : f.kind = 1
  · simp only [if_neg h0, if_pos h1, List.flatten_cons, List.flatten_nil, List.append_nil]
    rw [fitsW_ok (l := putL (u64N f.n) 8) (n := 8) (by rw [putL_length]; rfl), stW_ok (l := putL (u64N f.n) 8) (n := 8) (by rw [putL_length]; rfl)]
    rw [List.take_append_of_le_length (by rw [putL_length]; exact Nat.le_refl _), List.take_of_length_le (by rw [putL_length]; exact Nat.le_refl _), i64_back hn]
    simp
  by_cases h2 : f.kind = 2
  · simp only [if_neg h0, if_neg h1, if_pos h2, List.flatten_cons, List.flatten_nil, List.append_nil]
    rw [fitsW_ok (l := [if flagOf f.n then 1 else 0]) (n := 1) rfl, show flOk ([if flagOf f.n then 1 else 0] ++ r, 0) = true by unfold flOk; cases flagOf f.n <;> rfl, stW_ok (l := [if flagOf f.n then 1 else 0]) (n := 1) rfl]
    cases flagOf f.n <;> exact ⟨rfl, rfl⟩
  have hb := bytes_ok (r := r) hB
  by_cases h3 : f.kind = 3
  · simp only [if_neg h0, if_neg h1, if_neg h2, if_pos h3, List.flatten_cons, List.flatten_nil, List.append_nil, List.append_assoc]
    rw [hb.1, hb.2]
    simp
  by_cases h4 : f.kind = 4
  · simp only [if_neg h0, if_neg h1, if_neg h2, if_neg h3, if_pos h4, List.flatten_cons, List.flatten_nil, List.append_nil, List.append_assoc]
    rw [hb.1, hb.2]
    simp
  by_cases h5 : f.kind = 5
  · simp only [if_neg h0, if_neg h1, if_neg h2, if_neg h3, if_neg h4, if_pos h5, List.flatten_cons, List.flatten_nil, List.append_nil]
    rw [tagV_ok hT, stW_ok (l := f.T) (n := 32) (by omega)]
    simp
  · simp [if_neg h0, if_neg h1, if_neg h2, if_neg h3, if_neg h4, if_neg h5]
/-- A field that was cut off is none. -/
theorem read_cut {f : FD} {m : Nat} (hT : f.T.length = 32) (hB : f.B.length ≤ 65536) (hm : m < (pieceL f).length) : rdS ((pieceL f).take m, 0) f = ([], 40) := by
  unfold pieceL pieces at hm ⊢
  unfold rdS
  by_cases h0 : f.kind = 0
  · simp only [if_pos h0, List.flatten_cons, List.flatten_nil, List.append_nil] at hm ⊢
    exact stW_short (by rw [List.length_take]; simp at hm ⊢; omega)
  by_cases h1 : f.kind = 1
  · simp only [if_neg h0, if_pos h1, List.flatten_cons, List.flatten_nil, List.append_nil, putL_length] at hm ⊢
    exact stW_short (by rw [List.length_take, putL_length]; omega)
  by_cases h2 : f.kind = 2
  · simp only [if_neg h0, if_neg h1, if_pos h2, List.flatten_cons, List.flatten_nil, List.append_nil] at hm ⊢
    exact stW_short (by rw [List.length_take]; simp at hm ⊢; omega)
  by_cases h3 : f.kind = 3
  · simp only [if_neg h0, if_neg h1, if_neg h2, if_pos h3, List.flatten_cons, List.flatten_nil, List.append_nil, List.length_append, putL_length] at hm ⊢
    exact bytes_short hB hm rfl
  by_cases h4 : f.kind = 4
  · simp only [if_neg h0, if_neg h1, if_neg h2, if_neg h3, if_pos h4, List.flatten_cons, List.flatten_nil, List.append_nil, List.length_append, putL_length] at hm ⊢
    exact bytes_short hB hm rfl
  by_cases h5 : f.kind = 5
  · simp only [if_neg h0, if_neg h1, if_neg h2, if_neg h3, if_neg h4, if_pos h5, List.flatten_cons, List.flatten_nil, List.append_nil] at hm ⊢
    exact stW_short (by rw [List.length_take]; omega)
  · simp [if_neg h0, if_neg h1, if_neg h2, if_neg h3, if_neg h4, if_neg h5] at hm
/-- A bad reader stays so. -/
theorem read_bad {s : List UInt8 × Int} (f : FD) (h : s.2 ≠ 0) : rdS s f = s := by
  unfold rdS
  rw [stW_bad h, stW_bad h, stW_bad h, (bytes_bad h).2, stW_bad h]
  simp
/-- A reader behind fields that were cut off. -/
def CutSt (l : List FD) (s : List UInt8 × Int) : Prop := s = ([], 40) ∨ ∃ m, m < (formL l).length ∧ s = ((formL l).take m, 0)
theorem CutSt.next {f : FD} {l : List FD} {s : List UInt8 × Int} (hT : f.T.length = 32) (hB : f.B.length ≤ 65536) (hn : I64 f.n) (h : CutSt (f :: l) s) : CutSt l (rdS s f) := by
  rcases h with rfl | ⟨m, hm, rfl⟩
  · exact .inl (read_bad f (by simp))
  · have he : formL (f :: l) = pieceL f ++ formL l := by simp [formL]
    rw [he] at hm ⊢
    by_cases hk : m < (pieceL f).length
    · left
      rw [List.take_append_of_le_length (by omega)]
      exact read_cut hT hB hk
    · right
      rw [List.length_append] at hm
      refine ⟨m - (pieceL f).length, by omega, ?_⟩
      rw [List.take_append, List.take_of_length_le (by omega)]
      exact (read_back hT hB hn).2
theorem RPly.back {w0 w : World} {g : Nat} {s : List UInt8 × Int} (h : RPly w0 w g s) (f : FD) (A : Option Addr) (c : Nat) (hf : FOk w0 f A c) :
    Calls Try.prog 51 #[.pointer (some ⟨g, 0, none⟩), .agg (fcells f (.slice A f.B.length c)).toArray] w (fun en w' => en = .returned (.bool (backV s f)) ∧ RPly w0 w' g (rdS s f)) := by
  obtain ⟨S, h1, h2, h3⟩ := h
  refine (back_any w g S s h1 f A c (hf.ext h3) fun v hv => hf.bs.ext (hv.ext h3 fun j hj => by have hj : j = g := hj; subst hj; exact h2 j h1.in_)).mono ?_
  rintro en w' ⟨q1, q2, q3⟩
  exact ⟨q1, RPly.put h1 h2 h3 q2 q3⟩
theorem addAll_ok : ∀ (ps : List (List UInt8)) (z : List UInt8), z.length + ps.flatten.length ≤ 65536 → addAll (false, z) ps = (false, z ++ ps.flatten)
  | [], z, _ => by simp [addAll]
  | p :: ps, z, h => by
    simp only [List.flatten_cons, List.length_append] at h
    have h1 : addStep (false, z) p = (false, z ++ p) := by
      unfold addStep
      rw [if_neg]
      simp only [Bool.false_or, decide_eq_true_eq]
      omega
    have h2 := addAll_ok ps (z ++ p) (by rw [List.length_append]; omega)
    simp only [addAll, List.foldl_cons] at h2 ⊢
    rw [h1, h2]
    simp
end Go.Proofs.Ytdpomchhbbopbaa

/- Replies that come in: their cells, what they are in bytes. -/
namespace Go.Proofs.Ytdpomchhbbopbaa
open Go Go.RowKit Go.ChangeShapes Go.WideShapes
set_option linter.unusedVariables false
set_option maxRecDepth 4000
/-- A text. -/
def stv (l : List UInt8) : Value := .string ⟨l.toArray⟩
theorem stv_of (s : ByteArray) : Value.string s = stv s.data.toList := rfl
theorem und_strs : Try.prog.underlying 23 = some (.slice 9) := Try.underlying23
theorem one_str : OneT Try.prog 9 := ⟨.string ⟨#[]⟩, 16, by kernel_rfl, rfl, by kernel_rfl⟩
theorem one_strs : OneT Try.prog 23 := ⟨.slice none 0 0, 24, by kernel_rfl, rfl, by kernel_rfl⟩
section
variable {P : Program} {ops : Array Oper} {Q : Exit → (Nat → Value) → World → Prop} {rest : List Oper} {e : Nat → Value} {w : World} {d : Tmp} {ty : TypeId} {pos : String} {aft : Array Edge}
theorem OW_lenL {x : Operand} {t : TypeId} {l : List UInt8} (ht : P.underlying t = some .string) (hx : ev e x = stv l) (h : OW P ops Q rest (upd e d (.int .i64 l.length)) w) :
    OW P ops Q (⟨some d, .call { callee := .builtin .len, args := #[x], argTypes := #[t] }, ty, pos, aft, none⟩ :: rest) e w := OW_lenT ht hx h
end
def kStL : KD Try.prog 9 (List UInt8) where
  n := 1
  hn := kSt.hn
  R := fun _ cs l => cs = [stv l] ∧ l.length ≤ 140737488351232
  ext := fun _ h => h
  opn := fun h hw => by
    obtain ⟨s, h1, h2⟩ := kSt.opn h hw
    exact ⟨s.data.toList, h1, h2⟩
def kStrs : KD Try.prog 23 (List (List UInt8)) := kSlice kStL und_strs (by kernel_rfl) (of_decide_eq_true (by kernel_rfl))
theorem strs_of {w : World} {A : Option Addr} {l : List (List UInt8)} (h : SlR kStL.n kStL.R w A l) : Rd w A (l.map stv) := slr_one stv (fun cs a hr => hr.1) h
theorem strs_small {w : World} {A : Option Addr} {l : List (List UInt8)} (h : SlR kStL.n kStL.R w A l) : ∀ x ∈ l, x.length ≤ 140737488351232 := fun x hx => by
  obtain ⟨i, hi, rfl⟩ := List.mem_iff_getElem.1 hx
  obtain ⟨ad, ce, e1, e2, e3, e4⟩ := h i hi
  exact e4.2
def kEr : KD Try.prog 22 Int := kInt Try.underlying22 (by kernel_rfl)
/-- A reply. -/
structure RP where
  err : Int
  value : List UInt8
  keys : List (List UInt8)
  n : Int
  link : LK
def rcells (r : RP) (v : Value) : List Value := [.int .i64 r.err, stv r.value, v, .int .i64 r.n] ++ lcells r.link
/-- A reply's own data, behind its place. -/
structure ROk (w : World) (r : RP) (A : Option Addr) (c : Nat) : Prop where
  ks : Rd w A (r.keys.map stv)
  kl : ∀ k ∈ r.keys, k.length ≤ 140737488351232
  cap : r.keys.length ≤ c ∧ r.keys.length ≤ 140737488351232
  val : r.value.length ≤ 140737488351232
  i : I64 r.err ∧ I64 r.n
  l : LOk r.link
theorem ROk.ext {w w' : World} {r : RP} {A : Option Addr} {c : Nat} (h : ROk w r A c) (hx : Ext w w') : ROk w' r A c := ⟨h.ks.ext hx, h.kl, h.cap, h.val, h.i, h.l⟩
theorem rcells_length {r : RP} {v : Value} (h : LOk r.link) : (rcells r v).length = 75 := by simp [rcells, lcells_length h]
def kReply : KD Try.prog 29 RP where
  n := 75
  hn := by kernel_rfl
  R := fun w cs r => ∃ A c, cs = rcells r (.slice A r.keys.length c) ∧ ROk w r A c
  ext := fun hx ⟨A, c, h1, h2⟩ => ⟨A, c, h1, h2.ext hx⟩
  opn := fun {H enc w fuel cs x} h hw => by
    obtain ⟨hl, hp⟩ := kd_parts Try.underlying29 h hw
    have hl : cs.length = 75 := by rw [hl]; kernel_rfl
    obtain ⟨a0, h0, r0⟩ := hp 0 _ rfl kEr
    obtain ⟨a1, h1, r1⟩ := hp 1 _ rfl kStL
    obtain ⟨a2, A, c, h2, r2, r2', b2⟩ := hp 2 _ rfl kStrs
    obtain ⟨a3, h3, r3⟩ := hp 3 _ rfl kI
    obtain ⟨a4, h4, r4⟩ := hp 4 _ rfl kLink
    have e0 : (cs.drop 0).take 1 = [.int .i64 a0] := h0
    have e1 : (cs.drop (0 + 1)).take 1 = [stv a1] := h1
    have e2 : (cs.drop (0 + 1 + 1)).take 1 = [.slice A a2.length c] := h2
    have e3 : (cs.drop (0 + 1 + 1 + 1)).take 1 = [.int .i64 a3] := h3
    have e4 : (cs.drop (0 + 1 + 1 + 1 + 1)).take 71 = lcells a4 := h4
    have eN : cs.drop (0 + 1 + 1 + 1 + 1 + 71) = [] := List.drop_of_length_le (by omega)
    have := cut_cons cs 0 1
    rw [cut_cons cs (0 + 1) 1, cut_cons cs (0 + 1 + 1) 1, cut_cons cs (0 + 1 + 1 + 1) 1, cut_cons cs (0 + 1 + 1 + 1 + 1) 71, e0, e1, e2, e3, e4, eN, List.drop_zero] at this
    rw [this]
    refine ⟨⟨a0, a1, a2, a3, a4⟩, A, c, ?_, strs_of b2, strs_small b2, ⟨r2, Nat.le_trans r2 r2'⟩, r1, ⟨r0, r3⟩, r4⟩
    simp [rcells]
end Go.Proofs.Ytdpomchhbbopbaa

/- Walks: may a reply be? -/
namespace Go.Proofs.Ytdpomchhbbopbaa
open Go Go.RowKit
set_option linter.unusedVariables false
set_option maxRecDepth 4000
theorem go_Rep1 {A B : Prop} (h : Held B → A := by
  intro hEnd
  repeat (first | refine OW_fieldF fld_P0 rfl ?_ | refine OW_fieldF fld_P1 rfl ?_ | refine OW_fieldF fld_P2 rfl ?_ | refine OW_fieldF fld_P3 rfl ?_ | refine OW_fieldF fld_P4 rfl ?_ | refine OW_lenL und_string rfl ?_ | refine OW_lenS und_strs rfl ?_ | refine OW_idxS und_strs one_str rfl rfl _ rfl (by omega) ?_ | refine OW_moveV (.int _ _) rfl ?_ | refine OW_moveV (.slice _ _ _) rfl ?_ | refine OW_moveV (.bool _) rfl ?_ | refine OW_moveV (.pointer _) rfl ?_ | refine OW_moveV (.string _) rfl ?_ | refine OW_moveV (.agg _) rfl ?_ | refine OW_moveV (.tuple _) rfl ?_ | refine OW_nil ?_ | refine thenE_normal ?_ | refine CW_seq ?_ | refine CW_region (by kernel_rfl) ?_ | refine OW_assignV (.int _ _) rfl ?_ | refine OW_assignV (.slice _ _ _) rfl ?_ | refine OW_assignV (.bool _) rfl ?_ | refine OW_assignV (.pointer _) rfl ?_ | refine OW_assignV (.string _) rfl ?_ | refine OW_assignV (.agg _) rfl ?_ | refine OW_assignV (.tuple _) rfl ?_ | refine OW_addI rfl rfl (by omega) ?_ | refine OW_subI rfl rfl (by omega) ?_ | refine OW_mulI rfl rfl (by omega) ?_ | refine OW_lss rfl rfl ?_ | refine OW_extract rfl rfl ?_ | refine OW_gtr rfl rfl ?_ | refine OW_leq rfl rfl ?_ | refine OW_geq rfl rfl ?_ | refine OW_eql rfl rfl ?_ | refine OW_neq rfl rfl ?_ | refine OW_not rfl ?_ | refine OW_pickT rfl _ rfl ?_ | refine OW_pickF rfl (.bool _) rfl ?_ | refine OW_pickB rfl rfl rfl ?_ | refine OW_move ?_ | refine OW_assign ?_ | refine OW_pass rfl ?_ | refine OW_take rfl ?_ | refine OW_lenS (by first | with_reducible exact und_bytes | with_reducible exact und_bytess) rfl ?_ | refine OW_convInt (by first | with_reducible exact und_u8 | with_reducible exact und_u64 | with_reducible exact und_int | with_reducible exact und_u32) (by first | with_reducible exact und_u8 | with_reducible exact und_u64 | with_reducible exact und_int | with_reducible exact und_u32) rfl ?_ | refine OW_add rfl rfl ?_ | refine OW_sub rfl rfl ?_ | refine OW_mul rfl rfl ?_ | refine OW_min2 rfl rfl ?_ | refine OW_max2 rfl rfl ?_ | refine OW_neg rfl ?_ | refine CW_block ?_ | refine CW_condT rfl ?_ | refine CW_condF rfl ?_ | refine CW_exit ?_ | refine CW_ret ?_ | refine CW_skip ?_ | refine LW_seq ?_ | refine LW_regC ?_ | refine LW_condC ?_ | refine LW_regF ?_ | refine LW_condF ?_ | refine FW_seq ?_ | refine FW_region (by kernel_rfl) ?_ | refine FW_block ?_ | refine FW_condT rfl ?_ | refine FW_condF rfl ?_ | refine FW_exit ?_ | refine FW_ret ?_ | refine FW_skip ?_ | refine LW_ret ?_ | refine LW_skip ?_ | refine thenE_exit ?_ | refine thenE_ret ?_ | refine inBlockE_normal ?_ | refine inBlockE_same ?_ | refine inBlockE_ret ?_ | refine inBlockE_ne (by rfl) ?_ | refine OW_eqlB (by with_reducible exact und_bool) rfl rfl ?_ | refine OW_neqB (by with_reducible exact und_bool) rfl rfl ?_ | refine OW_idxS (by with_reducible exact und_bytes) one_u8 rfl rfl _ rfl (by omega) ?_ | refine OW_idxS (by with_reducible exact und_bytess) one_bytes rfl rfl _ rfl (by omega) ?_ | refine OW_load1 (by first | with_reducible exact one_u8 | with_reducible exact one_bytes) rfl _ (by assumption) ?_ | refine OW_load1 (by first | with_reducible exact one_int | with_reducible exact one_str | with_reducible exact one_strs | with_reducible exact one_errno) rfl _ (by assumption) ?_)
  exact hEnd.out) (k : B) : A := h ⟨k⟩
theorem fld_P0 : Fld Try.prog 29 0 := ⟨fun w g => by kernel_rfl⟩
theorem fld_P1 : Fld Try.prog 29 1 := ⟨fun w g => by kernel_rfl⟩
theorem fld_P2 : Fld Try.prog 29 2 := ⟨fun w g => by kernel_rfl⟩
theorem fld_P3 : Fld Try.prog 29 3 := ⟨fun w g => by kernel_rfl⟩
theorem fld_P4 : Fld Try.prog 29 4 := ⟨fun w g => by kernel_rfl⟩
def okK (k : List UInt8) : Bool := decide (k.length ≤ 512)
def mayP (r : RP) : Bool := decide (r.keys.length ≤ 16) && decide (r.value.length ≤ 512) && r.keys.all okK
def ksum (l : List (List UInt8)) : Nat := (l.map fun k => k.length + 10).sum
theorem ksum_take_succ {l : List (List UInt8)} {k : Nat} (h : k < l.length) : ksum (l.take (k + 1)) = ksum (l.take k) + ((l[k]).length + 10) := by
  unfold ksum; rw [List.take_succ_eq_append_getElem h, List.map_append, List.sum_append]; simp
theorem ksum_take_le (l : List (List UInt8)) (k : Nat) : ksum (l.take k) ≤ ksum l := by
  have h := congrArg (fun l => ksum l) (List.take_append_drop k l)
  simp only [ksum, List.map_append, List.sum_append] at h ⊢
  omega
theorem ksum_mem {l : List (List UInt8)} {i : Nat} (h : i < l.length) : (l[i]).length + 10 ≤ ksum l := by
  have h1 := ksum_take_succ h
  have h2 := ksum_take_le l (i + 1)
  omega
theorem ksum_len (l : List (List UInt8)) : 10 * l.length ≤ ksum l := by
  unfold ksum
  induction l with
  | nil => simp
  | cons f l ih => simp only [List.map_cons, List.sum_cons, List.length_cons]; omega
theorem keys_at {w : World} {A : Option Addr} {l : List (List UInt8)} (h : Rd w A (l.map stv)) {k : Nat} (hk : k < l.length) : ∃ ad, A = some ad ∧ w.cell? (ad.add k) = some (stv l[k]) := by
  obtain ⟨ad, ha, hc⟩ := h.at_ (j := k) (by simpa using hk)
  exact ⟨ad, ha, by simpa using hc⟩
set_option maxHeartbeats 8000000 in
theorem greatP_any (w : World) (A : Option Addr) (c : Nat) (r : RP) (h : ROk w r A c) : Calls Try.prog 16 #[.agg (rcells r (.slice A r.keys.length c)).toArray] w (RetV w (.bool (decide (20000 < r.value.length + ksum r.keys)))) := by
  have hv := h.val
  have hcp := h.cap
  refine calls_of_CW Try.func16 rfl (by simp [Try.ntmps16]) ?_
  rw [Try.ntmps16]
  refine go_Rep1 (k := ?_)
  refine OW_box _ rfl ?_
  intro w1 g hb hg hlt hx
  have hb : Blk w1 g 29 (rcells r (.slice A r.keys.length c)).toArray := hb
  have m1 : w1.cell? ⟨g, 1, none⟩ = some (stv r.value) := hb.cell 1
  have m2 : w1.cell? ⟨g, 2, none⟩ = some (.slice A r.keys.length c) := hb.cell 2
  have hk := h.ks.ext hx
  refine go_Rep1 (k := ?_)
  refine CW_loop (fun e' w' => ∃ k : Nat, k ≤ r.keys.length ∧ r.value.length + ksum (r.keys.take k) ≤ 140737488355232 ∧ (0 < k → r.value.length + ksum (r.keys.take k) ≤ 20000) ∧ e' 1 = .pointer (some ⟨g, 0, none⟩) ∧ e' 3 = .int .i64 (r.value.length + ksum (r.keys.take k) : Nat) ∧ e' 4 = .int .i64 k ∧ w' = w1) (fun e' _ => r.keys.length - (intOf (e' 4)).toNat) ⟨0, Nat.zero_le _, by simp [ksum]; omega, fun h => absurd h (by decide), rfl, rfl, rfl, rfl⟩ ?_
  rintro e' w' ⟨k, hk2, hg1, hg2, e1, e3, e4, rfl⟩
  rw [upd_self e1, upd_self e3, upd_self e4]
  refine go_Rep1 (k := ?_)
  refine CW_cond _ rfl (fun hh => ?_) (fun hh => ?_)
  · have hlt : k < r.keys.length := by have := of_decide_eq_true hh; omega
    clear hh
    obtain ⟨ad, hA, hc⟩ := keys_at hk hlt
    have hkl := h.kl _ (List.getElem_mem hlt)
    have hs := ksum_take_succ hlt
    have hle := ksum_take_le r.keys (k + 1)
    generalize r.keys[k] = y at *
    subst hA
    refine go_Rep1 (k := ?_)
    refine CW_cond _ rfl (fun hh => ?_) (fun hh => ?_)
    · have h2 := of_decide_eq_true hh
      refine go_Rep1 (k := ?_)
      exact bodyE_ret1 rfl (.bool true) rfl ⟨by rw [decide_eq_true (by omega)], hx⟩
    · have h2 := of_decide_eq_false hh
      clear hh
      refine go_Rep1 (k := ?_)
      refine ⟨⟨k + 1, by omega, by omega, fun _ => by omega, rfl, ?_, rfl, rfl⟩, ?_⟩
      · show Value.int _ _ = _
        rw [hs]
        congr 1
        simp only [Int.natCast_add]
        omega
      · show r.keys.length - ((k : Int) + 1).toNat < r.keys.length - (k : Int).toNat
        omega
  · have hge : k = r.keys.length := by have := of_decide_eq_false hh; omega
    subst hge
    rw [List.take_of_length_le (Nat.le_refl _)] at hg1
    refine go_Rep1 (k := ?_)
    exact bodyE_ret1 rfl (.bool _) rfl ⟨by rw [List.take_of_length_le (Nat.le_refl _)]; congr 2; simp; omega, hx⟩
set_option maxHeartbeats 8000000 in
theorem long_any (w : World) (l : List UInt8) : Calls Try.prog 93 #[stv l] w (RetV w (.bool (decide (512 < l.length)))) := by
  refine calls_of_CW Try.func93 rfl (by simp [Try.ntmps93]) ?_
  rw [Try.ntmps93]
  refine go_Rep1 (k := ?_)
  exact bodyE_ret1 rfl (.bool (decide (512 < l.length))) (by show Value.bool _ = _; congr 1; rw [decide_eq_decide]; omega) ⟨rfl, Ext.rfl' w⟩
set_option maxHeartbeats 8000000 in
theorem index_any (w : World) (A : Option Addr) (c : Nat) (l : List (List UInt8)) (h : Rd w A (l.map stv)) (hl : l.length ≤ 1000000) :
    Calls Try.prog 121 #[.slice A l.length c, .func (.func 93) #[] #[]] w (fun en w' => ∃ n : Int, en = .returned (.int .i64 n) ∧ decide (0 ≤ n) = !l.all okK ∧ Ext w w') := by
  refine calls_of_CW Try.func121 rfl (by simp [Try.ntmps121]) ?_
  rw [Try.ntmps121]
  refine go_Rep1 (k := ?_)
  refine CW_loop (fun e' w' => ∃ k : Nat, k ≤ l.length ∧ (l.take k).all okK = true ∧ e' 0 = .slice A l.length c ∧ e' 1 = .func (.func 93) #[] #[] ∧ e' 7 = .int .i64 l.length ∧ e' 8 = .int .i64 k ∧ Ext w w') (fun e' _ => l.length - (intOf (e' 8)).toNat) ⟨0, Nat.zero_le _, rfl, rfl, rfl, rfl, rfl, Ext.rfl' w⟩ ?_
  rintro e' w1 ⟨k, hk, hal, e0, e1, e7, e8, hx⟩
  rw [upd_self e0, upd_self e1, upd_self e7, upd_self e8]
  refine go_Rep1 (k := ?_)
  refine CW_cond _ rfl (fun hh => ?_) (fun hh => ?_)
  · have hlt : k < l.length := by have := of_decide_eq_true hh; omega
    clear hh
    obtain ⟨ad, hA, hc⟩ := keys_at (h.ext hx) hlt
    have hsucc : (l.take (k + 1)).all okK = okK l[k] := by rw [List.take_succ_eq_append_getElem hlt, List.all_append, hal]; simp
    have hmem : okK l[k] = false → l.all okK = false := fun h0 => by
      rw [List.all_eq_false]
      exact ⟨_, List.getElem_mem hlt, by simp [h0]⟩
    generalize l[k] = y at *
    subst hA
    refine go_Rep1 (k := ?_)
    refine OW_callF Try.func93 (by kernel_rfl) rfl (caps := []) rfl (args' := [stv y]) (long_any w1 y) rfl ?_
    rintro en w2 ⟨rfl, hx2⟩
    refine ⟨_, rfl, ?_⟩
    refine go_Rep1 (k := ?_)
    refine CW_cond _ rfl (fun hh => ?_) (fun hh => ?_)
    · have h2 := of_decide_eq_true hh
      have hf : okK y = false := decide_eq_false (by omega)
      refine go_Rep1 (k := ?_)
      exact bodyE_ret1 rfl (.int .i64 k) rfl ⟨k, rfl, by rw [hmem hf]; simp, hx.trans' hx2⟩
    · have h2 := of_decide_eq_false hh
      have hf : okK y = true := decide_eq_true (by omega)
      clear hh
      refine go_Rep1 (k := ?_)
      refine ⟨⟨k + 1, by omega, by rw [hsucc, hf], rfl, rfl, rfl, rfl, hx.trans' hx2⟩, ?_⟩
      show l.length - ((k : Int) + 1).toNat < l.length - (k : Int).toNat
      omega
  · have hge : k = l.length := by have := of_decide_eq_false hh; omega
    subst hge
    rw [List.take_of_length_le (Nat.le_refl _)] at hal
    refine go_Rep1 (k := ?_)
    exact bodyE_ret1 rfl (.int .i64 (-1)) rfl ⟨-1, rfl, by rw [hal]; rfl, hx⟩
set_option maxHeartbeats 8000000 in
theorem contains_any (w : World) (A : Option Addr) (c : Nat) (l : List (List UInt8)) (h : Rd w A (l.map stv)) (hl : l.length ≤ 1000000) :
    Calls Try.prog 94 #[.slice A l.length c, .func (.func 93) #[] #[]] w (RetV w (.bool (!l.all okK))) := by
  refine calls_of_CW Try.func94 rfl (by simp [Try.ntmps94]) ?_
  rw [Try.ntmps94]
  refine go_Rep1 (k := ?_)
  refine OW_callC Try.func121 (by kernel_rfl) rfl (index_any w A c l h hl) rfl ?_
  rintro en w1 ⟨n, rfl, hn, hx⟩
  refine ⟨_, rfl, ?_⟩
  rw [← hn]
  refine go_Rep1 (k := ?_)
  exact bodyE_ret1 rfl (.bool (decide (0 ≤ n))) rfl ⟨rfl, hx⟩
set_option maxHeartbeats 8000000 in
theorem mayReply_any (w : World) (A : Option Addr) (c : Nat) (r : RP) (h : ROk w r A c) : Calls Try.prog 59 #[.agg (rcells r (.slice A r.keys.length c)).toArray] w (RetV w (.bool (mayP r))) := by
  refine calls_of_CW Try.func59 rfl (by simp [Try.ntmps59]) ?_
  rw [Try.ntmps59]
  refine go_Rep1 (k := ?_)
  refine OW_box _ rfl ?_
  intro w1 g hb hg hlt hx
  have hb : Blk w1 g 29 (rcells r (.slice A r.keys.length c)).toArray := hb
  have m1 : w1.cell? ⟨g, 1, none⟩ = some (stv r.value) := hb.cell 1
  have m2 : w1.cell? ⟨g, 2, none⟩ = some (.slice A r.keys.length c) := hb.cell 2
  have hk := h.ks.ext hx
  unfold mayP
  refine go_Rep1 (k := ?_)
  refine OW_split 8 _ rfl (fun hh => ?_) (fun hh => ?_)
  · have h16 : r.keys.length ≤ 16 := by have := of_decide_eq_true hh; omega
    clear hh
    rw [decide_eq_true h16]
    refine go_Rep1 (k := ?_)
    refine OW_callF Try.func93 (by kernel_rfl) rfl (caps := []) rfl (args' := [stv r.value]) (long_any w1 r.value) rfl ?_
    rintro en w2 ⟨rfl, hx2⟩
    refine ⟨_, rfl, ?_⟩
    have m2' := hx2.cell' m2
    by_cases h5 : r.value.length ≤ 512
    · rw [decide_eq_true h5, decide_eq_false (show ¬ 512 < r.value.length by omega)]
      refine go_Rep1 (k := ?_)
      refine OW_callV Try.func94 (by kernel_rfl) rfl (contains_any w2 A c r.keys (hk.ext hx2) (by omega)) rfl ?_
      intro w3 hx3
      refine go_Rep1 (k := ?_)
      exact bodyE_ret1 rfl (.bool _) rfl ⟨by simp, (hx.trans' hx2).trans' hx3⟩
    · rw [decide_eq_false h5, decide_eq_true (show 512 < r.value.length by omega)]
      refine go_Rep1 (k := ?_)
      exact bodyE_ret1 rfl (.bool false) rfl ⟨by simp, hx.trans' hx2⟩
  · have h16 : ¬ r.keys.length ≤ 16 := by have := of_decide_eq_false hh; omega
    rw [decide_eq_false h16]
    refine go_Rep1 (k := ?_)
    exact bodyE_ret1 rfl (.bool false) rfl ⟨by simp, hx⟩
set_option maxHeartbeats 8000000 in
theorem refMayReply_any (w : World) (A : Option Addr) (c : Nat) (r : RP) (h : ROk w r A c) : Calls Try.prog 18 #[.agg (rcells r (.slice A r.keys.length c)).toArray] w (RetV w (.bool (mayP r))) := by
  refine calls_of_CW Try.func18 rfl (by simp [Try.ntmps18]) ?_
  rw [Try.ntmps18]
  refine go_Rep1 (k := ?_)
  refine OW_box _ rfl ?_
  intro w1 g hb hg hlt hx
  have hb : Blk w1 g 29 (rcells r (.slice A r.keys.length c)).toArray := hb
  have m1 : w1.cell? ⟨g, 1, none⟩ = some (stv r.value) := hb.cell 1
  have m2 : w1.cell? ⟨g, 2, none⟩ = some (.slice A r.keys.length c) := hb.cell 2
  have hk := h.ks.ext hx
  unfold mayP
  refine go_Rep1 (k := ?_)
  refine OW_split 8 _ rfl (fun hh => ?_) (fun hh => ?_)
  · have h16 : ¬ r.keys.length ≤ 16 := by have := of_decide_eq_true hh; omega
    rw [decide_eq_false h16]
    refine go_Rep1 (k := ?_)
    exact bodyE_ret1 rfl (.bool false) rfl ⟨by simp, hx⟩
  have h16 : r.keys.length ≤ 16 := by have := of_decide_eq_false hh; omega
  clear hh
  rw [decide_eq_true h16]
  refine go_Rep1 (k := ?_)
  refine CW_cond _ rfl (fun hh => ?_) (fun hh => ?_)
  · have h5 : ¬ r.value.length ≤ 512 := by have := of_decide_eq_true hh; omega
    rw [decide_eq_false h5]
    refine go_Rep1 (k := ?_)
    exact bodyE_ret1 rfl (.bool false) rfl ⟨by simp, hx⟩
  have h5 : r.value.length ≤ 512 := by have := of_decide_eq_false hh; omega
  clear hh
  rw [decide_eq_true h5]
  refine go_Rep1 (k := ?_)
  refine CW_loop (fun e' w' => ∃ k : Nat, k ≤ r.keys.length ∧ (r.keys.take k).all okK = true ∧ e' 1 = .pointer (some ⟨g, 0, none⟩) ∧ e' 3 = .int .i64 k ∧ w' = w1) (fun e' _ => r.keys.length - (intOf (e' 3)).toNat) ⟨0, Nat.zero_le _, rfl, rfl, rfl, rfl⟩ ?_
  rintro e' w2 ⟨k, hk2, hal, e1, e3, rfl⟩
  rw [upd_self e1, upd_self e3]
  refine go_Rep1 (k := ?_)
  refine CW_cond _ rfl (fun hh => ?_) (fun hh => ?_)
  · have hlt : k < r.keys.length := by have := of_decide_eq_true hh; omega
    clear hh
    obtain ⟨ad, hA, hc⟩ := keys_at hk hlt
    have hsucc : (r.keys.take (k + 1)).all okK = okK r.keys[k] := by rw [List.take_succ_eq_append_getElem hlt, List.all_append, hal]; simp
    have hmem : okK r.keys[k] = false → r.keys.all okK = false := fun h0 => by
      rw [List.all_eq_false]
      exact ⟨_, List.getElem_mem hlt, by simp [h0]⟩
    generalize r.keys[k] = y at *
    subst hA
    refine go_Rep1 (k := ?_)
    refine CW_cond _ rfl (fun hh => ?_) (fun hh => ?_)
    · have h2 := of_decide_eq_true hh
      have hf : okK y = false := decide_eq_false (by omega)
      refine go_Rep1 (k := ?_)
      exact bodyE_ret1 rfl (.bool false) rfl ⟨by rw [hmem hf]; simp, hx⟩
    · have h2 := of_decide_eq_false hh
      have hf : okK y = true := decide_eq_true (by omega)
      clear hh
      refine go_Rep1 (k := ?_)
      refine ⟨⟨k + 1, by omega, by rw [hsucc, hf], rfl, rfl, rfl⟩, ?_⟩
      show r.keys.length - ((k : Int) + 1).toNat < r.keys.length - (k : Int).toNat
      omega
  · have hge : k = r.keys.length := by have := of_decide_eq_false hh; omega
    subst hge
    rw [List.take_of_length_le (Nat.le_refl _)] at hal
    refine go_Rep1 (k := ?_)
    exact bodyE_ret1 rfl (.bool true) rfl ⟨by rw [hal]; rfl, hx⟩
end Go.Proofs.Ytdpomchhbbopbaa
