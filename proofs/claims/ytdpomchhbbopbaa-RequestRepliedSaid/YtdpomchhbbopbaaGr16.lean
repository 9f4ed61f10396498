/- Several texts in one, as they stand in wip/src. -/
import Derived.Test.YtdpomchhbbopbaaGr13
import Derived.Test.YtdpomchhbbopbaaGr14
/- Walk: a reply is the same as itself. -/
namespace Go.Proofs.Ytdpomchhbbopbaa
open Go Go.RowKit
set_option linter.unusedVariables false
set_option maxRecDepth 4000
theorem go_SameR {A B : Prop} (h : Held B → A := by
  intro hEnd
  repeat (first | refine OW_fieldF fld_P0 rfl ?_ | refine OW_fieldF fld_P1 rfl ?_ | refine OW_fieldF fld_P2 rfl ?_ | refine OW_fieldF fld_P3 rfl ?_ | refine OW_fieldF fld_P4 rfl ?_ | refine OW_lenS und_strs rfl ?_ | refine OW_neqF rfl rfl rfl ?_ | refine OW_neqSF rfl rfl rfl ?_ | refine OW_idxS und_strs one_str rfl rfl _ rfl (by omega) ?_ | refine OW_moveV (.int _ _) rfl ?_ | refine OW_moveV (.slice _ _ _) rfl ?_ | refine OW_moveV (.bool _) rfl ?_ | refine OW_moveV (.pointer _) rfl ?_ | refine OW_moveV (.string _) rfl ?_ | refine OW_moveV (.agg _) rfl ?_ | refine OW_moveV (.tuple _) rfl ?_ | refine OW_nil ?_ | refine thenE_normal ?_ | refine CW_seq ?_ | refine CW_region (by kernel_rfl) ?_ | refine OW_assignV (.int _ _) rfl ?_ | refine OW_assignV (.slice _ _ _) rfl ?_ | refine OW_assignV (.bool _) rfl ?_ | refine OW_assignV (.pointer _) rfl ?_ | refine OW_assignV (.string _) rfl ?_ | refine OW_assignV (.agg _) rfl ?_ | refine OW_assignV (.tuple _) rfl ?_ | refine OW_addI rfl rfl (by omega) ?_ | refine OW_subI rfl rfl (by omega) ?_ | refine OW_mulI rfl rfl (by omega) ?_ | refine OW_lss rfl rfl ?_ | refine OW_extract rfl rfl ?_ | refine OW_gtr rfl rfl ?_ | refine OW_leq rfl rfl ?_ | refine OW_geq rfl rfl ?_ | refine OW_eql rfl rfl ?_ | refine OW_neq rfl rfl ?_ | refine OW_not rfl ?_ | refine OW_pickT rfl _ rfl ?_ | refine OW_pickF rfl (.bool _) rfl ?_ | refine OW_pickB rfl rfl rfl ?_ | refine OW_move ?_ | refine OW_assign ?_ | refine OW_pass rfl ?_ | refine OW_take rfl ?_ | refine OW_lenS (by first | with_reducible exact und_bytes | with_reducible exact und_bytess) rfl ?_ | refine OW_convInt (by first | with_reducible exact und_u8 | with_reducible exact und_u64 | with_reducible exact und_int | with_reducible exact und_u32) (by first | with_reducible exact und_u8 | with_reducible exact und_u64 | with_reducible exact und_int | with_reducible exact und_u32) rfl ?_ | refine OW_add rfl rfl ?_ | refine OW_sub rfl rfl ?_ | refine OW_mul rfl rfl ?_ | refine OW_min2 rfl rfl ?_ | refine OW_max2 rfl rfl ?_ | refine OW_neg rfl ?_ | refine CW_block ?_ | refine CW_condT rfl ?_ | refine CW_condF rfl ?_ | refine CW_exit ?_ | refine CW_ret ?_ | refine CW_skip ?_ | refine LW_seq ?_ | refine LW_regC ?_ | refine LW_condC ?_ | refine LW_regF ?_ | refine LW_condF ?_ | refine FW_seq ?_ | refine FW_region (by kernel_rfl) ?_ | refine FW_block ?_ | refine FW_condT rfl ?_ | refine FW_condF rfl ?_ | refine FW_exit ?_ | refine FW_ret ?_ | refine FW_skip ?_ | refine LW_ret ?_ | refine LW_skip ?_ | refine thenE_exit ?_ | refine thenE_ret ?_ | refine inBlockE_normal ?_ | refine inBlockE_same ?_ | refine inBlockE_ret ?_ | refine inBlockE_ne (by rfl) ?_ | refine OW_eqlB (by with_reducible exact und_bool) rfl rfl ?_ | refine OW_neqB (by with_reducible exact und_bool) rfl rfl ?_ | refine OW_idxS (by with_reducible exact und_bytes) one_u8 rfl rfl _ rfl (by omega) ?_ | refine OW_idxS (by with_reducible exact und_bytess) one_bytes rfl rfl _ rfl (by omega) ?_ | refine OW_load1 (by first | with_reducible exact one_u8 | with_reducible exact one_bytes) rfl _ (by assumption) ?_ | refine OW_load1 (by first | with_reducible exact one_int | with_reducible exact one_str | with_reducible exact one_strs | with_reducible exact one_errno) rfl _ (by assumption) ?_)
  exact hEnd.out) (k : B) : A := h ⟨k⟩
theorem oy_SameR {A B : Prop} (h : Held B → A := by
  intro hEnd
  repeat (first
    | refine OY_done ?_
    | (apply OY_p _ rfl
       · intro wd
         (first | refine OW_fieldF fld_P0 rfl ?_ | refine OW_fieldF fld_P1 rfl ?_ | refine OW_fieldF fld_P2 rfl ?_ | refine OW_fieldF fld_P3 rfl ?_ | refine OW_fieldF fld_P4 rfl ?_ | refine OW_lenS und_strs rfl ?_ | refine OW_neqF rfl rfl rfl ?_ | refine OW_neqSF rfl rfl rfl ?_ | refine OW_idxS und_strs one_str rfl rfl _ rfl (by omega) ?_ | refine OW_moveV (.int _ _) rfl ?_ | refine OW_moveV (.slice _ _ _) rfl ?_ | refine OW_moveV (.bool _) rfl ?_ | refine OW_moveV (.pointer _) rfl ?_ | refine OW_moveV (.string _) rfl ?_ | refine OW_moveV (.agg _) rfl ?_ | refine OW_moveV (.tuple _) rfl ?_ | refine OW_nil ?_ | refine thenE_normal ?_ | refine CW_seq ?_ | refine CW_region (by kernel_rfl) ?_ | refine OW_assignV (.int _ _) rfl ?_ | refine OW_assignV (.slice _ _ _) rfl ?_ | refine OW_assignV (.bool _) rfl ?_ | refine OW_assignV (.pointer _) rfl ?_ | refine OW_assignV (.string _) rfl ?_ | refine OW_assignV (.agg _) rfl ?_ | refine OW_assignV (.tuple _) rfl ?_ | refine OW_addI rfl rfl (by omega) ?_ | refine OW_subI rfl rfl (by omega) ?_ | refine OW_mulI rfl rfl (by omega) ?_ | refine OW_lss rfl rfl ?_ | refine OW_extract rfl rfl ?_ | refine OW_gtr rfl rfl ?_ | refine OW_leq rfl rfl ?_ | refine OW_geq rfl rfl ?_ | refine OW_eql rfl rfl ?_ | refine OW_neq rfl rfl ?_ | refine OW_not rfl ?_ | refine OW_pickT rfl _ rfl ?_ | refine OW_pickF rfl (.bool _) rfl ?_ | refine OW_pickB rfl rfl rfl ?_ | refine OW_move ?_ | refine OW_assign ?_ | refine OW_pass rfl ?_ | refine OW_take rfl ?_ | refine OW_lenS (by first | with_reducible exact und_bytes | with_reducible exact und_bytess) rfl ?_ | refine OW_convInt (by first | with_reducible exact und_u8 | with_reducible exact und_u64 | with_reducible exact und_int | with_reducible exact und_u32) (by first | with_reducible exact und_u8 | with_reducible exact und_u64 | with_reducible exact und_int | with_reducible exact und_u32) rfl ?_ | refine OW_add rfl rfl ?_ | refine OW_sub rfl rfl ?_ | refine OW_mul rfl rfl ?_ | refine OW_min2 rfl rfl ?_ | refine OW_max2 rfl rfl ?_ | refine OW_neg rfl ?_ | refine CW_block ?_ | refine CW_condT rfl ?_ | refine CW_condF rfl ?_ | refine CW_exit ?_ | refine CW_ret ?_ | refine CW_skip ?_ | refine LW_seq ?_ | refine LW_regC ?_ | refine LW_condC ?_ | refine LW_regF ?_ | refine LW_condF ?_ | refine FW_seq ?_ | refine FW_region (by kernel_rfl) ?_ | refine FW_block ?_ | refine FW_condT rfl ?_ | refine FW_condF rfl ?_ | refine FW_exit ?_ | refine FW_ret ?_ | refine FW_skip ?_ | refine LW_ret ?_ | refine LW_skip ?_ | refine thenE_exit ?_ | refine thenE_ret ?_ | refine inBlockE_normal ?_ | refine inBlockE_same ?_ | refine inBlockE_ret ?_ | refine inBlockE_ne (by rfl) ?_ | refine OW_eqlB (by with_reducible exact und_bool) rfl rfl ?_ | refine OW_neqB (by with_reducible exact und_bool) rfl rfl ?_ | refine OW_idxS (by with_reducible exact und_bytes) one_u8 rfl rfl _ rfl (by omega) ?_ | refine OW_idxS (by with_reducible exact und_bytess) one_bytes rfl rfl _ rfl (by omega) ?_ | refine OW_load1 (by first | with_reducible exact one_u8 | with_reducible exact one_bytes) rfl _ (by assumption) ?_ | refine OW_load1 (by first | with_reducible exact one_int | with_reducible exact one_str | with_reducible exact one_strs | with_reducible exact one_errno) rfl _ (by assumption) ?_)
         refine OW_nil ?_
         exact stay_mk _ _ _ _)
    | (apply OY_q _ rfl
       · intro wd hwd
         (first | refine OW_fieldF fld_P0 rfl ?_ | refine OW_fieldF fld_P1 rfl ?_ | refine OW_fieldF fld_P2 rfl ?_ | refine OW_fieldF fld_P3 rfl ?_ | refine OW_fieldF fld_P4 rfl ?_ | refine OW_lenS und_strs rfl ?_ | refine OW_neqF rfl rfl rfl ?_ | refine OW_neqSF rfl rfl rfl ?_ | refine OW_idxS und_strs one_str rfl rfl _ rfl (by omega) ?_ | refine OW_moveV (.int _ _) rfl ?_ | refine OW_moveV (.slice _ _ _) rfl ?_ | refine OW_moveV (.bool _) rfl ?_ | refine OW_moveV (.pointer _) rfl ?_ | refine OW_moveV (.string _) rfl ?_ | refine OW_moveV (.agg _) rfl ?_ | refine OW_moveV (.tuple _) rfl ?_ | refine OW_nil ?_ | refine thenE_normal ?_ | refine CW_seq ?_ | refine CW_region (by kernel_rfl) ?_ | refine OW_assignV (.int _ _) rfl ?_ | refine OW_assignV (.slice _ _ _) rfl ?_ | refine OW_assignV (.bool _) rfl ?_ | refine OW_assignV (.pointer _) rfl ?_ | refine OW_assignV (.string _) rfl ?_ | refine OW_assignV (.agg _) rfl ?_ | refine OW_assignV (.tuple _) rfl ?_ | refine OW_addI rfl rfl (by omega) ?_ | refine OW_subI rfl rfl (by omega) ?_ | refine OW_mulI rfl rfl (by omega) ?_ | refine OW_lss rfl rfl ?_ | refine OW_extract rfl rfl ?_ | refine OW_gtr rfl rfl ?_ | refine OW_leq rfl rfl ?_ | refine OW_geq rfl rfl ?_ | refine OW_eql rfl rfl ?_ | refine OW_neq rfl rfl ?_ | refine OW_not rfl ?_ | refine OW_pickT rfl _ rfl ?_ | refine OW_pickF rfl (.bool _) rfl ?_ | refine OW_pickB rfl rfl rfl ?_ | refine OW_move ?_ | refine OW_assign ?_ | refine OW_pass rfl ?_ | refine OW_take rfl ?_ | refine OW_lenS (by first | with_reducible exact und_bytes | with_reducible exact und_bytess) rfl ?_ | refine OW_convInt (by first | with_reducible exact und_u8 | with_reducible exact und_u64 | with_reducible exact und_int | with_reducible exact und_u32) (by first | with_reducible exact und_u8 | with_reducible exact und_u64 | with_reducible exact und_int | with_reducible exact und_u32) rfl ?_ | refine OW_add rfl rfl ?_ | refine OW_sub rfl rfl ?_ | refine OW_mul rfl rfl ?_ | refine OW_min2 rfl rfl ?_ | refine OW_max2 rfl rfl ?_ | refine OW_neg rfl ?_ | refine CW_block ?_ | refine CW_condT rfl ?_ | refine CW_condF rfl ?_ | refine CW_exit ?_ | refine CW_ret ?_ | refine CW_skip ?_ | refine LW_seq ?_ | refine LW_regC ?_ | refine LW_condC ?_ | refine LW_regF ?_ | refine LW_condF ?_ | refine FW_seq ?_ | refine FW_region (by kernel_rfl) ?_ | refine FW_block ?_ | refine FW_condT rfl ?_ | refine FW_condF rfl ?_ | refine FW_exit ?_ | refine FW_ret ?_ | refine FW_skip ?_ | refine LW_ret ?_ | refine LW_skip ?_ | refine thenE_exit ?_ | refine thenE_ret ?_ | refine inBlockE_normal ?_ | refine inBlockE_same ?_ | refine inBlockE_ret ?_ | refine inBlockE_ne (by rfl) ?_ | refine OW_eqlB (by with_reducible exact und_bool) rfl rfl ?_ | refine OW_neqB (by with_reducible exact und_bool) rfl rfl ?_ | refine OW_idxS (by with_reducible exact und_bytes) one_u8 rfl rfl _ rfl (by omega) ?_ | refine OW_idxS (by with_reducible exact und_bytess) one_bytes rfl rfl _ rfl (by omega) ?_ | refine OW_load1 (by first | with_reducible exact one_u8 | with_reducible exact one_bytes) rfl _ (by assumption) ?_ | refine OW_load1 (by first | with_reducible exact one_int | with_reducible exact one_str | with_reducible exact one_strs | with_reducible exact one_errno) rfl _ (by assumption) ?_ | (refine OW_isLoad ?_; refine OW_loadBk (by first | with_reducible exact one_u8 | with_reducible exact one_bytes | with_reducible exact one_bool | with_reducible exact one_int | with_reducible exact one_errno | with_reducible exact one_u32 | with_reducible exact one_u64 | with_reducible exact one_string | with_reducible exact one_int | with_reducible exact one_str | with_reducible exact one_strs | with_reducible exact one_errno) rfl (by apply_assumption; assumption) _ (by first | assumption | rfl) ?_) | refine OW_load1 (by first | with_reducible exact one_u8 | with_reducible exact one_bytes | with_reducible exact one_bool | with_reducible exact one_int | with_reducible exact one_errno | with_reducible exact one_u32 | with_reducible exact one_u64 | with_reducible exact one_string | with_reducible exact one_int | with_reducible exact one_str | with_reducible exact one_strs | with_reducible exact one_errno) rfl _ (by apply_assumption; assumption) ?_)
         refine OW_nil ?_
         exact stay_mk _ _ _ _)
    | refine OY_ppass rfl rfl ?_
    | refine OY_qpass rfl rfl ?_
    | (apply OY_ptake _ rfl rfl
       · intro wd
         (first | refine OW_fieldF fld_P0 rfl ?_ | refine OW_fieldF fld_P1 rfl ?_ | refine OW_fieldF fld_P2 rfl ?_ | refine OW_fieldF fld_P3 rfl ?_ | refine OW_fieldF fld_P4 rfl ?_ | refine OW_lenS und_strs rfl ?_ | refine OW_neqF rfl rfl rfl ?_ | refine OW_neqSF rfl rfl rfl ?_ | refine OW_idxS und_strs one_str rfl rfl _ rfl (by omega) ?_ | refine OW_moveV (.int _ _) rfl ?_ | refine OW_moveV (.slice _ _ _) rfl ?_ | refine OW_moveV (.bool _) rfl ?_ | refine OW_moveV (.pointer _) rfl ?_ | refine OW_moveV (.string _) rfl ?_ | refine OW_moveV (.agg _) rfl ?_ | refine OW_moveV (.tuple _) rfl ?_ | refine OW_nil ?_ | refine thenE_normal ?_ | refine CW_seq ?_ | refine CW_region (by kernel_rfl) ?_ | refine OW_assignV (.int _ _) rfl ?_ | refine OW_assignV (.slice _ _ _) rfl ?_ | refine OW_assignV (.bool _) rfl ?_ | refine OW_assignV (.pointer _) rfl ?_ | refine OW_assignV (.string _) rfl ?_ | refine OW_assignV (.agg _) rfl ?_ | refine OW_assignV (.tuple _) rfl ?_ | refine OW_addI rfl rfl (by omega) ?_ | refine OW_subI rfl rfl (by omega) ?_ | refine OW_mulI rfl rfl (by omega) ?_ | refine OW_lss rfl rfl ?_ | refine OW_extract rfl rfl ?_ | refine OW_gtr rfl rfl ?_ | refine OW_leq rfl rfl ?_ | refine OW_geq rfl rfl ?_ | refine OW_eql rfl rfl ?_ | refine OW_neq rfl rfl ?_ | refine OW_not rfl ?_ | refine OW_pickT rfl _ rfl ?_ | refine OW_pickF rfl (.bool _) rfl ?_ | refine OW_pickB rfl rfl rfl ?_ | refine OW_move ?_ | refine OW_assign ?_ | refine OW_pass rfl ?_ | refine OW_take rfl ?_ | refine OW_lenS (by first | with_reducible exact und_bytes | with_reducible exact und_bytess) rfl ?_ | refine OW_convInt (by first | with_reducible exact und_u8 | with_reducible exact und_u64 | with_reducible exact und_int | with_reducible exact und_u32) (by first | with_reducible exact und_u8 | with_reducible exact und_u64 | with_reducible exact und_int | with_reducible exact und_u32) rfl ?_ | refine OW_add rfl rfl ?_ | refine OW_sub rfl rfl ?_ | refine OW_mul rfl rfl ?_ | refine OW_min2 rfl rfl ?_ | refine OW_max2 rfl rfl ?_ | refine OW_neg rfl ?_ | refine CW_block ?_ | refine CW_condT rfl ?_ | refine CW_condF rfl ?_ | refine CW_exit ?_ | refine CW_ret ?_ | refine CW_skip ?_ | refine LW_seq ?_ | refine LW_regC ?_ | refine LW_condC ?_ | refine LW_regF ?_ | refine LW_condF ?_ | refine FW_seq ?_ | refine FW_region (by kernel_rfl) ?_ | refine FW_block ?_ | refine FW_condT rfl ?_ | refine FW_condF rfl ?_ | refine FW_exit ?_ | refine FW_ret ?_ | refine FW_skip ?_ | refine LW_ret ?_ | refine LW_skip ?_ | refine thenE_exit ?_ | refine thenE_ret ?_ | refine inBlockE_normal ?_ | refine inBlockE_same ?_ | refine inBlockE_ret ?_ | refine inBlockE_ne (by rfl) ?_ | refine OW_eqlB (by with_reducible exact und_bool) rfl rfl ?_ | refine OW_neqB (by with_reducible exact und_bool) rfl rfl ?_ | refine OW_idxS (by with_reducible exact und_bytes) one_u8 rfl rfl _ rfl (by omega) ?_ | refine OW_idxS (by with_reducible exact und_bytess) one_bytes rfl rfl _ rfl (by omega) ?_ | refine OW_load1 (by first | with_reducible exact one_u8 | with_reducible exact one_bytes) rfl _ (by assumption) ?_ | refine OW_load1 (by first | with_reducible exact one_int | with_reducible exact one_str | with_reducible exact one_strs | with_reducible exact one_errno) rfl _ (by assumption) ?_)
         refine OW_nil ?_
         exact stay_mk _ _ _ _)
    | (apply OY_qtake _ rfl rfl
       · intro wd hwd
         (first | refine OW_fieldF fld_P0 rfl ?_ | refine OW_fieldF fld_P1 rfl ?_ | refine OW_fieldF fld_P2 rfl ?_ | refine OW_fieldF fld_P3 rfl ?_ | refine OW_fieldF fld_P4 rfl ?_ | refine OW_lenS und_strs rfl ?_ | refine OW_neqF rfl rfl rfl ?_ | refine OW_neqSF rfl rfl rfl ?_ | refine OW_idxS und_strs one_str rfl rfl _ rfl (by omega) ?_ | refine OW_moveV (.int _ _) rfl ?_ | refine OW_moveV (.slice _ _ _) rfl ?_ | refine OW_moveV (.bool _) rfl ?_ | refine OW_moveV (.pointer _) rfl ?_ | refine OW_moveV (.string _) rfl ?_ | refine OW_moveV (.agg _) rfl ?_ | refine OW_moveV (.tuple _) rfl ?_ | refine OW_nil ?_ | refine thenE_normal ?_ | refine CW_seq ?_ | refine CW_region (by kernel_rfl) ?_ | refine OW_assignV (.int _ _) rfl ?_ | refine OW_assignV (.slice _ _ _) rfl ?_ | refine OW_assignV (.bool _) rfl ?_ | refine OW_assignV (.pointer _) rfl ?_ | refine OW_assignV (.string _) rfl ?_ | refine OW_assignV (.agg _) rfl ?_ | refine OW_assignV (.tuple _) rfl ?_ | refine OW_addI rfl rfl (by omega) ?_ | refine OW_subI rfl rfl (by omega) ?_ | refine OW_mulI rfl rfl (by omega) ?_ | refine OW_lss rfl rfl ?_ | refine OW_extract rfl rfl ?_ | refine OW_gtr rfl rfl ?_ | refine OW_leq rfl rfl ?_ | refine OW_geq rfl rfl ?_ | refine OW_eql rfl rfl ?_ | refine OW_neq rfl rfl ?_ | refine OW_not rfl ?_ | refine OW_pickT rfl _ rfl ?_ | refine OW_pickF rfl (.bool _) rfl ?_ | refine OW_pickB rfl rfl rfl ?_ | refine OW_move ?_ | refine OW_assign ?_ | refine OW_pass rfl ?_ | refine OW_take rfl ?_ | refine OW_lenS (by first | with_reducible exact und_bytes | with_reducible exact und_bytess) rfl ?_ | refine OW_convInt (by first | with_reducible exact und_u8 | with_reducible exact und_u64 | with_reducible exact und_int | with_reducible exact und_u32) (by first | with_reducible exact und_u8 | with_reducible exact und_u64 | with_reducible exact und_int | with_reducible exact und_u32) rfl ?_ | refine OW_add rfl rfl ?_ | refine OW_sub rfl rfl ?_ | refine OW_mul rfl rfl ?_ | refine OW_min2 rfl rfl ?_ | refine OW_max2 rfl rfl ?_ | refine OW_neg rfl ?_ | refine CW_block ?_ | refine CW_condT rfl ?_ | refine CW_condF rfl ?_ | refine CW_exit ?_ | refine CW_ret ?_ | refine CW_skip ?_ | refine LW_seq ?_ | refine LW_regC ?_ | refine LW_condC ?_ | refine LW_regF ?_ | refine LW_condF ?_ | refine FW_seq ?_ | refine FW_region (by kernel_rfl) ?_ | refine FW_block ?_ | refine FW_condT rfl ?_ | refine FW_condF rfl ?_ | refine FW_exit ?_ | refine FW_ret ?_ | refine FW_skip ?_ | refine LW_ret ?_ | refine LW_skip ?_ | refine thenE_exit ?_ | refine thenE_ret ?_ | refine inBlockE_normal ?_ | refine inBlockE_same ?_ | refine inBlockE_ret ?_ | refine inBlockE_ne (by rfl) ?_ | refine OW_eqlB (by with_reducible exact und_bool) rfl rfl ?_ | refine OW_neqB (by with_reducible exact und_bool) rfl rfl ?_ | refine OW_idxS (by with_reducible exact und_bytes) one_u8 rfl rfl _ rfl (by omega) ?_ | refine OW_idxS (by with_reducible exact und_bytess) one_bytes rfl rfl _ rfl (by omega) ?_ | refine OW_load1 (by first | with_reducible exact one_u8 | with_reducible exact one_bytes) rfl _ (by assumption) ?_ | refine OW_load1 (by first | with_reducible exact one_int | with_reducible exact one_str | with_reducible exact one_strs | with_reducible exact one_errno) rfl _ (by assumption) ?_ | (refine OW_isLoad ?_; refine OW_loadBk (by first | with_reducible exact one_u8 | with_reducible exact one_bytes | with_reducible exact one_bool | with_reducible exact one_int | with_reducible exact one_errno | with_reducible exact one_u32 | with_reducible exact one_u64 | with_reducible exact one_string | with_reducible exact one_int | with_reducible exact one_str | with_reducible exact one_strs | with_reducible exact one_errno) rfl (by apply_assumption; assumption) _ (by first | assumption | rfl) ?_) | refine OW_load1 (by first | with_reducible exact one_u8 | with_reducible exact one_bytes | with_reducible exact one_bool | with_reducible exact one_int | with_reducible exact one_errno | with_reducible exact one_u32 | with_reducible exact one_u64 | with_reducible exact one_string | with_reducible exact one_int | with_reducible exact one_str | with_reducible exact one_strs | with_reducible exact one_errno) rfl _ (by apply_assumption; assumption) ?_)
         refine OW_nil ?_
         exact stay_mk _ _ _ _)
    | refine OY_a (actY_of rfl ?_)
    | refine OY_d (actY_of rfl ?_)
    | refine OY_a (actY_pass rfl rfl ?_)
    | refine OY_d (actY_pass rfl rfl ?_)
    | refine OY_a (actY_take rfl rfl ?_)
    | refine OY_d (actY_take rfl rfl ?_))
  exact hEnd.out) (k : B) : A := h ⟨k⟩
section
variable {P : Program} {ops : Array Oper} {Q : Exit → (Nat → Value) → World → Prop} {rest : List Oper} {e : Nat → Value} {w : World} {d : Tmp} {ty : TypeId} {pos : String} {aft : Array Edge}
theorem OW_neqSF {x y : Operand} {t t' : TypeId} {a b : ByteArray} (hx : ev e x = .string a) (hy : ev e y = .string b) (hab : a = b) (h : OW P ops Q rest (upd e d (.bool false)) w) : OW P ops Q (⟨some d, .binOp .neq t x y t', ty, pos, aft, none⟩ :: rest) e w := by
  refine OW_neqS hx hy ?_
  rw [decide_eq_true hab]
  exact h
end
set_option maxHeartbeats 8000000 in
theorem sameReply_any (w : World) (r : RP) (A B : Option Addr) (c d : Nat) (hA : ROk w r A c) (hB : ROk w r B d) : Calls Try.prog 29 #[.agg (rcells r (.slice A r.keys.length c)).toArray, .agg (rcells r (.slice B r.keys.length d)).toArray] w (RetV w (.bool true)) := by
  have hrl := fun v => rcells_length (v := v) hA.l
  have hcA := hA.cap
  have hcB := hB.cap
  refine calls_of_CW Try.func29 rfl (by simp [Try.ntmps29]) ?_
  rw [Try.ntmps29]
  refine go_SameR (k := ?_)
  refine OW_box _ rfl ?_
  intro w1 g hb hg hlt hx
  have hb : Blk w1 g 29 (rcells r (.slice A r.keys.length c)).toArray := hb
  refine go_SameR (k := ?_)
  refine OW_box _ rfl ?_
  intro w2 g2 hb2 hg2 hlt2 hx2
  have hb2 : Blk w2 g2 29 (rcells r (.slice B r.keys.length d)).toArray := hb2
  replace hb := hb.ext hx2
  have hx02 := hx.trans' hx2
  have m0 : w2.cell? ⟨g, 0, none⟩ = some (.int .i64 r.err) := hb.cell 0
  have m1 : w2.cell? ⟨g, 1, none⟩ = some (stv r.value) := hb.cell 1
  have m2 : w2.cell? ⟨g, 2, none⟩ = some (.slice A r.keys.length c) := hb.cell 2
  have m3 : w2.cell? ⟨g, 3, none⟩ = some (.int .i64 r.n) := hb.cell 3
  have mL := link_in hb
  have n0 : w2.cell? ⟨g2, 0, none⟩ = some (.int .i64 r.err) := hb2.cell 0
  have n1 : w2.cell? ⟨g2, 1, none⟩ = some (stv r.value) := hb2.cell 1
  have n2 : w2.cell? ⟨g2, 2, none⟩ = some (.slice B r.keys.length d) := hb2.cell 2
  have n3 : w2.cell? ⟨g2, 3, none⟩ = some (.int .i64 r.n) := hb2.cell 3
  have nL := link_in hb2
  have kA := hA.ks.ext hx02
  have kB := hB.ks.ext hx02
  have hLo := hA.l
  clear hb hb2
  refine go_SameR (k := ?_)
  refine OW_loadX agg_Link rfl (lcells r.link) (lcells_length hLo) mL ?_
  refine go_SameR (k := ?_)
  refine OW_loadX agg_Link rfl (lcells r.link) (lcells_length hLo) nL ?_
  refine go_SameR (k := ?_)
  refine OW_neqK rfl rfl hLo hLo false (by simp) ?_
  refine go_SameR (k := ?_)
  refine CW_loop (fun e' w' => ∃ k : Nat, k ≤ r.keys.length ∧ e' 2 = .pointer (some ⟨g, 0, none⟩) ∧ e' 3 = .pointer (some ⟨g2, 0, none⟩) ∧ e' 5 = .int .i64 k ∧ Ext w2 w') (fun e' _ => r.keys.length - (intOf (e' 5)).toNat) ⟨0, Nat.zero_le _, rfl, rfl, rfl, Ext.rfl' _⟩ ?_
  rintro e' w' ⟨k, hk, e2, e3, e5, hx3⟩
  rw [upd_self e2, upd_self e3, upd_self e5]
  replace m2 := hx3.cell' m2
  replace n2 := hx3.cell' n2
  refine go_SameR (k := ?_)
  refine CW_cond _ rfl (fun hh => ?_) (fun hh => ?_)
  · have hlt : k < r.keys.length := by have := of_decide_eq_true hh; omega
    clear hh
    obtain ⟨ad, hA, hc⟩ := keys_at (kA.ext hx3) hlt
    obtain ⟨bd, hB, hd⟩ := keys_at (kB.ext hx3) hlt
    generalize r.keys[k] = y at *
    subst hA
    subst hB
    refine go_SameR (k := ?_)
    obtain ⟨C, hC⟩ : ∃ C : World → Prop, C = fun v => Ext w' v := ⟨_, rfl⟩
    have y_m2 := cellE hC m2
    have y_n2 := cellE hC n2
    have y_hc := cellE hC hc
    have y_hd := cellE hC hd
    refine CW_tree2 [1, 4, 6, 9] (.p 0 (.q 1 (.p 2 (.p 3 (.q 4 (.p 5 (.q 6 (.p 7 (.p 8 (.q 9 (.p 10 .done))))))))))) (C) (by kernel_rfl) (by kernel_rfl) (by kernel_rfl) ?_ ?_
    · exact inE hC
    intro w4 hx4 h_C
    refine oy_SameR (k := ?_)
    refine go_SameR (k := ?_)
    refine ⟨⟨k + 1, by omega, rfl, rfl, rfl, hx3.trans' hx4⟩, ?_⟩
    show r.keys.length - ((k : Int) + 1).toNat < r.keys.length - (k : Int).toNat
    omega
  · refine go_SameR (k := ?_)
    exact bodyE_ret1 rfl (.bool true) rfl ⟨rfl, hx02.trans' hx3⟩
end Go.Proofs.Ytdpomchhbbopbaa

/- What ParseReply tells: a reply's own data. -/
namespace Go.Proofs.Ytdpomchhbbopbaa
open Go Go.RowKit
set_option linter.unusedVariables false
set_option maxRecDepth 4000
theorem parR_may (b : List UInt8) : mayP (parR b) = true := by
  unfold parR
  cases hg : goodR b with
  | true => exact (good_back hg).1
  | false => rfl
theorem parR_link (b : List UInt8) : LOk (parR b).link := by
  unfold parR
  split
  · exact readLk_ok _
  · exact lk0_ok
theorem parR_i (b : List UInt8) : I64 (parR b).err ∧ I64 (parR b).n := by
  unfold parR
  split
  · exact ⟨rdI_i64 _, rdI_i64 _⟩
  · unfold I64 rp0; simp
theorem parR_ok {w : World} {base : Nat} {B : Option Addr} {d : Nat} {b : List UInt8} (hO : w.ownsRow base 9 1 (.slice B (parR b).keys.length d) (parR b).keys.length ((parR b).keys.map stv)) : ROk w (parR b) B d := by
  obtain ⟨h1, h2, h3⟩ := may_parts (parR_may b)
  exact ⟨own_rd hO, fun k hk => by have := h3 k hk; omega, ⟨(own_cap hO).1, by omega⟩, by omega, parR_i b, parR_link b⟩
end Go.Proofs.Ytdpomchhbbopbaa
