/- Several texts in one, as they stand in wip/src. -/
import Derived.Test.YtdpcahfgdpikfaaGt24
/- Walks: bytes read as a token, by the program. -/
namespace Go.Proofs.Ytdpcahfgdpikfaa
open Go Go.RowKit Go.ChangeShapes Go.WideShapes
set_option linter.unusedVariables false
set_option maxRecDepth 4000
theorem go_Tok8 {A B : Prop} (h : Held B → A := by
  intro hEnd
  repeat (first | refine OW_slicePOT a_slp_TagT rfl ?_ | refine OW_build _ _ (bld_G3 _ _ _) rfl ?_ | refine OW_fieldB fldo_G0 rfl ?_ | refine OW_fieldB fldo_G1 rfl ?_ | refine OW_fieldB fldo_G2 rfl ?_ | refine OW_fieldB fldo_T0 rfl ?_ | refine OW_fieldB fldo_T1 rfl ?_ | refine OW_fieldB fldo_T2 rfl ?_ | refine OW_lenS und_Grants rfl ?_ | refine OW_moveV (.int _ _) rfl ?_ | refine OW_moveV (.slice _ _ _) rfl ?_ | refine OW_moveV (.bool _) rfl ?_ | refine OW_moveV (.pointer _) rfl ?_ | refine OW_moveV (.string _) rfl ?_ | refine OW_moveV (.agg _) rfl ?_ | refine OW_moveV (.tuple _) rfl ?_ | refine OW_nil ?_ | refine thenE_normal ?_ | refine CW_seq ?_ | refine CW_region (by kernel_rfl) ?_ | refine OW_assignV (.int _ _) rfl ?_ | refine OW_assignV (.slice _ _ _) rfl ?_ | refine OW_assignV (.bool _) rfl ?_ | refine OW_assignV (.pointer _) rfl ?_ | refine OW_assignV (.string _) rfl ?_ | refine OW_assignV (.agg _) rfl ?_ | refine OW_assignV (.tuple _) rfl ?_ | refine OW_addI rfl rfl (by omega) ?_ | refine OW_subI rfl rfl (by omega) ?_ | refine OW_mulI rfl rfl (by omega) ?_ | refine OW_lss rfl rfl ?_ | refine OW_extract rfl rfl ?_ | refine OW_gtr rfl rfl ?_ | refine OW_leq rfl rfl ?_ | refine OW_geq rfl rfl ?_ | refine OW_eql rfl rfl ?_ | refine OW_neq rfl rfl ?_ | refine OW_not rfl ?_ | refine OW_pickT rfl _ rfl ?_ | refine OW_pickF rfl (.bool _) rfl ?_ | refine OW_pickB rfl rfl rfl ?_ | refine OW_move ?_ | refine OW_assign ?_ | refine OW_pass rfl ?_ | refine OW_take rfl ?_ | refine OW_lenS (by first | with_reducible exact und_bytes | with_reducible exact und_bytess) rfl ?_ | refine OW_convInt (by first | with_reducible exact und_u8 | with_reducible exact und_u64 | with_reducible exact und_int | with_reducible exact und_u32) (by first | with_reducible exact und_u8 | with_reducible exact und_u64 | with_reducible exact und_int | with_reducible exact und_u32) rfl ?_ | refine OW_add rfl rfl ?_ | refine OW_sub rfl rfl ?_ | refine OW_mul rfl rfl ?_ | refine OW_min2 rfl rfl ?_ | refine OW_max2 rfl rfl ?_ | refine OW_neg rfl ?_ | refine CW_block ?_ | refine CW_condT rfl ?_ | refine CW_condF rfl ?_ | refine CW_exit ?_ | refine CW_ret ?_ | refine CW_skip ?_ | refine LW_seq ?_ | refine LW_regC ?_ | refine LW_condC ?_ | refine LW_regF ?_ | refine LW_condF ?_ | refine FW_seq ?_ | refine FW_region (by kernel_rfl) ?_ | refine FW_block ?_ | refine FW_condT rfl ?_ | refine FW_condF rfl ?_ | refine FW_exit ?_ | refine FW_ret ?_ | refine FW_skip ?_ | refine LW_ret ?_ | refine LW_skip ?_ | refine thenE_exit ?_ | refine thenE_ret ?_ | refine inBlockE_normal ?_ | refine inBlockE_same ?_ | refine inBlockE_ret ?_ | refine inBlockE_ne (by rfl) ?_ | refine OW_eqlB (by with_reducible exact und_bool) rfl rfl ?_ | refine OW_neqB (by with_reducible exact und_bool) rfl rfl ?_ | refine OW_idxS (by with_reducible exact und_bytes) one_u8 rfl rfl _ rfl (by omega) ?_ | refine OW_idxS (by with_reducible exact und_bytess) one_bytes rfl rfl _ rfl (by omega) ?_ | refine OW_load1 (by first | with_reducible exact one_u8 | with_reducible exact one_bytes) rfl _ (by assumption) ?_ | (refine OW_isLoad ?_; refine OW_loadBk (by first | with_reducible exact s_int | with_reducible exact one_u8 | with_reducible exact one_grants) rfl (by assumption) _ (by rfl) ?_) | refine OW_load1 s_int rfl _ (by assumption) ?_)
  exact hEnd.out) (k : B) : A := h ⟨k⟩
theorem oy_Tok8 {A B : Prop} (h : Held B → A := by
  intro hEnd
  repeat (first
    | refine OY_done ?_
    | (apply OY_p _ rfl
       · intro wd
         (first | refine OW_slicePOT a_slp_TagT rfl ?_ | refine OW_build _ _ (bld_G3 _ _ _) rfl ?_ | refine OW_fieldB fldo_G0 rfl ?_ | refine OW_fieldB fldo_G1 rfl ?_ | refine OW_fieldB fldo_G2 rfl ?_ | refine OW_fieldB fldo_T0 rfl ?_ | refine OW_fieldB fldo_T1 rfl ?_ | refine OW_fieldB fldo_T2 rfl ?_ | refine OW_lenS und_Grants rfl ?_ | refine OW_moveV (.int _ _) rfl ?_ | refine OW_moveV (.slice _ _ _) rfl ?_ | refine OW_moveV (.bool _) rfl ?_ | refine OW_moveV (.pointer _) rfl ?_ | refine OW_moveV (.string _) rfl ?_ | refine OW_moveV (.agg _) rfl ?_ | refine OW_moveV (.tuple _) rfl ?_ | refine OW_nil ?_ | refine thenE_normal ?_ | refine CW_seq ?_ | refine CW_region (by kernel_rfl) ?_ | refine OW_assignV (.int _ _) rfl ?_ | refine OW_assignV (.slice _ _ _) rfl ?_ | refine OW_assignV (.bool _) rfl ?_ | refine OW_assignV (.pointer _) rfl ?_ | refine OW_assignV (.string _) rfl ?_ | refine OW_assignV (.agg _) rfl ?_ | refine OW_assignV (.tuple _) rfl ?_ | refine OW_addI rfl rfl (by omega) ?_ | refine OW_subI rfl rfl (by omega) ?_ | refine OW_mulI rfl rfl (by omega) ?_ | refine OW_lss rfl rfl ?_ | refine OW_extract rfl rfl ?_ | refine OW_gtr rfl rfl ?_ | refine OW_leq rfl rfl ?_ | refine OW_geq rfl rfl ?_ | refine OW_eql rfl rfl ?_ | refine OW_neq rfl rfl ?_ | refine OW_not rfl ?_ | refine OW_pickT rfl _ rfl ?_ | refine OW_pickF rfl (.bool _) rfl ?_ | refine OW_pickB rfl rfl rfl ?_ | refine OW_move ?_ | refine OW_assign ?_ | refine OW_pass rfl ?_ | refine OW_take rfl ?_ | refine OW_lenS (by first | with_reducible exact und_bytes | with_reducible exact und_bytess) rfl ?_ | refine OW_convInt (by first | with_reducible exact und_u8 | with_reducible exact und_u64 | with_reducible exact und_int | with_reducible exact und_u32) (by first | with_reducible exact und_u8 | with_reducible exact und_u64 | with_reducible exact und_int | with_reducible exact und_u32) rfl ?_ | refine OW_add rfl rfl ?_ | refine OW_sub rfl rfl ?_ | refine OW_mul rfl rfl ?_ | refine OW_min2 rfl rfl ?_ | refine OW_max2 rfl rfl ?_ | refine OW_neg rfl ?_ | refine CW_block ?_ | refine CW_condT rfl ?_ | refine CW_condF rfl ?_ | refine CW_exit ?_ | refine CW_ret ?_ | refine CW_skip ?_ | refine LW_seq ?_ | refine LW_regC ?_ | refine LW_condC ?_ | refine LW_regF ?_ | refine LW_condF ?_ | refine FW_seq ?_ | refine FW_region (by kernel_rfl) ?_ | refine FW_block ?_ | refine FW_condT rfl ?_ | refine FW_condF rfl ?_ | refine FW_exit ?_ | refine FW_ret ?_ | refine FW_skip ?_ | refine LW_ret ?_ | refine LW_skip ?_ | refine thenE_exit ?_ | refine thenE_ret ?_ | refine inBlockE_normal ?_ | refine inBlockE_same ?_ | refine inBlockE_ret ?_ | refine inBlockE_ne (by rfl) ?_ | refine OW_eqlB (by with_reducible exact und_bool) rfl rfl ?_ | refine OW_neqB (by with_reducible exact und_bool) rfl rfl ?_ | refine OW_idxS (by with_reducible exact und_bytes) one_u8 rfl rfl _ rfl (by omega) ?_ | refine OW_idxS (by with_reducible exact und_bytess) one_bytes rfl rfl _ rfl (by omega) ?_ | refine OW_load1 (by first | with_reducible exact one_u8 | with_reducible exact one_bytes) rfl _ (by assumption) ?_ | (refine OW_isLoad ?_; refine OW_loadBk (by first | with_reducible exact s_int | with_reducible exact one_u8 | with_reducible exact one_grants) rfl (by assumption) _ (by rfl) ?_) | refine OW_load1 s_int rfl _ (by assumption) ?_)
         refine OW_nil ?_
         exact stay_mk _ _ _ _)
    | (apply OY_q _ rfl
       · intro wd hwd
         (first | refine OW_slicePOT a_slp_TagT rfl ?_ | refine OW_build _ _ (bld_G3 _ _ _) rfl ?_ | refine OW_fieldB fldo_G0 rfl ?_ | refine OW_fieldB fldo_G1 rfl ?_ | refine OW_fieldB fldo_G2 rfl ?_ | refine OW_fieldB fldo_T0 rfl ?_ | refine OW_fieldB fldo_T1 rfl ?_ | refine OW_fieldB fldo_T2 rfl ?_ | refine OW_lenS und_Grants rfl ?_ | refine OW_moveV (.int _ _) rfl ?_ | refine OW_moveV (.slice _ _ _) rfl ?_ | refine OW_moveV (.bool _) rfl ?_ | refine OW_moveV (.pointer _) rfl ?_ | refine OW_moveV (.string _) rfl ?_ | refine OW_moveV (.agg _) rfl ?_ | refine OW_moveV (.tuple _) rfl ?_ | refine OW_nil ?_ | refine thenE_normal ?_ | refine CW_seq ?_ | refine CW_region (by kernel_rfl) ?_ | refine OW_assignV (.int _ _) rfl ?_ | refine OW_assignV (.slice _ _ _) rfl ?_ | refine OW_assignV (.bool _) rfl ?_ | refine OW_assignV (.pointer _) rfl ?_ | refine OW_assignV (.string _) rfl ?_ | refine OW_assignV (.agg _) rfl ?_ | refine OW_assignV (.tuple _) rfl ?_ | refine OW_addI rfl rfl (by omega) ?_ | refine OW_subI rfl rfl (by omega) ?_ | refine OW_mulI rfl rfl (by omega) ?_ | refine OW_lss rfl rfl ?_ | refine OW_extract rfl rfl ?_ | refine OW_gtr rfl rfl ?_ | refine OW_leq rfl rfl ?_ | refine OW_geq rfl rfl ?_ | refine OW_eql rfl rfl ?_ | refine OW_neq rfl rfl ?_ | refine OW_not rfl ?_ | refine OW_pickT rfl _ rfl ?_ | refine OW_pickF rfl (.bool _) rfl ?_ | refine OW_pickB rfl rfl rfl ?_ | refine OW_move ?_ | refine OW_assign ?_ | refine OW_pass rfl ?_ | refine OW_take rfl ?_ | refine OW_lenS (by first | with_reducible exact und_bytes | with_reducible exact und_bytess) rfl ?_ | refine OW_convInt (by first | with_reducible exact und_u8 | with_reducible exact und_u64 | with_reducible exact und_int | with_reducible exact und_u32) (by first | with_reducible exact und_u8 | with_reducible exact und_u64 | with_reducible exact und_int | with_reducible exact und_u32) rfl ?_ | refine OW_add rfl rfl ?_ | refine OW_sub rfl rfl ?_ | refine OW_mul rfl rfl ?_ | refine OW_min2 rfl rfl ?_ | refine OW_max2 rfl rfl ?_ | refine OW_neg rfl ?_ | refine CW_block ?_ | refine CW_condT rfl ?_ | refine CW_condF rfl ?_ | refine CW_exit ?_ | refine CW_ret ?_ | refine CW_skip ?_ | refine LW_seq ?_ | refine LW_regC ?_ | refine LW_condC ?_ | refine LW_regF ?_ | refine LW_condF ?_ | refine FW_seq ?_ | refine FW_region (by kernel_rfl) ?_ | refine FW_block ?_ | refine FW_condT rfl ?_ | refine FW_condF rfl ?_ | refine FW_exit ?_ | refine FW_ret ?_ | refine FW_skip ?_ | refine LW_ret ?_ | refine LW_skip ?_ | refine thenE_exit ?_ | refine thenE_ret ?_ | refine inBlockE_normal ?_ | refine inBlockE_same ?_ | refine inBlockE_ret ?_ | refine inBlockE_ne (by rfl) ?_ | refine OW_eqlB (by with_reducible exact und_bool) rfl rfl ?_ | refine OW_neqB (by with_reducible exact und_bool) rfl rfl ?_ | refine OW_idxS (by with_reducible exact und_bytes) one_u8 rfl rfl _ rfl (by omega) ?_ | refine OW_idxS (by with_reducible exact und_bytess) one_bytes rfl rfl _ rfl (by omega) ?_ | refine OW_load1 (by first | with_reducible exact one_u8 | with_reducible exact one_bytes) rfl _ (by assumption) ?_ | (refine OW_isLoad ?_; refine OW_loadBk (by first | with_reducible exact s_int | with_reducible exact one_u8 | with_reducible exact one_grants) rfl (by assumption) _ (by rfl) ?_) | refine OW_load1 s_int rfl _ (by assumption) ?_ | (refine OW_isLoad ?_; refine OW_loadBk (by first | with_reducible exact one_u8 | with_reducible exact one_bytes | with_reducible exact one_bool | with_reducible exact one_int | with_reducible exact one_errno | with_reducible exact one_u32 | with_reducible exact one_u64 | with_reducible exact one_string | with_reducible exact s_int | with_reducible exact one_u8 | with_reducible exact one_grants) rfl (by apply_assumption; assumption) _ (by first | assumption | rfl) ?_) | refine OW_load1 (by first | with_reducible exact one_u8 | with_reducible exact one_bytes | with_reducible exact one_bool | with_reducible exact one_int | with_reducible exact one_errno | with_reducible exact one_u32 | with_reducible exact one_u64 | with_reducible exact one_string | with_reducible exact s_int | with_reducible exact one_u8 | with_reducible exact one_grants) rfl _ (by apply_assumption; assumption) ?_)
         refine OW_nil ?_
         exact stay_mk _ _ _ _)
    | refine OY_ppass rfl rfl ?_
    | refine OY_qpass rfl rfl ?_
    | (apply OY_ptake _ rfl rfl
       · intro wd
         (first | refine OW_slicePOT a_slp_TagT rfl ?_ | refine OW_build _ _ (bld_G3 _ _ _) rfl ?_ | refine OW_fieldB fldo_G0 rfl ?_ | refine OW_fieldB fldo_G1 rfl ?_ | refine OW_fieldB fldo_G2 rfl ?_ | refine OW_fieldB fldo_T0 rfl ?_ | refine OW_fieldB fldo_T1 rfl ?_ | refine OW_fieldB fldo_T2 rfl ?_ | refine OW_lenS und_Grants rfl ?_ | refine OW_moveV (.int _ _) rfl ?_ | refine OW_moveV (.slice _ _ _) rfl ?_ | refine OW_moveV (.bool _) rfl ?_ | refine OW_moveV (.pointer _) rfl ?_ | refine OW_moveV (.string _) rfl ?_ | refine OW_moveV (.agg _) rfl ?_ | refine OW_moveV (.tuple _) rfl ?_ | refine OW_nil ?_ | refine thenE_normal ?_ | refine CW_seq ?_ | refine CW_region (by kernel_rfl) ?_ | refine OW_assignV (.int _ _) rfl ?_ | refine OW_assignV (.slice _ _ _) rfl ?_ | refine OW_assignV (.bool _) rfl ?_ | refine OW_assignV (.pointer _) rfl ?_ | refine OW_assignV (.string _) rfl ?_ | refine OW_assignV (.agg _) rfl ?_ | refine OW_assignV (.tuple _) rfl ?_ | refine OW_addI rfl rfl (by omega) ?_ | refine OW_subI rfl rfl (by omega) ?_ | refine OW_mulI rfl rfl (by omega) ?_ | refine OW_lss rfl rfl ?_ | refine OW_extract rfl rfl ?_ | refine OW_gtr rfl rfl ?_ | refine OW_leq rfl rfl ?_ | refine OW_geq rfl rfl ?_ | refine OW_eql rfl rfl ?_ | refine OW_neq rfl rfl ?_ | refine OW_not rfl ?_ | refine OW_pickT rfl _ rfl ?_ | refine OW_pickF rfl (.bool _) rfl ?_ | refine OW_pickB rfl rfl rfl ?_ | refine OW_move ?_ | refine OW_assign ?_ | refine OW_pass rfl ?_ | refine OW_take rfl ?_ | refine OW_lenS (by first | with_reducible exact und_bytes | with_reducible exact und_bytess) rfl ?_ | refine OW_convInt (by first | with_reducible exact und_u8 | with_reducible exact und_u64 | with_reducible exact und_int | with_reducible exact und_u32) (by first | with_reducible exact und_u8 | with_reducible exact und_u64 | with_reducible exact und_int | with_reducible exact und_u32) rfl ?_ | refine OW_add rfl rfl ?_ | refine OW_sub rfl rfl ?_ | refine OW_mul rfl rfl ?_ | refine OW_min2 rfl rfl ?_ | refine OW_max2 rfl rfl ?_ | refine OW_neg rfl ?_ | refine CW_block ?_ | refine CW_condT rfl ?_ | refine CW_condF rfl ?_ | refine CW_exit ?_ | refine CW_ret ?_ | refine CW_skip ?_ | refine LW_seq ?_ | refine LW_regC ?_ | refine LW_condC ?_ | refine LW_regF ?_ | refine LW_condF ?_ | refine FW_seq ?_ | refine FW_region (by kernel_rfl) ?_ | refine FW_block ?_ | refine FW_condT rfl ?_ | refine FW_condF rfl ?_ | refine FW_exit ?_ | refine FW_ret ?_ | refine FW_skip ?_ | refine LW_ret ?_ | refine LW_skip ?_ | refine thenE_exit ?_ | refine thenE_ret ?_ | refine inBlockE_normal ?_ | refine inBlockE_same ?_ | refine inBlockE_ret ?_ | refine inBlockE_ne (by rfl) ?_ | refine OW_eqlB (by with_reducible exact und_bool) rfl rfl ?_ | refine OW_neqB (by with_reducible exact und_bool) rfl rfl ?_ | refine OW_idxS (by with_reducible exact und_bytes) one_u8 rfl rfl _ rfl (by omega) ?_ | refine OW_idxS (by with_reducible exact und_bytess) one_bytes rfl rfl _ rfl (by omega) ?_ | refine OW_load1 (by first | with_reducible exact one_u8 | with_reducible exact one_bytes) rfl _ (by assumption) ?_ | (refine OW_isLoad ?_; refine OW_loadBk (by first | with_reducible exact s_int | with_reducible exact one_u8 | with_reducible exact one_grants) rfl (by assumption) _ (by rfl) ?_) | refine OW_load1 s_int rfl _ (by assumption) ?_)
         refine OW_nil ?_
         exact stay_mk _ _ _ _)
    | (apply OY_qtake _ rfl rfl
       · intro wd hwd
         (first | refine OW_slicePOT a_slp_TagT rfl ?_ | refine OW_build _ _ (bld_G3 _ _ _) rfl ?_ | refine OW_fieldB fldo_G0 rfl ?_ | refine OW_fieldB fldo_G1 rfl ?_ | refine OW_fieldB fldo_G2 rfl ?_ | refine OW_fieldB fldo_T0 rfl ?_ | refine OW_fieldB fldo_T1 rfl ?_ | refine OW_fieldB fldo_T2 rfl ?_ | refine OW_lenS und_Grants rfl ?_ | refine OW_moveV (.int _ _) rfl ?_ | refine OW_moveV (.slice _ _ _) rfl ?_ | refine OW_moveV (.bool _) rfl ?_ | refine OW_moveV (.pointer _) rfl ?_ | refine OW_moveV (.string _) rfl ?_ | refine OW_moveV (.agg _) rfl ?_ | refine OW_moveV (.tuple _) rfl ?_ | refine OW_nil ?_ | refine thenE_normal ?_ | refine CW_seq ?_ | refine CW_region (by kernel_rfl) ?_ | refine OW_assignV (.int _ _) rfl ?_ | refine OW_assignV (.slice _ _ _) rfl ?_ | refine OW_assignV (.bool _) rfl ?_ | refine OW_assignV (.pointer _) rfl ?_ | refine OW_assignV (.string _) rfl ?_ | refine OW_assignV (.agg _) rfl ?_ | refine OW_assignV (.tuple _) rfl ?_ | refine OW_addI rfl rfl (by omega) ?_ | refine OW_subI rfl rfl (by omega) ?_ | refine OW_mulI rfl rfl (by omega) ?_ | refine OW_lss rfl rfl ?_ | refine OW_extract rfl rfl ?_ | refine OW_gtr rfl rfl ?_ | refine OW_leq rfl rfl ?_ | refine OW_geq rfl rfl ?_ | refine OW_eql rfl rfl ?_ | refine OW_neq rfl rfl ?_ | refine OW_not rfl ?_ | refine OW_pickT rfl _ rfl ?_ | refine OW_pickF rfl (.bool _) rfl ?_ | refine OW_pickB rfl rfl rfl ?_ | refine OW_move ?_ | refine OW_assign ?_ | refine OW_pass rfl ?_ | refine OW_take rfl ?_ | refine OW_lenS (by first | with_reducible exact und_bytes | with_reducible exact und_bytess) rfl ?_ | refine OW_convInt (by first | with_reducible exact und_u8 | with_reducible exact und_u64 | with_reducible exact und_int | with_reducible exact und_u32) (by first | with_reducible exact und_u8 | with_reducible exact und_u64 | with_reducible exact und_int | with_reducible exact und_u32) rfl ?_ | refine OW_add rfl rfl ?_ | refine OW_sub rfl rfl ?_ | refine OW_mul rfl rfl ?_ | refine OW_min2 rfl rfl ?_ | refine OW_max2 rfl rfl ?_ | refine OW_neg rfl ?_ | refine CW_block ?_ | refine CW_condT rfl ?_ | refine CW_condF rfl ?_ | refine CW_exit ?_ | refine CW_ret ?_ | refine CW_skip ?_ | refine LW_seq ?_ | refine LW_regC ?_ | refine LW_condC ?_ | refine LW_regF ?_ | refine LW_condF ?_ | refine FW_seq ?_ | refine FW_region (by kernel_rfl) ?_ | refine FW_block ?_ | refine FW_condT rfl ?_ | refine FW_condF rfl ?_ | refine FW_exit ?_ | refine FW_ret ?_ | refine FW_skip ?_ | refine LW_ret ?_ | refine LW_skip ?_ | refine thenE_exit ?_ | refine thenE_ret ?_ | refine inBlockE_normal ?_ | refine inBlockE_same ?_ | refine inBlockE_ret ?_ | refine inBlockE_ne (by rfl) ?_ | refine OW_eqlB (by with_reducible exact und_bool) rfl rfl ?_ | refine OW_neqB (by with_reducible exact und_bool) rfl rfl ?_ | refine OW_idxS (by with_reducible exact und_bytes) one_u8 rfl rfl _ rfl (by omega) ?_ | refine OW_idxS (by with_reducible exact und_bytess) one_bytes rfl rfl _ rfl (by omega) ?_ | refine OW_load1 (by first | with_reducible exact one_u8 | with_reducible exact one_bytes) rfl _ (by assumption) ?_ | (refine OW_isLoad ?_; refine OW_loadBk (by first | with_reducible exact s_int | with_reducible exact one_u8 | with_reducible exact one_grants) rfl (by assumption) _ (by rfl) ?_) | refine OW_load1 s_int rfl _ (by assumption) ?_ | (refine OW_isLoad ?_; refine OW_loadBk (by first | with_reducible exact one_u8 | with_reducible exact one_bytes | with_reducible exact one_bool | with_reducible exact one_int | with_reducible exact one_errno | with_reducible exact one_u32 | with_reducible exact one_u64 | with_reducible exact one_string | with_reducible exact s_int | with_reducible exact one_u8 | with_reducible exact one_grants) rfl (by apply_assumption; assumption) _ (by first | assumption | rfl) ?_) | refine OW_load1 (by first | with_reducible exact one_u8 | with_reducible exact one_bytes | with_reducible exact one_bool | with_reducible exact one_int | with_reducible exact one_errno | with_reducible exact one_u32 | with_reducible exact one_u64 | with_reducible exact one_string | with_reducible exact s_int | with_reducible exact one_u8 | with_reducible exact one_grants) rfl _ (by apply_assumption; assumption) ?_)
         refine OW_nil ?_
         exact stay_mk _ _ _ _)
    | refine OY_a (actY_of rfl ?_)
    | refine OY_d (actY_of rfl ?_)
    | refine OY_a (actY_pass rfl rfl ?_)
    | refine OY_d (actY_pass rfl rfl ?_)
    | refine OY_a (actY_take rfl rfl ?_)
    | refine OY_d (actY_take rfl rfl ?_))
  exact hEnd.out) (k : B) : A := h ⟨k⟩
def okA (b : List UInt8) (i : Nat) : Bool := decide ((numA b i : Int) ≤ two40)
def nV (b : List UInt8) (i : Nat) : Int := IntKind.i64.wrap (numA b i : Int)
theorem nV_ok {b : List UInt8} {i : Nat} (h : okA b i = true) : nV b i = (numA b i : Int) := by
  have := of_decide_eq_true h
  unfold two40 at this
  exact wrap64_in (by omega)
theorem bld_G3 (r : UInt8) (e s : Int) : ∀ w, (Instr.build 49 [(0, bv r), (1, .int .i64 e), (2, .int .i64 s)].toArray).run Try.prog w = .ok (.agg (gcells ⟨r, e, s⟩).toArray) w := fun w => by kernel_rfl
theorem bld_T1 (n : Int) : ∀ w, (Instr.build 45 [(0, .int .i64 n)].toArray).run Try.prog w = .ok (.agg (tcells ⟨n, [], tzS⟩ (.slice none 0 0)).toArray) w := fun w => by kernel_rfl
set_option maxHeartbeats 8000000 in
theorem number_any (w : World) (A : Option Addr) (c : Nat) (b : List UInt8) (at_ : Int) (i : Nat) (hi : at_ = (i : Int)) (ha : Bs w A b) (hc : b.length ≤ c) (hl : b.length ≤ 1000000) (hin : i + 8 ≤ b.length) :
    Calls Try.prog 89 #[.slice A b.length c, .int .i64 at_] w (RetV w (.tuple #[.int .i64 (nV b i), .bool (okA b i)])) := by
  have hL := load64_any w A b c at_ ha hc hl (by omega)
  have h1 : ldL b at_ 8 = some (numA b i) := by
    unfold ldL
    rw [if_pos (by omega), hi]
    rfl
  have h2 : ldV b at_ 8 = (numA b i : Int) := by unfold ldV; rw [h1]; rfl
  have h3 : ldB b at_ 8 = true := by unfold ldB; rw [h1]; rfl
  rw [h2, h3] at hL
  refine calls_of_CW Try.func89 rfl (by simp [Try.ntmps89]) ?_
  rw [Try.ntmps89]
  refine go_Tok8 (k := ?_)
  refine OW_callV Try.func106 (by kernel_rfl) rfl hL rfl ?_
  intro w1 hx1
  refine go_Tok8 (k := ?_)
  exact bodyE_ret2 rfl (.int .i64 (nV b i)) (.bool (okA b i)) rfl rfl ⟨rfl, hx1⟩
set_option maxHeartbeats 8000000 in
theorem parNone_any (w : World) : Calls Try.prog 88 #[] w (RetV w (.tuple #[.agg (tcells t0 (.slice none 0 0)).toArray, .int .i64 90])) := by
  refine calls_of_CW Try.func88 rfl (by simp [Try.ntmps88]) ?_
  rw [Try.ntmps88]
  refine go_Tok8 (k := ?_)
  refine OW_allocA agg_Token ?_
  intro w1 g1 hb1 hg1 hlt1 hx1
  refine go_Tok8 (k := ?_)
  refine OW_build _ _ bld_T0 rfl ?_
  refine go_Tok8 (k := ?_)
  refine OW_storeA agg_Token rfl (tcells t0 (.slice none 0 0)) rfl rfl hb1 (by kernel_rfl) (tcells_one _ _ _ _) ?_
  intro w2 hb2 hgr2
  have hx2 : Ext w w2 := (Keeps.of_only hgr2 (S := (· = g1)) rfl).ext hx1 (fun j hj => by have hj : j = g1 := hj; omega)
  refine go_Tok8 (k := ?_)
  exact bodyE_retc2 rfl agg_Token rfl (tcells t0 (.slice none 0 0)) (.int .i64 90) rfl rfl (Blk.range hb2) ⟨rfl, hx2⟩
section
variable {P : Program} {ops : Array Oper} {Q : Exit → (Nat → Value) → World → Prop} {rest : List Oper} {e : Nat → Value} {w : World} {d : Tmp} {ty : TypeId} {pos : String} {aft : Array Edge}
theorem OW_sliceLoB {x lo : Operand} {t el : TypeId} {A : Option Addr} {n c : Nat} {k : IntKind} {lv : Int} (lN : Nat) (ht : P.underlying t = some (.slice el)) (hel : OneT P el) (hx : ev e x = .slice A n c) (hlo : ev e lo = .int k lv) (hl : lv = (lN : Int)) (hb : lN ≤ n ∧ n ≤ c)
    (h : OW P ops Q rest (upd e d (.slice (cutA A c lN) (n - lN) (c - lN))) w) : OW P ops Q (⟨some d, .slice t x (some lo) none none, ty, pos, aft, none⟩ :: rest) e w := by
  subst hl
  exact OW_slice (hi := none) (mx := none) (lv := lN) (hv := n) (mv := c) ht hel hx ⟨k, hlo⟩ rfl rfl (fun h => by cases h) (by omega) (by simpa using h)
end
theorem good_no {b : List UInt8} (h : ¬ (48 ≤ b.length ∧ okA b 0 = true ∧ 1 ≤ numA b 8 ∧ numA b 8 ≤ 4 ∧ b.length = 48 + 24 * numA b 8 ∧ (∀ i, i < numA b 8 → fineA b i = true) ∧ mayT (readT b) = true)) : parT b = (t0, 90) := by
  unfold parT
  rw [if_neg]
  intro hg
  unfold goodT at hg
  simp only [Bool.and_eq_true, decide_eq_true_eq, List.all_eq_true, List.mem_range] at hg
  exact h ⟨hg.1.1.1, decide_eq_true hg.1.1.2, hg.1.2.1.1, hg.1.2.1.2, hg.1.2.2, hg.2.1, hg.2.2⟩
theorem good_yes {b : List UInt8} (h : 48 ≤ b.length ∧ okA b 0 = true ∧ 1 ≤ numA b 8 ∧ numA b 8 ≤ 4 ∧ b.length = 48 + 24 * numA b 8 ∧ (∀ i, i < numA b 8 → fineA b i = true) ∧ mayT (readT b) = true) : parT b = (readT b, 0) := by
  unfold parT
  rw [if_pos]
  unfold goodT
  simp only [Bool.and_eq_true, decide_eq_true_eq, List.all_eq_true, List.mem_range]
  exact ⟨⟨⟨h.1, of_decide_eq_true h.2.1⟩, ⟨h.2.2.1, h.2.2.2.1⟩, h.2.2.2.2.1⟩, h.2.2.2.2.2.1, h.2.2.2.2.2.2⟩
theorem fine_of {b : List UInt8} {i : Nat} (h1 : okA b (16 + 24 * i) = true) (h2 : okA b (24 + 24 * i) = true) (h3 : okA b (32 + 24 * i) = true) (h4 : numA b (16 + 24 * i) ≤ 255) : fineA b i = true := by
  unfold fineA
  unfold okA at h2 h3
  rw [h2, h3, decide_eq_true h4]
  rfl
theorem fine_no {b : List UInt8} {i : Nat} (h : fineA b i = true) : okA b (16 + 24 * i) = true ∧ okA b (24 + 24 * i) = true ∧ okA b (32 + 24 * i) = true ∧ numA b (16 + 24 * i) ≤ 255 := by
  unfold fineA at h
  simp only [Bool.and_eq_true, decide_eq_true_eq] at h
  refine ⟨decide_eq_true (by unfold two40; omega), decide_eq_true h.1.2, decide_eq_true h.2, h.1.1⟩
theorem gdA_ok (b : List UInt8) (i : Nat) : GOk (gdA b i) ∨ True := .inr trivial
/-- The grants that are read. -/
def gdsA (b : List UInt8) (k : Nat) : List GD := (List.range k).map (gdA b)
theorem gdsA_len (b : List UInt8) (k : Nat) : (gdsA b k).length = k := by simp [gdsA]
theorem gdsA_succ (b : List UInt8) (k : Nat) : gdsA b k ++ [gdA b k] = gdsA b (k + 1) := by simp [gdsA, List.range_succ]
set_option maxHeartbeats 8000000 in
theorem tokParse_any (w : World) (A : Option Addr) (c : Nat) (b : List UInt8) (ha : Bs w A b) (hc : b.length ≤ c) (hl : b.length ≤ 100000) : Calls Try.prog 46 #[.slice A b.length c] w (TRet w (parT b)) := by
  have hnone := fun v => parNone_any v
  refine calls_of_CW Try.func46 rfl (by simp [Try.ntmps46]) ?_
  rw [Try.ntmps46]
  refine go_Tok8 (k := ?_)
  refine OW_allocA agg_Token ?_
  intro w1 g2 hb2 hg2 hlt2 hx1
  have hbadR : (¬ (48 ≤ b.length ∧ okA b 0 = true ∧ 1 ≤ numA b 8 ∧ numA b 8 ≤ 4 ∧ b.length = 48 + 24 * numA b 8 ∧ (∀ i, i < numA b 8 → fineA b i = true) ∧ mayT (readT b) = true)) → ∀ w6, Ext w w6 → ∀ w7, w6.grownBy w7 (some g2) → TRet w (parT b) (.returned (.tuple #[.agg (tcells t0 (.slice none 0 0)).toArray, .int .i64 90])) w7 := by
    intro h w6 hx6 w7 hgr
    rw [good_no h]
    exact ⟨none, 0, rfl, GOwn.zero _ _, (Keeps.of_only hgr (S := (· = g2)) rfl).ext hx6 (fun j hj => by have hj : j = g2 := hj; omega)⟩
  refine go_Tok8 (k := ?_)
  refine CW_cond _ rfl (fun hh => ?_) (fun hh => ?_)
  · have hbd := hbadR (fun h => by have := of_decide_eq_true hh; omega)
    refine go_Tok8 (k := ?_)
    refine OW_callF Try.func88 (by kernel_rfl) rfl (caps := []) rfl (args' := []) (hnone w1) rfl ?_
    rintro en w8 ⟨rfl, hx8⟩
    refine ⟨_, rfl, ?_⟩
    refine go_Tok8 (k := ?_)
    refine OW_storeA agg_Token rfl (tcells t0 (.slice none 0 0)) rfl rfl (hb2.ext hx8) (by kernel_rfl) (tcells_one _ _ _ _) ?_
    intro w9 hb9 hgr9
    refine go_Tok8 (k := ?_)
    exact bodyE_retc2 rfl agg_Token rfl (tcells t0 (.slice none 0 0)) (.int .i64 90) rfl rfl (Blk.range hb9) (hbd w8 (hx1.trans' hx8) w9 hgr9)
  have h48 : 48 ≤ b.length := by have := of_decide_eq_false hh; omega
  clear hh
  refine go_Tok8 (k := ?_)
  refine OW_callV Try.func89 (by kernel_rfl) rfl (number_any w1 A c b 0 0 rfl (ha.ext hx1) hc (by omega) (by omega)) rfl ?_
  intro w2 hx2
  have hx02 := hx1.trans' hx2
  refine go_Tok8 (k := ?_)
  refine OW_callV Try.func89 (by kernel_rfl) rfl (number_any w2 A c b 8 8 rfl (ha.ext hx02) hc (by omega) (by omega)) rfl ?_
  intro w3 hx3
  have hx03 := hx02.trans' hx3
  replace hb2 := hb2.ext (hx2.trans' hx3)
  obtain ⟨m, hm⟩ : ∃ m, nV b 8 = m := ⟨_, rfl⟩
  obtain ⟨z0, hz0⟩ : ∃ z0, nV b 0 = z0 := ⟨_, rfl⟩
  rw [hm, hz0]
  refine OW_meet (fun e' w' => e' 0 = .slice A b.length c ∧ e' 2 = .pointer (some ⟨g2, 0, none⟩) ∧ e' 4 = .func (.func 88) #[] #[] ∧ e' 5 = .int .i64 z0 ∧ e' 6 = .bool (okA b 0) ∧ e' 7 = .int .i64 m ∧ e' 8 = .bool (okA b 8) ∧ w' = w3) ?_ ?_
  · refine go_Tok8 (k := ?_)
    exact ⟨rfl, rfl, rfl, rfl, rfl, rfl, rfl, rfl, rfl⟩
  rintro e4 w4 ⟨q0, q2, q4, q5, q6, q7, q8, rfl⟩
  rw [upd_self q0, upd_self q2, upd_self q4, upd_self q5, upd_self q6, upd_self q7, upd_self q8]
  clear q0 q2 q4 q5 q6 q7 q8
  refine go_Tok8 (k := ?_)
  refine OW_meet (fun e' w' => e' 0 = .slice A b.length c ∧ e' 2 = .pointer (some ⟨g2, 0, none⟩) ∧ e' 4 = .func (.func 88) #[] #[] ∧ e' 5 = .int .i64 z0 ∧ e' 7 = .int .i64 m ∧ w' = w4 ∧ (e' 55 = .bool true ∧ ¬ (okA b 0 = true ∧ okA b 8 = true ∧ 1 ≤ numA b 8 ∧ numA b 8 ≤ 4 ∧ b.length = 48 + 24 * numA b 8) ∨ e' 55 = .bool false ∧ okA b 0 = true ∧ okA b 8 = true ∧ 1 ≤ numA b 8 ∧ numA b 8 ≤ 4 ∧ b.length = 48 + 24 * numA b 8)) ?_ ?_
  · cases k0 : okA b 0 with
    | false =>
      refine go_Tok8 (k := ?_)
      exact ⟨rfl, rfl, rfl, rfl, rfl, rfl, rfl, .inl ⟨rfl, by simp⟩⟩
    | true =>
    refine go_Tok8 (k := ?_)
    cases k8 : okA b 8 with
    | false =>
      refine go_Tok8 (k := ?_)
      exact ⟨rfl, rfl, rfl, rfl, rfl, rfl, rfl, .inl ⟨rfl, by simp⟩⟩
    | true =>
    have hmn : m = (numA b 8 : Int) := by rw [← hm]; exact nV_ok k8
    subst hmn
    refine go_Tok8 (k := ?_)
    refine OW_split 44 _ rfl (fun h1 => ?_) (fun h1 => ?_)
    · refine go_Tok8 (k := ?_)
      exact ⟨rfl, rfl, rfl, rfl, rfl, rfl, rfl, .inl ⟨rfl, by have := of_decide_eq_true h1; omega⟩⟩
    have n1 := of_decide_eq_false h1
    refine go_Tok8 (k := ?_)
    refine OW_split 48 _ rfl (fun h1 => ?_) (fun h1 => ?_)
    · refine go_Tok8 (k := ?_)
      exact ⟨rfl, rfl, rfl, rfl, rfl, rfl, rfl, .inl ⟨rfl, by have := of_decide_eq_true h1; omega⟩⟩
    have n4 := of_decide_eq_false h1
    by_cases hlen : b.length = 48 + 24 * numA b 8
    · have hfl : ((b.length : Int) != 48 + 24 * (numA b 8 : Int)) = false := by rw [bne_eq_false_iff_eq]; omega
      refine go_Tok8 (k := ?_)
      rw [hfl]
      refine go_Tok8 (k := ?_)
      exact ⟨rfl, rfl, rfl, rfl, rfl, rfl, rfl, .inr ⟨rfl, rfl, rfl, by omega, by omega, hlen⟩⟩
    · have hfl : ((b.length : Int) != 48 + 24 * (numA b 8 : Int)) = true := by rw [bne_iff_ne]; omega
      refine go_Tok8 (k := ?_)
      rw [hfl]
      refine go_Tok8 (k := ?_)
      exact ⟨rfl, rfl, rfl, rfl, rfl, rfl, rfl, .inl ⟨rfl, by omega⟩⟩
  rintro e5 w5 ⟨q0, q2, q4, q5, q7, rfl, ⟨q55, hno⟩ | ⟨q55, k0, k8, n1, n4, hlen⟩⟩
  · rw [upd_self q0, upd_self q2, upd_self q4, upd_self q55]
    have hbd := hbadR (fun h => hno ⟨h.2.1, by unfold okA; exact decide_eq_true (by unfold two40; omega), h.2.2.1, h.2.2.2.1, h.2.2.2.2.1⟩)
    refine go_Tok8 (k := ?_)
    refine OW_callF Try.func88 (by kernel_rfl) rfl (caps := []) rfl (args' := []) (hnone w5) rfl ?_
    rintro en w8 ⟨rfl, hx8⟩
    refine ⟨_, rfl, ?_⟩
    refine go_Tok8 (k := ?_)
    refine OW_storeA agg_Token rfl (tcells t0 (.slice none 0 0)) rfl rfl (hb2.ext hx8) (by kernel_rfl) (tcells_one _ _ _ _) ?_
    intro w9 hb9 hgr9
    refine go_Tok8 (k := ?_)
    exact bodyE_retc2 rfl agg_Token rfl (tcells t0 (.slice none 0 0)) (.int .i64 90) rfl rfl (Blk.range hb9) (hbd w8 (hx03.trans' hx8) w9 hgr9)
  have hmn : m = (numA b 8 : Int) := by rw [← hm]; exact nV_ok k8
  have hzn : z0 = (numA b 0 : Int) := by rw [← hz0]; exact nV_ok k0
  subst hmn; subst hzn
  rw [upd_self q0, upd_self q2, upd_self q4, upd_self q5, upd_self q7, upd_self q55]
  clear q0 q2 q4 q5 q7 q55 hm hz0
  obtain ⟨n, hn⟩ : ∃ n, numA b 8 = n := ⟨_, rfl⟩
  obtain ⟨x0, hx0⟩ : ∃ x0, (numA b 0 : Int) = x0 := ⟨_, rfl⟩
  rw [hn, hx0]
  rw [hn] at n1 n4 hlen
  have hrd : readT b = ⟨x0, gdsA b n, b.drop (16 + 24 * n)⟩ := by unfold readT gdsA; rw [hn, hx0]
  rw [hn] at hbadR
  refine go_Tok8 (k := ?_)
  refine OW_build _ _ (bld_T1 x0) rfl ?_
  refine go_Tok8 (k := ?_)
  refine OW_allocA agg_Token ?_
  intro w6 g9 hb9 hg9 hlt9 hx6
  refine go_Tok8 (k := ?_)
  refine OW_storeA agg_Token rfl (tcells ⟨x0, [], tzS⟩ (.slice none 0 0)) rfl rfl hb9 (by kernel_rfl) (tcells_one _ _ _ _) ?_
  intro w7 hb9 hgr7
  have hk7 := Keeps.of_only hgr7 (S := (· = g9)) rfl
  have hx57 : Ext w5 w7 := hk7.ext hx6 (fun j hj => by have hj : j = g9 := hj; omega)
  have hs3 := hx03.size
  have hlb2 := hb2.lt
  have hne29 : ¬ g2 = g9 := by omega
  have hg9w : w.heap.size ≤ g9 := by omega
  replace hb2 := hb2.ext hx57
  have hx07 := hx03.trans' hx57
  clear hgr7 hk7
  refine go_Tok8 (k := ?_)
  refine CW_loop (fun e' w' => ∃ (k : Nat) (B : Option Addr) (cB : Nat), k ≤ n ∧ e' 0 = .slice A b.length c ∧ e' 2 = .pointer (some ⟨g2, 0, none⟩) ∧ e' 4 = .func (.func 88) #[] #[] ∧ e' 7 = .int .i64 n ∧ e' 9 = .pointer (some ⟨g9, 0, none⟩) ∧ e' 62 = .int .i64 n ∧ e' 63 = .int .i64 k ∧ Blk w' g2 45 (tcells t0 (.slice none 0 0)).toArray ∧ Blk w' g9 45 (tcells ⟨x0, [], tzS⟩ (.slice B (gdsA b k).length cB)).toArray ∧ GOwn w' w.heap.size B cB (gdsA b k) ∧ (∀ i, i < k → fineA b i = true) ∧ Ext w w') (fun e' _ => n - (intOf (e' 63)).toNat) ⟨0, none, 0, Nat.zero_le _, rfl, rfl, rfl, rfl, rfl, rfl, rfl, hb2, hb9, GOwn.zero _ _, fun i hi => absurd hi (Nat.not_lt_zero _), hx07⟩ ?_
  clear hb2 hb9 hx07
  rintro e8 w8 ⟨k, B, cB, hk, q0, q2, q4, q7, q9, q62, q63, hb2, hb9, hO, hfi, hx08⟩
  rw [upd_self q0, upd_self q2, upd_self q4, upd_self q7, upd_self q9, upd_self q62, upd_self q63]
  clear q0 q2 q4 q7 q9 q62 q63
  have hbs8 := ha.ext hx08
  refine go_Tok8 (k := ?_)
  refine CW_cond _ rfl (fun hh => ?_) (fun hh => ?_)
  · have hlt : k < n := by have := of_decide_eq_true hh; omega
    clear hh
    have hgl := gdsA_len b k
    have hgs := gdsA_succ b k
    have hfn := fun h => fine_no (b := b) (i := k) h
    have hfy := fun h1 h2 h3 h4 => fine_of (b := b) (i := k) h1 h2 h3 h4
    have hN1 := fun v (hv : Ext w8 v) => number_any v A c b (16 + 24 * (k : Int)) (16 + 24 * k) (by omega) (hbs8.ext hv) hc (by omega) (by omega)
    have hN2 := fun v (hv : Ext w8 v) => number_any v A c b (24 + 24 * (k : Int)) (24 + 24 * k) (by omega) (hbs8.ext hv) hc (by omega) (by omega)
    have hN3 := fun v (hv : Ext w8 v) => number_any v A c b (32 + 24 * (k : Int)) (32 + 24 * k) (by omega) (hbs8.ext hv) hc (by omega) (by omega)
    have hgA : ∀ v : Value, gdA b k = ⟨UInt8.ofNat (numA b (16 + 24 * k)), numA b (24 + 24 * k), numA b (32 + 24 * k)⟩ := fun _ => rfl
    have v1 := fun h => nV_ok (b := b) (i := 16 + 24 * k) h
    have v2 := fun h => nV_ok (b := b) (i := 24 + 24 * k) h
    have v3 := fun h => nV_ok (b := b) (i := 32 + 24 * k) h
    generalize numA b (16 + 24 * k) = r at *
    generalize numA b (24 + 24 * k) = x at *
    generalize numA b (32 + 24 * k) = y at *
    generalize nV b (16 + 24 * k) = vr at *
    generalize nV b (24 + 24 * k) = vx at *
    generalize nV b (32 + 24 * k) = vy at *
    generalize okA b (16 + 24 * k) = o1 at *
    generalize okA b (24 + 24 * k) = o2 at *
    generalize okA b (32 + 24 * k) = o3 at *
    refine go_Tok8 (k := ?_)
    refine OW_callV Try.func89 (by kernel_rfl) rfl (hN1 w8 (Ext.rfl' _)) rfl ?_
    intro w9 hx9
    refine go_Tok8 (k := ?_)
    refine OW_callV Try.func89 (by kernel_rfl) rfl (hN2 w9 hx9) rfl ?_
    intro w10 hx10
    have hy10 := hx9.trans' hx10
    refine go_Tok8 (k := ?_)
    refine OW_callV Try.func89 (by kernel_rfl) rfl (hN3 w10 hy10) rfl ?_
    intro w11 hx11
    have hy11 := hy10.trans' hx11
    have hx011 := hx08.trans' hy11
    replace hb2 := hb2.ext hy11
    replace hb9 := hb9.ext hy11
    replace hO := hO.ext hy11
    clear hN1 hN2 hN3
    refine OW_meet (fun e' w' => e' 0 = .slice A b.length c ∧ e' 2 = .pointer (some ⟨g2, 0, none⟩) ∧ e' 4 = .func (.func 88) #[] #[] ∧ e' 7 = .int .i64 n ∧ e' 9 = .pointer (some ⟨g9, 0, none⟩) ∧ e' 11 = .int .i64 vr ∧ e' 12 = .bool o1 ∧ e' 13 = .int .i64 vx ∧ e' 14 = .bool o2 ∧ e' 15 = .int .i64 vy ∧ e' 16 = .bool o3 ∧ e' 62 = .int .i64 n ∧ e' 63 = .int .i64 k ∧ w' = w11) ?_ ?_
    · refine go_Tok8 (k := ?_)
      exact ⟨rfl, rfl, rfl, rfl, rfl, rfl, rfl, rfl, rfl, rfl, rfl, rfl, rfl, rfl, rfl⟩
    rintro e12 w12 ⟨q0, q2, q4, q7, q9, q11, q12, q13, q14, q15, q16, q62, q63, rfl⟩
    rw [upd_self q0, upd_self q2, upd_self q4, upd_self q7, upd_self q9, upd_self q11, upd_self q12, upd_self q13, upd_self q14, upd_self q15, upd_self q16, upd_self q62, upd_self q63]
    clear q0 q2 q4 q7 q9 q11 q12 q13 q14 q15 q16 q62 q63
    refine go_Tok8 (k := ?_)
    refine OW_meet (fun e' w' => e' 0 = .slice A b.length c ∧ e' 2 = .pointer (some ⟨g2, 0, none⟩) ∧ e' 4 = .func (.func 88) #[] #[] ∧ e' 7 = .int .i64 n ∧ e' 9 = .pointer (some ⟨g9, 0, none⟩) ∧ e' 11 = .int .i64 vr ∧ e' 13 = .int .i64 vx ∧ e' 15 = .int .i64 vy ∧ e' 62 = .int .i64 n ∧ e' 63 = .int .i64 k ∧ w' = w12 ∧ (e' 103 = .bool true ∧ ¬ (o1 = true ∧ o2 = true ∧ o3 = true ∧ r ≤ 255) ∨ e' 103 = .bool false ∧ o1 = true ∧ o2 = true ∧ o3 = true ∧ r ≤ 255)) ?_ ?_
    · cases o1 with
      | false =>
        refine go_Tok8 (k := ?_)
        exact ⟨rfl, rfl, rfl, rfl, rfl, rfl, rfl, rfl, rfl, rfl, rfl, rfl, .inl ⟨rfl, by simp⟩⟩
      | true =>
      refine go_Tok8 (k := ?_)
      cases o2 with
      | false =>
        refine go_Tok8 (k := ?_)
        exact ⟨rfl, rfl, rfl, rfl, rfl, rfl, rfl, rfl, rfl, rfl, rfl, rfl, .inl ⟨rfl, by simp⟩⟩
      | true =>
      refine go_Tok8 (k := ?_)
      cases o3 with
      | false =>
        refine go_Tok8 (k := ?_)
        exact ⟨rfl, rfl, rfl, rfl, rfl, rfl, rfl, rfl, rfl, rfl, rfl, rfl, .inl ⟨rfl, by simp⟩⟩
      | true =>
      have hvr := v1 rfl
      subst hvr
      by_cases h255 : r ≤ 255
      · have hfl : decide ((255 : Int) < (r : Int)) = false := decide_eq_false (by omega)
        refine go_Tok8 (k := ?_)
        rw [hfl]
        refine go_Tok8 (k := ?_)
        exact ⟨rfl, rfl, rfl, rfl, rfl, rfl, rfl, rfl, rfl, rfl, rfl, rfl, .inr ⟨rfl, rfl, rfl, rfl, h255⟩⟩
      · have hfl : decide ((255 : Int) < (r : Int)) = true := decide_eq_true (by omega)
        refine go_Tok8 (k := ?_)
        rw [hfl]
        refine go_Tok8 (k := ?_)
        exact ⟨rfl, rfl, rfl, rfl, rfl, rfl, rfl, rfl, rfl, rfl, rfl, rfl, .inl ⟨rfl, by omega⟩⟩
    rintro e13 w13 ⟨q0, q2, q4, q7, q9, q11, q13, q15, q62, q63, rfl, ⟨q103, hno⟩ | ⟨q103, p1, p2, p3, h255⟩⟩
    · rw [upd_self q0, upd_self q2, upd_self q4, upd_self q103]
      have hbd := hbadR (fun h => hno (hfn (h.2.2.2.2.2.1 k hlt)))
      refine go_Tok8 (k := ?_)
      refine OW_callF Try.func88 (by kernel_rfl) rfl (caps := []) rfl (args' := []) (hnone w13) rfl ?_
      rintro en w14 ⟨rfl, hx14⟩
      refine ⟨_, rfl, ?_⟩
      refine go_Tok8 (k := ?_)
      refine OW_storeA agg_Token rfl (tcells t0 (.slice none 0 0)) rfl rfl (hb2.ext hx14) (by kernel_rfl) (tcells_one _ _ _ _) ?_
      intro w15 hb15 hgr15
      refine go_Tok8 (k := ?_)
      exact bodyE_retc2 rfl agg_Token rfl (tcells t0 (.slice none 0 0)) (.int .i64 90) rfl rfl (Blk.range hb15) (hbd w14 (hx011.trans' hx14) w15 hgr15)
    have hvr := v1 p1
    have hvx := v2 p2
    have hvy := v3 p3
    subst hvr; subst hvx; subst hvy
    rw [upd_self q0, upd_self q2, upd_self q4, upd_self q7, upd_self q9, upd_self q11, upd_self q13, upd_self q15, upd_self q62, upd_self q63, upd_self q103]
    clear q0 q2 q4 q7 q9 q11 q13 q15 q62 q63 q103
    have hgk := hgA (.bool true)
    have hu8 : (Value.int .u8 (IntKind.u8.wrap (r : Int))) = bv (UInt8.ofNat r) := by
      rw [wrap_u8_lt _ (by omega)]
      unfold bv
      rw [UInt8.toNat_ofNat', Nat.mod_eq_of_lt (show r < 2 ^ 8 by omega)]
    obtain ⟨gk, hgk2⟩ : ∃ gk, gdA b k = gk := ⟨_, rfl⟩
    rw [hgk2] at hgs hgk
    have hTl : (tcells ⟨x0, [], tzS⟩ (.slice B (gdsA b k).length cB)).length = 34 := rfl
    have hfk := hfy p1 p2 p3 h255
    clear hfy hfn v1 v2 v3 hgA hbs8
    generalize gdsA b k = gs at *
    refine go_Tok8 (k := ?_)
    rw [hu8]
    refine go_Tok8 (k := ?_)
    rw [← hgk]
    refine OW_litM [gcells gk] und_Grants agg_Grant rfl rfl (by intro v hv; rw [List.mem_singleton] at hv; subst hv; rfl) (by decide) ?_
    intro w14 g14 hb14 hg14 hlt14 hx14
    have hb14 : Blk w14 g14 49 (gcells gk).toArray := by simpa using hb14
    have hx014 := hx011.trans' hx14
    replace hb2 := hb2.ext hx14
    replace hb9 := hb9.ext hx14
    refine go_Tok8 (k := ?_)
    refine OW_apG rfl (l' := [gk]) rfl (hO.ext hx14) (grd_one hb14) (by simp; omega) hx014.size ?_
    intro w15 A15 c15 hO15 hT15 hk15 hbel15
    rw [hgs] at hO15 ⊢
    have hx015 : Ext w w15 := hx014.trans hbel15
    replace hb2 := hT15 _ _ _ (by decide) hb2
    replace hb9 := hT15 _ _ _ (by decide) hb9
    refine go_Tok8 (k := ?_)
    refine OW_storeB one_grants rfl (.slice A15 (gdsA b (k + 1)).length c15) rfl rfl hb9 (by rw [List.size_toArray, hTl]; decide) ?_
    intro w16 hb16 hgr16
    have hb16 : Blk w16 g9 45 (tcells ⟨x0, [], tzS⟩ (.slice A15 (gdsA b (k + 1)).length c15)).toArray := hb16
    have hk16 := Keeps.of_only hgr16 (S := (· = g9)) rfl
    have hx016 : Ext w w16 := hk16.ext hx015 (fun j hj => by have hj : j = g9 := hj; omega)
    replace hb2 := hb2.keeps hk16 hne29
    have hO16 : GOwn w16 w.heap.size A15 c15 (gdsA b (k + 1)) := ownN_keeps hO15 hk16 (hO15.ne hb9 (by decide))
    refine go_Tok8 (k := ?_)
    refine ⟨⟨k + 1, A15, c15, hlt, rfl, rfl, rfl, rfl, rfl, rfl, rfl, hb2, hb16, hO16, ?_, hx016⟩, ?_⟩
    · intro i hi
      by_cases hik : i = k
      · subst hik; exact hfk
      · exact hfi i (by omega)
    · show n - ((k : Int) + 1).toNat < n - (k : Int).toNat
      omega
  · have hge : k = n := by have := of_decide_eq_false hh; omega
    subst hge
    clear hh
    have hgl := gdsA_len b k
    generalize gdsA b k = gs at *
    have hsl : (b.drop (16 + 24 * k)).length = 32 := by rw [List.length_drop]; omega
    have hcut := hbs8.cut c (16 + 24 * k) 32 (by omega)
    rw [List.take_of_length_le (by omega)] at hcut
    generalize b.drop (16 + 24 * k) = tg at *
    obtain ⟨aT, hAT, _⟩ := hcut.at_ (j := 0) (by omega)
    rw [hAT] at hcut
    have hatT : At w8 aT (tg.map bv) := Rd.atL hcut
    have hTl : (tcells ⟨x0, [], tzS⟩ (.slice B gs.length cB)).length = 34 := rfl
    refine go_Tok8 (k := ?_)
    obtain ⟨C, hC⟩ : ∃ C : World → Prop, C = fun v => Ext w8 v := ⟨_, rfl⟩
    refine CW_tree2 [] (.p 0 (.p 1 (.p 2 (.p 3 (.p 4 (.p 5 (.p 6 (.d 7 .done)))))))) (C) (by kernel_rfl) (by kernel_rfl) (by kernel_rfl) ?_ ?_
    · exact inE hC
    intro w9 hx9 h_C
    refine oy_Tok8 (k := ?_)
    apply OY_p _ rfl
    · intro wd
      refine OW_sliceLoB (16 + 24 * k) und_bytes one_u8 rfl rfl (by omega) (by omega) ?_
      refine OW_nil ?_
      exact stay_mk _ _ _ _
    refine oy_Tok8 (k := ?_)
    refine OW_copyR (a := aT) (sLen := b.length - (16 + 24 * k)) (sCap := c - (16 + 24 * k)) und_bytes one_u8 rfl (by rw [← hAT]; rfl) (hb9.ext hx9) (tg.map bv) (At.ext hatT hx9) (by rw [List.length_map, hsl, hlen, show 48 + 24 * k - (16 + 24 * k) = 32 by omega]; rfl) (by rw [List.length_map, hsl, List.size_toArray, hTl]; decide) (bv_one _) ?_
    intro w10 hb10 hgr10
    rw [List.length_map, hsl] at hb10
    have hb10' : Blk w10 g9 45 ((tcells ⟨x0, [], tzS⟩ (.slice B gs.length cB)).take 2 ++ tg.map bv ++ (tcells ⟨x0, [], tzS⟩ (.slice B gs.length cB)).drop (2 + 32)).toArray := hb10
    rw [set_tag _ _ _ rfl] at hb10'
    have hb10 : Blk w10 g9 45 (tcells ⟨x0, gs, tg⟩ (.slice B gs.length cB)).toArray := hb10'
    have hk10 := Keeps.of_only hgr10 (S := (· = g9)) rfl
    have hx010 : Ext w w10 := hk10.ext (hx08.trans' hx9) (fun j hj => by have hj : j = g9 := hj; omega)
    replace hb2 := (hb2.ext hx9).keeps hk10 hne29
    have hO10 : GOwn w10 w.heap.size B cB gs := ownN_keeps (hO.ext hx9) hk10 (hO.ne hb9 (by decide))
    refine OW_nil (goY_drop (fun v => v = w10) rfl ?_)
    refine oy_Tok8 (k := ?_)
    refine go_Tok8 (k := ?_)
    refine OW_loadX agg_Token rfl (tcells ⟨x0, gs, tg⟩ (.slice B gs.length cB)) (tcells_length hsl _) hb10.atL ?_
    refine go_Tok8 (k := ?_)
    refine OW_callV Try.func75 (by kernel_rfl) rfl (tMay_any w10 ⟨x0, gs, tg⟩ B cB hO10.rd (by show gs.length ≤ 1000000; omega)) rfl ?_
    intro w11 hx11
    replace hb2 := hb2.ext hx11
    replace hb10 := hb10.ext hx11
    have hx011 := hx010.trans' hx11
    cases hmt : mayT ⟨x0, gs, tg⟩ with
    | false =>
      have hbd := hbadR (fun h => by have h7 := h.2.2.2.2.2.2; rw [hrd, hmt] at h7; exact absurd h7 (by decide))
      refine go_Tok8 (k := ?_)
      refine OW_callF Try.func88 (by kernel_rfl) rfl (caps := []) rfl (args' := []) (hnone w11) rfl ?_
      rintro en w14 ⟨rfl, hx14⟩
      refine ⟨_, rfl, ?_⟩
      refine go_Tok8 (k := ?_)
      refine OW_storeA agg_Token rfl (tcells t0 (.slice none 0 0)) rfl rfl (hb2.ext hx14) (by kernel_rfl) (tcells_one _ _ _ _) ?_
      intro w15 hb15 hgr15
      refine go_Tok8 (k := ?_)
      exact bodyE_retc2 rfl agg_Token rfl (tcells t0 (.slice none 0 0)) (.int .i64 90) rfl rfl (Blk.range hb15) (hbd w14 (hx011.trans' hx14) w15 hgr15)
    | true =>
      have hpar : parT b = (⟨x0, gs, tg⟩, 0) := by
        rw [good_yes ⟨h48, k0, by rw [hn]; exact n1, by rw [hn]; exact n4, by rw [hn]; exact hlen, by rw [hn]; exact hfi, by rw [hrd]; exact hmt⟩, hrd]
      rw [hpar]
      refine go_Tok8 (k := ?_)
      refine OW_loadX agg_Token rfl (tcells ⟨x0, gs, tg⟩ (.slice B gs.length cB)) (tcells_length hsl _) hb10.atL ?_
      refine go_Tok8 (k := ?_)
      refine OW_storeA agg_Token rfl (tcells ⟨x0, gs, tg⟩ (.slice B gs.length cB)) rfl (tcells_length hsl _) hb2 (by kernel_rfl) (tcells_one _ _ _ _) ?_
      intro w12 hb12 hgr12
      have hk12 := Keeps.of_only hgr12 (S := (· = g2)) rfl
      have hx012 : Ext w w12 := hk12.ext hx011 (fun j hj => by have hj : j = g2 := hj; omega)
      have hO12 : GOwn w12 w.heap.size B cB gs := ownN_keeps (hO10.ext hx11) hk12 ((hO10.ext hx11).ne hb2 (by decide))
      refine go_Tok8 (k := ?_)
      exact bodyE_retc2 rfl agg_Token rfl (tcells ⟨x0, gs, tg⟩ (.slice B gs.length cB)) (.int .i64 0) rfl (tcells_length hsl _) (Blk.range hb12) ⟨B, cB, rfl, hO12, hx012⟩
end Go.Proofs.Ytdpcahfgdpikfaa
