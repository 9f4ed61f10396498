/- Several texts in one, as they stand in wip/src. -/
import Derived.Test.YtdpcahfgdpikfaaGt13
import Derived.Test.YtdpcahfgdpikfaaGt19
import Derived.Test.YtdpcahfgdpikfaaGt25
/- Walks: bytes read as a token, by the reference. -/
namespace Go.Proofs.Ytdpcahfgdpikfaa
open Go Go.RowKit Go.ChangeShapes Go.WideShapes
set_option linter.unusedVariables false
set_option maxRecDepth 4000
theorem go_Tok9 {A B : Prop} (h : Held B → A := by
  intro hEnd
  repeat (first | refine OW_slicePOT a_slp_TagT rfl ?_ | refine OW_build _ _ (bld_G3 _ _ _) rfl ?_ | refine OW_build _ _ (bld_T1 _) rfl ?_ | refine OW_neqIF rfl rfl (by assumption) ?_ | refine OW_neqIT rfl rfl (by assumption) ?_ | refine OW_idxS und_bytes one_u8 rfl rfl _ rfl (by omega) ?_ | refine OW_fieldB fldo_G0 rfl ?_ | refine OW_fieldB fldo_G1 rfl ?_ | refine OW_fieldB fldo_G2 rfl ?_ | refine OW_fieldB fldo_T0 rfl ?_ | refine OW_fieldB fldo_T1 rfl ?_ | refine OW_fieldB fldo_T2 rfl ?_ | refine OW_lenS und_Grants rfl ?_ | refine OW_moveV (.int _ _) rfl ?_ | refine OW_moveV (.slice _ _ _) rfl ?_ | refine OW_moveV (.bool _) rfl ?_ | refine OW_moveV (.pointer _) rfl ?_ | refine OW_moveV (.string _) rfl ?_ | refine OW_moveV (.agg _) rfl ?_ | refine OW_moveV (.tuple _) rfl ?_ | refine OW_nil ?_ | refine thenE_normal ?_ | refine CW_seq ?_ | refine CW_region (by kernel_rfl) ?_ | refine OW_assignV (.int _ _) rfl ?_ | refine OW_assignV (.slice _ _ _) rfl ?_ | refine OW_assignV (.bool _) rfl ?_ | refine OW_assignV (.pointer _) rfl ?_ | refine OW_assignV (.string _) rfl ?_ | refine OW_assignV (.agg _) rfl ?_ | refine OW_assignV (.tuple _) rfl ?_ | refine OW_addI rfl rfl (by omega) ?_ | refine OW_subI rfl rfl (by omega) ?_ | refine OW_mulI rfl rfl (by omega) ?_ | refine OW_lss rfl rfl ?_ | refine OW_extract rfl rfl ?_ | refine OW_gtr rfl rfl ?_ | refine OW_leq rfl rfl ?_ | refine OW_geq rfl rfl ?_ | refine OW_eql rfl rfl ?_ | refine OW_neq rfl rfl ?_ | refine OW_not rfl ?_ | refine OW_pickT rfl _ rfl ?_ | refine OW_pickF rfl (.bool _) rfl ?_ | refine OW_pickB rfl rfl rfl ?_ | refine OW_move ?_ | refine OW_assign ?_ | refine OW_pass rfl ?_ | refine OW_take rfl ?_ | refine OW_lenS (by first | with_reducible exact und_bytes | with_reducible exact und_bytess) rfl ?_ | refine OW_convInt (by first | with_reducible exact und_u8 | with_reducible exact und_u64 | with_reducible exact und_int | with_reducible exact und_u32) (by first | with_reducible exact und_u8 | with_reducible exact und_u64 | with_reducible exact und_int | with_reducible exact und_u32) rfl ?_ | refine OW_add rfl rfl ?_ | refine OW_sub rfl rfl ?_ | refine OW_mul rfl rfl ?_ | refine OW_min2 rfl rfl ?_ | refine OW_max2 rfl rfl ?_ | refine OW_neg rfl ?_ | refine CW_block ?_ | refine CW_condT rfl ?_ | refine CW_condF rfl ?_ | refine CW_exit ?_ | refine CW_ret ?_ | refine CW_skip ?_ | refine LW_seq ?_ | refine LW_regC ?_ | refine LW_condC ?_ | refine LW_regF ?_ | refine LW_condF ?_ | refine FW_seq ?_ | refine FW_region (by kernel_rfl) ?_ | refine FW_block ?_ | refine FW_condT rfl ?_ | refine FW_condF rfl ?_ | refine FW_exit ?_ | refine FW_ret ?_ | refine FW_skip ?_ | refine LW_ret ?_ | refine LW_skip ?_ | refine thenE_exit ?_ | refine thenE_ret ?_ | refine inBlockE_normal ?_ | refine inBlockE_same ?_ | refine inBlockE_ret ?_ | refine inBlockE_ne (by rfl) ?_ | refine OW_eqlB (by with_reducible exact und_bool) rfl rfl ?_ | refine OW_neqB (by with_reducible exact und_bool) rfl rfl ?_ | refine OW_idxS (by with_reducible exact und_bytes) one_u8 rfl rfl _ rfl (by omega) ?_ | refine OW_idxS (by with_reducible exact und_bytess) one_bytes rfl rfl _ rfl (by omega) ?_ | refine OW_load1 (by first | with_reducible exact one_u8 | with_reducible exact one_bytes) rfl _ (by assumption) ?_ | (refine OW_isLoad ?_; refine OW_loadBk (by first | with_reducible exact s_int | with_reducible exact one_u8 | with_reducible exact one_grants) rfl (by assumption) _ (by rfl) ?_) | refine OW_load1 one_u8 rfl _ (by assumption) ?_)
  exact hEnd.out) (k : B) : A := h ⟨k⟩
theorem oy_Tok9 {A B : Prop} (h : Held B → A := by
  intro hEnd
  repeat (first
    | refine OY_done ?_
    | (apply OY_p _ rfl
       · intro wd
         (first | refine OW_slicePOT a_slp_TagT rfl ?_ | refine OW_build _ _ (bld_G3 _ _ _) rfl ?_ | refine OW_build _ _ (bld_T1 _) rfl ?_ | refine OW_neqIF rfl rfl (by assumption) ?_ | refine OW_neqIT rfl rfl (by assumption) ?_ | refine OW_idxS und_bytes one_u8 rfl rfl _ rfl (by omega) ?_ | refine OW_fieldB fldo_G0 rfl ?_ | refine OW_fieldB fldo_G1 rfl ?_ | refine OW_fieldB fldo_G2 rfl ?_ | refine OW_fieldB fldo_T0 rfl ?_ | refine OW_fieldB fldo_T1 rfl ?_ | refine OW_fieldB fldo_T2 rfl ?_ | refine OW_lenS und_Grants rfl ?_ | refine OW_moveV (.int _ _) rfl ?_ | refine OW_moveV (.slice _ _ _) rfl ?_ | refine OW_moveV (.bool _) rfl ?_ | refine OW_moveV (.pointer _) rfl ?_ | refine OW_moveV (.string _) rfl ?_ | refine OW_moveV (.agg _) rfl ?_ | refine OW_moveV (.tuple _) rfl ?_ | refine OW_nil ?_ | refine thenE_normal ?_ | refine CW_seq ?_ | refine CW_region (by kernel_rfl) ?_ | refine OW_assignV (.int _ _) rfl ?_ | refine OW_assignV (.slice _ _ _) rfl ?_ | refine OW_assignV (.bool _) rfl ?_ | refine OW_assignV (.pointer _) rfl ?_ | refine OW_assignV (.string _) rfl ?_ | refine OW_assignV (.agg _) rfl ?_ | refine OW_assignV (.tuple _) rfl ?_ | refine OW_addI rfl rfl (by omega) ?_ | refine OW_subI rfl rfl (by omega) ?_ | refine OW_mulI rfl rfl (by omega) ?_ | refine OW_lss rfl rfl ?_ | refine OW_extract rfl rfl ?_ | refine OW_gtr rfl rfl ?_ | refine OW_leq rfl rfl ?_ | refine OW_geq rfl rfl ?_ | refine OW_eql rfl rfl ?_ | refine OW_neq rfl rfl ?_ | refine OW_not rfl ?_ | refine OW_pickT rfl _ rfl ?_ | refine OW_pickF rfl (.bool _) rfl ?_ | refine OW_pickB rfl rfl rfl ?_ | refine OW_move ?_ | refine OW_assign ?_ | refine OW_pass rfl ?_ | refine OW_take rfl ?_ | refine OW_lenS (by first | with_reducible exact und_bytes | with_reducible exact und_bytess) rfl ?_ | refine OW_convInt (by first | with_reducible exact und_u8 | with_reducible exact und_u64 | with_reducible exact und_int | with_reducible exact und_u32) (by first | with_reducible exact und_u8 | with_reducible exact und_u64 | with_reducible exact und_int | with_reducible exact und_u32) rfl ?_ | refine OW_add rfl rfl ?_ | refine OW_sub rfl rfl ?_ | refine OW_mul rfl rfl ?_ | refine OW_min2 rfl rfl ?_ | refine OW_max2 rfl rfl ?_ | refine OW_neg rfl ?_ | refine CW_block ?_ | refine CW_condT rfl ?_ | refine CW_condF rfl ?_ | refine CW_exit ?_ | refine CW_ret ?_ | refine CW_skip ?_ | refine LW_seq ?_ | refine LW_regC ?_ | refine LW_condC ?_ | refine LW_regF ?_ | refine LW_condF ?_ | refine FW_seq ?_ | refine FW_region (by kernel_rfl) ?_ | refine FW_block ?_ | refine FW_condT rfl ?_ | refine FW_condF rfl ?_ | refine FW_exit ?_ | refine FW_ret ?_ | refine FW_skip ?_ | refine LW_ret ?_ | refine LW_skip ?_ | refine thenE_exit ?_ | refine thenE_ret ?_ | refine inBlockE_normal ?_ | refine inBlockE_same ?_ | refine inBlockE_ret ?_ | refine inBlockE_ne (by rfl) ?_ | refine OW_eqlB (by with_reducible exact und_bool) rfl rfl ?_ | refine OW_neqB (by with_reducible exact und_bool) rfl rfl ?_ | refine OW_idxS (by with_reducible exact und_bytes) one_u8 rfl rfl _ rfl (by omega) ?_ | refine OW_idxS (by with_reducible exact und_bytess) one_bytes rfl rfl _ rfl (by omega) ?_ | refine OW_load1 (by first | with_reducible exact one_u8 | with_reducible exact one_bytes) rfl _ (by assumption) ?_ | (refine OW_isLoad ?_; refine OW_loadBk (by first | with_reducible exact s_int | with_reducible exact one_u8 | with_reducible exact one_grants) rfl (by assumption) _ (by rfl) ?_) | refine OW_load1 one_u8 rfl _ (by assumption) ?_)
         refine OW_nil ?_
         exact stay_mk _ _ _ _)
    | (apply OY_q _ rfl
       · intro wd hwd
         (first | refine OW_slicePOT a_slp_TagT rfl ?_ | refine OW_build _ _ (bld_G3 _ _ _) rfl ?_ | refine OW_build _ _ (bld_T1 _) rfl ?_ | refine OW_neqIF rfl rfl (by assumption) ?_ | refine OW_neqIT rfl rfl (by assumption) ?_ | refine OW_idxS und_bytes one_u8 rfl rfl _ rfl (by omega) ?_ | refine OW_fieldB fldo_G0 rfl ?_ | refine OW_fieldB fldo_G1 rfl ?_ | refine OW_fieldB fldo_G2 rfl ?_ | refine OW_fieldB fldo_T0 rfl ?_ | refine OW_fieldB fldo_T1 rfl ?_ | refine OW_fieldB fldo_T2 rfl ?_ | refine OW_lenS und_Grants rfl ?_ | refine OW_moveV (.int _ _) rfl ?_ | refine OW_moveV (.slice _ _ _) rfl ?_ | refine OW_moveV (.bool _) rfl ?_ | refine OW_moveV (.pointer _) rfl ?_ | refine OW_moveV (.string _) rfl ?_ | refine OW_moveV (.agg _) rfl ?_ | refine OW_moveV (.tuple _) rfl ?_ | refine OW_nil ?_ | refine thenE_normal ?_ | refine CW_seq ?_ | refine CW_region (by kernel_rfl) ?_ | refine OW_assignV (.int _ _) rfl ?_ | refine OW_assignV (.slice _ _ _) rfl ?_ | refine OW_assignV (.bool _) rfl ?_ | refine OW_assignV (.pointer _) rfl ?_ | refine OW_assignV (.string _) rfl ?_ | refine OW_assignV (.agg _) rfl ?_ | refine OW_assignV (.tuple _) rfl ?_ | refine OW_addI rfl rfl (by omega) ?_ | refine OW_subI rfl rfl (by omega) ?_ | refine OW_mulI rfl rfl (by omega) ?_ | refine OW_lss rfl rfl ?_ | refine OW_extract rfl rfl ?_ | refine OW_gtr rfl rfl ?_ | refine OW_leq rfl rfl ?_ | refine OW_geq rfl rfl ?_ | refine OW_eql rfl rfl ?_ | refine OW_neq rfl rfl ?_ | refine OW_not rfl ?_ | refine OW_pickT rfl _ rfl ?_ | refine OW_pickF rfl (.bool _) rfl ?_ | refine OW_pickB rfl rfl rfl ?_ | refine OW_move ?_ | refine OW_assign ?_ | refine OW_pass rfl ?_ | refine OW_take rfl ?_ | refine OW_lenS (by first | with_reducible exact und_bytes | with_reducible exact und_bytess) rfl ?_ | refine OW_convInt (by first | with_reducible exact und_u8 | with_reducible exact und_u64 | with_reducible exact und_int | with_reducible exact und_u32) (by first | with_reducible exact und_u8 | with_reducible exact und_u64 | with_reducible exact und_int | with_reducible exact und_u32) rfl ?_ | refine OW_add rfl rfl ?_ | refine OW_sub rfl rfl ?_ | refine OW_mul rfl rfl ?_ | refine OW_min2 rfl rfl ?_ | refine OW_max2 rfl rfl ?_ | refine OW_neg rfl ?_ | refine CW_block ?_ | refine CW_condT rfl ?_ | refine CW_condF rfl ?_ | refine CW_exit ?_ | refine CW_ret ?_ | refine CW_skip ?_ | refine LW_seq ?_ | refine LW_regC ?_ | refine LW_condC ?_ | refine LW_regF ?_ | refine LW_condF ?_ | refine FW_seq ?_ | refine FW_region (by kernel_rfl) ?_ | refine FW_block ?_ | refine FW_condT rfl ?_ | refine FW_condF rfl ?_ | refine FW_exit ?_ | refine FW_ret ?_ | refine FW_skip ?_ | refine LW_ret ?_ | refine LW_skip ?_ | refine thenE_exit ?_ | refine thenE_ret ?_ | refine inBlockE_normal ?_ | refine inBlockE_same ?_ | refine inBlockE_ret ?_ | refine inBlockE_ne (by rfl) ?_ | refine OW_eqlB (by with_reducible exact und_bool) rfl rfl ?_ | refine OW_neqB (by with_reducible exact und_bool) rfl rfl ?_ | refine OW_idxS (by with_reducible exact und_bytes) one_u8 rfl rfl _ rfl (by omega) ?_ | refine OW_idxS (by with_reducible exact und_bytess) one_bytes rfl rfl _ rfl (by omega) ?_ | refine OW_load1 (by first | with_reducible exact one_u8 | with_reducible exact one_bytes) rfl _ (by assumption) ?_ | (refine OW_isLoad ?_; refine OW_loadBk (by first | with_reducible exact s_int | with_reducible exact one_u8 | with_reducible exact one_grants) rfl (by assumption) _ (by rfl) ?_) | refine OW_load1 one_u8 rfl _ (by assumption) ?_ | (refine OW_isLoad ?_; refine OW_loadBk (by first | with_reducible exact one_u8 | with_reducible exact one_bytes | with_reducible exact one_bool | with_reducible exact one_int | with_reducible exact one_errno | with_reducible exact one_u32 | with_reducible exact one_u64 | with_reducible exact one_string | with_reducible exact s_int | with_reducible exact one_u8 | with_reducible exact one_grants) rfl (by apply_assumption; assumption) _ (by first | assumption | rfl) ?_) | refine OW_load1 (by first | with_reducible exact one_u8 | with_reducible exact one_bytes | with_reducible exact one_bool | with_reducible exact one_int | with_reducible exact one_errno | with_reducible exact one_u32 | with_reducible exact one_u64 | with_reducible exact one_string | with_reducible exact s_int | with_reducible exact one_u8 | with_reducible exact one_grants) rfl _ (by apply_assumption; assumption) ?_)
         refine OW_nil ?_
         exact stay_mk _ _ _ _)
    | refine OY_ppass rfl rfl ?_
    | refine OY_qpass rfl rfl ?_
    | (apply OY_ptake _ rfl rfl
       · intro wd
         (first | refine OW_slicePOT a_slp_TagT rfl ?_ | refine OW_build _ _ (bld_G3 _ _ _) rfl ?_ | refine OW_build _ _ (bld_T1 _) rfl ?_ | refine OW_neqIF rfl rfl (by assumption) ?_ | refine OW_neqIT rfl rfl (by assumption) ?_ | refine OW_idxS und_bytes one_u8 rfl rfl _ rfl (by omega) ?_ | refine OW_fieldB fldo_G0 rfl ?_ | refine OW_fieldB fldo_G1 rfl ?_ | refine OW_fieldB fldo_G2 rfl ?_ | refine OW_fieldB fldo_T0 rfl ?_ | refine OW_fieldB fldo_T1 rfl ?_ | refine OW_fieldB fldo_T2 rfl ?_ | refine OW_lenS und_Grants rfl ?_ | refine OW_moveV (.int _ _) rfl ?_ | refine OW_moveV (.slice _ _ _) rfl ?_ | refine OW_moveV (.bool _) rfl ?_ | refine OW_moveV (.pointer _) rfl ?_ | refine OW_moveV (.string _) rfl ?_ | refine OW_moveV (.agg _) rfl ?_ | refine OW_moveV (.tuple _) rfl ?_ | refine OW_nil ?_ | refine thenE_normal ?_ | refine CW_seq ?_ | refine CW_region (by kernel_rfl) ?_ | refine OW_assignV (.int _ _) rfl ?_ | refine OW_assignV (.slice _ _ _) rfl ?_ | refine OW_assignV (.bool _) rfl ?_ | refine OW_assignV (.pointer _) rfl ?_ | refine OW_assignV (.string _) rfl ?_ | refine OW_assignV (.agg _) rfl ?_ | refine OW_assignV (.tuple _) rfl ?_ | refine OW_addI rfl rfl (by omega) ?_ | refine OW_subI rfl rfl (by omega) ?_ | refine OW_mulI rfl rfl (by omega) ?_ | refine OW_lss rfl rfl ?_ | refine OW_extract rfl rfl ?_ | refine OW_gtr rfl rfl ?_ | refine OW_leq rfl rfl ?_ | refine OW_geq rfl rfl ?_ | refine OW_eql rfl rfl ?_ | refine OW_neq rfl rfl ?_ | refine OW_not rfl ?_ | refine OW_pickT rfl _ rfl ?_ | refine OW_pickF rfl (.bool _) rfl ?_ | refine OW_pickB rfl rfl rfl ?_ | refine OW_move ?_ | refine OW_assign ?_ | refine OW_pass rfl ?_ | refine OW_take rfl ?_ | refine OW_lenS (by first | with_reducible exact und_bytes | with_reducible exact und_bytess) rfl ?_ | refine OW_convInt (by first | with_reducible exact und_u8 | with_reducible exact und_u64 | with_reducible exact und_int | with_reducible exact und_u32) (by first | with_reducible exact und_u8 | with_reducible exact und_u64 | with_reducible exact und_int | with_reducible exact und_u32) rfl ?_ | refine OW_add rfl rfl ?_ | refine OW_sub rfl rfl ?_ | refine OW_mul rfl rfl ?_ | refine OW_min2 rfl rfl ?_ | refine OW_max2 rfl rfl ?_ | refine OW_neg rfl ?_ | refine CW_block ?_ | refine CW_condT rfl ?_ | refine CW_condF rfl ?_ | refine CW_exit ?_ | refine CW_ret ?_ | refine CW_skip ?_ | refine LW_seq ?_ | refine LW_regC ?_ | refine LW_condC ?_ | refine LW_regF ?_ | refine LW_condF ?_ | refine FW_seq ?_ | refine FW_region (by kernel_rfl) ?_ | refine FW_block ?_ | refine FW_condT rfl ?_ | refine FW_condF rfl ?_ | refine FW_exit ?_ | refine FW_ret ?_ | refine FW_skip ?_ | refine LW_ret ?_ | refine LW_skip ?_ | refine thenE_exit ?_ | refine thenE_ret ?_ | refine inBlockE_normal ?_ | refine inBlockE_same ?_ | refine inBlockE_ret ?_ | refine inBlockE_ne (by rfl) ?_ | refine OW_eqlB (by with_reducible exact und_bool) rfl rfl ?_ | refine OW_neqB (by with_reducible exact und_bool) rfl rfl ?_ | refine OW_idxS (by with_reducible exact und_bytes) one_u8 rfl rfl _ rfl (by omega) ?_ | refine OW_idxS (by with_reducible exact und_bytess) one_bytes rfl rfl _ rfl (by omega) ?_ | refine OW_load1 (by first | with_reducible exact one_u8 | with_reducible exact one_bytes) rfl _ (by assumption) ?_ | (refine OW_isLoad ?_; refine OW_loadBk (by first | with_reducible exact s_int | with_reducible exact one_u8 | with_reducible exact one_grants) rfl (by assumption) _ (by rfl) ?_) | refine OW_load1 one_u8 rfl _ (by assumption) ?_)
         refine OW_nil ?_
         exact stay_mk _ _ _ _)
    | (apply OY_qtake _ rfl rfl
       · intro wd hwd
         (first | refine OW_slicePOT a_slp_TagT rfl ?_ | refine OW_build _ _ (bld_G3 _ _ _) rfl ?_ | refine OW_build _ _ (bld_T1 _) rfl ?_ | refine OW_neqIF rfl rfl (by assumption) ?_ | refine OW_neqIT rfl rfl (by assumption) ?_ | refine OW_idxS und_bytes one_u8 rfl rfl _ rfl (by omega) ?_ | refine OW_fieldB fldo_G0 rfl ?_ | refine OW_fieldB fldo_G1 rfl ?_ | refine OW_fieldB fldo_G2 rfl ?_ | refine OW_fieldB fldo_T0 rfl ?_ | refine OW_fieldB fldo_T1 rfl ?_ | refine OW_fieldB fldo_T2 rfl ?_ | refine OW_lenS und_Grants rfl ?_ | refine OW_moveV (.int _ _) rfl ?_ | refine OW_moveV (.slice _ _ _) rfl ?_ | refine OW_moveV (.bool _) rfl ?_ | refine OW_moveV (.pointer _) rfl ?_ | refine OW_moveV (.string _) rfl ?_ | refine OW_moveV (.agg _) rfl ?_ | refine OW_moveV (.tuple _) rfl ?_ | refine OW_nil ?_ | refine thenE_normal ?_ | refine CW_seq ?_ | refine CW_region (by kernel_rfl) ?_ | refine OW_assignV (.int _ _) rfl ?_ | refine OW_assignV (.slice _ _ _) rfl ?_ | refine OW_assignV (.bool _) rfl ?_ | refine OW_assignV (.pointer _) rfl ?_ | refine OW_assignV (.string _) rfl ?_ | refine OW_assignV (.agg _) rfl ?_ | refine OW_assignV (.tuple _) rfl ?_ | refine OW_addI rfl rfl (by omega) ?_ | refine OW_subI rfl rfl (by omega) ?_ | refine OW_mulI rfl rfl (by omega) ?_ | refine OW_lss rfl rfl ?_ | refine OW_extract rfl rfl ?_ | refine OW_gtr rfl rfl ?_ | refine OW_leq rfl rfl ?_ | refine OW_geq rfl rfl ?_ | refine OW_eql rfl rfl ?_ | refine OW_neq rfl rfl ?_ | refine OW_not rfl ?_ | refine OW_pickT rfl _ rfl ?_ | refine OW_pickF rfl (.bool _) rfl ?_ | refine OW_pickB rfl rfl rfl ?_ | refine OW_move ?_ | refine OW_assign ?_ | refine OW_pass rfl ?_ | refine OW_take rfl ?_ | refine OW_lenS (by first | with_reducible exact und_bytes | with_reducible exact und_bytess) rfl ?_ | refine OW_convInt (by first | with_reducible exact und_u8 | with_reducible exact und_u64 | with_reducible exact und_int | with_reducible exact und_u32) (by first | with_reducible exact und_u8 | with_reducible exact und_u64 | with_reducible exact und_int | with_reducible exact und_u32) rfl ?_ | refine OW_add rfl rfl ?_ | refine OW_sub rfl rfl ?_ | refine OW_mul rfl rfl ?_ | refine OW_min2 rfl rfl ?_ | refine OW_max2 rfl rfl ?_ | refine OW_neg rfl ?_ | refine CW_block ?_ | refine CW_condT rfl ?_ | refine CW_condF rfl ?_ | refine CW_exit ?_ | refine CW_ret ?_ | refine CW_skip ?_ | refine LW_seq ?_ | refine LW_regC ?_ | refine LW_condC ?_ | refine LW_regF ?_ | refine LW_condF ?_ | refine FW_seq ?_ | refine FW_region (by kernel_rfl) ?_ | refine FW_block ?_ | refine FW_condT rfl ?_ | refine FW_condF rfl ?_ | refine FW_exit ?_ | refine FW_ret ?_ | refine FW_skip ?_ | refine LW_ret ?_ | refine LW_skip ?_ | refine thenE_exit ?_ | refine thenE_ret ?_ | refine inBlockE_normal ?_ | refine inBlockE_same ?_ | refine inBlockE_ret ?_ | refine inBlockE_ne (by rfl) ?_ | refine OW_eqlB (by with_reducible exact und_bool) rfl rfl ?_ | refine OW_neqB (by with_reducible exact und_bool) rfl rfl ?_ | refine OW_idxS (by with_reducible exact und_bytes) one_u8 rfl rfl _ rfl (by omega) ?_ | refine OW_idxS (by with_reducible exact und_bytess) one_bytes rfl rfl _ rfl (by omega) ?_ | refine OW_load1 (by first | with_reducible exact one_u8 | with_reducible exact one_bytes) rfl _ (by assumption) ?_ | (refine OW_isLoad ?_; refine OW_loadBk (by first | with_reducible exact s_int | with_reducible exact one_u8 | with_reducible exact one_grants) rfl (by assumption) _ (by rfl) ?_) | refine OW_load1 one_u8 rfl _ (by assumption) ?_ | (refine OW_isLoad ?_; refine OW_loadBk (by first | with_reducible exact one_u8 | with_reducible exact one_bytes | with_reducible exact one_bool | with_reducible exact one_int | with_reducible exact one_errno | with_reducible exact one_u32 | with_reducible exact one_u64 | with_reducible exact one_string | with_reducible exact s_int | with_reducible exact one_u8 | with_reducible exact one_grants) rfl (by apply_assumption; assumption) _ (by first | assumption | rfl) ?_) | refine OW_load1 (by first | with_reducible exact one_u8 | with_reducible exact one_bytes | with_reducible exact one_bool | with_reducible exact one_int | with_reducible exact one_errno | with_reducible exact one_u32 | with_reducible exact one_u64 | with_reducible exact one_string | with_reducible exact s_int | with_reducible exact one_u8 | with_reducible exact one_grants) rfl _ (by apply_assumption; assumption) ?_)
         refine OW_nil ?_
         exact stay_mk _ _ _ _)
    | refine OY_a (actY_of rfl ?_)
    | refine OY_d (actY_of rfl ?_)
    | refine OY_a (actY_pass rfl rfl ?_)
    | refine OY_d (actY_pass rfl rfl ?_)
    | refine OY_a (actY_take rfl rfl ?_)
    | refine OY_d (actY_take rfl rfl ?_))
  exact hEnd.out) (k : B) : A := h ⟨k⟩
set_option maxHeartbeats 8000000 in
theorem refAt_any (w : World) (A : Option Addr) (c : Nat) (b : List UInt8) (at_ : Int) (i : Nat) (hi : at_ = (i : Int)) (ha : Bs w A b) (hl : b.length ≤ 100000) (hil : i ≤ 1000000) :
    Calls Try.prog 90 #[.slice A b.length c, .int .i64 at_] w (RetV w (.int .i64 (atI b i))) := by
  subst hi
  obtain ⟨s, hs⟩ : ∃ s, (b.drop i).take 8 = s := ⟨_, rfl⟩
  have hat : atI b i = atF 0 s := by rw [← hs]; rfl
  have hsl : s.length = min 8 (b.length - i) := by rw [← hs, List.length_take, List.length_drop]
  have hget : ∀ k (hk : k < s.length), ∃ hk2 : i + k < b.length, s[k] = b[i + k] := fun k hk => by
    have hk2 : i + k < b.length := by omega
    refine ⟨hk2, ?_⟩
    have h1 : s[k]? = b[i + k]? := by rw [← hs, List.getElem?_take_of_lt (by omega), List.getElem?_drop]
    rw [List.getElem?_eq_getElem hk, List.getElem?_eq_getElem hk2] at h1
    exact Option.some.inj h1
  rw [hat]
  refine calls_of_CW Try.func90 rfl (by simp [Try.ntmps90]) ?_
  rw [Try.ntmps90]
  refine go_Tok9 (k := ?_)
  refine CW_loop (fun e' w' => ∃ (k : Nat) (n : Int), k ≤ s.length ∧ 0 ≤ n ∧ n ≤ 562949953421567 ∧ atF 0 s = atF n (s.drop k) ∧ e' 0 = .slice A b.length c ∧ e' 1 = .int .i64 (i : Int) ∧ e' 5 = .int .i64 n ∧ e' 6 = .int .i64 ((i + k : Nat) : Int) ∧ Ext w w') (fun e' _ => i + 8 - (intOf (e' 6)).toNat) ⟨0, 0, Nat.zero_le _, by omega, by omega, rfl, rfl, rfl, rfl, rfl, Ext.rfl' _⟩ ?_
  rintro e' w1 ⟨k, n, hk, hn0, hn1, hF, q0, q1, q5, q6, hx1⟩
  rw [upd_self q0, upd_self q1, upd_self q5, upd_self q6]
  clear q0 q1 q5 q6
  refine go_Tok9 (k := ?_)
  by_cases hlt : k < s.length
  · obtain ⟨hk2, hc⟩ := hget k hlt
    have d1 : decide (((i + k : Nat) : Int) < (i : Int) + 8) = true := decide_eq_true (by omega)
    have d2 : decide (((i + k : Nat) : Int) < (b.length : Int)) = true := decide_eq_true (by omega)
    obtain ⟨ad, hA, hcell⟩ := (ha.ext hx1).at_ hk2
    rw [← hc] at hcell
    rw [List.drop_eq_getElem_cons hlt, atF] at hF
    generalize s[k] = ch at *
    have hch := ch.toNat_lt
    subst hA
    rw [d1]
    refine go_Tok9 (k := ?_)
    rw [d2]
    refine go_Tok9 (k := ?_)
    refine CW_cond _ rfl (fun hh => ?_) (fun hh => ?_)
    · have := of_decide_eq_true hh
      rw [hF, if_pos this]
      refine go_Tok9 (k := ?_)
      exact bodyE_ret1 rfl (.int .i64 (-1)) rfl ⟨rfl, hx1⟩
    have hle := of_decide_eq_false hh
    rw [if_neg hle] at hF
    clear hh
    refine go_Tok9 (k := ?_)
    rw [i64_b8T, wrap64_in (by omega)]
    refine go_Tok9 (k := ?_)
    refine ⟨⟨k + 1, 256 * n + (ch.toNat : Int), hlt, by omega, by omega, hF, rfl, rfl, rfl, ?_, hx1⟩, ?_⟩
    · show Value.int _ _ = _
      congr 1
    · show i + 8 - (((i + k : Nat) : Int) + 1).toNat < i + 8 - ((i + k : Nat) : Int).toNat
      omega
  · have hd : s.drop k = [] := List.drop_of_length_le (by omega)
    rw [hd, atF] at hF
    rw [hF]
    by_cases h8 : k < 8
    · have d1 : decide (((i + k : Nat) : Int) < (i : Int) + 8) = true := decide_eq_true (by omega)
      have d2 : decide (((i + k : Nat) : Int) < (b.length : Int)) = false := decide_eq_false (by omega)
      rw [d1]
      refine go_Tok9 (k := ?_)
      rw [d2]
      refine go_Tok9 (k := ?_)
      exact bodyE_ret1 rfl (.int .i64 n) rfl ⟨rfl, hx1⟩
    · have d1 : decide (((i + k : Nat) : Int) < (i : Int) + 8) = false := decide_eq_false (by omega)
      rw [d1]
      refine go_Tok9 (k := ?_)
      exact bodyE_ret1 rfl (.int .i64 n) rfl ⟨rfl, hx1⟩
/-- The grants, the tag that are read so far. -/
def gdsR (b : List UInt8) (k : Nat) : List GD := (List.range k).map (gdR b)
theorem gdsR_len (b : List UInt8) (k : Nat) : (gdsR b k).length = k := by simp [gdsR]
theorem gdsR_succ (b : List UInt8) (k : Nat) : gdsR b k ++ [gdR b k] = gdsR b (k + 1) := by simp [gdsR, List.range_succ]
def tgR (l : List UInt8) (j : Nat) : List UInt8 := l.take j ++ List.replicate (32 - j) 0
theorem tgR_len {l : List UInt8} (h : l.length = 32) {j : Nat} (hj : j ≤ 32) : (tgR l j).length = 32 := by
  unfold tgR
  rw [List.length_append, List.length_take, List.length_replicate, h]
  omega
theorem tgR_set {l : List UInt8} (h : l.length = 32) {j : Nat} (hj : j < 32) : (tgR l j).set j (l[j]'(by omega)) = tgR l (j + 1) := by
  unfold tgR
  have ht : (l.take j).length = j := by rw [List.length_take]; omega
  rw [List.set_append_right _ _ (by omega), ht, Nat.sub_self, show 32 - j = (32 - (j + 1)) + 1 by omega, List.replicate_succ, List.set_cons_zero, List.take_succ_eq_append_getElem (by omega), List.append_assoc]
  rfl
theorem tgR_end {l : List UInt8} (h : l.length = 32) : tgR l 32 = l := by
  unfold tgR
  rw [List.take_of_length_le (by omega)]
  simp
theorem tcells_set (t : TK) (v : Value) (j : Nat) (c : UInt8) : (tcells t v).set (2 + j) (bv c) = tcells { t with tag := t.tag.set j c } v := by
  unfold tcells
  rw [Nat.add_comm 2 j, List.set_cons_succ, List.set_cons_succ, List.map_set]
set_option maxHeartbeats 8000000 in
theorem refParseT_any (w : World) (A : Option Addr) (c : Nat) (b : List UInt8) (ha : Bs w A b) (hl : b.length ≤ 100000) : Calls Try.prog 47 #[.slice A b.length c] w (TRet w (parT b)) := by
  refine calls_of_CW Try.func47 rfl (by simp [Try.ntmps47]) ?_
  rw [Try.ntmps47]
  refine go_Tok9 (k := ?_)
  refine OW_allocA agg_Token ?_
  intro w1 g2 hb2 hg2 hlt2 hx1
  have hbadR : ¬ goodR b → ∀ w6, Ext w w6 → ∀ w7, w6.grownBy w7 (some g2) → TRet w (parT b) (.returned (.tuple #[.agg (tcells t0 (.slice none 0 0)).toArray, .int .i64 90])) w7 := by
    intro h w6 hx6 w7 hgr
    rw [parR_no h]
    exact ⟨none, 0, rfl, GOwn.zero _ _, (Keeps.of_only hgr (S := (· = g2)) rfl).ext hx6 (fun j hj => by have hj : j = g2 := hj; omega)⟩
  refine OW_meet (fun e' w' => e' 0 = .slice A b.length c ∧ e' 2 = .pointer (some ⟨g2, 0, none⟩) ∧ w' = w1) ?_ ?_
  · refine go_Tok9 (k := ?_)
    exact ⟨rfl, rfl, rfl, rfl⟩
  rintro e2 w2 ⟨q0, q2, rfl⟩
  rw [upd_self q0, upd_self q2]
  clear q0 q2
  refine go_Tok9 (k := ?_)
  refine OW_meet (fun e' w' => e' 0 = .slice A b.length c ∧ e' 2 = .pointer (some ⟨g2, 0, none⟩) ∧ e' 18 = .bool (!lenR b) ∧ w' = w2) ?_ ?_
  · refine OW_split 13 _ rfl (fun h1 => ?_) (fun h1 => ?_)
    · have hr : lenR b = false := by unfold lenR; rw [decide_eq_false (show ¬ 72 ≤ b.length by have := of_decide_eq_true h1; omega)]; rfl
      rw [hr]
      refine go_Tok9 (k := ?_)
      exact ⟨rfl, rfl, rfl, rfl, rfl⟩
    · have h72 : 72 ≤ b.length := by have := of_decide_eq_false h1; omega
      refine go_Tok9 (k := ?_)
      refine OW_rem rfl rfl (by decide) ?_
      rw [show (b.length : Int).tmod 24 = ((b.length % 24 : Nat) : Int) from rfl]
      by_cases hm : b.length % 24 = 0
      · have hr : lenR b = true := by unfold lenR; rw [decide_eq_true h72, decide_eq_true hm]; rfl
        have hz : ((b.length % 24 : Nat) : Int) = 0 := by omega
        rw [hr]
        refine go_Tok9 (k := ?_)
        exact ⟨rfl, rfl, rfl, rfl, rfl⟩
      · have hr : lenR b = false := by unfold lenR; rw [decide_eq_false hm, Bool.and_false]
        have hz : ¬ ((b.length % 24 : Nat) : Int) = 0 := by omega
        rw [hr]
        refine go_Tok9 (k := ?_)
        exact ⟨rfl, rfl, rfl, rfl, rfl⟩
  rintro e3 w3 ⟨q0, q2, q18, rfl⟩
  rw [upd_self q0, upd_self q2, upd_self q18]
  clear q0 q2 q18
  cases hlr : lenR b with
  | false =>
    have hbd := hbadR (fun h => by rw [h.1] at hlr; exact absurd hlr (by decide))
    refine go_Tok9 (k := ?_)
    refine OW_build _ _ bld_T0 rfl ?_
    refine go_Tok9 (k := ?_)
    refine OW_storeA agg_Token rfl (tcells t0 (.slice none 0 0)) rfl rfl hb2 (by kernel_rfl) (tcells_one _ _ _ _) ?_
    intro w9 hb9 hgr9
    refine go_Tok9 (k := ?_)
    exact bodyE_retc2 rfl agg_Token rfl (tcells t0 (.slice none 0 0)) (.int .i64 90) rfl rfl (Blk.range hb9) (hbd w3 hx1 w9 hgr9)
  | true =>
  have hlr2 := hlr
  unfold lenR at hlr2
  simp only [Bool.and_eq_true, decide_eq_true_eq] at hlr2
  obtain ⟨m, hm⟩ : ∃ m, cntR b = m := ⟨_, rfl⟩
  have hlen : b.length = 48 + 24 * m := by rw [← hm]; unfold cntR; omega
  have hz0 := atI_in b 0
  have hAt0 := fun v (hv : Ext w v) => refAt_any v A c b 0 0 rfl (ha.ext hv) hl (by decide)
  have hrd : readR b = ⟨atI b 0, gdsR b m, b.drop (b.length - 32)⟩ := by unfold readR gdsR; rw [hm]
  generalize atI b 0 = z0 at *
  have hs3 := hx1.size
  refine go_Tok9 (k := ?_)
  refine OW_callV Try.func90 (by kernel_rfl) rfl (hAt0 w3 hx1) rfl ?_
  intro w5 hx5
  refine go_Tok9 (k := ?_)
  refine OW_allocA agg_Token ?_
  intro w6 g4 hb4 hg4 hlt4 hx6
  have hx36 := hx5.trans' hx6
  refine go_Tok9 (k := ?_)
  refine OW_storeA agg_Token rfl (tcells ⟨z0, [], tzS⟩ (.slice none 0 0)) rfl rfl hb4 (by kernel_rfl) (tcells_one _ _ _ _) ?_
  intro w4 hb4 hgr7
  have hx34 : Ext w3 w4 := (Keeps.of_only hgr7 (S := (· = g4)) rfl).ext hx36 (fun j hj => by have hj : j = g4 := hj; have := hx5.size; omega)
  have hs5 := hx5.size
  clear hAt0 hgr7
  have hlb2 := hb2.lt
  have hne24 : ¬ g2 = g4 := by omega
  have hg4w : w.heap.size ≤ g4 := by omega
  replace hb2 := hb2.ext hx34
  have hx04 := hx1.trans' hx34
  refine go_Tok9 (k := ?_)
  refine CW_loop (fun e' w' => ∃ (k : Nat) (B : Option Addr) (cB : Nat), k ≤ m ∧ e' 0 = .slice A b.length c ∧ e' 2 = .pointer (some ⟨g2, 0, none⟩) ∧ e' 4 = .pointer (some ⟨g4, 0, none⟩) ∧ e' 5 = .int .i64 ((16 + 24 * k : Nat) : Int) ∧ Blk w' g2 45 (tcells t0 (.slice none 0 0)).toArray ∧ Blk w' g4 45 (tcells ⟨z0, [], tzS⟩ (.slice B (gdsR b k).length cB)).toArray ∧ GOwn w' w.heap.size B cB (gdsR b k) ∧ (∀ i, i < k → fineR b i = true) ∧ Ext w w') (fun e' _ => 16 + 24 * m - (intOf (e' 5)).toNat) ⟨0, none, 0, Nat.zero_le _, rfl, rfl, rfl, rfl, hb2, hb4, GOwn.zero _ _, fun i hi => absurd hi (Nat.not_lt_zero _), hx04⟩ ?_
  clear hb2 hb4 hx04
  rintro e8 w8 ⟨k, B, cB, hk, q0, q2, q4, q5, hb2, hb4, hO, hfi, hx08⟩
  rw [upd_self q0, upd_self q2, upd_self q4, upd_self q5]
  clear q0 q2 q4 q5
  have hbs8 := ha.ext hx08
  refine go_Tok9 (k := ?_)
  refine CW_cond _ rfl (fun hh => ?_) (fun hh => ?_)
  · have hlt : k < m := by have := of_decide_eq_true hh; omega
    clear hh
    have hgl := gdsR_len b k
    have hgs := gdsR_succ b k
    have hN1 := fun v (hv : Ext w8 v) => refAt_any v A c b ((16 + 24 * k : Nat) : Int) (16 + 24 * k) rfl (hbs8.ext hv) hl (by omega)
    have hN2 := fun v (hv : Ext w8 v) => refAt_any v A c b (((16 + 24 * k : Nat) : Int) + 8) (24 + 24 * k) (by omega) (hbs8.ext hv) hl (by omega)
    have hN3 := fun v (hv : Ext w8 v) => refAt_any v A c b (((16 + 24 * k : Nat) : Int) + 16) (32 + 24 * k) (by omega) (hbs8.ext hv) hl (by omega)
    have hgk : gdR b k = ⟨UInt8.ofNat (atI b (16 + 24 * k)).toNat, atI b (24 + 24 * k), atI b (32 + 24 * k)⟩ := rfl
    have hfr : fineR b k = (decide (0 ≤ atI b (16 + 24 * k)) && decide (atI b (16 + 24 * k) ≤ 15)) := rfl
    have hvi := atI_in b (16 + 24 * k)
    generalize atI b (16 + 24 * k) = vr at *
    generalize atI b (24 + 24 * k) = vx at *
    generalize atI b (32 + 24 * k) = vy at *
    refine go_Tok9 (k := ?_)
    refine OW_callV Try.func90 (by kernel_rfl) rfl (hN1 w8 (Ext.rfl' _)) rfl ?_
    intro w9 hx9
    have hx09 := hx08.trans' hx9
    replace hb2 := hb2.ext hx9
    replace hb4 := hb4.ext hx9
    replace hO := hO.ext hx9
    refine OW_meet (fun e' w' => e' 0 = .slice A b.length c ∧ e' 2 = .pointer (some ⟨g2, 0, none⟩) ∧ e' 4 = .pointer (some ⟨g4, 0, none⟩) ∧ e' 5 = .int .i64 ((16 + 24 * k : Nat) : Int) ∧ e' 6 = .int .i64 vr ∧ w' = w9) ?_ ?_
    · refine go_Tok9 (k := ?_)
      exact ⟨rfl, rfl, rfl, rfl, rfl, rfl, rfl⟩
    rintro e10 w10 ⟨q0, q2, q4, q5, q6, rfl⟩
    rw [upd_self q0, upd_self q2, upd_self q4, upd_self q5, upd_self q6]
    clear q0 q2 q4 q5 q6
    refine go_Tok9 (k := ?_)
    refine OW_meet (fun e' w' => e' 0 = .slice A b.length c ∧ e' 2 = .pointer (some ⟨g2, 0, none⟩) ∧ e' 4 = .pointer (some ⟨g4, 0, none⟩) ∧ e' 5 = .int .i64 ((16 + 24 * k : Nat) : Int) ∧ e' 6 = .int .i64 vr ∧ e' 38 = .bool (!fineR b k) ∧ w' = w10) ?_ ?_
    · refine OW_split 35 _ rfl (fun h1 => ?_) (fun h1 => ?_)
      · have hr : fineR b k = false := by rw [hfr, decide_eq_false (show ¬ 0 ≤ vr by have := of_decide_eq_true h1; omega)]; rfl
        rw [hr]
        refine go_Tok9 (k := ?_)
        exact ⟨rfl, rfl, rfl, rfl, rfl, rfl, rfl, rfl⟩
      · have h0 : 0 ≤ vr := by have := of_decide_eq_false h1; omega
        have hr : (!fineR b k) = decide ((15 : Int) < vr) := by
          rw [hfr, decide_eq_true h0, Bool.true_and, ← decide_not]
          exact decide_eq_decide.2 (by omega)
        rw [hr]
        refine go_Tok9 (k := ?_)
        exact ⟨rfl, rfl, rfl, rfl, rfl, rfl, rfl, rfl⟩
    rintro e11 w11 ⟨q0, q2, q4, q5, q6, q38, rfl⟩
    rw [upd_self q0, upd_self q2, upd_self q4, upd_self q5, upd_self q6, upd_self q38]
    clear q0 q2 q4 q5 q6 q38
    cases hfk : fineR b k with
    | false =>
      have hbd := hbadR (fun h => by have := h.2.1 k (by omega); rw [hfk] at this; exact absurd this (by decide))
      refine go_Tok9 (k := ?_)
      refine OW_build _ _ bld_T0 rfl ?_
      refine go_Tok9 (k := ?_)
      refine OW_storeA agg_Token rfl (tcells t0 (.slice none 0 0)) rfl rfl hb2 (by kernel_rfl) (tcells_one _ _ _ _) ?_
      intro w15 hb15 hgr15
      refine go_Tok9 (k := ?_)
      exact bodyE_retc2 rfl agg_Token rfl (tcells t0 (.slice none 0 0)) (.int .i64 90) rfl rfl (Blk.range hb15) (hbd w11 hx09 w15 hgr15)
    | true =>
    rw [hfr] at hfk
    simp only [Bool.and_eq_true, decide_eq_true_eq] at hfk
    have hfk2 : fineR b k = true := by rw [hfr, decide_eq_true hfk.1, decide_eq_true hfk.2]; rfl
    have hu8 : (Value.int .u8 (IntKind.u8.wrap vr)) = bv (UInt8.ofNat vr.toNat) := by
      obtain ⟨r, hr⟩ : ∃ r : Nat, vr = (r : Int) := ⟨vr.toNat, by omega⟩
      subst hr
      rw [wrap_u8_lt _ (by omega)]
      unfold bv
      rw [UInt8.toNat_ofNat', Int.toNat_natCast, Nat.mod_eq_of_lt (show r < 2 ^ 8 by omega)]
    have hTl : (tcells ⟨z0, [], tzS⟩ (.slice B (gdsR b k).length cB)).length = 34 := rfl
    obtain ⟨gk, hgk2⟩ : ∃ gk, gdR b k = gk := ⟨_, rfl⟩
    rw [hgk2] at hgs hgk
    generalize gdsR b k = gs at *
    refine go_Tok9 (k := ?_)
    obtain ⟨C, hC⟩ : ∃ C : World → Prop, C = fun v => Ext w11 v := ⟨_, rfl⟩
    have y_hb4 := blkE hC hb4
    refine CW_tree2 [1, 3] (.p 0 (.q 1 (.p 2 (.q 3 (.p 4 (.p 5 (.p 6 (.p 8 (.p 9 (.p 10 (.a 7 (.a 11 (.p 12 (.a 13 (.d 14 (.p 15 (.d 16 .done))))))))))))))))) (C) (by kernel_rfl) (by kernel_rfl) (by kernel_rfl) ?_ ?_
    · exact inE hC
    intro w12 hx12 h_C
    refine oy_Tok9 (k := ?_)
    rw [hu8]
    refine OW_callV Try.func90 (by kernel_rfl) rfl (hN2 w12 (hx9.trans' hx12)) rfl ?_
    intro w13 hx13
    have hy13 := hx12.trans' hx13
    first | refine OW_nil (goY_mkE hC (hy13) ?_) | refine OW_nil (goY_dropE hC (hy13) ?_)
    refine oy_Tok9 (k := ?_)
    refine OW_callV Try.func90 (by kernel_rfl) rfl (hN3 w13 (hx9.trans' hy13)) rfl ?_
    intro w14 hx14
    have hy14 := hy13.trans' hx14
    first | refine OW_nil (goY_mkE hC (hy14) ?_) | refine OW_nil (goY_dropE hC (hy14) ?_)
    refine oy_Tok9 (k := ?_)
    rw [← hgk]
    refine OW_litM [gcells gk] und_Grants agg_Grant rfl rfl (by intro v hv; rw [List.mem_singleton] at hv; subst hv; rfl) (by decide) ?_
    intro w15 g15 hb15 hg15 hlt15 hx15
    have hb15 : Blk w15 g15 49 (gcells gk).toArray := by simpa using hb15
    have hy15 := hy14.trans' hx15
    first | refine OW_nil (goY_mkE hC (hy15) ?_) | refine OW_nil (goY_dropE hC (hy15) ?_)
    refine oy_Tok9 (k := ?_)
    refine OW_apG rfl (l' := [gk]) rfl (hO.ext hy15) (grd_one hb15) (by simp; omega) (hx09.trans' hy15).size ?_
    intro w16 A16 c16 hO16 hT16 hk16 hbel16
    rw [hgs] at hO16 ⊢
    have hx016 : Ext w w16 := (hx09.trans' hy15).trans hbel16
    have hb2b := hT16 _ _ _ (by decide) (hb2.ext hy15)
    have hb4b := hT16 _ _ _ (by decide) (hb4.ext hy15)
    refine OW_nil (goY_drop (fun v => v = w16) rfl ?_)
    refine oy_Tok9 (k := ?_)
    refine OW_storeB one_grants rfl (.slice A16 (gdsR b (k + 1)).length c16) rfl rfl hb4b (by rw [List.size_toArray, hTl]; decide) ?_
    intro w17 hb17 hgr17
    have hb17 : Blk w17 g4 45 (tcells ⟨z0, [], tzS⟩ (.slice A16 (gdsR b (k + 1)).length c16)).toArray := hb17
    have hk17 := Keeps.of_only hgr17 (S := (· = g4)) rfl
    have hx017 : Ext w w17 := hk17.ext hx016 (fun j hj => by have hj : j = g4 := hj; omega)
    have hb2c := hb2b.keeps hk17 hne24
    have hO17 : GOwn w17 w.heap.size A16 c16 (gdsR b (k + 1)) := ownN_keeps hO16 hk17 (hO16.ne hb4b (by decide))
    refine OW_nil (goY_drop (fun v => v = w17) rfl ?_)
    refine oy_Tok9 (k := ?_)
    refine go_Tok9 (k := ?_)
    refine ⟨⟨k + 1, A16, c16, hlt, rfl, rfl, rfl, ?_, hb2c, hb17, hO17, ?_, hx017⟩, ?_⟩
    · show Value.int _ _ = _
      congr 1
    · intro i hi
      by_cases hik : i = k
      · subst hik; exact hfk2
      · exact hfi i (by omega)
    · show 16 + 24 * m - (((16 + 24 * k : Nat) : Int) + 24).toNat < 16 + 24 * m - ((16 + 24 * k : Nat) : Int).toNat
      omega
  have hge : k = m := by have := of_decide_eq_false hh; omega
  subst hge
  clear hh hk
  have hgl := gdsR_len b k
  have hfall : ∀ i, i < cntR b → fineR b i = true := by rw [hm]; exact hfi
  generalize gdsR b k = gs at *
  obtain ⟨tg, htg⟩ : ∃ tg, b.drop (b.length - 32) = tg := ⟨_, rfl⟩
  rw [htg] at hrd
  have htl : tg.length = 32 := by rw [← htg, List.length_drop]; omega
  have htget : ∀ j (hj : j < 32), ∃ hj2 : b.length - 32 + j < b.length, tg[j]'(by omega) = b[b.length - 32 + j] := fun j hj => by
    have hj2 : b.length - 32 + j < b.length := by omega
    refine ⟨hj2, ?_⟩
    have h1 : tg[j]? = b[b.length - 32 + j]? := by rw [← htg, List.getElem?_drop]
    rw [List.getElem?_eq_getElem (by omega), List.getElem?_eq_getElem hj2] at h1
    exact Option.some.inj h1
  refine go_Tok9 (k := ?_)
  refine CW_loop (fun e' w' => ∃ j : Nat, j ≤ 32 ∧ e' 0 = .slice A b.length c ∧ e' 2 = .pointer (some ⟨g2, 0, none⟩) ∧ e' 4 = .pointer (some ⟨g4, 0, none⟩) ∧ e' 7 = .int .i64 j ∧ Blk w' g2 45 (tcells t0 (.slice none 0 0)).toArray ∧ Blk w' g4 45 (tcells ⟨z0, gs, tgR tg j⟩ (.slice B gs.length cB)).toArray ∧ GOwn w' w.heap.size B cB gs ∧ Ext w w') (fun e' _ => 32 - (intOf (e' 7)).toNat) ⟨0, Nat.zero_le _, rfl, rfl, rfl, rfl, hb2, hb4, hO, hx08⟩ ?_
  clear hb2 hb4 hO hx08 hbs8
  rintro e9 w9 ⟨j, hj, q0, q2, q4, q7, hb2, hb4, hO, hx09⟩
  rw [upd_self q0, upd_self q2, upd_self q4, upd_self q7]
  clear q0 q2 q4 q7
  have hbs9 := ha.ext hx09
  refine go_Tok9 (k := ?_)
  refine CW_cond _ rfl (fun hh => ?_) (fun hh => ?_)
  · have hlt : j < 32 := by have := of_decide_eq_true hh; omega
    clear hh
    obtain ⟨hj2, hc⟩ := htget j hlt
    have hset := tgR_set htl hlt
    have htl2 := tgR_len htl hj
    obtain ⟨ad, hA, hcell⟩ := hbs9.at_ hj2
    rw [← hc] at hcell
    generalize tg[j]'(by omega) = ch at *
    have hTl : (tcells ⟨z0, gs, tgR tg j⟩ (.slice B gs.length cB)).length = 34 := tcells_length htl2 _
    subst hA
    refine go_Tok9 (k := ?_)
    refine OW_idxS und_bytes one_u8 rfl rfl (b.length - 32 + j) (by omega) (by omega) ?_
    refine go_Tok9 (k := ?_)
    refine OW_idxA s_und_Tag one_u8 rfl rfl j (by omega) (by omega) ?_
    rw [addr_add_off]
    refine OW_storeB one_u8 rfl (bv ch) rfl rfl hb4 (by rw [List.size_toArray, hTl]; omega) ?_
    intro w10 hb10 hgr10
    rw [List.setIfInBounds_toArray, tcells_set] at hb10
    have hb10 : Blk w10 g4 45 (tcells ⟨z0, gs, tgR tg (j + 1)⟩ (.slice B gs.length cB)).toArray := by rw [← hset]; exact hb10
    have hk10 := Keeps.of_only hgr10 (S := (· = g4)) rfl
    have hx010 : Ext w w10 := hk10.ext hx09 (fun j hj => by have hj : j = g4 := hj; omega)
    replace hb2 := hb2.keeps hk10 hne24
    have hO10 : GOwn w10 w.heap.size B cB gs := ownN_keeps hO hk10 (hO.ne hb4 (by decide))
    refine go_Tok9 (k := ?_)
    refine ⟨⟨j + 1, hlt, rfl, rfl, rfl, rfl, hb2, hb10, hO10, hx010⟩, ?_⟩
    show 32 - ((j : Int) + 1).toNat < 32 - (j : Int).toNat
    omega
  have hge : j = 32 := by have := of_decide_eq_false hh; omega
  subst hge
  clear hh hj htget
  rw [tgR_end htl] at hb4
  have hPr := fun v (hv : Ext w9 v) => refPrint_any v B cB ⟨z0, gs, tg⟩ (hO.ext hv).rd hO.cap (by show gs.length ≤ 10000; omega) htl
  rw [← hrd] at hPr
  have hgR : goodR b ↔ printT (readR b) = b := ⟨fun h => h.2.2, fun h => ⟨hlr, hfall, h⟩⟩
  obtain ⟨p, hp⟩ : ∃ p, printT (readR b) = p := ⟨_, rfl⟩
  rw [hp] at hPr hgR
  rw [hrd] at hPr
  refine go_Tok9 (k := ?_)
  refine OW_loadX agg_Token rfl (tcells ⟨z0, gs, tg⟩ (.slice B gs.length cB)) (tcells_length htl _) hb4.atL ?_
  refine go_Tok9 (k := ?_)
  refine OW_callBs Try.func44 (by kernel_rfl) rfl (hPr w9 (Ext.rfl' _)) rfl ?_
  intro w10 A10 c10 hf10
  have hx010 := hx09.trans' hf10.ext
  replace hb2 := hb2.ext hf10.ext
  replace hb4 := hb4.ext hf10.ext
  replace hO := hO.ext hf10.ext
  have hpb := hf10.bs
  have hbs10 := ha.ext hx010
  clear hPr hf10 hbs9
  by_cases hlp : p.length = b.length
  rotate_left 1
  · have hne : ¬ (p.length : Int) = (b.length : Int) := by omega
    have hbd := hbadR (fun h => hlp (by rw [hgR.1 h]))
    refine go_Tok9 (k := ?_)
    refine OW_build _ _ bld_T0 rfl ?_
    refine go_Tok9 (k := ?_)
    refine OW_storeA agg_Token rfl (tcells t0 (.slice none 0 0)) rfl rfl hb2 (by kernel_rfl) (tcells_one _ _ _ _) ?_
    intro w15 hb15 hgr15
    refine go_Tok9 (k := ?_)
    exact bodyE_retc2 rfl agg_Token rfl (tcells t0 (.slice none 0 0)) (.int .i64 90) rfl rfl (Blk.range hb15) (hbd w10 hx010 w15 hgr15)
  have heq : (p.length : Int) = (b.length : Int) := by omega
  refine go_Tok9 (k := ?_)
  refine CW_loop (fun e' w' => ∃ j : Nat, j ≤ p.length ∧ p.take j = b.take j ∧ e' 0 = .slice A b.length c ∧ e' 2 = .pointer (some ⟨g2, 0, none⟩) ∧ e' 4 = .pointer (some ⟨g4, 0, none⟩) ∧ e' 8 = .slice A10 p.length c10 ∧ e' 9 = .int .i64 j ∧ Ext w10 w') (fun e' _ => p.length - (intOf (e' 9)).toNat) ⟨0, Nat.zero_le _, rfl, rfl, rfl, rfl, rfl, rfl, Ext.rfl' _⟩ ?_
  rintro e11 w11 ⟨j, hj, htk, q0, q2, q4, q8, q9, hx11⟩
  rw [upd_self q0, upd_self q2, upd_self q4, upd_self q8, upd_self q9]
  clear q0 q2 q4 q8 q9
  replace hb2 := hb2.ext hx11
  replace hb4 := hb4.ext hx11
  replace hO := hO.ext hx11
  have hx011 := hx010.trans' hx11
  refine go_Tok9 (k := ?_)
  refine CW_cond _ rfl (fun hh => ?_) (fun hh => ?_)
  · have hlt : j < p.length := by have := of_decide_eq_true hh; omega
    have hltb : j < b.length := by omega
    clear hh
    obtain ⟨ap, hAp, cp⟩ := (hpb.ext hx11).at_ hlt
    obtain ⟨ab, hAb, cb⟩ := (hbs10.ext hx11).at_ hltb
    have hsucc : p[j] = b[j] → p.take (j + 1) = b.take (j + 1) := fun h => by rw [List.take_succ_eq_append_getElem hlt, List.take_succ_eq_append_getElem hltb, htk, h]
    have hno : ¬ p[j] = b[j] → ¬ p = b := fun h hh => h (by subst hh; rfl)
    generalize p[j] = x at *
    generalize b[j] = y at *
    subst hAp; subst hAb
    refine go_Tok9 (k := ?_)
    by_cases hxy : x = y
    · have hxi : (x.toNat : Int) = (y.toNat : Int) := by rw [hxy]
      obtain ⟨C, hC⟩ : ∃ C : World → Prop, C = fun v => Ext w11 v := ⟨_, rfl⟩
      have y_cp := cellE hC cp
      have y_cb := cellE hC cb
      refine CW_tree2 [3, 7] (.p 0 (.p 1 (.p 2 (.q 3 (.p 4 (.p 5 (.p 6 (.q 7 (.p 8 .done))))))))) (C) (by kernel_rfl) (by kernel_rfl) (by kernel_rfl) ?_ ?_
      · exact inE hC
      intro w12 hx12 h_C
      refine oy_Tok9 (k := ?_)
      refine go_Tok9 (k := ?_)
      refine ⟨⟨j + 1, hlt, hsucc hxy, rfl, rfl, rfl, rfl, rfl, hx11.trans' hx12⟩, ?_⟩
      show p.length - ((j : Int) + 1).toNat < p.length - (j : Int).toNat
      omega
    · have hxi : ¬ (x.toNat : Int) = (y.toNat : Int) := fun h => hxy (UInt8.toNat_inj.1 (by omega))
      have hbd := hbadR (fun h => hno hxy (hgR.1 h))
      obtain ⟨C, hC⟩ : ∃ C : World → Prop, C = fun v => Ext w11 v := ⟨_, rfl⟩
      have y_cp := cellE hC cp
      have y_cb := cellE hC cb
      refine CW_tree2 [3, 7] (.p 0 (.p 1 (.p 2 (.q 3 (.p 4 (.p 5 (.p 6 (.q 7 (.p 8 .done))))))))) (C) (by kernel_rfl) (by kernel_rfl) (by kernel_rfl) ?_ ?_
      · exact inE hC
      intro w12 hx12 h_C
      refine oy_Tok9 (k := ?_)
      refine go_Tok9 (k := ?_)
      refine OW_build _ _ bld_T0 rfl ?_
      refine go_Tok9 (k := ?_)
      refine OW_storeA agg_Token rfl (tcells t0 (.slice none 0 0)) rfl rfl (hb2.ext hx12) (by kernel_rfl) (tcells_one _ _ _ _) ?_
      intro w15 hb15 hgr15
      refine go_Tok9 (k := ?_)
      exact bodyE_retc2 rfl agg_Token rfl (tcells t0 (.slice none 0 0)) (.int .i64 90) rfl rfl (Blk.range hb15) (hbd w12 (hx011.trans' hx12) w15 hgr15)
  have hge : j = p.length := by have := of_decide_eq_false hh; omega
  have hpb2 : p = b := by rw [hge, List.take_length, hlp, List.take_length] at htk; exact htk
  have hpar : parT b = (⟨z0, gs, tg⟩, 0) := by rw [parR_ok (hgR.2 hpb2), hrd]
  rw [hpar]
  clear hh
  refine go_Tok9 (k := ?_)
  refine OW_loadX agg_Token rfl (tcells ⟨z0, gs, tg⟩ (.slice B gs.length cB)) (tcells_length htl _) hb4.atL ?_
  refine go_Tok9 (k := ?_)
  refine OW_storeA agg_Token rfl (tcells ⟨z0, gs, tg⟩ (.slice B gs.length cB)) rfl (tcells_length htl _) hb2 (by kernel_rfl) (tcells_one _ _ _ _) ?_
  intro w12 hb12 hgr12
  have hk12 := Keeps.of_only hgr12 (S := (· = g2)) rfl
  have hx012 : Ext w w12 := hk12.ext hx011 (fun j hj => by have hj : j = g2 := hj; omega)
  have hO12 : GOwn w12 w.heap.size B cB gs := ownN_keeps hO hk12 (hO.ne hb2 (by decide))
  refine go_Tok9 (k := ?_)
  exact bodyE_retc2 rfl agg_Token rfl (tcells ⟨z0, gs, tg⟩ (.slice B gs.length cB)) (.int .i64 0) rfl (tcells_length htl _) (Blk.range hb12) ⟨B, cB, rfl, hO12, hx012⟩
end Go.Proofs.Ytdpcahfgdpikfaa

/- The tags of the chapter's tokens, computed. No program in sight. -/
namespace Go.Proofs.Ytdpcahfgdpikfaa
open Go Go.RowKit
set_option linter.unusedVariables false
def key7 : List UInt8 := List.replicate 32 7
def awG : GD := ⟨3, 100, 1⟩
def awH : GD := ⟨1, 50, 2⟩
def aw_i1 : List UInt8 := [94, 50, 44, 147, 164, 57, 136, 126, 71, 238, 129, 151, 197, 115, 206, 255, 209, 216, 97, 71, 103, 174, 60, 206, 74, 117, 30, 95, 103, 22, 229, 98]
def aw_x1 : List UInt8 := [101, 39, 227, 74, 126, 131, 191, 230, 249, 5, 233, 11, 147, 158, 74, 201, 185, 101, 146, 8, 254, 132, 49, 113, 128, 117, 204, 84, 100, 75, 87, 31]
def aw_i2 : List UInt8 := [110, 76, 107, 107, 31, 163, 83, 36, 53, 173, 35, 37, 165, 77, 146, 140, 209, 202, 8, 168, 253, 16, 195, 8, 96, 250, 78, 89, 223, 102, 230, 160]
def aw_x2 : List UInt8 := [95, 199, 110, 166, 29, 86, 205, 248, 239, 47, 109, 79, 238, 199, 95, 82, 240, 21, 2, 184, 135, 146, 254, 239, 207, 139, 95, 97, 228, 205, 245, 97]
def aw_j1 : List UInt8 := [21, 168, 160, 235, 217, 169, 221, 183, 235, 85, 19, 208, 185, 199, 166, 57, 138, 215, 80, 237, 223, 45, 7, 15, 5, 8, 85, 145, 154, 98, 201, 18]
def aw_y1 : List UInt8 := [230, 36, 64, 242, 148, 245, 212, 147, 235, 146, 87, 20, 55, 146, 40, 14, 205, 16, 163, 254, 41, 109, 61, 9, 209, 118, 109, 70, 206, 157, 11, 190]
def aw_j2 : List UInt8 := [111, 6, 241, 90, 1, 13, 101, 72, 174, 196, 226, 73, 167, 121, 122, 100, 254, 94, 35, 44, 215, 16, 233, 234, 92, 252, 74, 56, 125, 67, 176, 1]
def aw_y2 : List UInt8 := [68, 251, 229, 184, 29, 216, 215, 81, 121, 168, 173, 166, 165, 213, 235, 166, 180, 7, 245, 90, 251, 216, 129, 80, 213, 40, 221, 111, 7, 96, 191, 64]
theorem aw_in_x1 : shaL (xorB 54 (keyB key7) ++ (numsB [2] ++ grantB awG)) = aw_i1 := by
  rw [← shaK_eq]
  decide +kernel
theorem aw_out_x1 : shaL (xorB 92 (keyB key7) ++ aw_i1) = aw_x1 := by
  rw [← shaK_eq]
  decide +kernel
theorem aw_h_x1 : hmacL key7 (numsB [2] ++ grantB awG) = aw_x1 := by
  unfold hmacL
  rw [aw_in_x1, aw_out_x1]
theorem aw_in_x2 : shaL (xorB 54 (keyB aw_x1) ++ (grantB awH)) = aw_i2 := by
  rw [← shaK_eq]
  decide +kernel
theorem aw_out_x2 : shaL (xorB 92 (keyB aw_x1) ++ aw_i2) = aw_x2 := by
  rw [← shaK_eq]
  decide +kernel
theorem aw_h_x2 : hmacL aw_x1 (grantB awH) = aw_x2 := by
  unfold hmacL
  rw [aw_in_x2, aw_out_x2]
theorem aw_in_y1 : shaL (xorB 54 (keyB key7) ++ (numsB [3] ++ grantB awG)) = aw_j1 := by
  rw [← shaK_eq]
  decide +kernel
theorem aw_out_y1 : shaL (xorB 92 (keyB key7) ++ aw_j1) = aw_y1 := by
  rw [← shaK_eq]
  decide +kernel
theorem aw_h_y1 : hmacL key7 (numsB [3] ++ grantB awG) = aw_y1 := by
  unfold hmacL
  rw [aw_in_y1, aw_out_y1]
theorem aw_in_y2 : shaL (xorB 54 (keyB aw_y1) ++ (grantB awH)) = aw_j2 := by
  rw [← shaK_eq]
  decide +kernel
theorem aw_out_y2 : shaL (xorB 92 (keyB aw_y1) ++ aw_j2) = aw_y2 := by
  rw [← shaK_eq]
  decide +kernel
theorem aw_h_y2 : hmacL aw_y1 (grantB awH) = aw_y2 := by
  unfold hmacL
  rw [aw_in_y2, aw_out_y2]
theorem aw_t1 : tagL key7 2 [awG] = aw_x1 := aw_h_x1
theorem aw_t2 : tagL key7 2 [awG, awH] = aw_x2 := by
  show tagS (hmacL key7 (numsB [2] ++ grantB awG)) awH = aw_x2
  rw [aw_h_x1]
  exact aw_h_x2
theorem aw_t3 : tagL key7 3 [awG, awH] = aw_y2 := by
  show tagS (hmacL key7 (numsB [3] ++ grantB awG)) awH = aw_y2
  rw [aw_h_y1]
  exact aw_h_y2
/-- The chapter's tokens, plainly. -/
structure Aw9 (X1 X2 : List UInt8) : Prop where
  l1 : X1.length = 32
  l2 : X2.length = 32
  mint : mintT key7 2 awG = (⟨2, [awG], X1⟩, 0)
  mint9 : mintT key7 9 awG = (t0, 2)
  att : attT ⟨2, [awG], X1⟩ awH = (⟨2, [awG, awH], X2⟩, 0)
  c1 : checkT key7 ⟨2, [awG], X1⟩ = 0
  v1 : verT key7 ⟨2, [awG], X1⟩ 99 2 = 0
  v2 : verT key7 ⟨2, [awG], X1⟩ 100 2 = 92
  v3 : verT key7 ⟨2, [awG], X1⟩ 99 4 = 94
  u1 : verT key7 ⟨2, [awG, awH], X2⟩ 49 1 = 0
  u2 : verT key7 ⟨2, [awG, awH], X2⟩ 49 2 = 94
  u3 : verT key7 ⟨2, [awG, awH], X2⟩ 50 1 = 92
  o1 : checkT key7 ⟨3, [awG, awH], X2⟩ = 91
  o2 : checkT key7 ⟨2, [awG], X2⟩ = 91
  p1 : (printT ⟨2, [awG], X1⟩).length = 72
  p2 : (printT ⟨2, [awG, awH], X2⟩).length = 96
theorem aw9 : Aw9 aw_x1 aw_x2 := by
  have m1 : ∀ X, mayT ⟨2, [awG], X⟩ = true := fun X => by show (inR 2 0 8 && lineOk [awG]) = true; decide
  have m2 : ∀ X, mayT ⟨2, [awG, awH], X⟩ = true := fun X => by show (inR 2 0 8 && lineOk [awG, awH]) = true; decide
  have m3 : ∀ X, mayT ⟨3, [awG, awH], X⟩ = true := fun X => by show (inR 3 0 8 && lineOk [awG, awH]) = true; decide
  have m9 : ∀ X, mayT ⟨9, [awG], X⟩ = false := fun X => by show (inR 9 0 8 && lineOk [awG]) = false; decide
  have mh : mayG awH = true := by decide
  have c1 : checkT key7 ⟨2, [awG], aw_x1⟩ = 0 := by unfold checkT; rw [if_pos (m1 _)]; exact if_pos aw_t1
  have c2 : checkT key7 ⟨2, [awG, awH], aw_x2⟩ = 0 := by unfold checkT; rw [if_pos (m2 _)]; exact if_pos aw_t2
  have hv1 : ∀ now need, verT key7 ⟨2, [awG], aw_x1⟩ now need = if leavesE [awG] ≤ now then 92 else if need &&& ~~~ (leavesR [awG]) = 0 then 0 else 94 := fun now need => by unfold verT; rw [if_pos c1]
  have hv2 : ∀ now need, verT key7 ⟨2, [awG, awH], aw_x2⟩ now need = if leavesE [awG, awH] ≤ now then 92 else if need &&& ~~~ (leavesR [awG, awH]) = 0 then 0 else 94 := fun now need => by unfold verT; rw [if_pos c2]
  refine ⟨rfl, rfl, ?_, ?_, ?_, c1, ?_, ?_, ?_, ?_, ?_, ?_, ?_, ?_, ?_, ?_⟩
  · unfold mintT; rw [if_pos (m1 _), aw_t1]
  · unfold mintT; rw [m9, if_neg (by decide)]
  · unfold attT
    rw [m1, mh, Bool.and_self, if_pos rfl, if_neg (by decide)]
    show ((⟨2, [awG, awH], hmacL aw_x1 (grantB awH)⟩ : TK), (0 : Int)) = _
    rw [aw_h_x2]
  · rw [hv1]; decide
  · rw [hv1]; decide
  · rw [hv1]; decide
  · rw [hv2]; decide
  · rw [hv2]; decide
  · rw [hv2]; decide
  · unfold checkT
    rw [if_pos (m3 _)]
    exact if_neg (by show ¬ tagL key7 3 [awG, awH] = aw_x2; rw [aw_t3]; decide)
  · unfold checkT
    rw [if_pos (m1 _)]
    exact if_neg (by show ¬ tagL key7 2 [awG] = aw_x2; rw [aw_t1]; decide)
  · rw [printT_len (m1 _) rfl]; rfl
  · rw [printT_len (m2 _) rfl]; rfl
end Go.Proofs.Ytdpcahfgdpikfaa
