/- TokenVerifies: whether a token checks, and verifies, is as the document says. No condition. -/
import Derived.Test.YtdpcahfgdpikfaaGt3
import Derived.Test.YtdpcahfgdpikfaaGt27
namespace Go.Proofs.Ytdpcahfgdpikfaa.lawTokenVerifies
open Go.ChangeShapes Go.WideShapes Go.ChangeAt Go.RowKit
set_option linter.unusedVariables false
set_option maxRecDepth 4000
theorem go_LTokenVerifies {A B : Prop} (h : Held B → A := by
  intro hEnd
  repeat (first | refine OW_neqIF rfl rfl (by first | assumption | rfl) ?_ | refine OW_neqIT rfl rfl (by assumption) ?_ | refine OW_eqlIT rfl rfl (by first | assumption | rfl) ?_ | refine OW_eqlIF rfl rfl (by assumption) ?_ | refine OW_neqIF rfl rfl (by first | assumption | rfl) ?_ | refine OW_eqlIT rfl rfl (by first | assumption | rfl) ?_ | (refine OW_isLoad ?_; refine OW_loadM (by first | with_reducible exact agg_Grant | with_reducible exact s_agg_Tag | with_reducible exact agg_Token) rfl (by first | assumption | (apply_assumption; assumption)) ?_) | refine OW_idxN und_Grants el_Grant rfl rfl 0 rfl (by omega) ?_ | refine OW_sliceP h_slp_Tag rfl ?_ | refine OW_slicePOT a_slp_TagT rfl ?_ | refine OW_fieldB fldo_G0 rfl ?_ | refine OW_fieldB fldo_G1 rfl ?_ | refine OW_fieldB fldo_G2 rfl ?_ | refine OW_fieldB fldo_T0 rfl ?_ | refine OW_fieldB fldo_T1 rfl ?_ | refine OW_fieldB fldo_T2 rfl ?_ | refine OW_lenS und_Grants rfl ?_ | refine OW_idxN und_Grants el_Grant rfl rfl _ rfl (by omega) ?_ | refine OW_moveV (.int _ _) rfl ?_ | refine OW_moveV (.slice _ _ _) rfl ?_ | refine OW_moveV (.bool _) rfl ?_ | refine OW_moveV (.pointer _) rfl ?_ | refine OW_moveV (.string _) rfl ?_ | refine OW_moveV (.agg _) rfl ?_ | refine OW_moveV (.tuple _) rfl ?_ | refine OW_nil ?_ | refine thenE_normal ?_ | refine CW_seq ?_ | refine CW_region (by kernel_rfl) ?_ | refine OW_assignV (.int _ _) rfl ?_ | refine OW_assignV (.slice _ _ _) rfl ?_ | refine OW_assignV (.bool _) rfl ?_ | refine OW_assignV (.pointer _) rfl ?_ | refine OW_assignV (.string _) rfl ?_ | refine OW_assignV (.agg _) rfl ?_ | refine OW_assignV (.tuple _) rfl ?_ | refine OW_addI rfl rfl (by omega) ?_ | refine OW_subI rfl rfl (by omega) ?_ | refine OW_mulI rfl rfl (by omega) ?_ | refine OW_lss rfl rfl ?_ | refine OW_extract rfl rfl ?_ | refine OW_gtr rfl rfl ?_ | refine OW_leq rfl rfl ?_ | refine OW_geq rfl rfl ?_ | refine OW_eql rfl rfl ?_ | refine OW_neq rfl rfl ?_ | refine OW_not rfl ?_ | refine OW_pickT rfl _ rfl ?_ | refine OW_pickF rfl (.bool _) rfl ?_ | refine OW_pickB rfl rfl rfl ?_ | refine OW_move ?_ | refine OW_assign ?_ | refine OW_pass rfl ?_ | refine OW_take rfl ?_ | refine OW_lenS (by first | with_reducible exact und_bytes | with_reducible exact und_bytess) rfl ?_ | refine OW_convInt (by first | with_reducible exact und_u8 | with_reducible exact und_u64 | with_reducible exact und_int | with_reducible exact und_u32) (by first | with_reducible exact und_u8 | with_reducible exact und_u64 | with_reducible exact und_int | with_reducible exact und_u32) rfl ?_ | refine OW_add rfl rfl ?_ | refine OW_sub rfl rfl ?_ | refine OW_mul rfl rfl ?_ | refine OW_min2 rfl rfl ?_ | refine OW_max2 rfl rfl ?_ | refine OW_neg rfl ?_ | refine CW_block ?_ | refine CW_condT rfl ?_ | refine CW_condF rfl ?_ | refine CW_exit ?_ | refine CW_ret ?_ | refine CW_skip ?_ | refine LW_seq ?_ | refine LW_regC ?_ | refine LW_condC ?_ | refine LW_regF ?_ | refine LW_condF ?_ | refine FW_seq ?_ | refine FW_region (by kernel_rfl) ?_ | refine FW_block ?_ | refine FW_condT rfl ?_ | refine FW_condF rfl ?_ | refine FW_exit ?_ | refine FW_ret ?_ | refine FW_skip ?_ | refine LW_ret ?_ | refine LW_skip ?_ | refine thenE_exit ?_ | refine thenE_ret ?_ | refine inBlockE_normal ?_ | refine inBlockE_same ?_ | refine inBlockE_ret ?_ | refine inBlockE_ne (by rfl) ?_ | refine OW_eqlB (by with_reducible exact und_bool) rfl rfl ?_ | refine OW_neqB (by with_reducible exact und_bool) rfl rfl ?_ | refine OW_idxS (by with_reducible exact und_bytes) one_u8 rfl rfl _ rfl (by omega) ?_ | refine OW_idxS (by with_reducible exact und_bytess) one_bytes rfl rfl _ rfl (by omega) ?_ | refine OW_load1 (by first | with_reducible exact one_u8 | with_reducible exact one_bytes) rfl _ (by assumption) ?_ | (refine OW_isLoad ?_; refine OW_loadBk (by first | with_reducible exact s_int | with_reducible exact one_u8 | with_reducible exact one_grants) rfl (by assumption) _ (by rfl) ?_) | refine OW_load1 s_int rfl _ (by assumption) ?_)
  exact hEnd.out) (k : B) : A := h ⟨k⟩
theorem oy_LTokenVerifies {A B : Prop} (h : Held B → A := by
  intro hEnd
  repeat (first
    | refine OY_done ?_
    | (apply OY_p _ rfl
       · intro wd
         (first | refine OW_neqIF rfl rfl (by first | assumption | rfl) ?_ | refine OW_neqIT rfl rfl (by assumption) ?_ | refine OW_eqlIT rfl rfl (by first | assumption | rfl) ?_ | refine OW_eqlIF rfl rfl (by assumption) ?_ | refine OW_neqIF rfl rfl (by first | assumption | rfl) ?_ | refine OW_eqlIT rfl rfl (by first | assumption | rfl) ?_ | (refine OW_isLoad ?_; refine OW_loadM (by first | with_reducible exact agg_Grant | with_reducible exact s_agg_Tag | with_reducible exact agg_Token) rfl (by first | assumption | (apply_assumption; assumption)) ?_) | refine OW_idxN und_Grants el_Grant rfl rfl 0 rfl (by omega) ?_ | refine OW_sliceP h_slp_Tag rfl ?_ | refine OW_slicePOT a_slp_TagT rfl ?_ | refine OW_fieldB fldo_G0 rfl ?_ | refine OW_fieldB fldo_G1 rfl ?_ | refine OW_fieldB fldo_G2 rfl ?_ | refine OW_fieldB fldo_T0 rfl ?_ | refine OW_fieldB fldo_T1 rfl ?_ | refine OW_fieldB fldo_T2 rfl ?_ | refine OW_lenS und_Grants rfl ?_ | refine OW_idxN und_Grants el_Grant rfl rfl _ rfl (by omega) ?_ | refine OW_moveV (.int _ _) rfl ?_ | refine OW_moveV (.slice _ _ _) rfl ?_ | refine OW_moveV (.bool _) rfl ?_ | refine OW_moveV (.pointer _) rfl ?_ | refine OW_moveV (.string _) rfl ?_ | refine OW_moveV (.agg _) rfl ?_ | refine OW_moveV (.tuple _) rfl ?_ | refine OW_nil ?_ | refine thenE_normal ?_ | refine CW_seq ?_ | refine CW_region (by kernel_rfl) ?_ | refine OW_assignV (.int _ _) rfl ?_ | refine OW_assignV (.slice _ _ _) rfl ?_ | refine OW_assignV (.bool _) rfl ?_ | refine OW_assignV (.pointer _) rfl ?_ | refine OW_assignV (.string _) rfl ?_ | refine OW_assignV (.agg _) rfl ?_ | refine OW_assignV (.tuple _) rfl ?_ | refine OW_addI rfl rfl (by omega) ?_ | refine OW_subI rfl rfl (by omega) ?_ | refine OW_mulI rfl rfl (by omega) ?_ | refine OW_lss rfl rfl ?_ | refine OW_extract rfl rfl ?_ | refine OW_gtr rfl rfl ?_ | refine OW_leq rfl rfl ?_ | refine OW_geq rfl rfl ?_ | refine OW_eql rfl rfl ?_ | refine OW_neq rfl rfl ?_ | refine OW_not rfl ?_ | refine OW_pickT rfl _ rfl ?_ | refine OW_pickF rfl (.bool _) rfl ?_ | refine OW_pickB rfl rfl rfl ?_ | refine OW_move ?_ | refine OW_assign ?_ | refine OW_pass rfl ?_ | refine OW_take rfl ?_ | refine OW_lenS (by first | with_reducible exact und_bytes | with_reducible exact und_bytess) rfl ?_ | refine OW_convInt (by first | with_reducible exact und_u8 | with_reducible exact und_u64 | with_reducible exact und_int | with_reducible exact und_u32) (by first | with_reducible exact und_u8 | with_reducible exact und_u64 | with_reducible exact und_int | with_reducible exact und_u32) rfl ?_ | refine OW_add rfl rfl ?_ | refine OW_sub rfl rfl ?_ | refine OW_mul rfl rfl ?_ | refine OW_min2 rfl rfl ?_ | refine OW_max2 rfl rfl ?_ | refine OW_neg rfl ?_ | refine CW_block ?_ | refine CW_condT rfl ?_ | refine CW_condF rfl ?_ | refine CW_exit ?_ | refine CW_ret ?_ | refine CW_skip ?_ | refine LW_seq ?_ | refine LW_regC ?_ | refine LW_condC ?_ | refine LW_regF ?_ | refine LW_condF ?_ | refine FW_seq ?_ | refine FW_region (by kernel_rfl) ?_ | refine FW_block ?_ | refine FW_condT rfl ?_ | refine FW_condF rfl ?_ | refine FW_exit ?_ | refine FW_ret ?_ | refine FW_skip ?_ | refine LW_ret ?_ | refine LW_skip ?_ | refine thenE_exit ?_ | refine thenE_ret ?_ | refine inBlockE_normal ?_ | refine inBlockE_same ?_ | refine inBlockE_ret ?_ | refine inBlockE_ne (by rfl) ?_ | refine OW_eqlB (by with_reducible exact und_bool) rfl rfl ?_ | refine OW_neqB (by with_reducible exact und_bool) rfl rfl ?_ | refine OW_idxS (by with_reducible exact und_bytes) one_u8 rfl rfl _ rfl (by omega) ?_ | refine OW_idxS (by with_reducible exact und_bytess) one_bytes rfl rfl _ rfl (by omega) ?_ | refine OW_load1 (by first | with_reducible exact one_u8 | with_reducible exact one_bytes) rfl _ (by assumption) ?_ | (refine OW_isLoad ?_; refine OW_loadBk (by first | with_reducible exact s_int | with_reducible exact one_u8 | with_reducible exact one_grants) rfl (by assumption) _ (by rfl) ?_) | refine OW_load1 s_int rfl _ (by assumption) ?_)
         refine OW_nil ?_
         exact stay_mk _ _ _ _)
    | (apply OY_q _ rfl
       · intro wd hwd
         (first | refine OW_neqIF rfl rfl (by first | assumption | rfl) ?_ | refine OW_neqIT rfl rfl (by assumption) ?_ | refine OW_eqlIT rfl rfl (by first | assumption | rfl) ?_ | refine OW_eqlIF rfl rfl (by assumption) ?_ | refine OW_neqIF rfl rfl (by first | assumption | rfl) ?_ | refine OW_eqlIT rfl rfl (by first | assumption | rfl) ?_ | (refine OW_isLoad ?_; refine OW_loadM (by first | with_reducible exact agg_Grant | with_reducible exact s_agg_Tag | with_reducible exact agg_Token) rfl (by first | assumption | (apply_assumption; assumption)) ?_) | refine OW_idxN und_Grants el_Grant rfl rfl 0 rfl (by omega) ?_ | refine OW_sliceP h_slp_Tag rfl ?_ | refine OW_slicePOT a_slp_TagT rfl ?_ | refine OW_fieldB fldo_G0 rfl ?_ | refine OW_fieldB fldo_G1 rfl ?_ | refine OW_fieldB fldo_G2 rfl ?_ | refine OW_fieldB fldo_T0 rfl ?_ | refine OW_fieldB fldo_T1 rfl ?_ | refine OW_fieldB fldo_T2 rfl ?_ | refine OW_lenS und_Grants rfl ?_ | refine OW_idxN und_Grants el_Grant rfl rfl _ rfl (by omega) ?_ | refine OW_moveV (.int _ _) rfl ?_ | refine OW_moveV (.slice _ _ _) rfl ?_ | refine OW_moveV (.bool _) rfl ?_ | refine OW_moveV (.pointer _) rfl ?_ | refine OW_moveV (.string _) rfl ?_ | refine OW_moveV (.agg _) rfl ?_ | refine OW_moveV (.tuple _) rfl ?_ | refine OW_nil ?_ | refine thenE_normal ?_ | refine CW_seq ?_ | refine CW_region (by kernel_rfl) ?_ | refine OW_assignV (.int _ _) rfl ?_ | refine OW_assignV (.slice _ _ _) rfl ?_ | refine OW_assignV (.bool _) rfl ?_ | refine OW_assignV (.pointer _) rfl ?_ | refine OW_assignV (.string _) rfl ?_ | refine OW_assignV (.agg _) rfl ?_ | refine OW_assignV (.tuple _) rfl ?_ | refine OW_addI rfl rfl (by omega) ?_ | refine OW_subI rfl rfl (by omega) ?_ | refine OW_mulI rfl rfl (by omega) ?_ | refine OW_lss rfl rfl ?_ | refine OW_extract rfl rfl ?_ | refine OW_gtr rfl rfl ?_ | refine OW_leq rfl rfl ?_ | refine OW_geq rfl rfl ?_ | refine OW_eql rfl rfl ?_ | refine OW_neq rfl rfl ?_ | refine OW_not rfl ?_ | refine OW_pickT rfl _ rfl ?_ | refine OW_pickF rfl (.bool _) rfl ?_ | refine OW_pickB rfl rfl rfl ?_ | refine OW_move ?_ | refine OW_assign ?_ | refine OW_pass rfl ?_ | refine OW_take rfl ?_ | refine OW_lenS (by first | with_reducible exact und_bytes | with_reducible exact und_bytess) rfl ?_ | refine OW_convInt (by first | with_reducible exact und_u8 | with_reducible exact und_u64 | with_reducible exact und_int | with_reducible exact und_u32) (by first | with_reducible exact und_u8 | with_reducible exact und_u64 | with_reducible exact und_int | with_reducible exact und_u32) rfl ?_ | refine OW_add rfl rfl ?_ | refine OW_sub rfl rfl ?_ | refine OW_mul rfl rfl ?_ | refine OW_min2 rfl rfl ?_ | refine OW_max2 rfl rfl ?_ | refine OW_neg rfl ?_ | refine CW_block ?_ | refine CW_condT rfl ?_ | refine CW_condF rfl ?_ | refine CW_exit ?_ | refine CW_ret ?_ | refine CW_skip ?_ | refine LW_seq ?_ | refine LW_regC ?_ | refine LW_condC ?_ | refine LW_regF ?_ | refine LW_condF ?_ | refine FW_seq ?_ | refine FW_region (by kernel_rfl) ?_ | refine FW_block ?_ | refine FW_condT rfl ?_ | refine FW_condF rfl ?_ | refine FW_exit ?_ | refine FW_ret ?_ | refine FW_skip ?_ | refine LW_ret ?_ | refine LW_skip ?_ | refine thenE_exit ?_ | refine thenE_ret ?_ | refine inBlockE_normal ?_ | refine inBlockE_same ?_ | refine inBlockE_ret ?_ | refine inBlockE_ne (by rfl) ?_ | refine OW_eqlB (by with_reducible exact und_bool) rfl rfl ?_ | refine OW_neqB (by with_reducible exact und_bool) rfl rfl ?_ | refine OW_idxS (by with_reducible exact und_bytes) one_u8 rfl rfl _ rfl (by omega) ?_ | refine OW_idxS (by with_reducible exact und_bytess) one_bytes rfl rfl _ rfl (by omega) ?_ | refine OW_load1 (by first | with_reducible exact one_u8 | with_reducible exact one_bytes) rfl _ (by assumption) ?_ | (refine OW_isLoad ?_; refine OW_loadBk (by first | with_reducible exact s_int | with_reducible exact one_u8 | with_reducible exact one_grants) rfl (by assumption) _ (by rfl) ?_) | refine OW_load1 s_int rfl _ (by assumption) ?_ | (refine OW_isLoad ?_; refine OW_loadBk (by first | with_reducible exact one_u8 | with_reducible exact one_bytes | with_reducible exact one_bool | with_reducible exact one_int | with_reducible exact one_errno | with_reducible exact one_u32 | with_reducible exact one_u64 | with_reducible exact one_string | with_reducible exact s_int | with_reducible exact one_u8 | with_reducible exact one_grants) rfl (by apply_assumption; assumption) _ (by first | assumption | rfl) ?_) | refine OW_load1 (by first | with_reducible exact one_u8 | with_reducible exact one_bytes | with_reducible exact one_bool | with_reducible exact one_int | with_reducible exact one_errno | with_reducible exact one_u32 | with_reducible exact one_u64 | with_reducible exact one_string | with_reducible exact s_int | with_reducible exact one_u8 | with_reducible exact one_grants) rfl _ (by apply_assumption; assumption) ?_)
         refine OW_nil ?_
         exact stay_mk _ _ _ _)
    | refine OY_ppass rfl rfl ?_
    | refine OY_qpass rfl rfl ?_
    | (apply OY_ptake _ rfl rfl
       · intro wd
         (first | refine OW_neqIF rfl rfl (by first | assumption | rfl) ?_ | refine OW_neqIT rfl rfl (by assumption) ?_ | refine OW_eqlIT rfl rfl (by first | assumption | rfl) ?_ | refine OW_eqlIF rfl rfl (by assumption) ?_ | refine OW_neqIF rfl rfl (by first | assumption | rfl) ?_ | refine OW_eqlIT rfl rfl (by first | assumption | rfl) ?_ | (refine OW_isLoad ?_; refine OW_loadM (by first | with_reducible exact agg_Grant | with_reducible exact s_agg_Tag | with_reducible exact agg_Token) rfl (by first | assumption | (apply_assumption; assumption)) ?_) | refine OW_idxN und_Grants el_Grant rfl rfl 0 rfl (by omega) ?_ | refine OW_sliceP h_slp_Tag rfl ?_ | refine OW_slicePOT a_slp_TagT rfl ?_ | refine OW_fieldB fldo_G0 rfl ?_ | refine OW_fieldB fldo_G1 rfl ?_ | refine OW_fieldB fldo_G2 rfl ?_ | refine OW_fieldB fldo_T0 rfl ?_ | refine OW_fieldB fldo_T1 rfl ?_ | refine OW_fieldB fldo_T2 rfl ?_ | refine OW_lenS und_Grants rfl ?_ | refine OW_idxN und_Grants el_Grant rfl rfl _ rfl (by omega) ?_ | refine OW_moveV (.int _ _) rfl ?_ | refine OW_moveV (.slice _ _ _) rfl ?_ | refine OW_moveV (.bool _) rfl ?_ | refine OW_moveV (.pointer _) rfl ?_ | refine OW_moveV (.string _) rfl ?_ | refine OW_moveV (.agg _) rfl ?_ | refine OW_moveV (.tuple _) rfl ?_ | refine OW_nil ?_ | refine thenE_normal ?_ | refine CW_seq ?_ | refine CW_region (by kernel_rfl) ?_ | refine OW_assignV (.int _ _) rfl ?_ | refine OW_assignV (.slice _ _ _) rfl ?_ | refine OW_assignV (.bool _) rfl ?_ | refine OW_assignV (.pointer _) rfl ?_ | refine OW_assignV (.string _) rfl ?_ | refine OW_assignV (.agg _) rfl ?_ | refine OW_assignV (.tuple _) rfl ?_ | refine OW_addI rfl rfl (by omega) ?_ | refine OW_subI rfl rfl (by omega) ?_ | refine OW_mulI rfl rfl (by omega) ?_ | refine OW_lss rfl rfl ?_ | refine OW_extract rfl rfl ?_ | refine OW_gtr rfl rfl ?_ | refine OW_leq rfl rfl ?_ | refine OW_geq rfl rfl ?_ | refine OW_eql rfl rfl ?_ | refine OW_neq rfl rfl ?_ | refine OW_not rfl ?_ | refine OW_pickT rfl _ rfl ?_ | refine OW_pickF rfl (.bool _) rfl ?_ | refine OW_pickB rfl rfl rfl ?_ | refine OW_move ?_ | refine OW_assign ?_ | refine OW_pass rfl ?_ | refine OW_take rfl ?_ | refine OW_lenS (by first | with_reducible exact und_bytes | with_reducible exact und_bytess) rfl ?_ | refine OW_convInt (by first | with_reducible exact und_u8 | with_reducible exact und_u64 | with_reducible exact und_int | with_reducible exact und_u32) (by first | with_reducible exact und_u8 | with_reducible exact und_u64 | with_reducible exact und_int | with_reducible exact und_u32) rfl ?_ | refine OW_add rfl rfl ?_ | refine OW_sub rfl rfl ?_ | refine OW_mul rfl rfl ?_ | refine OW_min2 rfl rfl ?_ | refine OW_max2 rfl rfl ?_ | refine OW_neg rfl ?_ | refine CW_block ?_ | refine CW_condT rfl ?_ | refine CW_condF rfl ?_ | refine CW_exit ?_ | refine CW_ret ?_ | refine CW_skip ?_ | refine LW_seq ?_ | refine LW_regC ?_ | refine LW_condC ?_ | refine LW_regF ?_ | refine LW_condF ?_ | refine FW_seq ?_ | refine FW_region (by kernel_rfl) ?_ | refine FW_block ?_ | refine FW_condT rfl ?_ | refine FW_condF rfl ?_ | refine FW_exit ?_ | refine FW_ret ?_ | refine FW_skip ?_ | refine LW_ret ?_ | refine LW_skip ?_ | refine thenE_exit ?_ | refine thenE_ret ?_ | refine inBlockE_normal ?_ | refine inBlockE_same ?_ | refine inBlockE_ret ?_ | refine inBlockE_ne (by rfl) ?_ | refine OW_eqlB (by with_reducible exact und_bool) rfl rfl ?_ | refine OW_neqB (by with_reducible exact und_bool) rfl rfl ?_ | refine OW_idxS (by with_reducible exact und_bytes) one_u8 rfl rfl _ rfl (by omega) ?_ | refine OW_idxS (by with_reducible exact und_bytess) one_bytes rfl rfl _ rfl (by omega) ?_ | refine OW_load1 (by first | with_reducible exact one_u8 | with_reducible exact one_bytes) rfl _ (by assumption) ?_ | (refine OW_isLoad ?_; refine OW_loadBk (by first | with_reducible exact s_int | with_reducible exact one_u8 | with_reducible exact one_grants) rfl (by assumption) _ (by rfl) ?_) | refine OW_load1 s_int rfl _ (by assumption) ?_)
         refine OW_nil ?_
         exact stay_mk _ _ _ _)
    | (apply OY_qtake _ rfl rfl
       · intro wd hwd
         (first | refine OW_neqIF rfl rfl (by first | assumption | rfl) ?_ | refine OW_neqIT rfl rfl (by assumption) ?_ | refine OW_eqlIT rfl rfl (by first | assumption | rfl) ?_ | refine OW_eqlIF rfl rfl (by assumption) ?_ | refine OW_neqIF rfl rfl (by first | assumption | rfl) ?_ | refine OW_eqlIT rfl rfl (by first | assumption | rfl) ?_ | (refine OW_isLoad ?_; refine OW_loadM (by first | with_reducible exact agg_Grant | with_reducible exact s_agg_Tag | with_reducible exact agg_Token) rfl (by first | assumption | (apply_assumption; assumption)) ?_) | refine OW_idxN und_Grants el_Grant rfl rfl 0 rfl (by omega) ?_ | refine OW_sliceP h_slp_Tag rfl ?_ | refine OW_slicePOT a_slp_TagT rfl ?_ | refine OW_fieldB fldo_G0 rfl ?_ | refine OW_fieldB fldo_G1 rfl ?_ | refine OW_fieldB fldo_G2 rfl ?_ | refine OW_fieldB fldo_T0 rfl ?_ | refine OW_fieldB fldo_T1 rfl ?_ | refine OW_fieldB fldo_T2 rfl ?_ | refine OW_lenS und_Grants rfl ?_ | refine OW_idxN und_Grants el_Grant rfl rfl _ rfl (by omega) ?_ | refine OW_moveV (.int _ _) rfl ?_ | refine OW_moveV (.slice _ _ _) rfl ?_ | refine OW_moveV (.bool _) rfl ?_ | refine OW_moveV (.pointer _) rfl ?_ | refine OW_moveV (.string _) rfl ?_ | refine OW_moveV (.agg _) rfl ?_ | refine OW_moveV (.tuple _) rfl ?_ | refine OW_nil ?_ | refine thenE_normal ?_ | refine CW_seq ?_ | refine CW_region (by kernel_rfl) ?_ | refine OW_assignV (.int _ _) rfl ?_ | refine OW_assignV (.slice _ _ _) rfl ?_ | refine OW_assignV (.bool _) rfl ?_ | refine OW_assignV (.pointer _) rfl ?_ | refine OW_assignV (.string _) rfl ?_ | refine OW_assignV (.agg _) rfl ?_ | refine OW_assignV (.tuple _) rfl ?_ | refine OW_addI rfl rfl (by omega) ?_ | refine OW_subI rfl rfl (by omega) ?_ | refine OW_mulI rfl rfl (by omega) ?_ | refine OW_lss rfl rfl ?_ | refine OW_extract rfl rfl ?_ | refine OW_gtr rfl rfl ?_ | refine OW_leq rfl rfl ?_ | refine OW_geq rfl rfl ?_ | refine OW_eql rfl rfl ?_ | refine OW_neq rfl rfl ?_ | refine OW_not rfl ?_ | refine OW_pickT rfl _ rfl ?_ | refine OW_pickF rfl (.bool _) rfl ?_ | refine OW_pickB rfl rfl rfl ?_ | refine OW_move ?_ | refine OW_assign ?_ | refine OW_pass rfl ?_ | refine OW_take rfl ?_ | refine OW_lenS (by first | with_reducible exact und_bytes | with_reducible exact und_bytess) rfl ?_ | refine OW_convInt (by first | with_reducible exact und_u8 | with_reducible exact und_u64 | with_reducible exact und_int | with_reducible exact und_u32) (by first | with_reducible exact und_u8 | with_reducible exact und_u64 | with_reducible exact und_int | with_reducible exact und_u32) rfl ?_ | refine OW_add rfl rfl ?_ | refine OW_sub rfl rfl ?_ | refine OW_mul rfl rfl ?_ | refine OW_min2 rfl rfl ?_ | refine OW_max2 rfl rfl ?_ | refine OW_neg rfl ?_ | refine CW_block ?_ | refine CW_condT rfl ?_ | refine CW_condF rfl ?_ | refine CW_exit ?_ | refine CW_ret ?_ | refine CW_skip ?_ | refine LW_seq ?_ | refine LW_regC ?_ | refine LW_condC ?_ | refine LW_regF ?_ | refine LW_condF ?_ | refine FW_seq ?_ | refine FW_region (by kernel_rfl) ?_ | refine FW_block ?_ | refine FW_condT rfl ?_ | refine FW_condF rfl ?_ | refine FW_exit ?_ | refine FW_ret ?_ | refine FW_skip ?_ | refine LW_ret ?_ | refine LW_skip ?_ | refine thenE_exit ?_ | refine thenE_ret ?_ | refine inBlockE_normal ?_ | refine inBlockE_same ?_ | refine inBlockE_ret ?_ | refine inBlockE_ne (by rfl) ?_ | refine OW_eqlB (by with_reducible exact und_bool) rfl rfl ?_ | refine OW_neqB (by with_reducible exact und_bool) rfl rfl ?_ | refine OW_idxS (by with_reducible exact und_bytes) one_u8 rfl rfl _ rfl (by omega) ?_ | refine OW_idxS (by with_reducible exact und_bytess) one_bytes rfl rfl _ rfl (by omega) ?_ | refine OW_load1 (by first | with_reducible exact one_u8 | with_reducible exact one_bytes) rfl _ (by assumption) ?_ | (refine OW_isLoad ?_; refine OW_loadBk (by first | with_reducible exact s_int | with_reducible exact one_u8 | with_reducible exact one_grants) rfl (by assumption) _ (by rfl) ?_) | refine OW_load1 s_int rfl _ (by assumption) ?_ | (refine OW_isLoad ?_; refine OW_loadBk (by first | with_reducible exact one_u8 | with_reducible exact one_bytes | with_reducible exact one_bool | with_reducible exact one_int | with_reducible exact one_errno | with_reducible exact one_u32 | with_reducible exact one_u64 | with_reducible exact one_string | with_reducible exact s_int | with_reducible exact one_u8 | with_reducible exact one_grants) rfl (by apply_assumption; assumption) _ (by first | assumption | rfl) ?_) | refine OW_load1 (by first | with_reducible exact one_u8 | with_reducible exact one_bytes | with_reducible exact one_bool | with_reducible exact one_int | with_reducible exact one_errno | with_reducible exact one_u32 | with_reducible exact one_u64 | with_reducible exact one_string | with_reducible exact s_int | with_reducible exact one_u8 | with_reducible exact one_grants) rfl _ (by apply_assumption; assumption) ?_)
         refine OW_nil ?_
         exact stay_mk _ _ _ _)
    | refine OY_a (actY_of rfl ?_)
    | refine OY_d (actY_of rfl ?_)
    | refine OY_a (actY_pass rfl rfl ?_)
    | refine OY_d (actY_pass rfl rfl ?_)
    | refine OY_a (actY_take rfl rfl ?_)
    | refine OY_d (actY_take rfl rfl ?_))
  exact hEnd.out) (k : B) : A := h ⟨k⟩
set_option maxHeartbeats 8000000 in
theorem walk (w : World) (v0 : Value) (key : List UInt8) (h0 : kBs.R w [v0] key) (cs : List Value) (t : TK) (h1 : kToken.R w cs t) (v2 : Value) (right : Bool) (h2 : kBo.R w [v2] right) (v3 : Value) (now : Int) (h3 : kI.R w [v3] now) (v4 : Value) (need : UInt8) (h4 : kB8.R w [v4] need) : Calls Try.prog 7 #[v0, .agg cs.toArray, v2, v3, v4] w (RetV w (.bool true)) := by
  obtain ⟨A, cA, hv0, ⟨hca, hca2⟩, ha⟩ := h0
  injection hv0 with hv0
  subst hv0
  obtain ⟨B, cB, rfl, hok⟩ := h1
  have hv2 : [v2] = [.bool right] := h2
  injection hv2 with hv2
  subst hv2
  obtain ⟨hv3, hni⟩ := h3
  injection hv3 with hv3
  subst hv3
  have hv4 : [v4] = [bv need] := h4
  injection hv4 with hv4
  subst hv4
  have hl := hok.rd
  have hcB := hok.cap
  have htg := hok.tag
  have hgo := hok.g
  refine calls_of_CW Try.func7 rfl (by simp [Try.ntmps7]) ?_
  rw [Try.ntmps7]
  refine go_LTokenVerifies (k := ?_)
  refine OW_box _ rfl ?_
  intro w1 g6 hb6 hg6 hlt6 hx1
  have hb6 : Blk w1 g6 45 (tcells t (.slice B t.line.length cB)).toArray := hb6
  refine go_LTokenVerifies (k := ?_)
  refine OW_split 16 _ rfl (fun hh => ?_) (fun hh => ?_)
  · refine go_LTokenVerifies (k := ?_)
    exact bodyE_ret1 rfl (.bool true) rfl ⟨rfl, hx1⟩
  have hkl : key.length ≤ 200 := by have := of_decide_eq_false hh; omega
  clear hh
  refine go_LTokenVerifies (k := ?_)
  refine CW_cond _ rfl (fun hh => ?_) (fun hh => ?_)
  · refine go_LTokenVerifies (k := ?_)
    exact bodyE_ret1 rfl (.bool true) rfl ⟨rfl, hx1⟩
  have hn : t.line.length ≤ 10 := by have := of_decide_eq_false hh; omega
  clear hh
  have hka : key.length ≤ 80000 := by omega
  have hn1 : t.line.length ≤ 10000 := by omega
  refine go_LTokenVerifies (k := ?_)
  refine CW_meet (fun e' w' => ∃ tg : List UInt8, tg.length = 32 ∧ e' 0 = .slice A key.length cA ∧ e' 3 = .int .i64 now ∧ e' 4 = bv need ∧ e' 6 = .pointer (some ⟨g6, 0, none⟩) ∧ Blk w' g6 45 (tcells { t with tag := tg } (.slice B t.line.length cB)).toArray ∧ Ext w w') ?_ ?_
  · cases right with
    | false =>
      refine go_LTokenVerifies (k := ?_)
      exact ⟨rfl, t.tag, htg, rfl, rfl, rfl, rfl, hb6, hx1⟩
    | true =>
      refine go_LTokenVerifies (k := ?_)
      refine OW_loadX agg_Token rfl (tcells t (.slice B t.line.length cB)) (tcells_length htg _) hb6.atL ?_
      refine go_LTokenVerifies (k := ?_)
      refine OW_callV Try.func36 (by kernel_rfl) rfl (refTag0_any w1 A B cA cB key t (ha.ext hx1) hca hka (hl.ext hx1) hcB (by omega) htg) rfl ?_
      intro w2 hx2
      have hX := tagL_len key t.ten t.line
      generalize tagL key t.ten t.line = X at *
      have hx02 := hx1.trans' hx2
      replace hb6 := hb6.ext hx2
      refine go_LTokenVerifies (k := ?_)
      refine OW_storeM s_agg_Tag rfl (X.map bv) rfl (by rw [List.length_map, hX]) hb6 (by rw [tcells_length htg]; decide) (bv_one _) ?_
      intro w3 hb3 hgr3
      rw [set_tag _ _ _ htg] at hb3
      have hx03 : Ext w w3 := (Keeps.of_only hgr3 (S := (· = g6)) rfl).ext hx02 (fun j hj => by have hj : j = g6 := hj; omega)
      refine go_LTokenVerifies (k := ?_)
      exact ⟨rfl, X, hX, rfl, rfl, rfl, rfl, hb3, hx03⟩
  rintro e2 w2 ⟨tg, htl, q0, q3, q4, q6, hb6, hx02⟩
  rw [upd_self q0, upd_self q3, upd_self q4, upd_self q6]
  clear q0 q3 q4 q6
  obtain ⟨u, hu⟩ : ∃ u : TK, u = { t with tag := tg } := ⟨_, rfl⟩
  have hul : u.line = t.line := by rw [hu]
  have hut : u.tag.length = 32 := by rw [hu]; exact htl
  rw [← hu] at hb6
  rw [← hul] at hl hcB hn1 hgo hb6
  have tT := fun v => tcells_length (t := u) hut v
  clear hu hul htl htg hok
  refine go_LTokenVerifies (k := ?_)
  refine OW_loadX agg_Token rfl (tcells u (.slice B u.line.length cB)) (tT _) hb6.atL ?_
  have hV := refVerify_any w2 A B cA cB key u (-1) 0 (ha.ext hx02) hca hka (hl.ext hx02) hcB hn1 hut
  rw [ver_check] at hV
  refine go_LTokenVerifies (k := ?_)
  refine OW_callV Try.func37 (by kernel_rfl) rfl hV rfl ?_
  intro w3 hx3
  clear hV
  have hx03 := hx02.trans' hx3
  replace hb6 := hb6.ext hx3
  refine go_LTokenVerifies (k := ?_)
  refine OW_loadX agg_Token rfl (tcells u (.slice B u.line.length cB)) (tT _) hb6.atL ?_
  refine go_LTokenVerifies (k := ?_)
  refine OW_callC Try.func33 (by kernel_rfl) rfl (copied_any w3 B cB u (hl.ext hx03) hn1 hut) rfl ?_
  rintro en w4 ⟨A4, c4, rfl, hO4, hx4⟩
  refine ⟨_, rfl, ?_⟩
  have hG4 := hO4.rd
  have hc4 := hO4.cap
  clear hO4
  refine go_LTokenVerifies (k := ?_)
  refine OW_allocA agg_Token ?_
  intro u12 g12 hb12 hg12 hlt12 hxa12
  refine go_LTokenVerifies (k := ?_)
  refine OW_storeA agg_Token rfl (tcells u (.slice A4 u.line.length c4)) rfl (tT _) hb12 (by kernel_rfl) (tcells_one _ _ _ _) ?_
  intro w5 hb12 hgr12
  have hxb12 : Ext w4 w5 := (Keeps.of_only hgr12 (S := (· = g12)) rfl).ext hxa12 (fun j hj => by have hj : j = g12 := hj; omega)
  clear hgr12 hxa12
  have hx35 := hx4.trans' hxb12
  replace hG4 := hG4.ext hxb12
  replace hb6 := hb6.ext hx35
  have hx05 := hx03.trans' hx35
  obtain ⟨ck, hck⟩ : ∃ ck, checkT key u = ck := ⟨_, rfl⟩
  obtain ⟨vv, hvv⟩ : ∃ vv, verT key u now need = vv := ⟨_, rfl⟩
  rw [hck]
  have hC := fun v (hv : Ext w5 v) => tokCheck_any v A A4 cA c4 key u (ha.ext (hx05.trans' hv)) hca hka (hG4.ext hv) hc4 hn1 hut
  have hV1 := fun v (hv : Ext w5 v) => tokVerify_any v A A4 cA c4 key u now need (ha.ext (hx05.trans' hv)) hca hka (hG4.ext hv) hc4 hn1 hut
  have hV2 := fun v (hv : Ext w5 v) => refVerify_any v A B cA cB key u now need (ha.ext (hx05.trans' hv)) hca hka (hl.ext (hx05.trans' hv)) hcB hn1 hut
  rw [hck] at hC
  rw [hvv] at hV1 hV2
  refine go_LTokenVerifies (k := ?_)
  obtain ⟨C, hC0⟩ : ∃ C : World → Prop, C = fun v => Ext w5 v := ⟨_, rfl⟩
  have y6 : ∀ v, C v → AtM v ⟨g6, 0, none⟩ (tcells u (.slice B u.line.length cB)) 34 := by rw [hC0]; exact fun v hv => ⟨(hb6.ext hv).atL, tT _⟩
  have y12 : ∀ v, C v → AtM v ⟨g12, 0, none⟩ (tcells u (.slice A4 u.line.length c4)) 34 := by rw [hC0]; exact fun v hv => ⟨(hb12.ext hv).atL, tT _⟩
  refine CW_tree2 [1, 7, 12] (.p 0 (.q 1 (.p 3 (.d 2 (.p 4 (.p 5 (.p 6 (.q 7 (.p 8 (.p 9 (.p 11 (.q 12 (.p 13 (.p 14 (.a 10 (.d 15 (.p 16 (.p 17 .done)))))))))))))))))) (C) (by kernel_rfl) (by kernel_rfl) (by kernel_rfl) ?_ ?_
  · exact inE hC0
  intro w6 hx6 h_C
  refine oy_LTokenVerifies (k := ?_)
  refine OW_callV Try.func38 (by kernel_rfl) rfl (hC w6 hx6) rfl ?_
  intro w7 hx7
  have hy7 := hx6.trans' hx7
  first | refine OW_nil (goY_mkE hC0 (hy7) ?_) | refine OW_nil (goY_dropE hC0 (hy7) ?_)
  refine oy_LTokenVerifies (k := ?_)
  refine OW_callV Try.func39 (by kernel_rfl) rfl (hV1 w7 hy7) rfl ?_
  intro w8 hx8
  have hy8 := hy7.trans' hx8
  first | refine OW_nil (goY_mkE hC0 (hy8) ?_) | refine OW_nil (goY_dropE hC0 (hy8) ?_)
  refine oy_LTokenVerifies (k := ?_)
  refine OW_callV Try.func37 (by kernel_rfl) rfl (hV2 w8 hy8) rfl ?_
  intro w9 hx9
  have hy9 := hy8.trans' hx9
  first | refine OW_nil (goY_mkE hC0 (hy9) ?_) | refine OW_nil (goY_dropE hC0 (hy9) ?_)
  refine oy_LTokenVerifies (k := ?_)
  clear y6 y12 hC0 h_C C hC hV1 hV2
  have hb6b := hb6.ext hy9
  have hb12b := hb12.ext hy9
  have hx09 := hx05.trans' hy9
  refine go_LTokenVerifies (k := ?_)
  refine OW_loadX agg_Token rfl (tcells u (.slice A4 u.line.length c4)) (tT _) hb12b.atL ?_
  refine go_LTokenVerifies (k := ?_)
  refine OW_loadX agg_Token rfl (tcells u (.slice B u.line.length cB)) (tT _) hb6b.atL ?_
  have hS := refTSame_any w9 A4 B c4 cB u u (hG4.ext hy9) (hl.ext hx09) hgo hgo (by omega) hut hut
  rw [decide_eq_true rfl] at hS
  refine go_LTokenVerifies (k := ?_)
  refine OW_callV Try.func31 (by kernel_rfl) rfl hS rfl ?_
  intro w10 hx10
  have hx010 := hx09.trans' hx10
  refine go_LTokenVerifies (k := ?_)
  refine OW_callV Try.func28 (by kernel_rfl) rfl (awake9_any w10) rfl ?_
  intro wA hxA
  refine go_LTokenVerifies (k := ?_)
  exact bodyE_ret1 rfl (.bool true) rfl ⟨rfl, hx010.trans' hxA⟩
set_option maxRecDepth 100000 in
theorem lifted (os : Os) (started : os.Started) (H : Type) (enc : TypeId × Value → H) :
    ReturnsInHanded {} Try.checked os 7 .any (Rows.tokenVerifiesSpec.pre6 enc Try.prog Try.f7 Rows.tokenVerifiesRow.domain false) (Rows.tokenVerifiesSpec.post enc Try.prog Try.f7 false true false false) := by
  refine returnsInHanded_of_change_sized (C := Try.checked) ownP started (by kernel_rfl) Try.func7
    (ChangeSpec.witness6 (enc := enc) (C := Try.checked) false ⟨#[], #[.slice none 0 0, .agg (tcells t0 (.slice none 0 0)).toArray, .bool false, .int .i64 0, .int .u8 0], []⟩ 8 (by kernel_rfl) (by kernel_rfl) (by kernel_rfl) (by kernel_rfl)) ?_
  intro W base args ds gs before hval0 hW hcnd hwt0 _
  have hval : ∀ (j : Nat) t v, Try.f7.params[j]? = some t → args[j]? = some v → Value.okWide Try.prog W .any base t v := hval0
  have hW' := hW
  obtain ⟨p, q, hA0, hV, rfl, hfz, hnd⟩ := hW
  have hA : DataW.TrodAll enc Try.prog W 0 (fun _ => true) true Try.f7.params.toList args.toList ds p := hA0
  have hwt : (DataW.weightsEach Try.prog (Try.f7.params.toList ++ []) (ds ++ gs)).all (· ≤ reachBytes) = true := hwt0
  rw [Try.params7] at hA hval hwt
  obtain ⟨v0, vs0, d0, ds0, p0, q0, hargs, rfl, rfl, h0, r0⟩ := trodAll_cons hA
  obtain ⟨v1, vs1, d1, ds1, p1, q1, rfl, rfl, rfl, h1, r1⟩ := trodAll_cons r0
  obtain ⟨v2, vs2, d2, ds2, p2, q2, rfl, rfl, rfl, h2, r2⟩ := trodAll_cons r1
  obtain ⟨v3, vs3, d3, ds3, p3, q3, rfl, rfl, rfl, h3, r3⟩ := trodAll_cons r2
  obtain ⟨v4, vs4, d4, ds4, p4, q4, rfl, rfl, rfl, h4, r4⟩ := trodAll_cons r3
  obtain ⟨rfl, rfl, rfl⟩ := trodAll_nil r4
  obtain rfl : args = #[v0, v1, v2, v3, v4] := by cases args; simp_all
  obtain ⟨rfl, rfl⟩ := trodVars_none hV
  have k0 := h0
  have lt0 : ∀ x ∈ p0, x.block < W.heap.size := by obtain ⟨m, hm⟩ := k0; exact DataW.trod_lt m _ _ _ hm
  have wk0 : WOk Try.prog 22 d0 := wok_each hwt 0 rfl rfl
  obtain ⟨a0, b0⟩ := kd_slice kBs und_bytes (hval 0 22 v0 rfl rfl) h0 wk0
  have k1 := h1
  have lt1 : ∀ x ∈ p1, x.block < W.heap.size := by obtain ⟨m, hm⟩ := k1; exact DataW.trod_lt m _ _ _ hm
  have wk1 : WOk Try.prog 45 d1 := wok_each hwt 1 rfl rfl
  obtain ⟨cs1, a1, rfl, b1⟩ := kd_struct kToken Try.underlying45 (hval 1 45 v1 rfl rfl) h1 wk1
  have k2 := h2
  have lt2 : ∀ x ∈ p2, x.block < W.heap.size := by obtain ⟨m, hm⟩ := k2; exact DataW.trod_lt m _ _ _ hm
  have wk2 : WOk Try.prog 4 d2 := wok_each hwt 2 rfl rfl
  obtain ⟨a2, b2⟩ := kd_bool kBo und_bool (hval 2 4 v2 rfl rfl) h2 wk2
  have k3 := h3
  have lt3 : ∀ x ∈ p3, x.block < W.heap.size := by obtain ⟨m, hm⟩ := k3; exact DataW.trod_lt m _ _ _ hm
  have wk3 : WOk Try.prog 3 d3 := wok_each hwt 3 rfl rfl
  obtain ⟨a3, b3⟩ := kd_int kI und_int (hval 3 3 v3 rfl rfl) h3 wk3
  have k4 := h4
  have lt4 : ∀ x ∈ p4, x.block < W.heap.size := by obtain ⟨m, hm⟩ := k4; exact DataW.trod_lt m _ _ _ hm
  have wk4 : WOk Try.prog 5 d4 := wok_each hwt 4 rfl rfl
  obtain ⟨a4, b4⟩ := kd_int kB8 und_u8 (hval 4 5 v4 rfl rfl) h4 wk4
  clear hA0 hval0 hwt0
  refine (walk W v0 a0 b0 cs1 a1 b1 v2 a2 b2 v3 a3 b3 v4 a4 b4).mono fun e W' ⟨he, bel⟩ => ?_
  subst he
  exact ⟨_, rfl, _, _, _, [], _, [], hW', trodAll_mk1 (shut_bool Try.underlying4 _), (trodAll_cons_mk (Below.trod laidP (by kernel_rfl) (of_decide_eq_true (by kernel_rfl)) k0 bel lt0) (trodAll_cons_mk (Below.trod laidP (by kernel_rfl) (of_decide_eq_true (by kernel_rfl)) k1 bel lt1) (trodAll_cons_mk (Below.trod laidP (by kernel_rfl) (of_decide_eq_true (by kernel_rfl)) k2 bel lt2) (trodAll_cons_mk (Below.trod laidP (by kernel_rfl) (of_decide_eq_true (by kernel_rfl)) k3 bel lt3) (trodAll_cons_mk (Below.trod laidP (by kernel_rfl) (of_decide_eq_true (by kernel_rfl)) k4 bel lt4) trodAll_mk0))))), rfl, bel.frame _, fun h => by cases h⟩
theorem over : Rows.tokenVerifiesRow.holds Try.pinned (OpenSpec.ofChange Rows.tokenVerifiesSpec) :=
  OpenClaim.holds_of_wide 7 Try.f7 rfl rfl rfl rfl rfl rfl rfl ⟨rfl, rfl, rfl, rfl, rfl⟩ rfl rfl rfl rfl rfl (by kernel_rfl) Try.func7 (by kernel_rfl)
    (of_decide_eq_true (by kernel_rfl)) (by unfold Func.isWrapper; first | (rw [if_pos (by decide +kernel)]; kernel_rfl) | (rw [if_neg (by decide +kernel)]; exact ⟨rfl, rfl⟩))
    (fun os started H enc _ => lifted os started H enc)
theorem proved : Rows.TokenVerifiesSaid := over
#print axioms proved
end Go.Proofs.Ytdpcahfgdpikfaa.lawTokenVerifies
