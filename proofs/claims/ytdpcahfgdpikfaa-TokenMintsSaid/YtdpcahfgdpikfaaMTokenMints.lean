/- TokenMints: what is minted, and attenuated, is as the document says. No condition. -/
import Derived.Test.YtdpcahfgdpikfaaGt3
import Derived.Test.YtdpcahfgdpikfaaGt27
namespace Go.Proofs.Ytdpcahfgdpikfaa.lawTokenMints
open Go.ChangeShapes Go.WideShapes Go.ChangeAt Go.RowKit
set_option linter.unusedVariables false
set_option maxRecDepth 4000
theorem go_LTokenMints {A B : Prop} (h : Held B → A := by
  intro hEnd
  repeat (first | refine OW_fieldO fldo_G0 rfl ?_ | refine OW_fieldO fldo_G1 rfl ?_ | refine OW_neqIF rfl rfl (by first | assumption | rfl) ?_ | refine OW_neqIT rfl rfl (by assumption) ?_ | refine OW_eqlIT rfl rfl (by first | assumption | rfl) ?_ | refine OW_eqlIF rfl rfl (by assumption) ?_ | refine OW_neqIF rfl rfl (by first | assumption | rfl) ?_ | refine OW_eqlIT rfl rfl (by first | assumption | rfl) ?_ | (refine OW_isLoad ?_; refine OW_loadM (by first | with_reducible exact agg_Grant | with_reducible exact s_agg_Tag | with_reducible exact agg_Token) rfl (by first | assumption | (apply_assumption; assumption)) ?_) | refine OW_idxN und_Grants el_Grant rfl rfl 0 rfl (by omega) ?_ | refine OW_sliceP h_slp_Tag rfl ?_ | refine OW_slicePOT a_slp_TagT rfl ?_ | refine OW_fieldB fldo_G0 rfl ?_ | refine OW_fieldB fldo_G1 rfl ?_ | refine OW_fieldB fldo_G2 rfl ?_ | refine OW_fieldB fldo_T0 rfl ?_ | refine OW_fieldB fldo_T1 rfl ?_ | refine OW_fieldB fldo_T2 rfl ?_ | refine OW_lenS und_Grants rfl ?_ | refine OW_idxN und_Grants el_Grant rfl rfl _ rfl (by omega) ?_ | refine OW_moveV (.int _ _) rfl ?_ | refine OW_moveV (.slice _ _ _) rfl ?_ | refine OW_moveV (.bool _) rfl ?_ | refine OW_moveV (.pointer _) rfl ?_ | refine OW_moveV (.string _) rfl ?_ | refine OW_moveV (.agg _) rfl ?_ | refine OW_moveV (.tuple _) rfl ?_ | refine OW_nil ?_ | refine thenE_normal ?_ | refine CW_seq ?_ | refine CW_region (by kernel_rfl) ?_ | refine OW_assignV (.int _ _) rfl ?_ | refine OW_assignV (.slice _ _ _) rfl ?_ | refine OW_assignV (.bool _) rfl ?_ | refine OW_assignV (.pointer _) rfl ?_ | refine OW_assignV (.string _) rfl ?_ | refine OW_assignV (.agg _) rfl ?_ | refine OW_assignV (.tuple _) rfl ?_ | refine OW_addI rfl rfl (by omega) ?_ | refine OW_subI rfl rfl (by omega) ?_ | refine OW_mulI rfl rfl (by omega) ?_ | refine OW_lss rfl rfl ?_ | refine OW_extract rfl rfl ?_ | refine OW_gtr rfl rfl ?_ | refine OW_leq rfl rfl ?_ | refine OW_geq rfl rfl ?_ | refine OW_eql rfl rfl ?_ | refine OW_neq rfl rfl ?_ | refine OW_not rfl ?_ | refine OW_pickT rfl _ rfl ?_ | refine OW_pickF rfl (.bool _) rfl ?_ | refine OW_pickB rfl rfl rfl ?_ | refine OW_move ?_ | refine OW_assign ?_ | refine OW_pass rfl ?_ | refine OW_take rfl ?_ | refine OW_lenS (by first | with_reducible exact und_bytes | with_reducible exact und_bytess) rfl ?_ | refine OW_convInt (by first | with_reducible exact und_u8 | with_reducible exact und_u64 | with_reducible exact und_int | with_reducible exact und_u32) (by first | with_reducible exact und_u8 | with_reducible exact und_u64 | with_reducible exact und_int | with_reducible exact und_u32) rfl ?_ | refine OW_add rfl rfl ?_ | refine OW_sub rfl rfl ?_ | refine OW_mul rfl rfl ?_ | refine OW_min2 rfl rfl ?_ | refine OW_max2 rfl rfl ?_ | refine OW_neg rfl ?_ | refine CW_block ?_ | refine CW_condT rfl ?_ | refine CW_condF rfl ?_ | refine CW_exit ?_ | refine CW_ret ?_ | refine CW_skip ?_ | refine LW_seq ?_ | refine LW_regC ?_ | refine LW_condC ?_ | refine LW_regF ?_ | refine LW_condF ?_ | refine FW_seq ?_ | refine FW_region (by kernel_rfl) ?_ | refine FW_block ?_ | refine FW_condT rfl ?_ | refine FW_condF rfl ?_ | refine FW_exit ?_ | refine FW_ret ?_ | refine FW_skip ?_ | refine LW_ret ?_ | refine LW_skip ?_ | refine thenE_exit ?_ | refine thenE_ret ?_ | refine inBlockE_normal ?_ | refine inBlockE_same ?_ | refine inBlockE_ret ?_ | refine inBlockE_ne (by rfl) ?_ | refine OW_eqlB (by with_reducible exact und_bool) rfl rfl ?_ | refine OW_neqB (by with_reducible exact und_bool) rfl rfl ?_ | refine OW_idxS (by with_reducible exact und_bytes) one_u8 rfl rfl _ rfl (by omega) ?_ | refine OW_idxS (by with_reducible exact und_bytess) one_bytes rfl rfl _ rfl (by omega) ?_ | refine OW_load1 (by first | with_reducible exact one_u8 | with_reducible exact one_bytes) rfl _ (by assumption) ?_ | (refine OW_isLoad ?_; refine OW_loadBk (by first | with_reducible exact s_int | with_reducible exact one_u8 | with_reducible exact one_grants) rfl (by assumption) _ (by rfl) ?_) | refine OW_load1 s_int rfl _ (by assumption) ?_)
  exact hEnd.out) (k : B) : A := h ⟨k⟩
theorem oy_LTokenMints {A B : Prop} (h : Held B → A := by
  intro hEnd
  repeat (first
    | refine OY_done ?_
    | (apply OY_p _ rfl
       · intro wd
         (first | refine OW_fieldO fldo_G0 rfl ?_ | refine OW_fieldO fldo_G1 rfl ?_ | refine OW_neqIF rfl rfl (by first | assumption | rfl) ?_ | refine OW_neqIT rfl rfl (by assumption) ?_ | refine OW_eqlIT rfl rfl (by first | assumption | rfl) ?_ | refine OW_eqlIF rfl rfl (by assumption) ?_ | refine OW_neqIF rfl rfl (by first | assumption | rfl) ?_ | refine OW_eqlIT rfl rfl (by first | assumption | rfl) ?_ | (refine OW_isLoad ?_; refine OW_loadM (by first | with_reducible exact agg_Grant | with_reducible exact s_agg_Tag | with_reducible exact agg_Token) rfl (by first | assumption | (apply_assumption; assumption)) ?_) | refine OW_idxN und_Grants el_Grant rfl rfl 0 rfl (by omega) ?_ | refine OW_sliceP h_slp_Tag rfl ?_ | refine OW_slicePOT a_slp_TagT rfl ?_ | refine OW_fieldB fldo_G0 rfl ?_ | refine OW_fieldB fldo_G1 rfl ?_ | refine OW_fieldB fldo_G2 rfl ?_ | refine OW_fieldB fldo_T0 rfl ?_ | refine OW_fieldB fldo_T1 rfl ?_ | refine OW_fieldB fldo_T2 rfl ?_ | refine OW_lenS und_Grants rfl ?_ | refine OW_idxN und_Grants el_Grant rfl rfl _ rfl (by omega) ?_ | refine OW_moveV (.int _ _) rfl ?_ | refine OW_moveV (.slice _ _ _) rfl ?_ | refine OW_moveV (.bool _) rfl ?_ | refine OW_moveV (.pointer _) rfl ?_ | refine OW_moveV (.string _) rfl ?_ | refine OW_moveV (.agg _) rfl ?_ | refine OW_moveV (.tuple _) rfl ?_ | refine OW_nil ?_ | refine thenE_normal ?_ | refine CW_seq ?_ | refine CW_region (by kernel_rfl) ?_ | refine OW_assignV (.int _ _) rfl ?_ | refine OW_assignV (.slice _ _ _) rfl ?_ | refine OW_assignV (.bool _) rfl ?_ | refine OW_assignV (.pointer _) rfl ?_ | refine OW_assignV (.string _) rfl ?_ | refine OW_assignV (.agg _) rfl ?_ | refine OW_assignV (.tuple _) rfl ?_ | refine OW_addI rfl rfl (by omega) ?_ | refine OW_subI rfl rfl (by omega) ?_ | refine OW_mulI rfl rfl (by omega) ?_ | refine OW_lss rfl rfl ?_ | refine OW_extract rfl rfl ?_ | refine OW_gtr rfl rfl ?_ | refine OW_leq rfl rfl ?_ | refine OW_geq rfl rfl ?_ | refine OW_eql rfl rfl ?_ | refine OW_neq rfl rfl ?_ | refine OW_not rfl ?_ | refine OW_pickT rfl _ rfl ?_ | refine OW_pickF rfl (.bool _) rfl ?_ | refine OW_pickB rfl rfl rfl ?_ | refine OW_move ?_ | refine OW_assign ?_ | refine OW_pass rfl ?_ | refine OW_take rfl ?_ | refine OW_lenS (by first | with_reducible exact und_bytes | with_reducible exact und_bytess) rfl ?_ | refine OW_convInt (by first | with_reducible exact und_u8 | with_reducible exact und_u64 | with_reducible exact und_int | with_reducible exact und_u32) (by first | with_reducible exact und_u8 | with_reducible exact und_u64 | with_reducible exact und_int | with_reducible exact und_u32) rfl ?_ | refine OW_add rfl rfl ?_ | refine OW_sub rfl rfl ?_ | refine OW_mul rfl rfl ?_ | refine OW_min2 rfl rfl ?_ | refine OW_max2 rfl rfl ?_ | refine OW_neg rfl ?_ | refine CW_block ?_ | refine CW_condT rfl ?_ | refine CW_condF rfl ?_ | refine CW_exit ?_ | refine CW_ret ?_ | refine CW_skip ?_ | refine LW_seq ?_ | refine LW_regC ?_ | refine LW_condC ?_ | refine LW_regF ?_ | refine LW_condF ?_ | refine FW_seq ?_ | refine FW_region (by kernel_rfl) ?_ | refine FW_block ?_ | refine FW_condT rfl ?_ | refine FW_condF rfl ?_ | refine FW_exit ?_ | refine FW_ret ?_ | refine FW_skip ?_ | refine LW_ret ?_ | refine LW_skip ?_ | refine thenE_exit ?_ | refine thenE_ret ?_ | refine inBlockE_normal ?_ | refine inBlockE_same ?_ | refine inBlockE_ret ?_ | refine inBlockE_ne (by rfl) ?_ | refine OW_eqlB (by with_reducible exact und_bool) rfl rfl ?_ | refine OW_neqB (by with_reducible exact und_bool) rfl rfl ?_ | refine OW_idxS (by with_reducible exact und_bytes) one_u8 rfl rfl _ rfl (by omega) ?_ | refine OW_idxS (by with_reducible exact und_bytess) one_bytes rfl rfl _ rfl (by omega) ?_ | refine OW_load1 (by first | with_reducible exact one_u8 | with_reducible exact one_bytes) rfl _ (by assumption) ?_ | (refine OW_isLoad ?_; refine OW_loadBk (by first | with_reducible exact s_int | with_reducible exact one_u8 | with_reducible exact one_grants) rfl (by assumption) _ (by rfl) ?_) | refine OW_load1 s_int rfl _ (by assumption) ?_)
         refine OW_nil ?_
         exact stay_mk _ _ _ _)
    | (apply OY_q _ rfl
       · intro wd hwd
         (first | refine OW_fieldO fldo_G0 rfl ?_ | refine OW_fieldO fldo_G1 rfl ?_ | refine OW_neqIF rfl rfl (by first | assumption | rfl) ?_ | refine OW_neqIT rfl rfl (by assumption) ?_ | refine OW_eqlIT rfl rfl (by first | assumption | rfl) ?_ | refine OW_eqlIF rfl rfl (by assumption) ?_ | refine OW_neqIF rfl rfl (by first | assumption | rfl) ?_ | refine OW_eqlIT rfl rfl (by first | assumption | rfl) ?_ | (refine OW_isLoad ?_; refine OW_loadM (by first | with_reducible exact agg_Grant | with_reducible exact s_agg_Tag | with_reducible exact agg_Token) rfl (by first | assumption | (apply_assumption; assumption)) ?_) | refine OW_idxN und_Grants el_Grant rfl rfl 0 rfl (by omega) ?_ | refine OW_sliceP h_slp_Tag rfl ?_ | refine OW_slicePOT a_slp_TagT rfl ?_ | refine OW_fieldB fldo_G0 rfl ?_ | refine OW_fieldB fldo_G1 rfl ?_ | refine OW_fieldB fldo_G2 rfl ?_ | refine OW_fieldB fldo_T0 rfl ?_ | refine OW_fieldB fldo_T1 rfl ?_ | refine OW_fieldB fldo_T2 rfl ?_ | refine OW_lenS und_Grants rfl ?_ | refine OW_idxN und_Grants el_Grant rfl rfl _ rfl (by omega) ?_ | refine OW_moveV (.int _ _) rfl ?_ | refine OW_moveV (.slice _ _ _) rfl ?_ | refine OW_moveV (.bool _) rfl ?_ | refine OW_moveV (.pointer _) rfl ?_ | refine OW_moveV (.string _) rfl ?_ | refine OW_moveV (.agg _) rfl ?_ | refine OW_moveV (.tuple _) rfl ?_ | refine OW_nil ?_ | refine thenE_normal ?_ | refine CW_seq ?_ | refine CW_region (by kernel_rfl) ?_ | refine OW_assignV (.int _ _) rfl ?_ | refine OW_assignV (.slice _ _ _) rfl ?_ | refine OW_assignV (.bool _) rfl ?_ | refine OW_assignV (.pointer _) rfl ?_ | refine OW_assignV (.string _) rfl ?_ | refine OW_assignV (.agg _) rfl ?_ | refine OW_assignV (.tuple _) rfl ?_ | refine OW_addI rfl rfl (by omega) ?_ | refine OW_subI rfl rfl (by omega) ?_ | refine OW_mulI rfl rfl (by omega) ?_ | refine OW_lss rfl rfl ?_ | refine OW_extract rfl rfl ?_ | refine OW_gtr rfl rfl ?_ | refine OW_leq rfl rfl ?_ | refine OW_geq rfl rfl ?_ | refine OW_eql rfl rfl ?_ | refine OW_neq rfl rfl ?_ | refine OW_not rfl ?_ | refine OW_pickT rfl _ rfl ?_ | refine OW_pickF rfl (.bool _) rfl ?_ | refine OW_pickB rfl rfl rfl ?_ | refine OW_move ?_ | refine OW_assign ?_ | refine OW_pass rfl ?_ | refine OW_take rfl ?_ | refine OW_lenS (by first | with_reducible exact und_bytes | with_reducible exact und_bytess) rfl ?_ | refine OW_convInt (by first | with_reducible exact und_u8 | with_reducible exact und_u64 | with_reducible exact und_int | with_reducible exact und_u32) (by first | with_reducible exact und_u8 | with_reducible exact und_u64 | with_reducible exact und_int | with_reducible exact und_u32) rfl ?_ | refine OW_add rfl rfl ?_ | refine OW_sub rfl rfl ?_ | refine OW_mul rfl rfl ?_ | refine OW_min2 rfl rfl ?_ | refine OW_max2 rfl rfl ?_ | refine OW_neg rfl ?_ | refine CW_block ?_ | refine CW_condT rfl ?_ | refine CW_condF rfl ?_ | refine CW_exit ?_ | refine CW_ret ?_ | refine CW_skip ?_ | refine LW_seq ?_ | refine LW_regC ?_ | refine LW_condC ?_ | refine LW_regF ?_ | refine LW_condF ?_ | refine FW_seq ?_ | refine FW_region (by kernel_rfl) ?_ | refine FW_block ?_ | refine FW_condT rfl ?_ | refine FW_condF rfl ?_ | refine FW_exit ?_ | refine FW_ret ?_ | refine FW_skip ?_ | refine LW_ret ?_ | refine LW_skip ?_ | refine thenE_exit ?_ | refine thenE_ret ?_ | refine inBlockE_normal ?_ | refine inBlockE_same ?_ | refine inBlockE_ret ?_ | refine inBlockE_ne (by rfl) ?_ | refine OW_eqlB (by with_reducible exact und_bool) rfl rfl ?_ | refine OW_neqB (by with_reducible exact und_bool) rfl rfl ?_ | refine OW_idxS (by with_reducible exact und_bytes) one_u8 rfl rfl _ rfl (by omega) ?_ | refine OW_idxS (by with_reducible exact und_bytess) one_bytes rfl rfl _ rfl (by omega) ?_ | refine OW_load1 (by first | with_reducible exact one_u8 | with_reducible exact one_bytes) rfl _ (by assumption) ?_ | (refine OW_isLoad ?_; refine OW_loadBk (by first | with_reducible exact s_int | with_reducible exact one_u8 | with_reducible exact one_grants) rfl (by assumption) _ (by rfl) ?_) | refine OW_load1 s_int rfl _ (by assumption) ?_ | (refine OW_isLoad ?_; refine OW_loadBk (by first | with_reducible exact one_u8 | with_reducible exact one_bytes | with_reducible exact one_bool | with_reducible exact one_int | with_reducible exact one_errno | with_reducible exact one_u32 | with_reducible exact one_u64 | with_reducible exact one_string | with_reducible exact s_int | with_reducible exact one_u8 | with_reducible exact one_grants) rfl (by apply_assumption; assumption) _ (by first | assumption | rfl) ?_) | refine OW_load1 (by first | with_reducible exact one_u8 | with_reducible exact one_bytes | with_reducible exact one_bool | with_reducible exact one_int | with_reducible exact one_errno | with_reducible exact one_u32 | with_reducible exact one_u64 | with_reducible exact one_string | with_reducible exact s_int | with_reducible exact one_u8 | with_reducible exact one_grants) rfl _ (by apply_assumption; assumption) ?_)
         refine OW_nil ?_
         exact stay_mk _ _ _ _)
    | refine OY_ppass rfl rfl ?_
    | refine OY_qpass rfl rfl ?_
    | (apply OY_ptake _ rfl rfl
       · intro wd
         (first | refine OW_fieldO fldo_G0 rfl ?_ | refine OW_fieldO fldo_G1 rfl ?_ | refine OW_neqIF rfl rfl (by first | assumption | rfl) ?_ | refine OW_neqIT rfl rfl (by assumption) ?_ | refine OW_eqlIT rfl rfl (by first | assumption | rfl) ?_ | refine OW_eqlIF rfl rfl (by assumption) ?_ | refine OW_neqIF rfl rfl (by first | assumption | rfl) ?_ | refine OW_eqlIT rfl rfl (by first | assumption | rfl) ?_ | (refine OW_isLoad ?_; refine OW_loadM (by first | with_reducible exact agg_Grant | with_reducible exact s_agg_Tag | with_reducible exact agg_Token) rfl (by first | assumption | (apply_assumption; assumption)) ?_) | refine OW_idxN und_Grants el_Grant rfl rfl 0 rfl (by omega) ?_ | refine OW_sliceP h_slp_Tag rfl ?_ | refine OW_slicePOT a_slp_TagT rfl ?_ | refine OW_fieldB fldo_G0 rfl ?_ | refine OW_fieldB fldo_G1 rfl ?_ | refine OW_fieldB fldo_G2 rfl ?_ | refine OW_fieldB fldo_T0 rfl ?_ | refine OW_fieldB fldo_T1 rfl ?_ | refine OW_fieldB fldo_T2 rfl ?_ | refine OW_lenS und_Grants rfl ?_ | refine OW_idxN und_Grants el_Grant rfl rfl _ rfl (by omega) ?_ | refine OW_moveV (.int _ _) rfl ?_ | refine OW_moveV (.slice _ _ _) rfl ?_ | refine OW_moveV (.bool _) rfl ?_ | refine OW_moveV (.pointer _) rfl ?_ | refine OW_moveV (.string _) rfl ?_ | refine OW_moveV (.agg _) rfl ?_ | refine OW_moveV (.tuple _) rfl ?_ | refine OW_nil ?_ | refine thenE_normal ?_ | refine CW_seq ?_ | refine CW_region (by kernel_rfl) ?_ | refine OW_assignV (.int _ _) rfl ?_ | refine OW_assignV (.slice _ _ _) rfl ?_ | refine OW_assignV (.bool _) rfl ?_ | refine OW_assignV (.pointer _) rfl ?_ | refine OW_assignV (.string _) rfl ?_ | refine OW_assignV (.agg _) rfl ?_ | refine OW_assignV (.tuple _) rfl ?_ | refine OW_addI rfl rfl (by omega) ?_ | refine OW_subI rfl rfl (by omega) ?_ | refine OW_mulI rfl rfl (by omega) ?_ | refine OW_lss rfl rfl ?_ | refine OW_extract rfl rfl ?_ | refine OW_gtr rfl rfl ?_ | refine OW_leq rfl rfl ?_ | refine OW_geq rfl rfl ?_ | refine OW_eql rfl rfl ?_ | refine OW_neq rfl rfl ?_ | refine OW_not rfl ?_ | refine OW_pickT rfl _ rfl ?_ | refine OW_pickF rfl (.bool _) rfl ?_ | refine OW_pickB rfl rfl rfl ?_ | refine OW_move ?_ | refine OW_assign ?_ | refine OW_pass rfl ?_ | refine OW_take rfl ?_ | refine OW_lenS (by first | with_reducible exact und_bytes | with_reducible exact und_bytess) rfl ?_ | refine OW_convInt (by first | with_reducible exact und_u8 | with_reducible exact und_u64 | with_reducible exact und_int | with_reducible exact und_u32) (by first | with_reducible exact und_u8 | with_reducible exact und_u64 | with_reducible exact und_int | with_reducible exact und_u32) rfl ?_ | refine OW_add rfl rfl ?_ | refine OW_sub rfl rfl ?_ | refine OW_mul rfl rfl ?_ | refine OW_min2 rfl rfl ?_ | refine OW_max2 rfl rfl ?_ | refine OW_neg rfl ?_ | refine CW_block ?_ | refine CW_condT rfl ?_ | refine CW_condF rfl ?_ | refine CW_exit ?_ | refine CW_ret ?_ | refine CW_skip ?_ | refine LW_seq ?_ | refine LW_regC ?_ | refine LW_condC ?_ | refine LW_regF ?_ | refine LW_condF ?_ | refine FW_seq ?_ | refine FW_region (by kernel_rfl) ?_ | refine FW_block ?_ | refine FW_condT rfl ?_ | refine FW_condF rfl ?_ | refine FW_exit ?_ | refine FW_ret ?_ | refine FW_skip ?_ | refine LW_ret ?_ | refine LW_skip ?_ | refine thenE_exit ?_ | refine thenE_ret ?_ | refine inBlockE_normal ?_ | refine inBlockE_same ?_ | refine inBlockE_ret ?_ | refine inBlockE_ne (by rfl) ?_ | refine OW_eqlB (by with_reducible exact und_bool) rfl rfl ?_ | refine OW_neqB (by with_reducible exact und_bool) rfl rfl ?_ | refine OW_idxS (by with_reducible exact und_bytes) one_u8 rfl rfl _ rfl (by omega) ?_ | refine OW_idxS (by with_reducible exact und_bytess) one_bytes rfl rfl _ rfl (by omega) ?_ | refine OW_load1 (by first | with_reducible exact one_u8 | with_reducible exact one_bytes) rfl _ (by assumption) ?_ | (refine OW_isLoad ?_; refine OW_loadBk (by first | with_reducible exact s_int | with_reducible exact one_u8 | with_reducible exact one_grants) rfl (by assumption) _ (by rfl) ?_) | refine OW_load1 s_int rfl _ (by assumption) ?_)
         refine OW_nil ?_
         exact stay_mk _ _ _ _)
    | (apply OY_qtake _ rfl rfl
       · intro wd hwd
         (first | refine OW_fieldO fldo_G0 rfl ?_ | refine OW_fieldO fldo_G1 rfl ?_ | refine OW_neqIF rfl rfl (by first | assumption | rfl) ?_ | refine OW_neqIT rfl rfl (by assumption) ?_ | refine OW_eqlIT rfl rfl (by first | assumption | rfl) ?_ | refine OW_eqlIF rfl rfl (by assumption) ?_ | refine OW_neqIF rfl rfl (by first | assumption | rfl) ?_ | refine OW_eqlIT rfl rfl (by first | assumption | rfl) ?_ | (refine OW_isLoad ?_; refine OW_loadM (by first | with_reducible exact agg_Grant | with_reducible exact s_agg_Tag | with_reducible exact agg_Token) rfl (by first | assumption | (apply_assumption; assumption)) ?_) | refine OW_idxN und_Grants el_Grant rfl rfl 0 rfl (by omega) ?_ | refine OW_sliceP h_slp_Tag rfl ?_ | refine OW_slicePOT a_slp_TagT rfl ?_ | refine OW_fieldB fldo_G0 rfl ?_ | refine OW_fieldB fldo_G1 rfl ?_ | refine OW_fieldB fldo_G2 rfl ?_ | refine OW_fieldB fldo_T0 rfl ?_ | refine OW_fieldB fldo_T1 rfl ?_ | refine OW_fieldB fldo_T2 rfl ?_ | refine OW_lenS und_Grants rfl ?_ | refine OW_idxN und_Grants el_Grant rfl rfl _ rfl (by omega) ?_ | refine OW_moveV (.int _ _) rfl ?_ | refine OW_moveV (.slice _ _ _) rfl ?_ | refine OW_moveV (.bool _) rfl ?_ | refine OW_moveV (.pointer _) rfl ?_ | refine OW_moveV (.string _) rfl ?_ | refine OW_moveV (.agg _) rfl ?_ | refine OW_moveV (.tuple _) rfl ?_ | refine OW_nil ?_ | refine thenE_normal ?_ | refine CW_seq ?_ | refine CW_region (by kernel_rfl) ?_ | refine OW_assignV (.int _ _) rfl ?_ | refine OW_assignV (.slice _ _ _) rfl ?_ | refine OW_assignV (.bool _) rfl ?_ | refine OW_assignV (.pointer _) rfl ?_ | refine OW_assignV (.string _) rfl ?_ | refine OW_assignV (.agg _) rfl ?_ | refine OW_assignV (.tuple _) rfl ?_ | refine OW_addI rfl rfl (by omega) ?_ | refine OW_subI rfl rfl (by omega) ?_ | refine OW_mulI rfl rfl (by omega) ?_ | refine OW_lss rfl rfl ?_ | refine OW_extract rfl rfl ?_ | refine OW_gtr rfl rfl ?_ | refine OW_leq rfl rfl ?_ | refine OW_geq rfl rfl ?_ | refine OW_eql rfl rfl ?_ | refine OW_neq rfl rfl ?_ | refine OW_not rfl ?_ | refine OW_pickT rfl _ rfl ?_ | refine OW_pickF rfl (.bool _) rfl ?_ | refine OW_pickB rfl rfl rfl ?_ | refine OW_move ?_ | refine OW_assign ?_ | refine OW_pass rfl ?_ | refine OW_take rfl ?_ | refine OW_lenS (by first | with_reducible exact und_bytes | with_reducible exact und_bytess) rfl ?_ | refine OW_convInt (by first | with_reducible exact und_u8 | with_reducible exact und_u64 | with_reducible exact und_int | with_reducible exact und_u32) (by first | with_reducible exact und_u8 | with_reducible exact und_u64 | with_reducible exact und_int | with_reducible exact und_u32) rfl ?_ | refine OW_add rfl rfl ?_ | refine OW_sub rfl rfl ?_ | refine OW_mul rfl rfl ?_ | refine OW_min2 rfl rfl ?_ | refine OW_max2 rfl rfl ?_ | refine OW_neg rfl ?_ | refine CW_block ?_ | refine CW_condT rfl ?_ | refine CW_condF rfl ?_ | refine CW_exit ?_ | refine CW_ret ?_ | refine CW_skip ?_ | refine LW_seq ?_ | refine LW_regC ?_ | refine LW_condC ?_ | refine LW_regF ?_ | refine LW_condF ?_ | refine FW_seq ?_ | refine FW_region (by kernel_rfl) ?_ | refine FW_block ?_ | refine FW_condT rfl ?_ | refine FW_condF rfl ?_ | refine FW_exit ?_ | refine FW_ret ?_ | refine FW_skip ?_ | refine LW_ret ?_ | refine LW_skip ?_ | refine thenE_exit ?_ | refine thenE_ret ?_ | refine inBlockE_normal ?_ | refine inBlockE_same ?_ | refine inBlockE_ret ?_ | refine inBlockE_ne (by rfl) ?_ | refine OW_eqlB (by with_reducible exact und_bool) rfl rfl ?_ | refine OW_neqB (by with_reducible exact und_bool) rfl rfl ?_ | refine OW_idxS (by with_reducible exact und_bytes) one_u8 rfl rfl _ rfl (by omega) ?_ | refine OW_idxS (by with_reducible exact und_bytess) one_bytes rfl rfl _ rfl (by omega) ?_ | refine OW_load1 (by first | with_reducible exact one_u8 | with_reducible exact one_bytes) rfl _ (by assumption) ?_ | (refine OW_isLoad ?_; refine OW_loadBk (by first | with_reducible exact s_int | with_reducible exact one_u8 | with_reducible exact one_grants) rfl (by assumption) _ (by rfl) ?_) | refine OW_load1 s_int rfl _ (by assumption) ?_ | (refine OW_isLoad ?_; refine OW_loadBk (by first | with_reducible exact one_u8 | with_reducible exact one_bytes | with_reducible exact one_bool | with_reducible exact one_int | with_reducible exact one_errno | with_reducible exact one_u32 | with_reducible exact one_u64 | with_reducible exact one_string | with_reducible exact s_int | with_reducible exact one_u8 | with_reducible exact one_grants) rfl (by apply_assumption; assumption) _ (by first | assumption | rfl) ?_) | refine OW_load1 (by first | with_reducible exact one_u8 | with_reducible exact one_bytes | with_reducible exact one_bool | with_reducible exact one_int | with_reducible exact one_errno | with_reducible exact one_u32 | with_reducible exact one_u64 | with_reducible exact one_string | with_reducible exact s_int | with_reducible exact one_u8 | with_reducible exact one_grants) rfl _ (by apply_assumption; assumption) ?_)
         refine OW_nil ?_
         exact stay_mk _ _ _ _)
    | refine OY_a (actY_of rfl ?_)
    | refine OY_d (actY_of rfl ?_)
    | refine OY_a (actY_pass rfl rfl ?_)
    | refine OY_d (actY_pass rfl rfl ?_)
    | refine OY_a (actY_take rfl rfl ?_)
    | refine OY_d (actY_take rfl rfl ?_))
  exact hEnd.out) (k : B) : A := h ⟨k⟩
structure Fine (t : TK) : Prop where
  tag : t.tag.length = 32
  len : t.line.length ≤ 4
  g : ∀ x ∈ t.line, GOk x
theorem fine0 : Fine t0 := ⟨rfl, by decide, fun x hx => by cases hx⟩
theorem fine_mint {key : List UInt8} {ten : Int} {g : GD} (hg : GOk g) : Fine (mintT key ten g).1 := by
  unfold mintT
  by_cases h : mayT ⟨ten, [g], tzS⟩ = true
  · rw [if_pos h]
    exact ⟨show (tagL key ten [g]).length = 32 from tagL_len _ _ _, show 1 ≤ 4 by decide, fun x hx => by
      have hx : x ∈ [g] := hx
      rw [List.mem_singleton] at hx; subst hx; exact hg⟩
  · rw [if_neg h]; exact fine0
theorem fine_att {t : TK} {g : GD} (ht : Fine t) (hg : GOk g) : Fine (attT t g).1 := by
  unfold attT
  by_cases h : (mayT t && mayG g) = true
  rotate_left 1
  · rw [if_neg h]; exact fine0
  rw [if_pos h]
  by_cases h4 : t.line.length = 4
  · rw [if_pos h4]; exact fine0
  rw [if_neg h4]
  refine ⟨hmacL_length _ _, ?_, ?_⟩
  · show (t.line ++ [g]).length ≤ 4
    have := ht.len
    simp
    omega
  · intro x hx
    rcases List.mem_append.1 hx with hx | hx
    · exact ht.g x hx
    · rw [List.mem_singleton] at hx; subst hx; exact hg
set_option maxHeartbeats 8000000 in
theorem walk (w : World) (v0 : Value) (key : List UInt8) (h0 : kBs.R w [v0] key) (v1 : Value) (ten : Int) (h1 : kI.R w [v1] ten) (v2 : Value) (l : List GD) (h2 : kGrants.R w [v2] l) : Calls Try.prog 6 #[v0, v1, v2] w (RetV w (.bool true)) := by
  obtain ⟨A, cA, hv0, ⟨hca, hca2⟩, ha⟩ := h0
  injection hv0 with hv0
  subst hv0
  obtain ⟨hv1, hti⟩ := h1
  injection hv1 with hv1
  subst hv1
  obtain ⟨B, cB, hv2, hcB, hcB2, hS⟩ := h2
  injection hv2 with hv2
  subst hv2
  obtain ⟨hl, hgk⟩ := grants_of hS
  refine calls_of_CW Try.func6 rfl (by simp [Try.ntmps6]) ?_
  rw [Try.ntmps6]
  refine go_LTokenMints (k := ?_)
  refine OW_split 21 _ rfl (fun hh => ?_) (fun hh => ?_)
  · skip
    refine go_LTokenMints (k := ?_)
    refine OW_callV Try.func28 (by kernel_rfl) rfl (awake9_any w) rfl ?_
    intro wA hxA
    refine go_LTokenMints (k := ?_)
    exact bodyE_ret1 rfl (.bool true) rfl ⟨rfl, (Ext.rfl' w).trans' hxA⟩
  have hkl : key.length ≤ 200 := by have := of_decide_eq_false hh; omega
  clear hh
  refine go_LTokenMints (k := ?_)
  refine OW_split 26 _ rfl (fun hh => ?_) (fun hh => ?_)
  · skip
    refine go_LTokenMints (k := ?_)
    refine OW_callV Try.func28 (by kernel_rfl) rfl (awake9_any w) rfl ?_
    intro wA hxA
    refine go_LTokenMints (k := ?_)
    exact bodyE_ret1 rfl (.bool true) rfl ⟨rfl, (Ext.rfl' w).trans' hxA⟩
  have hpos : 0 < l.length := by have := ne_of_beq_false hh; omega
  clear hh
  refine go_LTokenMints (k := ?_)
  refine CW_cond _ rfl (fun hh => ?_) (fun hh => ?_)
  · skip
    refine go_LTokenMints (k := ?_)
    refine OW_callV Try.func28 (by kernel_rfl) rfl (awake9_any w) rfl ?_
    intro wA hxA
    refine go_LTokenMints (k := ?_)
    exact bodyE_ret1 rfl (.bool true) rfl ⟨rfl, (Ext.rfl' w).trans' hxA⟩
  have hl10 : l.length ≤ 10 := by have := of_decide_eq_false hh; omega
  clear hh
  have hka : key.length ≤ 80000 := by omega
  obtain ⟨ad, hAd, hat0⟩ := hl.at_ hpos
  have hg0k := hgk _ (List.getElem_mem hpos)
  generalize l[0] = g0 at *
  subst hAd
  have hfm := fine_mint (key := key) (ten := ten) hg0k
  obtain ⟨T0, hT0⟩ : ∃ T, (mintT key ten g0).1 = T := ⟨_, rfl⟩
  obtain ⟨er0, her0⟩ : ∃ er, (mintT key ten g0).2 = er := ⟨_, rfl⟩
  have hmp : mintT key ten g0 = (T0, er0) := by rw [← hT0, ← her0]
  rw [hT0] at hfm
  clear hT0 her0
  have tT0 := fun v => tcells_length (t := T0) hfm.tag v
  refine go_LTokenMints (k := ?_)
  refine OW_lit [] und_bytes info_u8 rfl rfl (by simp) (by decide) ?_
  intro w1 g1 hb1 hg1 hx1
  have ho1 : w1.ownsRow w.heap.size 5 1 (.slice (some ⟨g1, 0, none⟩) 0 0) 0 [] := own_of_blk hg1 hb1 rfl (Nat.le_refl _) (by decide) rfl
  refine go_LTokenMints (k := ?_)
  refine OW_apU (l := []) (l' := key) rfl rfl ho1 (ha.ext hx1) (by simp; omega) hx1.size ?_
  intro w2 A2 c2 ho2 hT2 hbel2
  rw [List.nil_append] at ho2 ⊢
  have hx02 : Ext w w2 := hx1.trans hbel2
  have hbK : Bs w2 A2 key := own_rd ho2
  have hcK := (own_cap ho2).1
  clear ho1 hb1 ho2 hT2
  have hM1 := tokMint_any w2 A2 c2 key ten g0 hbK hcK hka
  rw [hmp] at hM1
  have hga2 := gAt (At.ext hat0 hx02)
  refine go_LTokenMints (k := ?_)
  refine OW_callC Try.func29 (by kernel_rfl) rfl hM1 rfl ?_
  rintro en w3 ⟨A8, c8, rfl, hO8, hx3⟩
  refine ⟨_, rfl, ?_⟩
  clear hM1 hga2
  replace hO8 : GOwn w3 w.heap.size A8 c8 T0.line := GOwn.mono hO8 hx02.size
  refine go_LTokenMints (k := ?_)
  refine OW_allocA agg_Token ?_
  intro u8 g8 hb8 hg8 hlt8 hxa8
  refine go_LTokenMints (k := ?_)
  refine OW_storeA agg_Token rfl (tcells T0 (.slice A8 T0.line.length c8)) rfl (tT0 _) hb8 (by kernel_rfl) (tcells_one _ _ _ _) ?_
  intro w4 hb8 hgr8
  have hxb8 : Ext w3 w4 := (Keeps.of_only hgr8 (S := (· = g8)) rfl).ext hxa8 (fun j hj => by have hj : j = g8 := hj; omega)
  clear hgr8 hxa8
  replace hO8 := hO8.ext hxb8
  have hlt8w4 := hb8.lt
  have hx24 := hx3.trans' hxb8
  have hx04 := hx02.trans' hx24
  replace hbK := hbK.ext hx24
  have hM2 := refMint_any w4 A cA key ten g0 (ha.ext hx04) hca hka
  rw [hmp] at hM2
  have hga4 := gAt (At.ext hat0 hx04)
  refine go_LTokenMints (k := ?_)
  refine OW_callC Try.func30 (by kernel_rfl) rfl hM2 rfl ?_
  rintro en w5 ⟨A10, c10, rfl, hO10, hx5⟩
  refine ⟨_, rfl, ?_⟩
  clear hM2 hga4
  replace hO10 : GOwn w5 w.heap.size A10 c10 T0.line := GOwn.mono hO10 hx04.size
  refine go_LTokenMints (k := ?_)
  refine OW_allocA agg_Token ?_
  intro u10 g10 hb10 hg10 hlt10 hxa10
  refine go_LTokenMints (k := ?_)
  refine OW_storeA agg_Token rfl (tcells T0 (.slice A10 T0.line.length c10)) rfl (tT0 _) hb10 (by kernel_rfl) (tcells_one _ _ _ _) ?_
  intro w6 hb10 hgr10
  have hxb10 : Ext w5 w6 := (Keeps.of_only hgr10 (S := (· = g10)) rfl).ext hxa10 (fun j hj => by have hj : j = g10 := hj; omega)
  clear hgr10 hxa10
  replace hO10 := hO10.ext hxb10
  have hx46 := hx5.trans' hxb10
  have hx06 := hx04.trans' hx46
  replace hO8 := hO8.ext hx46
  replace hb8 := hb8.ext hx46
  replace hbK := hbK.ext hx46
  have hlt8b := hb8.lt
  have hg8w : w.heap.size ≤ g8 := by have := (hx02.trans' hx3).size; omega
  have hg10w : w.heap.size ≤ g10 := by have := (hx04.trans' hx5).size; omega
  have hne810 : ¬ g8 = g10 := by have h1 := hx5.size; have h2 := hxb8.size; omega
  refine go_LTokenMints (k := ?_)
  refine OW_loadX agg_Token rfl (tcells T0 (.slice A8 T0.line.length c8)) (tT0 _) hb8.atL ?_
  refine go_LTokenMints (k := ?_)
  refine OW_loadX agg_Token rfl (tcells T0 (.slice A10 T0.line.length c10)) (tT0 _) hb10.atL ?_
  have hS := refTSame_any w6 A8 A10 c8 c10 T0 T0 hO8.rd hO10.rd hfm.g hfm.g (by have := hfm.len; omega) hfm.tag hfm.tag
  rw [decide_eq_true rfl] at hS
  refine go_LTokenMints (k := ?_)
  refine OW_callV Try.func31 (by kernel_rfl) rfl hS rfl ?_
  intro w7 hx7
  clear hS
  have hx07 := hx06.trans' hx7
  refine go_LTokenMints (k := ?_)
  refine OW_callV Try.func32 (by kernel_rfl) rfl (lawSame_any w7 A2 A c2 cA key key (hbK.ext hx7) (ha.ext hx07) rfl) rfl ?_
  intro w8 hx8
  have hx68 := hx7.trans' hx8
  have hx08 := hx06.trans' hx68
  replace hO8 := hO8.ext hx68
  replace hO10 := hO10.ext hx68
  replace hb8 := hb8.ext hx68
  replace hb10 := hb10.ext hx68
  clear hbK hmp hat0 hg0k tT0
  refine go_LTokenMints (k := ?_)
  refine CW_loop (fun e' w' => ∃ (k : Nat) (T : TK) (A8 A10 : Option Addr) (c8 c10 : Nat), 1 ≤ k ∧ Fine T ∧ e' 2 = .slice (some ad) l.length cB ∧ e' 8 = .pointer (some ⟨g8, 0, none⟩) ∧ e' 10 = .pointer (some ⟨g10, 0, none⟩) ∧ e' 12 = .int .i64 k ∧ Blk w' g8 45 (tcells T (.slice A8 T.line.length c8)).toArray ∧ Blk w' g10 45 (tcells T (.slice A10 T.line.length c10)).toArray ∧ GOwn w' w.heap.size A8 c8 T.line ∧ GOwn w' w.heap.size A10 c10 T.line ∧ Ext w w') (fun e' _ => l.length - (intOf (e' 12)).toNat) ⟨1, T0, A8, A10, c8, c10, Nat.le_refl _, hfm, rfl, rfl, rfl, rfl, hb8, hb10, hO8, hO10, hx08⟩ ?_
  clear hO8 hO10 hb8 hb10 hx08 hfm hlt8b hxb8 hxb10
  rintro e9 w9 ⟨k, T, A8, A10, c8, c10, hk1, hfT, q2, q8, q10, q12, hb8, hb10, hO8, hO10, hx09⟩
  rw [upd_self q2, upd_self q8, upd_self q10, upd_self q12]
  clear q2 q8 q10 q12
  have hlt8b := hb8.lt
  have hlt10b := hb10.lt
  have hTt := hfT.tag
  have hT4 : T.line.length ≤ 10000 := by have := hfT.len; omega
  have tT := fun v => tcells_length (t := T) hTt v
  refine go_LTokenMints (k := ?_)
  refine CW_cond _ rfl (fun hh => ?_) (fun hh => ?_)
  rotate_left 1
  · skip
    refine go_LTokenMints (k := ?_)
    refine OW_callV Try.func28 (by kernel_rfl) rfl (awake9_any w9) rfl ?_
    intro wA hxA
    refine go_LTokenMints (k := ?_)
    exact bodyE_ret1 rfl (.bool true) rfl ⟨rfl, hx09.trans' hxA⟩
  have hlt : k < l.length := by have := of_decide_eq_true hh; omega
  clear hh
  obtain ⟨ad', hA', hatw9⟩ := (hl.ext hx09).at_ hlt
  cases hA'
  have hgkk := hgk _ (List.getElem_mem hlt)
  generalize l[k] = gk at *
  have hfu := fine_att (g := gk) hfT hgkk
  obtain ⟨u, hu⟩ : ∃ u, (attT T gk).1 = u := ⟨_, rfl⟩
  obtain ⟨er, her⟩ : ∃ er, (attT T gk).2 = er := ⟨_, rfl⟩
  have hr : attT T gk = (u, er) := by rw [← hu, ← her]
  rw [hu] at hfu
  clear hu her
  have tU := fun v => tcells_length (t := u) hfu.tag v
  refine go_LTokenMints (k := ?_)
  refine OW_loadX agg_Token rfl (tcells T (.slice A8 T.line.length c8)) (tT _) hb8.atL ?_
  refine go_LTokenMints (k := ?_)
  refine OW_callC Try.func33 (by kernel_rfl) rfl (copied_any w9 A8 c8 T hO8.rd hT4 hTt) rfl ?_
  rintro en w10 ⟨A13, c13, rfl, hO13, hx10⟩
  refine ⟨_, rfl, ?_⟩
  refine go_LTokenMints (k := ?_)
  refine OW_allocA agg_Token ?_
  intro u13 g13 hb13 hg13 hlt13 hxa13
  refine go_LTokenMints (k := ?_)
  refine OW_storeA agg_Token rfl (tcells T (.slice A13 T.line.length c13)) rfl (tT _) hb13 (by kernel_rfl) (tcells_one _ _ _ _) ?_
  intro w11 hb13 hgr13
  have hxb13 : Ext w10 w11 := (Keeps.of_only hgr13 (S := (· = g13)) rfl).ext hxa13 (fun j hj => by have hj : j = g13 := hj; omega)
  clear hgr13 hxa13
  have hx911 := hx10.trans' hxb13
  have hx011 := hx09.trans' hx911
  replace hO13 := hO13.ext hxb13
  have hG13 := hO13.rd
  have hc13 := hO13.cap
  have hatw11 := At.ext hatw9 hx911
  replace hb8 := hb8.ext hx911
  replace hb10 := hb10.ext hx911
  replace hO8 := hO8.ext hx911
  replace hO10 := hO10.ext hx911
  clear hO13
  refine go_LTokenMints (k := ?_)
  refine CW_meet (fun e' w' => ∃ (gN : Nat) (AN : Option Addr) (cN : Nat), e' 2 = .slice (some ad) l.length cB ∧ e' 8 = .pointer (some ⟨g8, 0, none⟩) ∧ e' 10 = .pointer (some ⟨g10, 0, none⟩) ∧ e' 12 = .int .i64 k ∧ e' 13 = .pointer (some ⟨g13, 0, none⟩) ∧ e' 14 = .pointer (some ⟨gN, 0, none⟩) ∧ e' 15 = .int .i64 er ∧ w11.heap.size ≤ gN ∧ Blk w' gN 45 (tcells u (.slice AN u.line.length cN)).toArray ∧ GOwn w' w11.heap.size AN cN u.line ∧ Ext w11 w') ?_ ?_
  · obtain ⟨C, hC0⟩ : ∃ C : World → Prop, C = fun v => Ext w11 v := ⟨_, rfl⟩
    have yT : ∀ v, C v → AtM v ⟨g13, 0, none⟩ (tcells T (.slice A13 T.line.length c13)) 34 := by rw [hC0]; exact fun v hv => ⟨(hb13.ext hv).atL, tT _⟩
    have yG : ∀ v, C v → AtM v (ad.add (k * 3)) (gcells gk) 3 := by rw [hC0]; exact fun v hv => gAt (At.ext hatw11 hv)
    have hAt := fun v (hv : Ext w11 v) => tokAtt_any v A13 c13 T gk (hG13.ext hv) hc13 hT4 hTt
    rw [hr] at hAt
    refine CW_tree2 [0, 4] (.q 0 (.p 1 (.p 2 (.p 3 (.q 4 (Ty.graft (.a2 5 (.p 6 (.p 7 (.p 8 (.a 9 .done)))) 9 (.d 5 (.p 6 (.p 7 (.p 8 .done))))) (.d 10 (.p 11 .done)))))))) (C) (by kernel_rfl) (by kernel_rfl) (by kernel_rfl) ?_ ?_
    · exact inE hC0
    intro x0 hy0 h_C
    refine oy_LTokenMints (k := ?_)
    refine OY_a2 (actY_of rfl ?_) (actY_of rfl ?_)
    · skip
      refine OW_callC Try.func34 (by kernel_rfl) rfl (hAt x0 hy0) rfl ?_
      rintro en x1 ⟨AN, cN, rfl, hON, hxc⟩
      refine ⟨_, rfl, ?_⟩
      have hy1 := hy0.trans' hxc
      replace hON := hON.mono (show w11.heap.size ≤ x0.heap.size from hy0.size)
      first | refine OW_nil (goY_mkE hC0 (hy1) ?_) | refine OW_nil (goY_dropE hC0 (hy1) ?_)
      refine oy_LTokenMints (k := ?_)
      refine OW_allocA agg_Token ?_
      intro x2 gN hbN hgN hltN hxd
      have hy2 := hy1.trans' hxd
      have hgN0 : w11.heap.size ≤ gN := by have := hy1.size; omega
      replace hON := hON.ext hxd
      first | refine OW_nil (goY_mkE hC0 (hy2) ?_) | refine OW_nil (goY_dropE hC0 (hy2) ?_)
      refine oy_LTokenMints (k := ?_)
      refine OW_storeA agg_Token rfl (tcells u (.slice AN u.line.length cN)) rfl (tU _) hbN (by kernel_rfl) (tcells_one _ _ _ _) ?_
      intro x9 hb9 hgr9
      have hk9 := Keeps.of_only hgr9 (S := (· = gN)) rfl
      have hy9 : Ext w11 x9 := hk9.ext hy2 (fun j hj => by have hj : j = gN := hj; omega)
      have hO9 : GOwn x9 w11.heap.size AN cN u.line := ownN_keeps hON hk9 (hON.ne hbN (by decide))
      first | refine OW_nil (goY_mkE hC0 (hy9) ?_) | refine OW_nil (goY_dropE hC0 (hy9) ?_)
      refine oy_LTokenMints (k := ?_)
      exact ⟨rfl, gN, AN, cN, rfl, rfl, rfl, rfl, rfl, rfl, rfl, hgN0, hb9, hO9, hy9⟩
    · skip
      refine OW_allocA agg_Token ?_
      intro x1 gN hbN hgN hltN hxd
      have hy1 := hy0.trans' hxd
      have hgN0 : w11.heap.size ≤ gN := by have := hy0.size; omega
      first | refine OW_nil (goY_mkE hC0 (hy1) ?_) | refine OW_nil (goY_dropE hC0 (hy1) ?_)
      refine oy_LTokenMints (k := ?_)
      refine OW_callC Try.func34 (by kernel_rfl) rfl (hAt x1 hy1) rfl ?_
      rintro en x2 ⟨AN, cN, rfl, hON, hxc⟩
      refine ⟨_, rfl, ?_⟩
      have hy2 := hy1.trans' hxc
      replace hON := hON.mono (show w11.heap.size ≤ x1.heap.size from hy1.size)
      replace hbN := hbN.ext hxc
      first | refine OW_nil (goY_mkE hC0 (hy2) ?_) | refine OW_nil (goY_dropE hC0 (hy2) ?_)
      refine oy_LTokenMints (k := ?_)
      refine OW_storeA agg_Token rfl (tcells u (.slice AN u.line.length cN)) rfl (tU _) hbN (by kernel_rfl) (tcells_one _ _ _ _) ?_
      intro x9 hb9 hgr9
      have hk9 := Keeps.of_only hgr9 (S := (· = gN)) rfl
      have hy9 : Ext w11 x9 := hk9.ext hy2 (fun j hj => by have hj : j = gN := hj; omega)
      have hO9 : GOwn x9 w11.heap.size AN cN u.line := ownN_keeps hON hk9 (hON.ne hbN (by decide))
      first | refine OW_nil (goY_mkE hC0 (hy9) ?_) | refine OW_nil (goY_dropE hC0 (hy9) ?_)
      refine oy_LTokenMints (k := ?_)
      exact ⟨rfl, gN, AN, cN, rfl, rfl, rfl, rfl, rfl, rfl, rfl, hgN0, hb9, hO9, hy9⟩
  rintro e12 w12 ⟨g14, A14, c14, q2, q8, q10, q12, q13, q14, q15, hg14, hb14, hO14, hx12⟩
  rw [upd_self q2, upd_self q8, upd_self q10, upd_self q12, upd_self q13, upd_self q14, upd_self q15]
  clear q2 q8 q10 q12 q13 q14 q15
  have hs911 := hx911.size
  have hatw12 := At.ext hatw11 hx12
  have hx012 := hx011.trans' hx12
  replace hO14 : GOwn w12 w.heap.size A14 c14 u.line := GOwn.mono hO14 hx011.size
  replace hb8 := hb8.ext hx12
  replace hb10 := hb10.ext hx12
  replace hb13 := hb13.ext hx12
  replace hG13 := hG13.ext hx12
  replace hO8 := hO8.ext hx12
  replace hO10 := hO10.ext hx12
  have hG10 := hO10.rd
  have hc10 := hO10.cap
  refine go_LTokenMints (k := ?_)
  refine CW_meet (fun e' w' => ∃ (gN : Nat) (AN : Option Addr) (cN : Nat), e' 2 = .slice (some ad) l.length cB ∧ e' 8 = .pointer (some ⟨g8, 0, none⟩) ∧ e' 10 = .pointer (some ⟨g10, 0, none⟩) ∧ e' 12 = .int .i64 k ∧ e' 13 = .pointer (some ⟨g13, 0, none⟩) ∧ e' 14 = .pointer (some ⟨g14, 0, none⟩) ∧ e' 15 = .int .i64 er ∧ e' 16 = .pointer (some ⟨gN, 0, none⟩) ∧ e' 17 = .int .i64 er ∧ w12.heap.size ≤ gN ∧ Blk w' gN 45 (tcells u (.slice AN u.line.length cN)).toArray ∧ GOwn w' w12.heap.size AN cN u.line ∧ Ext w12 w') ?_ ?_
  · obtain ⟨C, hC0⟩ : ∃ C : World → Prop, C = fun v => Ext w12 v := ⟨_, rfl⟩
    have yT : ∀ v, C v → AtM v ⟨g10, 0, none⟩ (tcells T (.slice A10 T.line.length c10)) 34 := by rw [hC0]; exact fun v hv => ⟨(hb10.ext hv).atL, tT _⟩
    have yG : ∀ v, C v → AtM v (ad.add (k * 3)) (gcells gk) 3 := by rw [hC0]; exact fun v hv => gAt (At.ext hatw12 hv)
    have hAt := fun v (hv : Ext w12 v) => refAtt_any v A10 c10 T gk (hG10.ext hv) hc10 hT4 hTt
    rw [hr] at hAt
    refine CW_tree2 [0, 4] (.q 0 (.p 1 (.p 2 (.p 3 (.q 4 (Ty.graft (.a2 5 (.p 6 (.p 7 (.p 8 (.a 9 .done)))) 9 (.d 5 (.p 6 (.p 7 (.p 8 .done))))) (.d 10 (.p 11 .done)))))))) (C) (by kernel_rfl) (by kernel_rfl) (by kernel_rfl) ?_ ?_
    · exact inE hC0
    intro x0 hy0 h_C
    refine oy_LTokenMints (k := ?_)
    refine OY_a2 (actY_of rfl ?_) (actY_of rfl ?_)
    · skip
      refine OW_callC Try.func35 (by kernel_rfl) rfl (hAt x0 hy0) rfl ?_
      rintro en x1 ⟨AN, cN, rfl, hON, hxc⟩
      refine ⟨_, rfl, ?_⟩
      have hy1 := hy0.trans' hxc
      replace hON := hON.mono (show w12.heap.size ≤ x0.heap.size from hy0.size)
      first | refine OW_nil (goY_mkE hC0 (hy1) ?_) | refine OW_nil (goY_dropE hC0 (hy1) ?_)
      refine oy_LTokenMints (k := ?_)
      refine OW_allocA agg_Token ?_
      intro x2 gN hbN hgN hltN hxd
      have hy2 := hy1.trans' hxd
      have hgN0 : w12.heap.size ≤ gN := by have := hy1.size; omega
      replace hON := hON.ext hxd
      first | refine OW_nil (goY_mkE hC0 (hy2) ?_) | refine OW_nil (goY_dropE hC0 (hy2) ?_)
      refine oy_LTokenMints (k := ?_)
      refine OW_storeA agg_Token rfl (tcells u (.slice AN u.line.length cN)) rfl (tU _) hbN (by kernel_rfl) (tcells_one _ _ _ _) ?_
      intro x9 hb9 hgr9
      have hk9 := Keeps.of_only hgr9 (S := (· = gN)) rfl
      have hy9 : Ext w12 x9 := hk9.ext hy2 (fun j hj => by have hj : j = gN := hj; omega)
      have hO9 : GOwn x9 w12.heap.size AN cN u.line := ownN_keeps hON hk9 (hON.ne hbN (by decide))
      first | refine OW_nil (goY_mkE hC0 (hy9) ?_) | refine OW_nil (goY_dropE hC0 (hy9) ?_)
      refine oy_LTokenMints (k := ?_)
      exact ⟨rfl, gN, AN, cN, rfl, rfl, rfl, rfl, rfl, rfl, rfl, rfl, rfl, hgN0, hb9, hO9, hy9⟩
    · skip
      refine OW_allocA agg_Token ?_
      intro x1 gN hbN hgN hltN hxd
      have hy1 := hy0.trans' hxd
      have hgN0 : w12.heap.size ≤ gN := by have := hy0.size; omega
      first | refine OW_nil (goY_mkE hC0 (hy1) ?_) | refine OW_nil (goY_dropE hC0 (hy1) ?_)
      refine oy_LTokenMints (k := ?_)
      refine OW_callC Try.func35 (by kernel_rfl) rfl (hAt x1 hy1) rfl ?_
      rintro en x2 ⟨AN, cN, rfl, hON, hxc⟩
      refine ⟨_, rfl, ?_⟩
      have hy2 := hy1.trans' hxc
      replace hON := hON.mono (show w12.heap.size ≤ x1.heap.size from hy1.size)
      replace hbN := hbN.ext hxc
      first | refine OW_nil (goY_mkE hC0 (hy2) ?_) | refine OW_nil (goY_dropE hC0 (hy2) ?_)
      refine oy_LTokenMints (k := ?_)
      refine OW_storeA agg_Token rfl (tcells u (.slice AN u.line.length cN)) rfl (tU _) hbN (by kernel_rfl) (tcells_one _ _ _ _) ?_
      intro x9 hb9 hgr9
      have hk9 := Keeps.of_only hgr9 (S := (· = gN)) rfl
      have hy9 : Ext w12 x9 := hk9.ext hy2 (fun j hj => by have hj : j = gN := hj; omega)
      have hO9 : GOwn x9 w12.heap.size AN cN u.line := ownN_keeps hON hk9 (hON.ne hbN (by decide))
      first | refine OW_nil (goY_mkE hC0 (hy9) ?_) | refine OW_nil (goY_dropE hC0 (hy9) ?_)
      refine oy_LTokenMints (k := ?_)
      exact ⟨rfl, gN, AN, cN, rfl, rfl, rfl, rfl, rfl, rfl, rfl, rfl, rfl, hgN0, hb9, hO9, hy9⟩
  rintro e13 w13 ⟨g16, A16, c16, q2, q8, q10, q12, q13, q14, q15, q16, q17, hg16, hb16, hO16, hx13⟩
  rw [upd_self q2, upd_self q8, upd_self q10, upd_self q12, upd_self q13, upd_self q14, upd_self q15, upd_self q16, upd_self q17]
  clear q2 q8 q10 q12 q13 q14 q15 q16 q17
  have hs12 := hx12.size
  have hx013 := hx012.trans' hx13
  replace hO16 : GOwn w13 w.heap.size A16 c16 u.line := GOwn.mono hO16 hx012.size
  replace hO14 := hO14.ext hx13
  have hlt14 := hb14.lt
  replace hb14 := hb14.ext hx13
  replace hb8 := hb8.ext hx13
  replace hb10 := hb10.ext hx13
  replace hb13 := hb13.ext hx13
  replace hG13 := hG13.ext hx13
  replace hG10 := hG10.ext hx13
  clear hO8 hO10
  refine go_LTokenMints (k := ?_)
  refine OW_loadX agg_Token rfl (tcells u (.slice A14 u.line.length c14)) (tU _) hb14.atL ?_
  refine go_LTokenMints (k := ?_)
  refine OW_loadX agg_Token rfl (tcells u (.slice A16 u.line.length c16)) (tU _) hb16.atL ?_
  have hS1 := refTSame_any w13 A14 A16 c14 c16 u u hO14.rd hO16.rd hfu.g hfu.g (by have := hfu.len; omega) hfu.tag hfu.tag
  rw [decide_eq_true rfl] at hS1
  refine go_LTokenMints (k := ?_)
  refine OW_callV Try.func31 (by kernel_rfl) rfl hS1 rfl ?_
  intro w14 hx14
  clear hS1
  replace hb14 := hb14.ext hx14
  replace hb16 := hb16.ext hx14
  replace hb8 := hb8.ext hx14
  replace hb10 := hb10.ext hx14
  replace hb13 := hb13.ext hx14
  replace hO14 := hO14.ext hx14
  replace hO16 := hO16.ext hx14
  have hx014 := hx013.trans' hx14
  refine go_LTokenMints (k := ?_)
  refine OW_loadX agg_Token rfl (tcells T (.slice A13 T.line.length c13)) (tT _) hb13.atL ?_
  refine go_LTokenMints (k := ?_)
  refine OW_loadX agg_Token rfl (tcells T (.slice A10 T.line.length c10)) (tT _) hb10.atL ?_
  have hS2 := refTSame_any w14 A13 A10 c13 c10 T T (hG13.ext hx14) (hG10.ext hx14) hfT.g hfT.g (by omega) hTt hTt
  rw [decide_eq_true rfl] at hS2
  refine go_LTokenMints (k := ?_)
  refine OW_callV Try.func31 (by kernel_rfl) rfl hS2 rfl ?_
  intro w15 hx15
  clear hS2 hb13 hG13 hG10
  replace hb14 := hb14.ext hx15
  replace hb16 := hb16.ext hx15
  replace hb8 := hb8.ext hx15
  replace hb10 := hb10.ext hx15
  replace hO14 := hO14.ext hx15
  replace hO16 := hO16.ext hx15
  have hx015 := hx014.trans' hx15
  have hs13 := hx13.size
  have n814 : ¬ g14 = g8 := by omega
  have n816 : ¬ g16 = g8 := by omega
  have n1014 : ¬ g14 = g10 := by omega
  have n1016 : ¬ g16 = g10 := by omega
  refine go_LTokenMints (k := ?_)
  obtain ⟨C, hC0⟩ : ∃ C : World → Prop, C = fun v => Blk v g14 45 (tcells u (.slice A14 u.line.length c14)).toArray ∧ Blk v g16 45 (tcells u (.slice A16 u.line.length c16)).toArray := ⟨_, rfl⟩
  have y14 : ∀ v, C v → AtM v ⟨g14, 0, none⟩ (tcells u (.slice A14 u.line.length c14)) 34 := by rw [hC0]; exact fun v hv => ⟨hv.1.atL, tU _⟩
  have y16 : ∀ v, C v → AtM v ⟨g16, 0, none⟩ (tcells u (.slice A16 u.line.length c16)) 34 := by rw [hC0]; exact fun v hv => ⟨hv.2.atL, tU _⟩
  refine CW_tree2 [0, 1] (.q 0 (.q 1 (.a 2 (.d 3 .done)))) (C) (by kernel_rfl) (by kernel_rfl) (by kernel_rfl) ?_ ?_
  · rw [hC0]; exact fun v hv => ⟨hb14.ext hv, hb16.ext hv⟩
  intro w16 hx16 h_C
  refine oy_LTokenMints (k := ?_)
  refine OW_storeA agg_Token rfl (tcells u (.slice A14 u.line.length c14)) rfl (tU _) (hb8.ext hx16) (by rw [List.size_toArray, tT]) (tcells_one _ _ _ _) ?_
  intro w17 hb17 hgr17
  have hk17 := Keeps.of_only hgr17 (S := (· = g8)) rfl
  have hx017 : Ext w w17 := hk17.ext (hx015.trans' hx16) (fun j hj => by have hj : j = g8 := hj; omega)
  have hO14b : GOwn w17 w.heap.size A14 c14 u.line := ownN_keeps (hO14.ext hx16) hk17 ((hO14.ext hx16).ne (hb8.ext hx16) (by decide))
  have hO16b : GOwn w17 w.heap.size A16 c16 u.line := ownN_keeps (hO16.ext hx16) hk17 ((hO16.ext hx16).ne (hb8.ext hx16) (by decide))
  have hb10b := (hb10.ext hx16).keeps hk17 (fun h => hne810 h.symm)
  have hC17 : C w17 := by rw [hC0]; exact ⟨(hb14.ext hx16).keeps hk17 n814, (hb16.ext hx16).keeps hk17 n816⟩
  refine OW_nil (goY_mk hC17 ?_)
  refine oy_LTokenMints (k := ?_)
  refine OW_storeA agg_Token rfl (tcells u (.slice A16 u.line.length c16)) rfl (tU _) hb10b (by rw [List.size_toArray, tT]) (tcells_one _ _ _ _) ?_
  intro w18 hb18 hgr18
  have hk18 := Keeps.of_only hgr18 (S := (· = g10)) rfl
  have hx018 : Ext w w18 := hk18.ext hx017 (fun j hj => by have hj : j = g10 := hj; omega)
  have hO14c : GOwn w18 w.heap.size A14 c14 u.line := ownN_keeps hO14b hk18 (hO14b.ne hb10b (by decide))
  have hO16c : GOwn w18 w.heap.size A16 c16 u.line := ownN_keeps hO16b hk18 (hO16b.ne hb10b (by decide))
  have hb17c := hb17.keeps hk18 hne810
  refine OW_nil (goY_drop (fun v => v = w18) rfl ?_)
  refine oy_LTokenMints (k := ?_)
  by_cases he : er = 0
  · refine go_LTokenMints (k := ?_)
    refine ⟨⟨k + 1, u, A14, A16, c14, c16, by omega, hfu, rfl, rfl, rfl, rfl, hb17c, hb18, hO14c, hO16c, hx018⟩, ?_⟩
    show l.length - ((k : Int) + 1).toNat < l.length - (k : Int).toNat
    omega
  · skip
    refine go_LTokenMints (k := ?_)
    refine OW_callV Try.func28 (by kernel_rfl) rfl (awake9_any w18) rfl ?_
    intro wA hxA
    refine go_LTokenMints (k := ?_)
    exact bodyE_ret1 rfl (.bool true) rfl ⟨rfl, hx018.trans' hxA⟩
set_option maxRecDepth 100000 in
theorem lifted (os : Os) (started : os.Started) (H : Type) (enc : TypeId × Value → H) :
    ReturnsInHanded {} Try.checked os 6 .any (Rows.tokenMintsSpec.pre6 enc Try.prog Try.f6 Rows.tokenMintsRow.domain false) (Rows.tokenMintsSpec.post enc Try.prog Try.f6 false true false false) := by
  refine returnsInHanded_of_change_sized (C := Try.checked) ownP started (by kernel_rfl) Try.func6
    (ChangeSpec.witness6 (enc := enc) (C := Try.checked) false ⟨#[], #[.slice none 0 0, .int .i64 0, .slice none 0 0], []⟩ 8 (by kernel_rfl) (by kernel_rfl) (by kernel_rfl) (by kernel_rfl)) ?_
  intro W base args ds gs before hval0 hW hcnd hwt0 _
  have hval : ∀ (j : Nat) t v, Try.f6.params[j]? = some t → args[j]? = some v → Value.okWide Try.prog W .any base t v := hval0
  have hW' := hW
  obtain ⟨p, q, hA0, hV, rfl, hfz, hnd⟩ := hW
  have hA : DataW.TrodAll enc Try.prog W 0 (fun _ => true) true Try.f6.params.toList args.toList ds p := hA0
  have hwt : (DataW.weightsEach Try.prog (Try.f6.params.toList ++ []) (ds ++ gs)).all (· ≤ reachBytes) = true := hwt0
  rw [Try.params6] at hA hval hwt
  obtain ⟨v0, vs0, d0, ds0, p0, q0, hargs, rfl, rfl, h0, r0⟩ := trodAll_cons hA
  obtain ⟨v1, vs1, d1, ds1, p1, q1, rfl, rfl, rfl, h1, r1⟩ := trodAll_cons r0
  obtain ⟨v2, vs2, d2, ds2, p2, q2, rfl, rfl, rfl, h2, r2⟩ := trodAll_cons r1
  obtain ⟨rfl, rfl, rfl⟩ := trodAll_nil r2
  obtain rfl : args = #[v0, v1, v2] := by cases args; simp_all
  obtain ⟨rfl, rfl⟩ := trodVars_none hV
  have k0 := h0
  have lt0 : ∀ x ∈ p0, x.block < W.heap.size := by obtain ⟨m, hm⟩ := k0; exact DataW.trod_lt m _ _ _ hm
  have wk0 : WOk Try.prog 22 d0 := wok_each hwt 0 rfl rfl
  obtain ⟨a0, b0⟩ := kd_slice kBs und_bytes (hval 0 22 v0 rfl rfl) h0 wk0
  have k1 := h1
  have lt1 : ∀ x ∈ p1, x.block < W.heap.size := by obtain ⟨m, hm⟩ := k1; exact DataW.trod_lt m _ _ _ hm
  have wk1 : WOk Try.prog 3 d1 := wok_each hwt 1 rfl rfl
  obtain ⟨a1, b1⟩ := kd_int kI und_int (hval 1 3 v1 rfl rfl) h1 wk1
  have k2 := h2
  have lt2 : ∀ x ∈ p2, x.block < W.heap.size := by obtain ⟨m, hm⟩ := k2; exact DataW.trod_lt m _ _ _ hm
  have wk2 : WOk Try.prog 43 d2 := wok_each hwt 2 rfl rfl
  obtain ⟨a2, b2⟩ := kd_slice kGrants und_Grants (hval 2 43 v2 rfl rfl) h2 wk2
  clear hA0 hval0 hwt0
  refine (walk W v0 a0 b0 v1 a1 b1 v2 a2 b2).mono fun e W' ⟨he, bel⟩ => ?_
  subst he
  exact ⟨_, rfl, _, _, _, [], _, [], hW', trodAll_mk1 (shut_bool Try.underlying4 _), (trodAll_cons_mk (Below.trod laidP (by kernel_rfl) (of_decide_eq_true (by kernel_rfl)) k0 bel lt0) (trodAll_cons_mk (Below.trod laidP (by kernel_rfl) (of_decide_eq_true (by kernel_rfl)) k1 bel lt1) (trodAll_cons_mk (Below.trod laidP (by kernel_rfl) (of_decide_eq_true (by kernel_rfl)) k2 bel lt2) trodAll_mk0))), rfl, bel.frame _, fun h => by cases h⟩
theorem over : Rows.tokenMintsRow.holds Try.pinned (OpenSpec.ofChange Rows.tokenMintsSpec) :=
  OpenClaim.holds_of_wide 6 Try.f6 rfl rfl rfl rfl rfl rfl rfl ⟨rfl, rfl, rfl, rfl, rfl⟩ rfl rfl rfl rfl rfl (by kernel_rfl) Try.func6 (by kernel_rfl)
    (of_decide_eq_true (by kernel_rfl)) (by unfold Func.isWrapper; first | (rw [if_pos (by decide +kernel)]; kernel_rfl) | (rw [if_neg (by decide +kernel)]; exact ⟨rfl, rfl⟩))
    (fun os started H enc _ => lifted os started H enc)
theorem proved : Rows.TokenMintsSaid := over
#print axioms proved
end Go.Proofs.Ytdpcahfgdpikfaa.lawTokenMints
