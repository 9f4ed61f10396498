/- TokenBytes: a token read and printed is as the document says. No condition. -/
import Derived.Test.YtdpcahfgdpikfaaGt3
import Derived.Test.YtdpcahfgdpikfaaGt27
namespace Go.Proofs.Ytdpcahfgdpikfaa.lawTokenBytes
open Go.ChangeShapes Go.WideShapes Go.ChangeAt Go.RowKit
set_option linter.unusedVariables false
set_option maxRecDepth 4000
theorem go_LTokenBytes {A B : Prop} (h : Held B → A := by
  intro hEnd
  repeat (first | refine OW_fieldO fldo_G0 rfl ?_ | refine OW_fieldO fldo_G1 rfl ?_ | refine OW_neqIF rfl rfl (by first | assumption | rfl) ?_ | refine OW_neqIT rfl rfl (by assumption) ?_ | refine OW_eqlIT rfl rfl (by first | assumption | rfl) ?_ | refine OW_eqlIF rfl rfl (by assumption) ?_ | refine OW_neqIF rfl rfl (by first | assumption | rfl) ?_ | refine OW_eqlIT rfl rfl (by first | assumption | rfl) ?_ | (refine OW_isLoad ?_; refine OW_loadM (by first | with_reducible exact agg_Grant | with_reducible exact s_agg_Tag | with_reducible exact agg_Token) rfl (by first | assumption | (apply_assumption; assumption)) ?_) | refine OW_idxN und_Grants el_Grant rfl rfl 0 rfl (by omega) ?_ | refine OW_sliceP h_slp_Tag rfl ?_ | refine OW_slicePOT a_slp_TagT rfl ?_ | refine OW_fieldB fldo_G0 rfl ?_ | refine OW_fieldB fldo_G1 rfl ?_ | refine OW_fieldB fldo_G2 rfl ?_ | refine OW_fieldB fldo_T0 rfl ?_ | refine OW_fieldB fldo_T1 rfl ?_ | refine OW_fieldB fldo_T2 rfl ?_ | refine OW_lenS und_Grants rfl ?_ | refine OW_idxN und_Grants el_Grant rfl rfl _ rfl (by omega) ?_ | refine OW_moveV (.int _ _) rfl ?_ | refine OW_moveV (.slice _ _ _) rfl ?_ | refine OW_moveV (.bool _) rfl ?_ | refine OW_moveV (.pointer _) rfl ?_ | refine OW_moveV (.string _) rfl ?_ | refine OW_moveV (.agg _) rfl ?_ | refine OW_moveV (.tuple _) rfl ?_ | refine OW_nil ?_ | refine thenE_normal ?_ | refine CW_seq ?_ | refine CW_region (by kernel_rfl) ?_ | refine OW_assignV (.int _ _) rfl ?_ | refine OW_assignV (.slice _ _ _) rfl ?_ | refine OW_assignV (.bool _) rfl ?_ | refine OW_assignV (.pointer _) rfl ?_ | refine OW_assignV (.string _) rfl ?_ | refine OW_assignV (.agg _) rfl ?_ | refine OW_assignV (.tuple _) rfl ?_ | refine OW_addI rfl rfl (by omega) ?_ | refine OW_subI rfl rfl (by omega) ?_ | refine OW_mulI rfl rfl (by omega) ?_ | refine OW_lss rfl rfl ?_ | refine OW_extract rfl rfl ?_ | refine OW_gtr rfl rfl ?_ | refine OW_leq rfl rfl ?_ | refine OW_geq rfl rfl ?_ | refine OW_eql rfl rfl ?_ | refine OW_neq rfl rfl ?_ | refine OW_not rfl ?_ | refine OW_pickT rfl _ rfl ?_ | refine OW_pickF rfl (.bool _) rfl ?_ | refine OW_pickB rfl rfl rfl ?_ | refine OW_move ?_ | refine OW_assign ?_ | refine OW_pass rfl ?_ | refine OW_take rfl ?_ | refine OW_lenS (by first | with_reducible exact und_bytes | with_reducible exact und_bytess) rfl ?_ | refine OW_convInt (by first | with_reducible exact und_u8 | with_reducible exact und_u64 | with_reducible exact und_int | with_reducible exact und_u32) (by first | with_reducible exact und_u8 | with_reducible exact und_u64 | with_reducible exact und_int | with_reducible exact und_u32) rfl ?_ | refine OW_add rfl rfl ?_ | refine OW_sub rfl rfl ?_ | refine OW_mul rfl rfl ?_ | refine OW_min2 rfl rfl ?_ | refine OW_max2 rfl rfl ?_ | refine OW_neg rfl ?_ | refine CW_block ?_ | refine CW_condT rfl ?_ | refine CW_condF rfl ?_ | refine CW_exit ?_ | refine CW_ret ?_ | refine CW_skip ?_ | refine LW_seq ?_ | refine LW_regC ?_ | refine LW_condC ?_ | refine LW_regF ?_ | refine LW_condF ?_ | refine FW_seq ?_ | refine FW_region (by kernel_rfl) ?_ | refine FW_block ?_ | refine FW_condT rfl ?_ | refine FW_condF rfl ?_ | refine FW_exit ?_ | refine FW_ret ?_ | refine FW_skip ?_ | refine LW_ret ?_ | refine LW_skip ?_ | refine thenE_exit ?_ | refine thenE_ret ?_ | refine inBlockE_normal ?_ | refine inBlockE_same ?_ | refine inBlockE_ret ?_ | refine inBlockE_ne (by rfl) ?_ | refine OW_eqlB (by with_reducible exact und_bool) rfl rfl ?_ | refine OW_neqB (by with_reducible exact und_bool) rfl rfl ?_ | refine OW_idxS (by with_reducible exact und_bytes) one_u8 rfl rfl _ rfl (by omega) ?_ | refine OW_idxS (by with_reducible exact und_bytess) one_bytes rfl rfl _ rfl (by omega) ?_ | refine OW_load1 (by first | with_reducible exact one_u8 | with_reducible exact one_bytes) rfl _ (by assumption) ?_ | (refine OW_isLoad ?_; refine OW_loadBk (by first | with_reducible exact s_int | with_reducible exact one_u8 | with_reducible exact one_grants) rfl (by assumption) _ (by rfl) ?_) | refine OW_load1 s_int rfl _ (by assumption) ?_)
  exact hEnd.out) (k : B) : A := h ⟨k⟩
theorem oy_LTokenBytes {A B : Prop} (h : Held B → A := by
  intro hEnd
  repeat (first
    | refine OY_done ?_
    | (apply OY_p _ rfl
       · intro wd
         (first | refine OW_fieldO fldo_G0 rfl ?_ | refine OW_fieldO fldo_G1 rfl ?_ | refine OW_neqIF rfl rfl (by first | assumption | rfl) ?_ | refine OW_neqIT rfl rfl (by assumption) ?_ | refine OW_eqlIT rfl rfl (by first | assumption | rfl) ?_ | refine OW_eqlIF rfl rfl (by assumption) ?_ | refine OW_neqIF rfl rfl (by first | assumption | rfl) ?_ | refine OW_eqlIT rfl rfl (by first | assumption | rfl) ?_ | (refine OW_isLoad ?_; refine OW_loadM (by first | with_reducible exact agg_Grant | with_reducible exact s_agg_Tag | with_reducible exact agg_Token) rfl (by first | assumption | (apply_assumption; assumption)) ?_) | refine OW_idxN und_Grants el_Grant rfl rfl 0 rfl (by omega) ?_ | refine OW_sliceP h_slp_Tag rfl ?_ | refine OW_slicePOT a_slp_TagT rfl ?_ | refine OW_fieldB fldo_G0 rfl ?_ | refine OW_fieldB fldo_G1 rfl ?_ | refine OW_fieldB fldo_G2 rfl ?_ | refine OW_fieldB fldo_T0 rfl ?_ | refine OW_fieldB fldo_T1 rfl ?_ | refine OW_fieldB fldo_T2 rfl ?_ | refine OW_lenS und_Grants rfl ?_ | refine OW_idxN und_Grants el_Grant rfl rfl _ rfl (by omega) ?_ | refine OW_moveV (.int _ _) rfl ?_ | refine OW_moveV (.slice _ _ _) rfl ?_ | refine OW_moveV (.bool _) rfl ?_ | refine OW_moveV (.pointer _) rfl ?_ | refine OW_moveV (.string _) rfl ?_ | refine OW_moveV (.agg _) rfl ?_ | refine OW_moveV (.tuple _) rfl ?_ | refine OW_nil ?_ | refine thenE_normal ?_ | refine CW_seq ?_ | refine CW_region (by kernel_rfl) ?_ | refine OW_assignV (.int _ _) rfl ?_ | refine OW_assignV (.slice _ _ _) rfl ?_ | refine OW_assignV (.bool _) rfl ?_ | refine OW_assignV (.pointer _) rfl ?_ | refine OW_assignV (.string _) rfl ?_ | refine OW_assignV (.agg _) rfl ?_ | refine OW_assignV (.tuple _) rfl ?_ | refine OW_addI rfl rfl (by omega) ?_ | refine OW_subI rfl rfl (by omega) ?_ | refine OW_mulI rfl rfl (by omega) ?_ | refine OW_lss rfl rfl ?_ | refine OW_extract rfl rfl ?_ | refine OW_gtr rfl rfl ?_ | refine OW_leq rfl rfl ?_ | refine OW_geq rfl rfl ?_ | refine OW_eql rfl rfl ?_ | refine OW_neq rfl rfl ?_ | refine OW_not rfl ?_ | refine OW_pickT rfl _ rfl ?_ | refine OW_pickF rfl (.bool _) rfl ?_ | refine OW_pickB rfl rfl rfl ?_ | refine OW_move ?_ | refine OW_assign ?_ | refine OW_pass rfl ?_ | refine OW_take rfl ?_ | refine OW_lenS (by first | with_reducible exact und_bytes | with_reducible exact und_bytess) rfl ?_ | refine OW_convInt (by first | with_reducible exact und_u8 | with_reducible exact und_u64 | with_reducible exact und_int | with_reducible exact und_u32) (by first | with_reducible exact und_u8 | with_reducible exact und_u64 | with_reducible exact und_int | with_reducible exact und_u32) rfl ?_ | refine OW_add rfl rfl ?_ | refine OW_sub rfl rfl ?_ | refine OW_mul rfl rfl ?_ | refine OW_min2 rfl rfl ?_ | refine OW_max2 rfl rfl ?_ | refine OW_neg rfl ?_ | refine CW_block ?_ | refine CW_condT rfl ?_ | refine CW_condF rfl ?_ | refine CW_exit ?_ | refine CW_ret ?_ | refine CW_skip ?_ | refine LW_seq ?_ | refine LW_regC ?_ | refine LW_condC ?_ | refine LW_regF ?_ | refine LW_condF ?_ | refine FW_seq ?_ | refine FW_region (by kernel_rfl) ?_ | refine FW_block ?_ | refine FW_condT rfl ?_ | refine FW_condF rfl ?_ | refine FW_exit ?_ | refine FW_ret ?_ | refine FW_skip ?_ | refine LW_ret ?_ | refine LW_skip ?_ | refine thenE_exit ?_ | refine thenE_ret ?_ | refine inBlockE_normal ?_ | refine inBlockE_same ?_ | refine inBlockE_ret ?_ | refine inBlockE_ne (by rfl) ?_ | refine OW_eqlB (by with_reducible exact und_bool) rfl rfl ?_ | refine OW_neqB (by with_reducible exact und_bool) rfl rfl ?_ | refine OW_idxS (by with_reducible exact und_bytes) one_u8 rfl rfl _ rfl (by omega) ?_ | refine OW_idxS (by with_reducible exact und_bytess) one_bytes rfl rfl _ rfl (by omega) ?_ | refine OW_load1 (by first | with_reducible exact one_u8 | with_reducible exact one_bytes) rfl _ (by assumption) ?_ | (refine OW_isLoad ?_; refine OW_loadBk (by first | with_reducible exact s_int | with_reducible exact one_u8 | with_reducible exact one_grants) rfl (by assumption) _ (by rfl) ?_) | refine OW_load1 s_int rfl _ (by assumption) ?_)
         refine OW_nil ?_
         exact stay_mk _ _ _ _)
    | (apply OY_q _ rfl
       · intro wd hwd
         (first | refine OW_fieldO fldo_G0 rfl ?_ | refine OW_fieldO fldo_G1 rfl ?_ | refine OW_neqIF rfl rfl (by first | assumption | rfl) ?_ | refine OW_neqIT rfl rfl (by assumption) ?_ | refine OW_eqlIT rfl rfl (by first | assumption | rfl) ?_ | refine OW_eqlIF rfl rfl (by assumption) ?_ | refine OW_neqIF rfl rfl (by first | assumption | rfl) ?_ | refine OW_eqlIT rfl rfl (by first | assumption | rfl) ?_ | (refine OW_isLoad ?_; refine OW_loadM (by first | with_reducible exact agg_Grant | with_reducible exact s_agg_Tag | with_reducible exact agg_Token) rfl (by first | assumption | (apply_assumption; assumption)) ?_) | refine OW_idxN und_Grants el_Grant rfl rfl 0 rfl (by omega) ?_ | refine OW_sliceP h_slp_Tag rfl ?_ | refine OW_slicePOT a_slp_TagT rfl ?_ | refine OW_fieldB fldo_G0 rfl ?_ | refine OW_fieldB fldo_G1 rfl ?_ | refine OW_fieldB fldo_G2 rfl ?_ | refine OW_fieldB fldo_T0 rfl ?_ | refine OW_fieldB fldo_T1 rfl ?_ | refine OW_fieldB fldo_T2 rfl ?_ | refine OW_lenS und_Grants rfl ?_ | refine OW_idxN und_Grants el_Grant rfl rfl _ rfl (by omega) ?_ | refine OW_moveV (.int _ _) rfl ?_ | refine OW_moveV (.slice _ _ _) rfl ?_ | refine OW_moveV (.bool _) rfl ?_ | refine OW_moveV (.pointer _) rfl ?_ | refine OW_moveV (.string _) rfl ?_ | refine OW_moveV (.agg _) rfl ?_ | refine OW_moveV (.tuple _) rfl ?_ | refine OW_nil ?_ | refine thenE_normal ?_ | refine CW_seq ?_ | refine CW_region (by kernel_rfl) ?_ | refine OW_assignV (.int _ _) rfl ?_ | refine OW_assignV (.slice _ _ _) rfl ?_ | refine OW_assignV (.bool _) rfl ?_ | refine OW_assignV (.pointer _) rfl ?_ | refine OW_assignV (.string _) rfl ?_ | refine OW_assignV (.agg _) rfl ?_ | refine OW_assignV (.tuple _) rfl ?_ | refine OW_addI rfl rfl (by omega) ?_ | refine OW_subI rfl rfl (by omega) ?_ | refine OW_mulI rfl rfl (by omega) ?_ | refine OW_lss rfl rfl ?_ | refine OW_extract rfl rfl ?_ | refine OW_gtr rfl rfl ?_ | refine OW_leq rfl rfl ?_ | refine OW_geq rfl rfl ?_ | refine OW_eql rfl rfl ?_ | refine OW_neq rfl rfl ?_ | refine OW_not rfl ?_ | refine OW_pickT rfl _ rfl ?_ | refine OW_pickF rfl (.bool _) rfl ?_ | refine OW_pickB rfl rfl rfl ?_ | refine OW_move ?_ | refine OW_assign ?_ | refine OW_pass rfl ?_ | refine OW_take rfl ?_ | refine OW_lenS (by first | with_reducible exact und_bytes | with_reducible exact und_bytess) rfl ?_ | refine OW_convInt (by first | with_reducible exact und_u8 | with_reducible exact und_u64 | with_reducible exact und_int | with_reducible exact und_u32) (by first | with_reducible exact und_u8 | with_reducible exact und_u64 | with_reducible exact und_int | with_reducible exact und_u32) rfl ?_ | refine OW_add rfl rfl ?_ | refine OW_sub rfl rfl ?_ | refine OW_mul rfl rfl ?_ | refine OW_min2 rfl rfl ?_ | refine OW_max2 rfl rfl ?_ | refine OW_neg rfl ?_ | refine CW_block ?_ | refine CW_condT rfl ?_ | refine CW_condF rfl ?_ | refine CW_exit ?_ | refine CW_ret ?_ | refine CW_skip ?_ | refine LW_seq ?_ | refine LW_regC ?_ | refine LW_condC ?_ | refine LW_regF ?_ | refine LW_condF ?_ | refine FW_seq ?_ | refine FW_region (by kernel_rfl) ?_ | refine FW_block ?_ | refine FW_condT rfl ?_ | refine FW_condF rfl ?_ | refine FW_exit ?_ | refine FW_ret ?_ | refine FW_skip ?_ | refine LW_ret ?_ | refine LW_skip ?_ | refine thenE_exit ?_ | refine thenE_ret ?_ | refine inBlockE_normal ?_ | refine inBlockE_same ?_ | refine inBlockE_ret ?_ | refine inBlockE_ne (by rfl) ?_ | refine OW_eqlB (by with_reducible exact und_bool) rfl rfl ?_ | refine OW_neqB (by with_reducible exact und_bool) rfl rfl ?_ | refine OW_idxS (by with_reducible exact und_bytes) one_u8 rfl rfl _ rfl (by omega) ?_ | refine OW_idxS (by with_reducible exact und_bytess) one_bytes rfl rfl _ rfl (by omega) ?_ | refine OW_load1 (by first | with_reducible exact one_u8 | with_reducible exact one_bytes) rfl _ (by assumption) ?_ | (refine OW_isLoad ?_; refine OW_loadBk (by first | with_reducible exact s_int | with_reducible exact one_u8 | with_reducible exact one_grants) rfl (by assumption) _ (by rfl) ?_) | refine OW_load1 s_int rfl _ (by assumption) ?_ | (refine OW_isLoad ?_; refine OW_loadBk (by first | with_reducible exact one_u8 | with_reducible exact one_bytes | with_reducible exact one_bool | with_reducible exact one_int | with_reducible exact one_errno | with_reducible exact one_u32 | with_reducible exact one_u64 | with_reducible exact one_string | with_reducible exact s_int | with_reducible exact one_u8 | with_reducible exact one_grants) rfl (by apply_assumption; assumption) _ (by first | assumption | rfl) ?_) | refine OW_load1 (by first | with_reducible exact one_u8 | with_reducible exact one_bytes | with_reducible exact one_bool | with_reducible exact one_int | with_reducible exact one_errno | with_reducible exact one_u32 | with_reducible exact one_u64 | with_reducible exact one_string | with_reducible exact s_int | with_reducible exact one_u8 | with_reducible exact one_grants) rfl _ (by apply_assumption; assumption) ?_)
         refine OW_nil ?_
         exact stay_mk _ _ _ _)
    | refine OY_ppass rfl rfl ?_
    | refine OY_qpass rfl rfl ?_
    | (apply OY_ptake _ rfl rfl
       · intro wd
         (first | refine OW_fieldO fldo_G0 rfl ?_ | refine OW_fieldO fldo_G1 rfl ?_ | refine OW_neqIF rfl rfl (by first | assumption | rfl) ?_ | refine OW_neqIT rfl rfl (by assumption) ?_ | refine OW_eqlIT rfl rfl (by first | assumption | rfl) ?_ | refine OW_eqlIF rfl rfl (by assumption) ?_ | refine OW_neqIF rfl rfl (by first | assumption | rfl) ?_ | refine OW_eqlIT rfl rfl (by first | assumption | rfl) ?_ | (refine OW_isLoad ?_; refine OW_loadM (by first | with_reducible exact agg_Grant | with_reducible exact s_agg_Tag | with_reducible exact agg_Token) rfl (by first | assumption | (apply_assumption; assumption)) ?_) | refine OW_idxN und_Grants el_Grant rfl rfl 0 rfl (by omega) ?_ | refine OW_sliceP h_slp_Tag rfl ?_ | refine OW_slicePOT a_slp_TagT rfl ?_ | refine OW_fieldB fldo_G0 rfl ?_ | refine OW_fieldB fldo_G1 rfl ?_ | refine OW_fieldB fldo_G2 rfl ?_ | refine OW_fieldB fldo_T0 rfl ?_ | refine OW_fieldB fldo_T1 rfl ?_ | refine OW_fieldB fldo_T2 rfl ?_ | refine OW_lenS und_Grants rfl ?_ | refine OW_idxN und_Grants el_Grant rfl rfl _ rfl (by omega) ?_ | refine OW_moveV (.int _ _) rfl ?_ | refine OW_moveV (.slice _ _ _) rfl ?_ | refine OW_moveV (.bool _) rfl ?_ | refine OW_moveV (.pointer _) rfl ?_ | refine OW_moveV (.string _) rfl ?_ | refine OW_moveV (.agg _) rfl ?_ | refine OW_moveV (.tuple _) rfl ?_ | refine OW_nil ?_ | refine thenE_normal ?_ | refine CW_seq ?_ | refine CW_region (by kernel_rfl) ?_ | refine OW_assignV (.int _ _) rfl ?_ | refine OW_assignV (.slice _ _ _) rfl ?_ | refine OW_assignV (.bool _) rfl ?_ | refine OW_assignV (.pointer _) rfl ?_ | refine OW_assignV (.string _) rfl ?_ | refine OW_assignV (.agg _) rfl ?_ | refine OW_assignV (.tuple _) rfl ?_ | refine OW_addI rfl rfl (by omega) ?_ | refine OW_subI rfl rfl (by omega) ?_ | refine OW_mulI rfl rfl (by omega) ?_ | refine OW_lss rfl rfl ?_ | refine OW_extract rfl rfl ?_ | refine OW_gtr rfl rfl ?_ | refine OW_leq rfl rfl ?_ | refine OW_geq rfl rfl ?_ | refine OW_eql rfl rfl ?_ | refine OW_neq rfl rfl ?_ | refine OW_not rfl ?_ | refine OW_pickT rfl _ rfl ?_ | refine OW_pickF rfl (.bool _) rfl ?_ | refine OW_pickB rfl rfl rfl ?_ | refine OW_move ?_ | refine OW_assign ?_ | refine OW_pass rfl ?_ | refine OW_take rfl ?_ | refine OW_lenS (by first | with_reducible exact und_bytes | with_reducible exact und_bytess) rfl ?_ | refine OW_convInt (by first | with_reducible exact und_u8 | with_reducible exact und_u64 | with_reducible exact und_int | with_reducible exact und_u32) (by first | with_reducible exact und_u8 | with_reducible exact und_u64 | with_reducible exact und_int | with_reducible exact und_u32) rfl ?_ | refine OW_add rfl rfl ?_ | refine OW_sub rfl rfl ?_ | refine OW_mul rfl rfl ?_ | refine OW_min2 rfl rfl ?_ | refine OW_max2 rfl rfl ?_ | refine OW_neg rfl ?_ | refine CW_block ?_ | refine CW_condT rfl ?_ | refine CW_condF rfl ?_ | refine CW_exit ?_ | refine CW_ret ?_ | refine CW_skip ?_ | refine LW_seq ?_ | refine LW_regC ?_ | refine LW_condC ?_ | refine LW_regF ?_ | refine LW_condF ?_ | refine FW_seq ?_ | refine FW_region (by kernel_rfl) ?_ | refine FW_block ?_ | refine FW_condT rfl ?_ | refine FW_condF rfl ?_ | refine FW_exit ?_ | refine FW_ret ?_ | refine FW_skip ?_ | refine LW_ret ?_ | refine LW_skip ?_ | refine thenE_exit ?_ | refine thenE_ret ?_ | refine inBlockE_normal ?_ | refine inBlockE_same ?_ | refine inBlockE_ret ?_ | refine inBlockE_ne (by rfl) ?_ | refine OW_eqlB (by with_reducible exact und_bool) rfl rfl ?_ | refine OW_neqB (by with_reducible exact und_bool) rfl rfl ?_ | refine OW_idxS (by with_reducible exact und_bytes) one_u8 rfl rfl _ rfl (by omega) ?_ | refine OW_idxS (by with_reducible exact und_bytess) one_bytes rfl rfl _ rfl (by omega) ?_ | refine OW_load1 (by first | with_reducible exact one_u8 | with_reducible exact one_bytes) rfl _ (by assumption) ?_ | (refine OW_isLoad ?_; refine OW_loadBk (by first | with_reducible exact s_int | with_reducible exact one_u8 | with_reducible exact one_grants) rfl (by assumption) _ (by rfl) ?_) | refine OW_load1 s_int rfl _ (by assumption) ?_)
         refine OW_nil ?_
         exact stay_mk _ _ _ _)
    | (apply OY_qtake _ rfl rfl
       · intro wd hwd
         (first | refine OW_fieldO fldo_G0 rfl ?_ | refine OW_fieldO fldo_G1 rfl ?_ | refine OW_neqIF rfl rfl (by first | assumption | rfl) ?_ | refine OW_neqIT rfl rfl (by assumption) ?_ | refine OW_eqlIT rfl rfl (by first | assumption | rfl) ?_ | refine OW_eqlIF rfl rfl (by assumption) ?_ | refine OW_neqIF rfl rfl (by first | assumption | rfl) ?_ | refine OW_eqlIT rfl rfl (by first | assumption | rfl) ?_ | (refine OW_isLoad ?_; refine OW_loadM (by first | with_reducible exact agg_Grant | with_reducible exact s_agg_Tag | with_reducible exact agg_Token) rfl (by first | assumption | (apply_assumption; assumption)) ?_) | refine OW_idxN und_Grants el_Grant rfl rfl 0 rfl (by omega) ?_ | refine OW_sliceP h_slp_Tag rfl ?_ | refine OW_slicePOT a_slp_TagT rfl ?_ | refine OW_fieldB fldo_G0 rfl ?_ | refine OW_fieldB fldo_G1 rfl ?_ | refine OW_fieldB fldo_G2 rfl ?_ | refine OW_fieldB fldo_T0 rfl ?_ | refine OW_fieldB fldo_T1 rfl ?_ | refine OW_fieldB fldo_T2 rfl ?_ | refine OW_lenS und_Grants rfl ?_ | refine OW_idxN und_Grants el_Grant rfl rfl _ rfl (by omega) ?_ | refine OW_moveV (.int _ _) rfl ?_ | refine OW_moveV (.slice _ _ _) rfl ?_ | refine OW_moveV (.bool _) rfl ?_ | refine OW_moveV (.pointer _) rfl ?_ | refine OW_moveV (.string _) rfl ?_ | refine OW_moveV (.agg _) rfl ?_ | refine OW_moveV (.tuple _) rfl ?_ | refine OW_nil ?_ | refine thenE_normal ?_ | refine CW_seq ?_ | refine CW_region (by kernel_rfl) ?_ | refine OW_assignV (.int _ _) rfl ?_ | refine OW_assignV (.slice _ _ _) rfl ?_ | refine OW_assignV (.bool _) rfl ?_ | refine OW_assignV (.pointer _) rfl ?_ | refine OW_assignV (.string _) rfl ?_ | refine OW_assignV (.agg _) rfl ?_ | refine OW_assignV (.tuple _) rfl ?_ | refine OW_addI rfl rfl (by omega) ?_ | refine OW_subI rfl rfl (by omega) ?_ | refine OW_mulI rfl rfl (by omega) ?_ | refine OW_lss rfl rfl ?_ | refine OW_extract rfl rfl ?_ | refine OW_gtr rfl rfl ?_ | refine OW_leq rfl rfl ?_ | refine OW_geq rfl rfl ?_ | refine OW_eql rfl rfl ?_ | refine OW_neq rfl rfl ?_ | refine OW_not rfl ?_ | refine OW_pickT rfl _ rfl ?_ | refine OW_pickF rfl (.bool _) rfl ?_ | refine OW_pickB rfl rfl rfl ?_ | refine OW_move ?_ | refine OW_assign ?_ | refine OW_pass rfl ?_ | refine OW_take rfl ?_ | refine OW_lenS (by first | with_reducible exact und_bytes | with_reducible exact und_bytess) rfl ?_ | refine OW_convInt (by first | with_reducible exact und_u8 | with_reducible exact und_u64 | with_reducible exact und_int | with_reducible exact und_u32) (by first | with_reducible exact und_u8 | with_reducible exact und_u64 | with_reducible exact und_int | with_reducible exact und_u32) rfl ?_ | refine OW_add rfl rfl ?_ | refine OW_sub rfl rfl ?_ | refine OW_mul rfl rfl ?_ | refine OW_min2 rfl rfl ?_ | refine OW_max2 rfl rfl ?_ | refine OW_neg rfl ?_ | refine CW_block ?_ | refine CW_condT rfl ?_ | refine CW_condF rfl ?_ | refine CW_exit ?_ | refine CW_ret ?_ | refine CW_skip ?_ | refine LW_seq ?_ | refine LW_regC ?_ | refine LW_condC ?_ | refine LW_regF ?_ | refine LW_condF ?_ | refine FW_seq ?_ | refine FW_region (by kernel_rfl) ?_ | refine FW_block ?_ | refine FW_condT rfl ?_ | refine FW_condF rfl ?_ | refine FW_exit ?_ | refine FW_ret ?_ | refine FW_skip ?_ | refine LW_ret ?_ | refine LW_skip ?_ | refine thenE_exit ?_ | refine thenE_ret ?_ | refine inBlockE_normal ?_ | refine inBlockE_same ?_ | refine inBlockE_ret ?_ | refine inBlockE_ne (by rfl) ?_ | refine OW_eqlB (by with_reducible exact und_bool) rfl rfl ?_ | refine OW_neqB (by with_reducible exact und_bool) rfl rfl ?_ | refine OW_idxS (by with_reducible exact und_bytes) one_u8 rfl rfl _ rfl (by omega) ?_ | refine OW_idxS (by with_reducible exact und_bytess) one_bytes rfl rfl _ rfl (by omega) ?_ | refine OW_load1 (by first | with_reducible exact one_u8 | with_reducible exact one_bytes) rfl _ (by assumption) ?_ | (refine OW_isLoad ?_; refine OW_loadBk (by first | with_reducible exact s_int | with_reducible exact one_u8 | with_reducible exact one_grants) rfl (by assumption) _ (by rfl) ?_) | refine OW_load1 s_int rfl _ (by assumption) ?_ | (refine OW_isLoad ?_; refine OW_loadBk (by first | with_reducible exact one_u8 | with_reducible exact one_bytes | with_reducible exact one_bool | with_reducible exact one_int | with_reducible exact one_errno | with_reducible exact one_u32 | with_reducible exact one_u64 | with_reducible exact one_string | with_reducible exact s_int | with_reducible exact one_u8 | with_reducible exact one_grants) rfl (by apply_assumption; assumption) _ (by first | assumption | rfl) ?_) | refine OW_load1 (by first | with_reducible exact one_u8 | with_reducible exact one_bytes | with_reducible exact one_bool | with_reducible exact one_int | with_reducible exact one_errno | with_reducible exact one_u32 | with_reducible exact one_u64 | with_reducible exact one_string | with_reducible exact s_int | with_reducible exact one_u8 | with_reducible exact one_grants) rfl _ (by apply_assumption; assumption) ?_)
         refine OW_nil ?_
         exact stay_mk _ _ _ _)
    | refine OY_a (actY_of rfl ?_)
    | refine OY_d (actY_of rfl ?_)
    | refine OY_a (actY_pass rfl rfl ?_)
    | refine OY_d (actY_pass rfl rfl ?_)
    | refine OY_a (actY_take rfl rfl ?_)
    | refine OY_d (actY_take rfl rfl ?_))
  exact hEnd.out) (k : B) : A := h ⟨k⟩
set_option maxHeartbeats 8000000 in
theorem walk (w : World) (cs : List Value) (t : TK) (h0 : kToken.R w cs t) (v1 : Value) (b : List UInt8) (h1 : kBs.R w [v1] b) (v2 : Value) (own : Bool) (h2 : kBo.R w [v2] own) (v3 : Value) (at_ : Int) (h3 : kI.R w [v3] at_) (v4 : Value) (turn : UInt8) (h4 : kB8.R w [v4] turn) : Calls Try.prog 9 #[.agg cs.toArray, v1, v2, v3, v4] w (RetV w (.bool true)) := by
  obtain ⟨B, cB, rfl, hok⟩ := h0
  obtain ⟨A, cA, hv1, ⟨hca, hca2⟩, ha⟩ := h1
  injection hv1 with hv1
  subst hv1
  have hv2 : [v2] = [.bool own] := h2
  injection hv2 with hv2
  subst hv2
  obtain ⟨hv3, hni⟩ := h3
  injection hv3 with hv3
  subst hv3
  have hv4 : [v4] = [bv turn] := h4
  injection hv4 with hv4
  subst hv4
  have hl := hok.rd
  have hcB := hok.cap
  have htg := hok.tag
  have hgo := hok.g
  have tT := fun v => tcells_length (t := t) htg v
  refine calls_of_CW Try.func9 rfl (by simp [Try.ntmps9]) ?_
  rw [Try.ntmps9]
  refine go_LTokenBytes (k := ?_)
  refine OW_box _ rfl ?_
  intro w1 g5 hb5 hg5 hlt5 hx1
  have hb5 : Blk w1 g5 45 (tcells t (.slice B t.line.length cB)).toArray := hb5
  refine go_LTokenBytes (k := ?_)
  refine OW_split 22 _ rfl (fun hh => ?_) (fun hh => ?_)
  · refine go_LTokenBytes (k := ?_)
    exact bodyE_ret1 rfl (.bool true) rfl ⟨rfl, hx1⟩
  have hn : t.line.length ≤ 10 := by have := of_decide_eq_false hh; omega
  clear hh
  refine go_LTokenBytes (k := ?_)
  refine CW_cond _ rfl (fun hh => ?_) (fun hh => ?_)
  · refine go_LTokenBytes (k := ?_)
    exact bodyE_ret1 rfl (.bool true) rfl ⟨rfl, hx1⟩
  have hbl : b.length ≤ 300 := by have := of_decide_eq_false hh; omega
  clear hh
  have hn1 : t.line.length ≤ 10000 := by omega
  have hpl : (printT t).length ≤ 1000 := by
    cases hm : mayT t with
    | false => rw [printT_no hm]; decide
    | true => rw [printT_len hm htg]; omega
  refine go_LTokenBytes (k := ?_)
  refine OW_loadX agg_Token rfl (tcells t (.slice B t.line.length cB)) (tT _) hb5.atL ?_
  refine go_LTokenBytes (k := ?_)
  refine OW_callBs Try.func44 (by kernel_rfl) rfl (refPrint_any w1 B cB t (hl.ext hx1) hcB hn1 htg) rfl ?_
  intro w2 A2 c2 hf2
  have hx02 := hx1.trans' hf2.ext
  replace hb5 := hb5.ext hf2.ext
  have hbW := hf2.bs
  clear hf2
  refine go_LTokenBytes (k := ?_)
  refine OW_loadX agg_Token rfl (tcells t (.slice B t.line.length cB)) (tT _) hb5.atL ?_
  refine go_LTokenBytes (k := ?_)
  refine OW_callC Try.func33 (by kernel_rfl) rfl (copied_any w2 B cB t (hl.ext hx02) hn1 htg) rfl ?_
  rintro en w3 ⟨A3, c3, rfl, hO3, hx3⟩
  refine ⟨_, rfl, ?_⟩
  refine go_LTokenBytes (k := ?_)
  refine OW_callBs Try.func45 (by kernel_rfl) rfl (tokPrint_any w3 A3 c3 t hO3.rd hO3.cap hn1 htg) rfl ?_
  intro w4 A4 c4 hf4
  have hx24 := hx3.trans' hf4.ext
  have hx04 := hx02.trans' hx24
  replace hb5 := hb5.ext hx24
  replace hbW := hbW.ext hx24
  have hb4 := hf4.bs
  clear hf4 hO3
  generalize printT t = P at *
  refine go_LTokenBytes (k := ?_)
  refine OW_callV Try.func32 (by kernel_rfl) rfl (lawSame_any w4 A4 A2 c4 c2 P P hb4 hbW rfl) rfl ?_
  intro w5 hx5
  replace hb5 := hb5.ext hx5
  replace hbW := hbW.ext hx5
  have hx05 := hx04.trans' hx5
  clear hb4
  refine go_LTokenBytes (k := ?_)
  refine OW_meet (fun e' w' => e' 1 = .slice A b.length cA ∧ e' 3 = .int .i64 at_ ∧ e' 4 = bv turn ∧ e' 5 = .pointer (some ⟨g5, 0, none⟩) ∧ e' 11 = .slice A2 P.length c2 ∧ e' 41 = .bool (own && decide (0 < (P.length : Int))) ∧ w' = w5) ?_ ?_
  · cases own with
    | false =>
      refine go_LTokenBytes (k := ?_)
      exact ⟨rfl, rfl, rfl, rfl, rfl, rfl, rfl, rfl⟩
    | true =>
      refine go_LTokenBytes (k := ?_)
      exact ⟨rfl, rfl, rfl, rfl, rfl, rfl, rfl, rfl⟩
  rintro e6 w6 ⟨q1, q3, q4, q5, q11, q41, rfl⟩
  rw [upd_self q1, upd_self q3, upd_self q4, upd_self q5, upd_self q11, upd_self q41]
  clear q1 q3 q4 q5 q11 q41
  refine go_LTokenBytes (k := ?_)
  refine CW_meet (fun e' w' => ∃ (A7 : Option Addr) (c7 : Nat) (z : List UInt8), e' 1 = .slice A7 z.length c7 ∧ e' 5 = .pointer (some ⟨g5, 0, none⟩) ∧ z.length ≤ 1000 ∧ z.length ≤ c7 ∧ Bs w' A7 z ∧ Blk w' g5 45 (tcells t (.slice B t.line.length cB)).toArray ∧ Ext w w') ?_ ?_
  · refine CW_cond _ rfl (fun hh => ?_) (fun hh => ?_)
    rotate_left 1
    · refine go_LTokenBytes (k := ?_)
      exact ⟨rfl, A, cA, b, rfl, rfl, by omega, hca, ha.ext hx05, hb5, hx05⟩
    rw [Bool.and_eq_true, decide_eq_true_eq] at hh
    have hpos : 0 < P.length := by have := hh.2; omega
    clear hh
    refine go_LTokenBytes (k := ?_)
    refine OW_lit [] und_bytes info_u8 rfl rfl (by simp) (by decide) ?_
    intro w7 g7 hb7 hg7 hx7
    have ho7 : w7.ownsRow w6.heap.size 5 1 (.slice (some ⟨g7, 0, none⟩) 0 0) 0 [] := own_of_blk hg7 hb7 rfl (Nat.le_refl _) (by decide) rfl
    refine go_LTokenBytes (k := ?_)
    refine OW_apU (l := []) (l' := P) rfl rfl ho7 (hbW.ext hx7) (by simp; omega) hx7.size ?_
    intro w8 A8 c8 ho8 hT8 hbel8
    rw [List.nil_append] at ho8 ⊢
    have hx68 : Ext w6 w8 := hx7.trans hbel8
    have hcap8 := (own_cap ho8).1
    obtain ⟨g8, cur, hA8, hbg8, hB8, hsz8, hn8, hm8, htk8⟩ := ownN_blk ho8 (by
      intro hA
      obtain ⟨ad, h, _⟩ := (own_rd ho8).at_ (j := 0) (by simpa using hpos)
      rw [hA] at h
      cases h)
    subst hA8
    obtain ⟨i, hi⟩ : ∃ i : Nat, (u64N at_ % P.length : Nat) = i := ⟨_, rfl⟩
    have hil : i < P.length := by rw [← hi]; exact Nat.mod_lt _ hpos
    have hPu : IntKind.u64.wrap (P.length : Int) = (P.length : Int) := by rw [wrap_u64I, u64N_nat (by omega)]
    have hiw : IntKind.i64.wrap (((u64N at_ % P.length : Nat) : Int)) = (i : Int) := by rw [hi]; exact wrap64_in (by omega)
    have hcell : w8.cell? ⟨g8, i, none⟩ = some (bv P[i]) := by
      have := (own_rd ho8).atL i (bv P[i]) (by rw [List.getElem?_map, List.getElem?_eq_getElem hil]; rfl)
      rw [addr0] at this
      exact this
    obtain ⟨ch, hch⟩ : ∃ ch, P[i] = ch := ⟨_, rfl⟩
    rw [hch] at hcell
    refine go_LTokenBytes (k := ?_)
    rw [wrap_u64I, hPu]
    refine OW_rem rfl rfl (by omega) ?_
    rw [rem_u32 _ P.length _ rfl]
    refine go_LTokenBytes (k := ?_)
    rw [hiw]
    refine OW_idxS und_bytes one_u8 rfl rfl i rfl hil ?_
    rw [addr0]
    refine go_LTokenBytes (k := ?_)
    refine OW_xor rfl rfl _ (xor_bv ch turn) ?_
    refine OW_idxS und_bytes one_u8 rfl rfl i rfl hil ?_
    rw [addr0]
    have hil8 : i < cur.size := by rw [hsz8]; omega
    refine OW_storeB one_u8 rfl (bv (ch ^^^ turn)) rfl rfl hB8 hil8 ?_
    intro w9 hb9 hgr9
    have ho9 : w9.ownsRow w6.heap.size 5 1 (.slice (some ⟨g8, 0, none⟩) (P.set i (ch ^^^ turn)).length c8) (P.set i (ch ^^^ turn)).length ((P.set i (ch ^^^ turn)).map bv) := by
      rw [List.length_set]
      refine ownN_of_blk hbg8 hb9 (by rw [Array.size_setIfInBounds]; exact hsz8) hn8 hm8 ?_
      rw [Array.toList_setIfInBounds, List.take_set, htk8, List.map_set]
    have hk9 := Keeps.of_only hgr9 (S := (· = g8)) rfl
    have hx69 : Ext w6 w9 := hk9.ext hx68 (fun j hj => by have hj : j = g8 := hj; omega)
    refine go_LTokenBytes (k := ?_)
    exact ⟨rfl, some ⟨g8, 0, none⟩, c8, P.set i (ch ^^^ turn), by rw [List.length_set]; rfl, rfl, by rw [List.length_set]; exact hpl, by rw [List.length_set]; exact hcap8, own_rd ho9, hb5.ext hx69, hx05.trans' hx69⟩
  clear ha hbl hb5 hbW
  rintro e7 w7 ⟨A7, c7, z, q1, q5, hzl, hzc, hbz, hb5, hx07⟩
  rw [upd_self q1, upd_self q5]
  clear q1 q5
  refine go_LTokenBytes (k := ?_)
  refine OW_lit [] und_bytes info_u8 rfl rfl (by simp) (by decide) ?_
  intro w8 g8 hb8 hg8 hx8
  have ho8 : w8.ownsRow w7.heap.size 5 1 (.slice (some ⟨g8, 0, none⟩) 0 0) 0 [] := own_of_blk hg8 hb8 rfl (Nat.le_refl _) (by decide) rfl
  refine go_LTokenBytes (k := ?_)
  refine OW_apU (l := []) (l' := z) rfl rfl ho8 (hbz.ext hx8) (by simp; omega) hx8.size ?_
  intro w9 A9 c9 ho9 hT9 hbel9
  rw [List.nil_append] at ho9 ⊢
  have hx79 : Ext w7 w9 := hx8.trans hbel9
  replace hbz := hbz.ext hx79
  replace hb5 := hb5.ext hx79
  have hbI : Bs w9 A9 z := own_rd ho9
  have hcI := (own_cap ho9).1
  have hx09 := hx07.trans' hx79
  clear ho9 hT9 ho8 hb8
  have hutl : (parT z).1.tag.length = 32 := by
    unfold parT
    by_cases hg : goodT z = true
    · rw [if_pos hg]; exact (print_par hg).2.1
    · rw [if_neg hg]; rfl
  have hull : (parT z).1.line.length ≤ 4 := by
    unfold parT
    by_cases hg : goodT z = true
    · rw [if_pos hg]; exact (mayT_parts (print_par hg).1).2.2.2.1
    · rw [if_neg hg]; decide
  have hugo : ∀ x ∈ (parT z).1.line, GOk x := by
    unfold parT
    by_cases hg : goodT z = true
    · rw [if_pos hg]
      intro x hx
      have hm := (mayT_parts (print_par hg).1).2.2.2.2 x hx
      unfold mayG inR two40 at hm
      simp only [Bool.and_eq_true, decide_eq_true_eq] at hm
      exact ⟨by unfold I64; omega, by unfold I64; omega⟩
    · rw [if_neg hg]
      intro x hx
      cases hx
  have hP1 := tokParse_any w9 A9 c9 z hbI hcI (by omega)
  have hP2 := fun v (hv : Ext w9 v) => refParseT_any v A7 c7 z (hbz.ext hv) (by omega)
  obtain ⟨u, hu⟩ : ∃ u, (parT z).1 = u := ⟨_, rfl⟩
  obtain ⟨er, her⟩ : ∃ er, (parT z).2 = er := ⟨_, rfl⟩
  have hpz : parT z = (u, er) := by rw [← hu, ← her]
  rw [hpz] at hP1 hP2 hutl hull hugo
  replace hutl : u.tag.length = 32 := hutl
  replace hull : u.line.length ≤ 4 := hull
  replace hugo : ∀ x ∈ u.line, GOk x := hugo
  have tU := fun v => tcells_length (t := u) hutl v
  clear hu her hpz
  refine go_LTokenBytes (k := ?_)
  refine OW_callC Try.func46 (by kernel_rfl) rfl hP1 rfl ?_
  rintro en w10 ⟨A10, c10, rfl, hO10, hx10⟩
  refine ⟨_, rfl, ?_⟩
  have hG10 : GRd w10 A10 u.line := hO10.rd
  clear hP1 hO10
  refine go_LTokenBytes (k := ?_)
  refine OW_allocA agg_Token ?_
  intro u14 g14 hb14 hg14 hlt14 hxa14
  refine go_LTokenBytes (k := ?_)
  refine OW_storeA agg_Token rfl (tcells u (.slice A10 u.line.length c10)) rfl (tU _) hb14 (by kernel_rfl) (tcells_one _ _ _ _) ?_
  intro w11 hb14 hgr14
  have hxb14 : Ext w10 w11 := (Keeps.of_only hgr14 (S := (· = g14)) rfl).ext hxa14 (fun j hj => by have hj : j = g14 := hj; omega)
  clear hgr14 hxa14
  have hx911 := hx10.trans' hxb14
  replace hG10 := hG10.ext hxb14
  refine go_LTokenBytes (k := ?_)
  refine OW_callC Try.func47 (by kernel_rfl) rfl (hP2 w11 hx911) rfl ?_
  rintro en w12 ⟨A12, c12, rfl, hO12, hx12⟩
  refine ⟨_, rfl, ?_⟩
  have hG12 : GRd w12 A12 u.line := hO12.rd
  clear hP2 hO12
  refine go_LTokenBytes (k := ?_)
  refine OW_allocA agg_Token ?_
  intro u16 g16 hb16 hg16 hlt16 hxa16
  refine go_LTokenBytes (k := ?_)
  refine OW_storeA agg_Token rfl (tcells u (.slice A12 u.line.length c12)) rfl (tU _) hb16 (by kernel_rfl) (tcells_one _ _ _ _) ?_
  intro w13 hb16 hgr16
  have hxb16 : Ext w12 w13 := (Keeps.of_only hgr16 (S := (· = g16)) rfl).ext hxa16 (fun j hj => by have hj : j = g16 := hj; omega)
  clear hgr16 hxa16
  have hx1113 := hx12.trans' hxb16
  have hx913 := hx911.trans' hx1113
  replace hG10 := hG10.ext hx1113
  replace hG12 := hG12.ext hxb16
  replace hb14 := hb14.ext hx1113
  replace hb5 := hb5.ext hx913
  replace hbI := hbI.ext hx913
  replace hbz := hbz.ext hx913
  have hx013 := hx09.trans' hx913
  have hS1 := fun v (hv : Ext w13 v) => refTSame_any v A10 A12 c10 c12 u u (hG10.ext hv) (hG12.ext hv) hugo hugo (by omega) hutl hutl
  have hS2 := fun v (hv : Ext w13 v) => tokSame_any v B A10 cB c10 t u (hl.ext (hx013.trans' hv)) (hG10.ext hv) hgo hugo (by omega) htg hutl
  have hS3 := fun v (hv : Ext w13 v) => refTSame_any v B A12 cB c12 t u (hl.ext (hx013.trans' hv)) (hG12.ext hv) hgo hugo (by omega) htg hutl
  rw [decide_eq_true rfl] at hS1
  generalize decide (t = u) = s at *
  have hss : (s == s) = true := by cases s <;> rfl
  refine go_LTokenBytes (k := ?_)
  obtain ⟨C, hC0⟩ : ∃ C : World → Prop, C = fun v => Ext w13 v := ⟨_, rfl⟩
  have y5 : ∀ v, C v → AtM v ⟨g5, 0, none⟩ (tcells t (.slice B t.line.length cB)) 34 := by rw [hC0]; exact fun v hv => ⟨(hb5.ext hv).atL, tT _⟩
  have y14 : ∀ v, C v → AtM v ⟨g14, 0, none⟩ (tcells u (.slice A10 u.line.length c10)) 34 := by rw [hC0]; exact fun v hv => ⟨(hb14.ext hv).atL, tU _⟩
  have y16 : ∀ v, C v → AtM v ⟨g16, 0, none⟩ (tcells u (.slice A12 u.line.length c12)) 34 := by rw [hC0]; exact fun v hv => ⟨(hb16.ext hv).atL, tU _⟩
  refine CW_tree2 [4, 5, 14, 15, 17, 18] (.p 0 (.p 1 (.p 2 (.p 3 (.q 4 (.q 5 (.d 6 (.p 7 (.p 8 (.p 9 (.p 10 (.d 11 (.p 12 (.p 13 (.q 14 (.q 15 (.q 17 (.q 18 (.a 16 (.d 19 (.p 20 (.p 21 (.p 22 (.d 23 (.p 24 (.p 25 .done)))))))))))))))))))))))))) (C) (by kernel_rfl) (by kernel_rfl) (by kernel_rfl) ?_ ?_
  · exact inE hC0
  intro w14 hx14 h_C
  refine oy_LTokenBytes (k := ?_)
  refine OW_callV Try.func31 (by kernel_rfl) rfl (hS1 w14 hx14) rfl ?_
  intro w15 hx15
  have hy15 := hx14.trans' hx15
  first | refine OW_nil (goY_mkE hC0 (hy15) ?_) | refine OW_nil (goY_dropE hC0 (hy15) ?_)
  refine oy_LTokenBytes (k := ?_)
  refine OW_callV Try.func32 (by kernel_rfl) rfl (lawSame_any w15 A9 A7 c9 c7 z z (hbI.ext hy15) (hbz.ext hy15) rfl) rfl ?_
  intro w16 hx16
  have hy16 := hy15.trans' hx16
  first | refine OW_nil (goY_mkE hC0 (hy16) ?_) | refine OW_nil (goY_dropE hC0 (hy16) ?_)
  refine oy_LTokenBytes (k := ?_)
  refine OW_callV Try.func48 (by kernel_rfl) rfl (hS2 w16 hy16) rfl ?_
  intro w17 hx17
  have hy17 := hy16.trans' hx17
  first | refine OW_nil (goY_mkE hC0 (hy17) ?_) | refine OW_nil (goY_dropE hC0 (hy17) ?_)
  refine oy_LTokenBytes (k := ?_)
  refine OW_callV Try.func31 (by kernel_rfl) rfl (hS3 w17 hy17) rfl ?_
  intro w18 hx18
  have hy18 := hy17.trans' hx18
  first | refine OW_nil (goY_mkE hC0 (hy18) ?_) | refine OW_nil (goY_dropE hC0 (hy18) ?_)
  refine oy_LTokenBytes (k := ?_)
  rw [hss]
  refine oy_LTokenBytes (k := ?_)
  refine OW_callV Try.func28 (by kernel_rfl) rfl (awake9_any w18) rfl ?_
  intro w19 hx19
  have hy19 := hy18.trans' hx19
  first | refine OW_nil (goY_mkE hC0 (hy19) ?_) | refine OW_nil (goY_dropE hC0 (hy19) ?_)
  refine oy_LTokenBytes (k := ?_)
  refine go_LTokenBytes (k := ?_)
  exact bodyE_ret1 rfl (.bool true) rfl ⟨rfl, hx013.trans' hy19⟩
set_option maxRecDepth 100000 in
theorem lifted (os : Os) (started : os.Started) (H : Type) (enc : TypeId × Value → H) :
    ReturnsInHanded {} Try.checked os 9 .any (Rows.tokenBytesSpec.pre6 enc Try.prog Try.f9 Rows.tokenBytesRow.domain false) (Rows.tokenBytesSpec.post enc Try.prog Try.f9 false true false false) := by
  refine returnsInHanded_of_change_sized (C := Try.checked) ownP started (by kernel_rfl) Try.func9
    (ChangeSpec.witness6 (enc := enc) (C := Try.checked) false ⟨#[], #[.agg (tcells t0 (.slice none 0 0)).toArray, .slice none 0 0, .bool false, .int .i64 0, .int .u8 0], []⟩ 8 (by kernel_rfl) (by kernel_rfl) (by kernel_rfl) (by kernel_rfl)) ?_
  intro W base args ds gs before hval0 hW hcnd hwt0 _
  have hval : ∀ (j : Nat) t v, Try.f9.params[j]? = some t → args[j]? = some v → Value.okWide Try.prog W .any base t v := hval0
  have hW' := hW
  obtain ⟨p, q, hA0, hV, rfl, hfz, hnd⟩ := hW
  have hA : DataW.TrodAll enc Try.prog W 0 (fun _ => true) true Try.f9.params.toList args.toList ds p := hA0
  have hwt : (DataW.weightsEach Try.prog (Try.f9.params.toList ++ []) (ds ++ gs)).all (· ≤ reachBytes) = true := hwt0
  rw [Try.params9] at hA hval hwt
  obtain ⟨v0, vs0, d0, ds0, p0, q0, hargs, rfl, rfl, h0, r0⟩ := trodAll_cons hA
  obtain ⟨v1, vs1, d1, ds1, p1, q1, rfl, rfl, rfl, h1, r1⟩ := trodAll_cons r0
  obtain ⟨v2, vs2, d2, ds2, p2, q2, rfl, rfl, rfl, h2, r2⟩ := trodAll_cons r1
  obtain ⟨v3, vs3, d3, ds3, p3, q3, rfl, rfl, rfl, h3, r3⟩ := trodAll_cons r2
  obtain ⟨v4, vs4, d4, ds4, p4, q4, rfl, rfl, rfl, h4, r4⟩ := trodAll_cons r3
  obtain ⟨rfl, rfl, rfl⟩ := trodAll_nil r4
  obtain rfl : args = #[v0, v1, v2, v3, v4] := by cases args; simp_all
  obtain ⟨rfl, rfl⟩ := trodVars_none hV
  have k0 := h0
  have lt0 : ∀ x ∈ p0, x.block < W.heap.size := by obtain ⟨m, hm⟩ := k0; exact DataW.trod_lt m _ _ _ hm
  have wk0 : WOk Try.prog 45 d0 := wok_each hwt 0 rfl rfl
  obtain ⟨cs0, a0, rfl, b0⟩ := kd_struct kToken Try.underlying45 (hval 0 45 v0 rfl rfl) h0 wk0
  have k1 := h1
  have lt1 : ∀ x ∈ p1, x.block < W.heap.size := by obtain ⟨m, hm⟩ := k1; exact DataW.trod_lt m _ _ _ hm
  have wk1 : WOk Try.prog 22 d1 := wok_each hwt 1 rfl rfl
  obtain ⟨a1, b1⟩ := kd_slice kBs und_bytes (hval 1 22 v1 rfl rfl) h1 wk1
  have k2 := h2
  have lt2 : ∀ x ∈ p2, x.block < W.heap.size := by obtain ⟨m, hm⟩ := k2; exact DataW.trod_lt m _ _ _ hm
  have wk2 : WOk Try.prog 4 d2 := wok_each hwt 2 rfl rfl
  obtain ⟨a2, b2⟩ := kd_bool kBo und_bool (hval 2 4 v2 rfl rfl) h2 wk2
  have k3 := h3
  have lt3 : ∀ x ∈ p3, x.block < W.heap.size := by obtain ⟨m, hm⟩ := k3; exact DataW.trod_lt m _ _ _ hm
  have wk3 : WOk Try.prog 3 d3 := wok_each hwt 3 rfl rfl
  obtain ⟨a3, b3⟩ := kd_int kI und_int (hval 3 3 v3 rfl rfl) h3 wk3
  have k4 := h4
  have lt4 : ∀ x ∈ p4, x.block < W.heap.size := by obtain ⟨m, hm⟩ := k4; exact DataW.trod_lt m _ _ _ hm
  have wk4 : WOk Try.prog 5 d4 := wok_each hwt 4 rfl rfl
  obtain ⟨a4, b4⟩ := kd_int kB8 und_u8 (hval 4 5 v4 rfl rfl) h4 wk4
  clear hA0 hval0 hwt0
  refine (walk W cs0 a0 b0 v1 a1 b1 v2 a2 b2 v3 a3 b3 v4 a4 b4).mono fun e W' ⟨he, bel⟩ => ?_
  subst he
  exact ⟨_, rfl, _, _, _, [], _, [], hW', trodAll_mk1 (shut_bool Try.underlying4 _), (trodAll_cons_mk (Below.trod laidP (by kernel_rfl) (of_decide_eq_true (by kernel_rfl)) k0 bel lt0) (trodAll_cons_mk (Below.trod laidP (by kernel_rfl) (of_decide_eq_true (by kernel_rfl)) k1 bel lt1) (trodAll_cons_mk (Below.trod laidP (by kernel_rfl) (of_decide_eq_true (by kernel_rfl)) k2 bel lt2) (trodAll_cons_mk (Below.trod laidP (by kernel_rfl) (of_decide_eq_true (by kernel_rfl)) k3 bel lt3) (trodAll_cons_mk (Below.trod laidP (by kernel_rfl) (of_decide_eq_true (by kernel_rfl)) k4 bel lt4) trodAll_mk0))))), rfl, bel.frame _, fun h => by cases h⟩
theorem over : Rows.tokenBytesRow.holds Try.pinned (OpenSpec.ofChange Rows.tokenBytesSpec) :=
  OpenClaim.holds_of_wide 9 Try.f9 rfl rfl rfl rfl rfl rfl rfl ⟨rfl, rfl, rfl, rfl, rfl⟩ rfl rfl rfl rfl rfl (by kernel_rfl) Try.func9 (by kernel_rfl)
    (of_decide_eq_true (by kernel_rfl)) (by unfold Func.isWrapper; first | (rw [if_pos (by decide +kernel)]; kernel_rfl) | (rw [if_neg (by decide +kernel)]; exact ⟨rfl, rfl⟩))
    (fun os started H enc _ => lifted os started H enc)
theorem proved : Rows.TokenBytesSaid := over
#print axioms proved
end Go.Proofs.Ytdpcahfgdpikfaa.lawTokenBytes
