/- Several texts in one, as they stand in wip/src. -/
import Derived.Test.YtdpcahfgdpikfaaGt21
/- Walks: Attenuate, of the program and of the reference. -/
namespace Go.Proofs.Ytdpcahfgdpikfaa
open Go Go.RowKit Go.ChangeShapes Go.WideShapes
set_option linter.unusedVariables false
set_option maxRecDepth 4000
theorem go_Tok5 {A B : Prop} (h : Held B → A := by
  intro hEnd
  repeat (first | refine OW_build _ _ (bld_T3 _ _ _ _ [] _ (by assumption)) rfl ?_ | refine OW_build _ _ (bld_T2 _ _ _ _ []) rfl ?_ | (refine OW_isLoad ?_; refine OW_loadM (by first | with_reducible exact agg_Grant | with_reducible exact s_agg_Tag | with_reducible exact agg_Token) rfl (by first | assumption | (apply_assumption; assumption)) ?_) | refine OW_idxN und_Grants el_Grant rfl rfl 0 rfl (by omega) ?_ | refine OW_sliceP h_slp_Tag rfl ?_ | refine OW_slicePOT a_slp_TagT rfl ?_ | refine OW_fieldB fldo_G0 rfl ?_ | refine OW_fieldB fldo_G1 rfl ?_ | refine OW_fieldB fldo_G2 rfl ?_ | refine OW_fieldB fldo_T0 rfl ?_ | refine OW_fieldB fldo_T1 rfl ?_ | refine OW_fieldB fldo_T2 rfl ?_ | refine OW_lenS und_Grants rfl ?_ | refine OW_idxN und_Grants el_Grant rfl rfl _ rfl (by omega) ?_ | refine OW_moveV (.int _ _) rfl ?_ | refine OW_moveV (.slice _ _ _) rfl ?_ | refine OW_moveV (.bool _) rfl ?_ | refine OW_moveV (.pointer _) rfl ?_ | refine OW_moveV (.string _) rfl ?_ | refine OW_moveV (.agg _) rfl ?_ | refine OW_moveV (.tuple _) rfl ?_ | refine OW_nil ?_ | refine thenE_normal ?_ | refine CW_seq ?_ | refine CW_region (by kernel_rfl) ?_ | refine OW_assignV (.int _ _) rfl ?_ | refine OW_assignV (.slice _ _ _) rfl ?_ | refine OW_assignV (.bool _) rfl ?_ | refine OW_assignV (.pointer _) rfl ?_ | refine OW_assignV (.string _) rfl ?_ | refine OW_assignV (.agg _) rfl ?_ | refine OW_assignV (.tuple _) rfl ?_ | refine OW_addI rfl rfl (by omega) ?_ | refine OW_subI rfl rfl (by omega) ?_ | refine OW_mulI rfl rfl (by omega) ?_ | refine OW_lss rfl rfl ?_ | refine OW_extract rfl rfl ?_ | refine OW_gtr rfl rfl ?_ | refine OW_leq rfl rfl ?_ | refine OW_geq rfl rfl ?_ | refine OW_eql rfl rfl ?_ | refine OW_neq rfl rfl ?_ | refine OW_not rfl ?_ | refine OW_pickT rfl _ rfl ?_ | refine OW_pickF rfl (.bool _) rfl ?_ | refine OW_pickB rfl rfl rfl ?_ | refine OW_move ?_ | refine OW_assign ?_ | refine OW_pass rfl ?_ | refine OW_take rfl ?_ | refine OW_lenS (by first | with_reducible exact und_bytes | with_reducible exact und_bytess) rfl ?_ | refine OW_convInt (by first | with_reducible exact und_u8 | with_reducible exact und_u64 | with_reducible exact und_int | with_reducible exact und_u32) (by first | with_reducible exact und_u8 | with_reducible exact und_u64 | with_reducible exact und_int | with_reducible exact und_u32) rfl ?_ | refine OW_add rfl rfl ?_ | refine OW_sub rfl rfl ?_ | refine OW_mul rfl rfl ?_ | refine OW_min2 rfl rfl ?_ | refine OW_max2 rfl rfl ?_ | refine OW_neg rfl ?_ | refine CW_block ?_ | refine CW_condT rfl ?_ | refine CW_condF rfl ?_ | refine CW_exit ?_ | refine CW_ret ?_ | refine CW_skip ?_ | refine LW_seq ?_ | refine LW_regC ?_ | refine LW_condC ?_ | refine LW_regF ?_ | refine LW_condF ?_ | refine FW_seq ?_ | refine FW_region (by kernel_rfl) ?_ | refine FW_block ?_ | refine FW_condT rfl ?_ | refine FW_condF rfl ?_ | refine FW_exit ?_ | refine FW_ret ?_ | refine FW_skip ?_ | refine LW_ret ?_ | refine LW_skip ?_ | refine thenE_exit ?_ | refine thenE_ret ?_ | refine inBlockE_normal ?_ | refine inBlockE_same ?_ | refine inBlockE_ret ?_ | refine inBlockE_ne (by rfl) ?_ | refine OW_eqlB (by with_reducible exact und_bool) rfl rfl ?_ | refine OW_neqB (by with_reducible exact und_bool) rfl rfl ?_ | refine OW_idxS (by with_reducible exact und_bytes) one_u8 rfl rfl _ rfl (by omega) ?_ | refine OW_idxS (by with_reducible exact und_bytess) one_bytes rfl rfl _ rfl (by omega) ?_ | refine OW_load1 (by first | with_reducible exact one_u8 | with_reducible exact one_bytes) rfl _ (by assumption) ?_ | (refine OW_isLoad ?_; refine OW_loadBk (by first | with_reducible exact s_int | with_reducible exact one_u8 | with_reducible exact one_grants) rfl (by assumption) _ (by rfl) ?_) | refine OW_load1 s_int rfl _ (by assumption) ?_)
  exact hEnd.out) (k : B) : A := h ⟨k⟩
theorem oy_Tok5 {A B : Prop} (h : Held B → A := by
  intro hEnd
  repeat (first
    | refine OY_done ?_
    | (apply OY_p _ rfl
       · intro wd
         (first | refine OW_build _ _ (bld_T3 _ _ _ _ [] _ (by assumption)) rfl ?_ | refine OW_build _ _ (bld_T2 _ _ _ _ []) rfl ?_ | (refine OW_isLoad ?_; refine OW_loadM (by first | with_reducible exact agg_Grant | with_reducible exact s_agg_Tag | with_reducible exact agg_Token) rfl (by first | assumption | (apply_assumption; assumption)) ?_) | refine OW_idxN und_Grants el_Grant rfl rfl 0 rfl (by omega) ?_ | refine OW_sliceP h_slp_Tag rfl ?_ | refine OW_slicePOT a_slp_TagT rfl ?_ | refine OW_fieldB fldo_G0 rfl ?_ | refine OW_fieldB fldo_G1 rfl ?_ | refine OW_fieldB fldo_G2 rfl ?_ | refine OW_fieldB fldo_T0 rfl ?_ | refine OW_fieldB fldo_T1 rfl ?_ | refine OW_fieldB fldo_T2 rfl ?_ | refine OW_lenS und_Grants rfl ?_ | refine OW_idxN und_Grants el_Grant rfl rfl _ rfl (by omega) ?_ | refine OW_moveV (.int _ _) rfl ?_ | refine OW_moveV (.slice _ _ _) rfl ?_ | refine OW_moveV (.bool _) rfl ?_ | refine OW_moveV (.pointer _) rfl ?_ | refine OW_moveV (.string _) rfl ?_ | refine OW_moveV (.agg _) rfl ?_ | refine OW_moveV (.tuple _) rfl ?_ | refine OW_nil ?_ | refine thenE_normal ?_ | refine CW_seq ?_ | refine CW_region (by kernel_rfl) ?_ | refine OW_assignV (.int _ _) rfl ?_ | refine OW_assignV (.slice _ _ _) rfl ?_ | refine OW_assignV (.bool _) rfl ?_ | refine OW_assignV (.pointer _) rfl ?_ | refine OW_assignV (.string _) rfl ?_ | refine OW_assignV (.agg _) rfl ?_ | refine OW_assignV (.tuple _) rfl ?_ | refine OW_addI rfl rfl (by omega) ?_ | refine OW_subI rfl rfl (by omega) ?_ | refine OW_mulI rfl rfl (by omega) ?_ | refine OW_lss rfl rfl ?_ | refine OW_extract rfl rfl ?_ | refine OW_gtr rfl rfl ?_ | refine OW_leq rfl rfl ?_ | refine OW_geq rfl rfl ?_ | refine OW_eql rfl rfl ?_ | refine OW_neq rfl rfl ?_ | refine OW_not rfl ?_ | refine OW_pickT rfl _ rfl ?_ | refine OW_pickF rfl (.bool _) rfl ?_ | refine OW_pickB rfl rfl rfl ?_ | refine OW_move ?_ | refine OW_assign ?_ | refine OW_pass rfl ?_ | refine OW_take rfl ?_ | refine OW_lenS (by first | with_reducible exact und_bytes | with_reducible exact und_bytess) rfl ?_ | refine OW_convInt (by first | with_reducible exact und_u8 | with_reducible exact und_u64 | with_reducible exact und_int | with_reducible exact und_u32) (by first | with_reducible exact und_u8 | with_reducible exact und_u64 | with_reducible exact und_int | with_reducible exact und_u32) rfl ?_ | refine OW_add rfl rfl ?_ | refine OW_sub rfl rfl ?_ | refine OW_mul rfl rfl ?_ | refine OW_min2 rfl rfl ?_ | refine OW_max2 rfl rfl ?_ | refine OW_neg rfl ?_ | refine CW_block ?_ | refine CW_condT rfl ?_ | refine CW_condF rfl ?_ | refine CW_exit ?_ | refine CW_ret ?_ | refine CW_skip ?_ | refine LW_seq ?_ | refine LW_regC ?_ | refine LW_condC ?_ | refine LW_regF ?_ | refine LW_condF ?_ | refine FW_seq ?_ | refine FW_region (by kernel_rfl) ?_ | refine FW_block ?_ | refine FW_condT rfl ?_ | refine FW_condF rfl ?_ | refine FW_exit ?_ | refine FW_ret ?_ | refine FW_skip ?_ | refine LW_ret ?_ | refine LW_skip ?_ | refine thenE_exit ?_ | refine thenE_ret ?_ | refine inBlockE_normal ?_ | refine inBlockE_same ?_ | refine inBlockE_ret ?_ | refine inBlockE_ne (by rfl) ?_ | refine OW_eqlB (by with_reducible exact und_bool) rfl rfl ?_ | refine OW_neqB (by with_reducible exact und_bool) rfl rfl ?_ | refine OW_idxS (by with_reducible exact und_bytes) one_u8 rfl rfl _ rfl (by omega) ?_ | refine OW_idxS (by with_reducible exact und_bytess) one_bytes rfl rfl _ rfl (by omega) ?_ | refine OW_load1 (by first | with_reducible exact one_u8 | with_reducible exact one_bytes) rfl _ (by assumption) ?_ | (refine OW_isLoad ?_; refine OW_loadBk (by first | with_reducible exact s_int | with_reducible exact one_u8 | with_reducible exact one_grants) rfl (by assumption) _ (by rfl) ?_) | refine OW_load1 s_int rfl _ (by assumption) ?_)
         refine OW_nil ?_
         exact stay_mk _ _ _ _)
    | (apply OY_q _ rfl
       · intro wd hwd
         (first | refine OW_build _ _ (bld_T3 _ _ _ _ [] _ (by assumption)) rfl ?_ | refine OW_build _ _ (bld_T2 _ _ _ _ []) rfl ?_ | (refine OW_isLoad ?_; refine OW_loadM (by first | with_reducible exact agg_Grant | with_reducible exact s_agg_Tag | with_reducible exact agg_Token) rfl (by first | assumption | (apply_assumption; assumption)) ?_) | refine OW_idxN und_Grants el_Grant rfl rfl 0 rfl (by omega) ?_ | refine OW_sliceP h_slp_Tag rfl ?_ | refine OW_slicePOT a_slp_TagT rfl ?_ | refine OW_fieldB fldo_G0 rfl ?_ | refine OW_fieldB fldo_G1 rfl ?_ | refine OW_fieldB fldo_G2 rfl ?_ | refine OW_fieldB fldo_T0 rfl ?_ | refine OW_fieldB fldo_T1 rfl ?_ | refine OW_fieldB fldo_T2 rfl ?_ | refine OW_lenS und_Grants rfl ?_ | refine OW_idxN und_Grants el_Grant rfl rfl _ rfl (by omega) ?_ | refine OW_moveV (.int _ _) rfl ?_ | refine OW_moveV (.slice _ _ _) rfl ?_ | refine OW_moveV (.bool _) rfl ?_ | refine OW_moveV (.pointer _) rfl ?_ | refine OW_moveV (.string _) rfl ?_ | refine OW_moveV (.agg _) rfl ?_ | refine OW_moveV (.tuple _) rfl ?_ | refine OW_nil ?_ | refine thenE_normal ?_ | refine CW_seq ?_ | refine CW_region (by kernel_rfl) ?_ | refine OW_assignV (.int _ _) rfl ?_ | refine OW_assignV (.slice _ _ _) rfl ?_ | refine OW_assignV (.bool _) rfl ?_ | refine OW_assignV (.pointer _) rfl ?_ | refine OW_assignV (.string _) rfl ?_ | refine OW_assignV (.agg _) rfl ?_ | refine OW_assignV (.tuple _) rfl ?_ | refine OW_addI rfl rfl (by omega) ?_ | refine OW_subI rfl rfl (by omega) ?_ | refine OW_mulI rfl rfl (by omega) ?_ | refine OW_lss rfl rfl ?_ | refine OW_extract rfl rfl ?_ | refine OW_gtr rfl rfl ?_ | refine OW_leq rfl rfl ?_ | refine OW_geq rfl rfl ?_ | refine OW_eql rfl rfl ?_ | refine OW_neq rfl rfl ?_ | refine OW_not rfl ?_ | refine OW_pickT rfl _ rfl ?_ | refine OW_pickF rfl (.bool _) rfl ?_ | refine OW_pickB rfl rfl rfl ?_ | refine OW_move ?_ | refine OW_assign ?_ | refine OW_pass rfl ?_ | refine OW_take rfl ?_ | refine OW_lenS (by first | with_reducible exact und_bytes | with_reducible exact und_bytess) rfl ?_ | refine OW_convInt (by first | with_reducible exact und_u8 | with_reducible exact und_u64 | with_reducible exact und_int | with_reducible exact und_u32) (by first | with_reducible exact und_u8 | with_reducible exact und_u64 | with_reducible exact und_int | with_reducible exact und_u32) rfl ?_ | refine OW_add rfl rfl ?_ | refine OW_sub rfl rfl ?_ | refine OW_mul rfl rfl ?_ | refine OW_min2 rfl rfl ?_ | refine OW_max2 rfl rfl ?_ | refine OW_neg rfl ?_ | refine CW_block ?_ | refine CW_condT rfl ?_ | refine CW_condF rfl ?_ | refine CW_exit ?_ | refine CW_ret ?_ | refine CW_skip ?_ | refine LW_seq ?_ | refine LW_regC ?_ | refine LW_condC ?_ | refine LW_regF ?_ | refine LW_condF ?_ | refine FW_seq ?_ | refine FW_region (by kernel_rfl) ?_ | refine FW_block ?_ | refine FW_condT rfl ?_ | refine FW_condF rfl ?_ | refine FW_exit ?_ | refine FW_ret ?_ | refine FW_skip ?_ | refine LW_ret ?_ | refine LW_skip ?_ | refine thenE_exit ?_ | refine thenE_ret ?_ | refine inBlockE_normal ?_ | refine inBlockE_same ?_ | refine inBlockE_ret ?_ | refine inBlockE_ne (by rfl) ?_ | refine OW_eqlB (by with_reducible exact und_bool) rfl rfl ?_ | refine OW_neqB (by with_reducible exact und_bool) rfl rfl ?_ | refine OW_idxS (by with_reducible exact und_bytes) one_u8 rfl rfl _ rfl (by omega) ?_ | refine OW_idxS (by with_reducible exact und_bytess) one_bytes rfl rfl _ rfl (by omega) ?_ | refine OW_load1 (by first | with_reducible exact one_u8 | with_reducible exact one_bytes) rfl _ (by assumption) ?_ | (refine OW_isLoad ?_; refine OW_loadBk (by first | with_reducible exact s_int | with_reducible exact one_u8 | with_reducible exact one_grants) rfl (by assumption) _ (by rfl) ?_) | refine OW_load1 s_int rfl _ (by assumption) ?_ | (refine OW_isLoad ?_; refine OW_loadBk (by first | with_reducible exact one_u8 | with_reducible exact one_bytes | with_reducible exact one_bool | with_reducible exact one_int | with_reducible exact one_errno | with_reducible exact one_u32 | with_reducible exact one_u64 | with_reducible exact one_string | with_reducible exact s_int | with_reducible exact one_u8 | with_reducible exact one_grants) rfl (by apply_assumption; assumption) _ (by first | assumption | rfl) ?_) | refine OW_load1 (by first | with_reducible exact one_u8 | with_reducible exact one_bytes | with_reducible exact one_bool | with_reducible exact one_int | with_reducible exact one_errno | with_reducible exact one_u32 | with_reducible exact one_u64 | with_reducible exact one_string | with_reducible exact s_int | with_reducible exact one_u8 | with_reducible exact one_grants) rfl _ (by apply_assumption; assumption) ?_)
         refine OW_nil ?_
         exact stay_mk _ _ _ _)
    | refine OY_ppass rfl rfl ?_
    | refine OY_qpass rfl rfl ?_
    | (apply OY_ptake _ rfl rfl
       · intro wd
         (first | refine OW_build _ _ (bld_T3 _ _ _ _ [] _ (by assumption)) rfl ?_ | refine OW_build _ _ (bld_T2 _ _ _ _ []) rfl ?_ | (refine OW_isLoad ?_; refine OW_loadM (by first | with_reducible exact agg_Grant | with_reducible exact s_agg_Tag | with_reducible exact agg_Token) rfl (by first | assumption | (apply_assumption; assumption)) ?_) | refine OW_idxN und_Grants el_Grant rfl rfl 0 rfl (by omega) ?_ | refine OW_sliceP h_slp_Tag rfl ?_ | refine OW_slicePOT a_slp_TagT rfl ?_ | refine OW_fieldB fldo_G0 rfl ?_ | refine OW_fieldB fldo_G1 rfl ?_ | refine OW_fieldB fldo_G2 rfl ?_ | refine OW_fieldB fldo_T0 rfl ?_ | refine OW_fieldB fldo_T1 rfl ?_ | refine OW_fieldB fldo_T2 rfl ?_ | refine OW_lenS und_Grants rfl ?_ | refine OW_idxN und_Grants el_Grant rfl rfl _ rfl (by omega) ?_ | refine OW_moveV (.int _ _) rfl ?_ | refine OW_moveV (.slice _ _ _) rfl ?_ | refine OW_moveV (.bool _) rfl ?_ | refine OW_moveV (.pointer _) rfl ?_ | refine OW_moveV (.string _) rfl ?_ | refine OW_moveV (.agg _) rfl ?_ | refine OW_moveV (.tuple _) rfl ?_ | refine OW_nil ?_ | refine thenE_normal ?_ | refine CW_seq ?_ | refine CW_region (by kernel_rfl) ?_ | refine OW_assignV (.int _ _) rfl ?_ | refine OW_assignV (.slice _ _ _) rfl ?_ | refine OW_assignV (.bool _) rfl ?_ | refine OW_assignV (.pointer _) rfl ?_ | refine OW_assignV (.string _) rfl ?_ | refine OW_assignV (.agg _) rfl ?_ | refine OW_assignV (.tuple _) rfl ?_ | refine OW_addI rfl rfl (by omega) ?_ | refine OW_subI rfl rfl (by omega) ?_ | refine OW_mulI rfl rfl (by omega) ?_ | refine OW_lss rfl rfl ?_ | refine OW_extract rfl rfl ?_ | refine OW_gtr rfl rfl ?_ | refine OW_leq rfl rfl ?_ | refine OW_geq rfl rfl ?_ | refine OW_eql rfl rfl ?_ | refine OW_neq rfl rfl ?_ | refine OW_not rfl ?_ | refine OW_pickT rfl _ rfl ?_ | refine OW_pickF rfl (.bool _) rfl ?_ | refine OW_pickB rfl rfl rfl ?_ | refine OW_move ?_ | refine OW_assign ?_ | refine OW_pass rfl ?_ | refine OW_take rfl ?_ | refine OW_lenS (by first | with_reducible exact und_bytes | with_reducible exact und_bytess) rfl ?_ | refine OW_convInt (by first | with_reducible exact und_u8 | with_reducible exact und_u64 | with_reducible exact und_int | with_reducible exact und_u32) (by first | with_reducible exact und_u8 | with_reducible exact und_u64 | with_reducible exact und_int | with_reducible exact und_u32) rfl ?_ | refine OW_add rfl rfl ?_ | refine OW_sub rfl rfl ?_ | refine OW_mul rfl rfl ?_ | refine OW_min2 rfl rfl ?_ | refine OW_max2 rfl rfl ?_ | refine OW_neg rfl ?_ | refine CW_block ?_ | refine CW_condT rfl ?_ | refine CW_condF rfl ?_ | refine CW_exit ?_ | refine CW_ret ?_ | refine CW_skip ?_ | refine LW_seq ?_ | refine LW_regC ?_ | refine LW_condC ?_ | refine LW_regF ?_ | refine LW_condF ?_ | refine FW_seq ?_ | refine FW_region (by kernel_rfl) ?_ | refine FW_block ?_ | refine FW_condT rfl ?_ | refine FW_condF rfl ?_ | refine FW_exit ?_ | refine FW_ret ?_ | refine FW_skip ?_ | refine LW_ret ?_ | refine LW_skip ?_ | refine thenE_exit ?_ | refine thenE_ret ?_ | refine inBlockE_normal ?_ | refine inBlockE_same ?_ | refine inBlockE_ret ?_ | refine inBlockE_ne (by rfl) ?_ | refine OW_eqlB (by with_reducible exact und_bool) rfl rfl ?_ | refine OW_neqB (by with_reducible exact und_bool) rfl rfl ?_ | refine OW_idxS (by with_reducible exact und_bytes) one_u8 rfl rfl _ rfl (by omega) ?_ | refine OW_idxS (by with_reducible exact und_bytess) one_bytes rfl rfl _ rfl (by omega) ?_ | refine OW_load1 (by first | with_reducible exact one_u8 | with_reducible exact one_bytes) rfl _ (by assumption) ?_ | (refine OW_isLoad ?_; refine OW_loadBk (by first | with_reducible exact s_int | with_reducible exact one_u8 | with_reducible exact one_grants) rfl (by assumption) _ (by rfl) ?_) | refine OW_load1 s_int rfl _ (by assumption) ?_)
         refine OW_nil ?_
         exact stay_mk _ _ _ _)
    | (apply OY_qtake _ rfl rfl
       · intro wd hwd
         (first | refine OW_build _ _ (bld_T3 _ _ _ _ [] _ (by assumption)) rfl ?_ | refine OW_build _ _ (bld_T2 _ _ _ _ []) rfl ?_ | (refine OW_isLoad ?_; refine OW_loadM (by first | with_reducible exact agg_Grant | with_reducible exact s_agg_Tag | with_reducible exact agg_Token) rfl (by first | assumption | (apply_assumption; assumption)) ?_) | refine OW_idxN und_Grants el_Grant rfl rfl 0 rfl (by omega) ?_ | refine OW_sliceP h_slp_Tag rfl ?_ | refine OW_slicePOT a_slp_TagT rfl ?_ | refine OW_fieldB fldo_G0 rfl ?_ | refine OW_fieldB fldo_G1 rfl ?_ | refine OW_fieldB fldo_G2 rfl ?_ | refine OW_fieldB fldo_T0 rfl ?_ | refine OW_fieldB fldo_T1 rfl ?_ | refine OW_fieldB fldo_T2 rfl ?_ | refine OW_lenS und_Grants rfl ?_ | refine OW_idxN und_Grants el_Grant rfl rfl _ rfl (by omega) ?_ | refine OW_moveV (.int _ _) rfl ?_ | refine OW_moveV (.slice _ _ _) rfl ?_ | refine OW_moveV (.bool _) rfl ?_ | refine OW_moveV (.pointer _) rfl ?_ | refine OW_moveV (.string _) rfl ?_ | refine OW_moveV (.agg _) rfl ?_ | refine OW_moveV (.tuple _) rfl ?_ | refine OW_nil ?_ | refine thenE_normal ?_ | refine CW_seq ?_ | refine CW_region (by kernel_rfl) ?_ | refine OW_assignV (.int _ _) rfl ?_ | refine OW_assignV (.slice _ _ _) rfl ?_ | refine OW_assignV (.bool _) rfl ?_ | refine OW_assignV (.pointer _) rfl ?_ | refine OW_assignV (.string _) rfl ?_ | refine OW_assignV (.agg _) rfl ?_ | refine OW_assignV (.tuple _) rfl ?_ | refine OW_addI rfl rfl (by omega) ?_ | refine OW_subI rfl rfl (by omega) ?_ | refine OW_mulI rfl rfl (by omega) ?_ | refine OW_lss rfl rfl ?_ | refine OW_extract rfl rfl ?_ | refine OW_gtr rfl rfl ?_ | refine OW_leq rfl rfl ?_ | refine OW_geq rfl rfl ?_ | refine OW_eql rfl rfl ?_ | refine OW_neq rfl rfl ?_ | refine OW_not rfl ?_ | refine OW_pickT rfl _ rfl ?_ | refine OW_pickF rfl (.bool _) rfl ?_ | refine OW_pickB rfl rfl rfl ?_ | refine OW_move ?_ | refine OW_assign ?_ | refine OW_pass rfl ?_ | refine OW_take rfl ?_ | refine OW_lenS (by first | with_reducible exact und_bytes | with_reducible exact und_bytess) rfl ?_ | refine OW_convInt (by first | with_reducible exact und_u8 | with_reducible exact und_u64 | with_reducible exact und_int | with_reducible exact und_u32) (by first | with_reducible exact und_u8 | with_reducible exact und_u64 | with_reducible exact und_int | with_reducible exact und_u32) rfl ?_ | refine OW_add rfl rfl ?_ | refine OW_sub rfl rfl ?_ | refine OW_mul rfl rfl ?_ | refine OW_min2 rfl rfl ?_ | refine OW_max2 rfl rfl ?_ | refine OW_neg rfl ?_ | refine CW_block ?_ | refine CW_condT rfl ?_ | refine CW_condF rfl ?_ | refine CW_exit ?_ | refine CW_ret ?_ | refine CW_skip ?_ | refine LW_seq ?_ | refine LW_regC ?_ | refine LW_condC ?_ | refine LW_regF ?_ | refine LW_condF ?_ | refine FW_seq ?_ | refine FW_region (by kernel_rfl) ?_ | refine FW_block ?_ | refine FW_condT rfl ?_ | refine FW_condF rfl ?_ | refine FW_exit ?_ | refine FW_ret ?_ | refine FW_skip ?_ | refine LW_ret ?_ | refine LW_skip ?_ | refine thenE_exit ?_ | refine thenE_ret ?_ | refine inBlockE_normal ?_ | refine inBlockE_same ?_ | refine inBlockE_ret ?_ | refine inBlockE_ne (by rfl) ?_ | refine OW_eqlB (by with_reducible exact und_bool) rfl rfl ?_ | refine OW_neqB (by with_reducible exact und_bool) rfl rfl ?_ | refine OW_idxS (by with_reducible exact und_bytes) one_u8 rfl rfl _ rfl (by omega) ?_ | refine OW_idxS (by with_reducible exact und_bytess) one_bytes rfl rfl _ rfl (by omega) ?_ | refine OW_load1 (by first | with_reducible exact one_u8 | with_reducible exact one_bytes) rfl _ (by assumption) ?_ | (refine OW_isLoad ?_; refine OW_loadBk (by first | with_reducible exact s_int | with_reducible exact one_u8 | with_reducible exact one_grants) rfl (by assumption) _ (by rfl) ?_) | refine OW_load1 s_int rfl _ (by assumption) ?_ | (refine OW_isLoad ?_; refine OW_loadBk (by first | with_reducible exact one_u8 | with_reducible exact one_bytes | with_reducible exact one_bool | with_reducible exact one_int | with_reducible exact one_errno | with_reducible exact one_u32 | with_reducible exact one_u64 | with_reducible exact one_string | with_reducible exact s_int | with_reducible exact one_u8 | with_reducible exact one_grants) rfl (by apply_assumption; assumption) _ (by first | assumption | rfl) ?_) | refine OW_load1 (by first | with_reducible exact one_u8 | with_reducible exact one_bytes | with_reducible exact one_bool | with_reducible exact one_int | with_reducible exact one_errno | with_reducible exact one_u32 | with_reducible exact one_u64 | with_reducible exact one_string | with_reducible exact s_int | with_reducible exact one_u8 | with_reducible exact one_grants) rfl _ (by apply_assumption; assumption) ?_)
         refine OW_nil ?_
         exact stay_mk _ _ _ _)
    | refine OY_a (actY_of rfl ?_)
    | refine OY_d (actY_of rfl ?_)
    | refine OY_a (actY_pass rfl rfl ?_)
    | refine OY_d (actY_pass rfl rfl ?_)
    | refine OY_a (actY_take rfl rfl ?_)
    | refine OY_d (actY_take rfl rfl ?_))
  exact hEnd.out) (k : B) : A := h ⟨k⟩
theorem at_bsT {w : World} {ad : Addr} {l : List UInt8} (h : At w ad (l.map bv)) : Bs w (some ad) l := fun j u hu => ⟨ad, rfl, h j u hu⟩
theorem GOwn.ne {w : World} {base c g : Nat} {A : Option Addr} {l : List GD} {T : TypeId} {cs : Array Value} (h : GOwn w base A c l) (hb : Blk w g T cs) (hT : T ≠ 49) : ∀ ad, A = some ad → ¬ ad.block = g := by
  intro ad ha he
  obtain ⟨g2, cur, hA2, _, hB2, _⟩ := ownN_blk h (by rw [ha]; simp)
  rw [ha] at hA2
  cases hA2
  have he : g2 = g := he
  subst he
  have hB2 : w.heap[g2]? = some (.cells cur 49 (0, 0)) := hB2
  have hb : w.heap[g2]? = some (.cells cs T (0, 0)) := hb
  rw [hB2] at hb
  injection hb with hb
  injection hb with _ hb
  exact hT hb.symm
theorem grd_one {w : World} {g : Nat} {x : GD} (hb : Blk w g 49 (gcells x).toArray) : GRd w (some ⟨g, 0, none⟩) [x] := ⟨by simpa using hb.rd, grants_len _⟩
set_option maxHeartbeats 8000000 in
theorem tokAtt_any (w : World) (B : Option Addr) (cB : Nat) (t : TK) (g : GD) (hB : GRd w B t.line) (hcB : t.line.length ≤ cB) (hn : t.line.length ≤ 10000) (htg : t.tag.length = 32) : Calls Try.prog 34 #[.agg (tcells t (.slice B t.line.length cB)).toArray, .agg (gcells g).toArray] w (TRet w (attT t g)) := by
  have hTl := tcells_length htg (.slice B t.line.length cB)
  have hXl : (hmacL t.tag (grantB g)).length = 32 := hmacL_length _ _
  refine calls_of_CW Try.func34 rfl (by simp [Try.ntmps34]) ?_
  rw [Try.ntmps34]
  refine go_Tok5 (k := ?_)
  refine OW_box _ rfl ?_
  intro w1 g2 hb2 hg2 hlt2 hx1
  have hb2 : Blk w1 g2 45 (tcells t (.slice B t.line.length cB)).toArray := hb2
  refine go_Tok5 (k := ?_)
  refine OW_box _ rfl ?_
  intro w2 g3 hb3 hg3 hlt3 hx2
  have hb3 : Blk w2 g3 49 (gcells g).toArray := hb3
  replace hb2 := hb2.ext hx2
  have hx02 := hx1.trans' hx2
  refine go_Tok5 (k := ?_)
  refine OW_allocA agg_Token ?_
  intro w3 g4 hb4 hg4 hlt4 hx3
  replace hb2 := hb2.ext hx3
  replace hb3 := hb3.ext hx3
  have hx03 := hx02.trans' hx3
  have hg4w : w.heap.size ≤ g4 := by have := hx02.size; omega
  have hne24 : ¬ g2 = g4 := by omega
  have hne34 : ¬ g3 = g4 := by omega
  have hbad : ∀ w6 (er : Int), Ext w w6 → Blk w6 g4 45 (tcells t0 (.slice none 0 0)).toArray → attT t g = (t0, er) → ∀ w7, Blk w7 g4 45 (tcells t0 (.slice none 0 0)).toArray → w6.grownBy w7 (some g4) → TRet w (attT t g) (.returned (.tuple #[.agg (tcells t0 (.slice none 0 0)).toArray, .int .i64 er])) w7 := by
    intro w6 er hx6 _ ha w7 hb7 hgr
    rw [ha]
    exact ⟨none, 0, rfl, GOwn.zero _ _, (Keeps.of_only hgr (S := (· = g4)) rfl).ext hx6 (fun j hj => by have hj : j = g4 := hj; omega)⟩
  refine go_Tok5 (k := ?_)
  refine OW_loadX agg_Token rfl (tcells t (.slice B t.line.length cB)) hTl hb2.atL ?_
  refine go_Tok5 (k := ?_)
  refine OW_callV Try.func75 (by kernel_rfl) rfl (tMay_any w3 t B cB (hB.ext hx03) (by omega)) rfl ?_
  intro w4 hx4
  have hx04 := hx03.trans' hx4
  replace hb2 := hb2.ext hx4
  replace hb3 := hb3.ext hx4
  replace hb4 := hb4.ext hx4
  cases hm : mayT t with
  | false =>
    have ha : attT t g = (t0, 2) := by unfold attT; rw [hm]; rfl
    refine go_Tok5 (k := ?_)
    refine OW_build _ _ bld_T0 rfl ?_
    refine go_Tok5 (k := ?_)
    refine OW_storeA agg_Token rfl (tcells t0 (.slice none 0 0)) rfl rfl hb4 (by kernel_rfl) (tcells_one _ _ _ _) ?_
    intro w7 hb7 hgr7
    refine go_Tok5 (k := ?_)
    exact bodyE_retc2 rfl agg_Token rfl (tcells t0 (.slice none 0 0)) (.int .i64 2) rfl rfl (Blk.range hb7) (hbad w4 2 hx04 hb4 ha w7 hb7 hgr7)
  | true =>
  refine go_Tok5 (k := ?_)
  refine OW_loadX agg_Grant rfl (gcells g) rfl hb3.atL ?_
  refine go_Tok5 (k := ?_)
  refine OW_callV Try.func41 (by kernel_rfl) rfl (rMay_any w4 g) rfl ?_
  intro w5 hx5
  have hx05 := hx04.trans' hx5
  replace hb2 := hb2.ext hx5
  replace hb3 := hb3.ext hx5
  replace hb4 := hb4.ext hx5
  cases hgm : mayG g with
  | false =>
    have ha : attT t g = (t0, 2) := by unfold attT; rw [hm, hgm]; rfl
    refine go_Tok5 (k := ?_)
    refine OW_build _ _ bld_T0 rfl ?_
    refine go_Tok5 (k := ?_)
    refine OW_storeA agg_Token rfl (tcells t0 (.slice none 0 0)) rfl rfl hb4 (by kernel_rfl) (tcells_one _ _ _ _) ?_
    intro w7 hb7 hgr7
    refine go_Tok5 (k := ?_)
    exact bodyE_retc2 rfl agg_Token rfl (tcells t0 (.slice none 0 0)) (.int .i64 2) rfl rfl (Blk.range hb7) (hbad w5 2 hx05 hb4 ha w7 hb7 hgr7)
  | true =>
  have hp := mayT_parts hm
  refine go_Tok5 (k := ?_)
  refine CW_cond _ rfl (fun hh => ?_) (fun hh => ?_)
  · have ha : attT t g = (t0, 4) := by unfold attT; rw [hm, hgm, Bool.and_self, if_pos rfl, if_pos (by have := eq_of_beq hh; omega)]
    refine go_Tok5 (k := ?_)
    refine OW_build _ _ bld_T0 rfl ?_
    refine go_Tok5 (k := ?_)
    refine OW_storeA agg_Token rfl (tcells t0 (.slice none 0 0)) rfl rfl hb4 (by kernel_rfl) (tcells_one _ _ _ _) ?_
    intro w7 hb7 hgr7
    refine go_Tok5 (k := ?_)
    exact bodyE_retc2 rfl agg_Token rfl (tcells t0 (.slice none 0 0)) (.int .i64 4) rfl rfl (Blk.range hb7) (hbad w5 4 hx05 hb4 ha w7 hb7 hgr7)
  have h4 : ¬ t.line.length = 4 := by have := ne_of_beq_false hh; omega
  have ha : attT t g = (⟨t.ten, t.line ++ [g], hmacL t.tag (grantB g)⟩, 0) := by unfold attT; rw [hm, hgm, Bool.and_self, if_pos rfl, if_neg h4]; rfl
  rw [ha]
  clear hh hbad
  have hs5 := hx05.size
  have hlt4b := hb4.lt
  have hlt2b := hb2.lt
  have hlt3b := hb3.lt
  refine go_Tok5 (k := ?_)
  obtain ⟨C, hC⟩ : ∃ C : World → Prop, C = fun v => Ext w5 v := ⟨_, rfl⟩
  have y2 := blkE hC hb2
  have y3 : ∀ v, C v → AtM v ⟨g3, 0, none⟩ (gcells g) 3 := by rw [hC]; exact fun v hv => gAt (hb3.ext hv).atL
  refine CW_tree2 [1, 3, 5, 10] (.p 0 (.q 1 (.p 2 (.q 3 (.q 5 (.p 8 (.p 9 (.q 10 (Ty.graft (.a2 4 (.a 6 .done) 6 (.a 4 .done)) (.a 7 (.a 11 (.a 12 (.p 13 (.d 14 (.p 15 .done))))))))))))))) (C) (by kernel_rfl) (by kernel_rfl) (by kernel_rfl) ?_ ?_
  · exact inE hC
  intro wq hywq h_C
  refine oy_Tok5 (k := ?_)
  refine OY_a2 (actY_of rfl ?_) (actY_of rfl ?_)
  · skip
    refine OW_callC Try.func78 (by kernel_rfl) rfl (gdClone_any wq B cB t.line (hB.ext (hx05.trans' hywq)) hn) rfl ?_
    rintro en w101 ⟨A4, c4, rfl, ho4, hxc⟩
    refine ⟨_, rfl, ?_⟩
    have hyw101 := hywq.trans' hxc
    replace ho4 := ho4.mono (show w5.heap.size ≤ wq.heap.size from hywq.size)
    first | refine OW_nil (goY_mkE hC (hyw101) ?_) | refine OW_nil (goY_dropE hC (hyw101) ?_)
    refine oy_Tok5 (k := ?_)
    refine OW_litM [gcells g] und_Grants agg_Grant rfl rfl (by intro v hv; rw [List.mem_singleton] at hv; subst hv; rfl) (by decide) ?_
    intro w102 g7 hb7 hg7 hlt7 hxc
    have hyw102 := hyw101.trans' hxc
    have hb7 : Blk w102 g7 49 (gcells g).toArray := by simpa using hb7
    have szw102 := hxc.size
    replace ho4 := ho4.ext hxc
    first | refine OW_nil (goY_mkE hC (hyw102) ?_) | refine OW_nil (goY_dropE hC (hyw102) ?_)
    refine oy_Tok5 (k := ?_)
    refine OW_apG rfl (l' := [g]) rfl ho4 (grd_one hb7) (by simp; omega) hyw102.size ?_
    intro w103 A8 c8 ho8 hT8 hk8 hbel8
    have hyw103 : Ext w5 w103 := hyw102.trans hbel8
    first | refine OW_nil (goY_mkE hC (hyw103) ?_) | refine OW_nil (goY_dropE hC (hyw103) ?_)
    refine oy_Tok5 (k := ?_)
    refine OW_callBs Try.func79 (by kernel_rfl) rfl (tokGrant_any w103 g) rfl ?_
    intro w104 A9 c9 hf9
    have hxc := hf9.ext
    have hyw104 := hyw103.trans' hxc
    have hB9 := hf9.bs
    replace ho8 := ho8.ext hxc
    first | refine OW_nil (goY_mkE hC (hyw104) ?_) | refine OW_nil (goY_dropE hC (hyw104) ?_)
    refine oy_Tok5 (k := ?_)
    refine OW_callV Try.func18 (by kernel_rfl) rfl (hmacSum_any w104 (some ⟨g2, 2, none⟩) A9 32 c9 t.tag (grantB g) (at_bsT (tag_in (hb2.ext hyw104))) (by omega) (by omega) hB9 (by rw [grantB_len]; decide)) (by rw [htg]; rfl) ?_
    intro w105 hxc
    have hyw105 := hyw104.trans' hxc
    replace ho8 := ho8.ext hxc
    first | refine OW_nil (goY_mkE hC (hyw105) ?_) | refine OW_nil (goY_dropE hC (hyw105) ?_)
    refine oy_Tok5 (k := ?_)
    refine OW_storeA agg_Token rfl (tcells ⟨t.ten, t.line ++ [g], hmacL t.tag (grantB g)⟩ (.slice A8 (t.line ++ [g]).length c8)) rfl (tcells_length hXl _) (hb4.ext hyw105) (by kernel_rfl) (tcells_one _ _ _ _) ?_
    intro w106 hbR hgR
    have hkR := Keeps.of_only hgR (S := (· = g4)) rfl
    have hx0R : Ext w w106 := hkR.ext (hx05.trans' hyw105) (fun j hj => by have hj : j = g4 := hj; omega)
    have hoR : GOwn w106 w.heap.size A8 c8 (t.line ++ [g]) := GOwn.mono (show GOwn w106 w5.heap.size A8 c8 (t.line ++ [g]) from ownN_keeps ho8 hkR (fun ad h hh => by have h1 := (ownN_block ho8 ad h).1; have hh : ad.block = g4 := hh; omega)) hs5
    refine OW_nil (goY_drop (fun v => v = w106) rfl ?_)
    refine oy_Tok5 (k := ?_)
    skip
    refine go_Tok5 (k := ?_)
    exact bodyE_retc2 rfl agg_Token rfl (tcells ⟨t.ten, t.line ++ [g], hmacL t.tag (grantB g)⟩ (.slice A8 (t.line ++ [g]).length c8)) (.int .i64 0) rfl (tcells_length hXl _) (Blk.range hbR) ⟨A8, c8, rfl, hoR, hx0R⟩
  · skip
    refine OW_litM [gcells g] und_Grants agg_Grant rfl rfl (by intro v hv; rw [List.mem_singleton] at hv; subst hv; rfl) (by decide) ?_
    intro w107 g7 hb7 hg7 hlt7 hxc
    have hyw107 := hywq.trans' hxc
    have hb7 : Blk w107 g7 49 (gcells g).toArray := by simpa using hb7
    have szw107 := hxc.size
    first | refine OW_nil (goY_mkE hC (hyw107) ?_) | refine OW_nil (goY_dropE hC (hyw107) ?_)
    refine oy_Tok5 (k := ?_)
    refine OW_callC Try.func78 (by kernel_rfl) rfl (gdClone_any w107 B cB t.line (hB.ext (hx05.trans' hyw107)) hn) rfl ?_
    rintro en w108 ⟨A4, c4, rfl, ho4, hxc⟩
    refine ⟨_, rfl, ?_⟩
    have hyw108 := hyw107.trans' hxc
    replace ho4 := ho4.mono (show w5.heap.size ≤ w107.heap.size from hyw107.size)
    replace hb7 := hb7.ext hxc
    first | refine OW_nil (goY_mkE hC (hyw108) ?_) | refine OW_nil (goY_dropE hC (hyw108) ?_)
    refine oy_Tok5 (k := ?_)
    refine OW_apG rfl (l' := [g]) rfl ho4 (grd_one hb7) (by simp; omega) hyw108.size ?_
    intro w109 A8 c8 ho8 hT8 hk8 hbel8
    have hyw109 : Ext w5 w109 := hyw108.trans hbel8
    first | refine OW_nil (goY_mkE hC (hyw109) ?_) | refine OW_nil (goY_dropE hC (hyw109) ?_)
    refine oy_Tok5 (k := ?_)
    refine OW_callBs Try.func79 (by kernel_rfl) rfl (tokGrant_any w109 g) rfl ?_
    intro w110 A9 c9 hf9
    have hxc := hf9.ext
    have hyw110 := hyw109.trans' hxc
    have hB9 := hf9.bs
    replace ho8 := ho8.ext hxc
    first | refine OW_nil (goY_mkE hC (hyw110) ?_) | refine OW_nil (goY_dropE hC (hyw110) ?_)
    refine oy_Tok5 (k := ?_)
    refine OW_callV Try.func18 (by kernel_rfl) rfl (hmacSum_any w110 (some ⟨g2, 2, none⟩) A9 32 c9 t.tag (grantB g) (at_bsT (tag_in (hb2.ext hyw110))) (by omega) (by omega) hB9 (by rw [grantB_len]; decide)) (by rw [htg]; rfl) ?_
    intro w111 hxc
    have hyw111 := hyw110.trans' hxc
    replace ho8 := ho8.ext hxc
    first | refine OW_nil (goY_mkE hC (hyw111) ?_) | refine OW_nil (goY_dropE hC (hyw111) ?_)
    refine oy_Tok5 (k := ?_)
    refine OW_storeA agg_Token rfl (tcells ⟨t.ten, t.line ++ [g], hmacL t.tag (grantB g)⟩ (.slice A8 (t.line ++ [g]).length c8)) rfl (tcells_length hXl _) (hb4.ext hyw111) (by kernel_rfl) (tcells_one _ _ _ _) ?_
    intro w112 hbR hgR
    have hkR := Keeps.of_only hgR (S := (· = g4)) rfl
    have hx0R : Ext w w112 := hkR.ext (hx05.trans' hyw111) (fun j hj => by have hj : j = g4 := hj; omega)
    have hoR : GOwn w112 w.heap.size A8 c8 (t.line ++ [g]) := GOwn.mono (show GOwn w112 w5.heap.size A8 c8 (t.line ++ [g]) from ownN_keeps ho8 hkR (fun ad h hh => by have h1 := (ownN_block ho8 ad h).1; have hh : ad.block = g4 := hh; omega)) hs5
    refine OW_nil (goY_drop (fun v => v = w112) rfl ?_)
    refine oy_Tok5 (k := ?_)
    skip
    refine go_Tok5 (k := ?_)
    exact bodyE_retc2 rfl agg_Token rfl (tcells ⟨t.ten, t.line ++ [g], hmacL t.tag (grantB g)⟩ (.slice A8 (t.line ++ [g]).length c8)) (.int .i64 0) rfl (tcells_length hXl _) (Blk.range hbR) ⟨A8, c8, rfl, hoR, hx0R⟩
set_option maxHeartbeats 8000000 in
theorem refAtt_any (w : World) (B : Option Addr) (cB : Nat) (t : TK) (g : GD) (hB : GRd w B t.line) (hcB : t.line.length ≤ cB) (hn : t.line.length ≤ 10000) (htg : t.tag.length = 32) : Calls Try.prog 35 #[.agg (tcells t (.slice B t.line.length cB)).toArray, .agg (gcells g).toArray] w (TRet w (attT t g)) := by
  have hTl := tcells_length htg (.slice B t.line.length cB)
  have hXl : (hmacL t.tag (grantB g)).length = 32 := hmacL_length _ _
  refine calls_of_CW Try.func35 rfl (by simp [Try.ntmps35]) ?_
  rw [Try.ntmps35]
  refine go_Tok5 (k := ?_)
  refine OW_box _ rfl ?_
  intro w1 g2 hb2 hg2 hlt2 hx1
  have hb2 : Blk w1 g2 45 (tcells t (.slice B t.line.length cB)).toArray := hb2
  refine go_Tok5 (k := ?_)
  refine OW_box _ rfl ?_
  intro w2 g3 hb3 hg3 hlt3 hx2
  have hb3 : Blk w2 g3 49 (gcells g).toArray := hb3
  replace hb2 := hb2.ext hx2
  have hx02 := hx1.trans' hx2
  refine go_Tok5 (k := ?_)
  refine OW_allocA agg_Token ?_
  intro w3 g4 hb4 hg4 hlt4 hx3
  replace hb2 := hb2.ext hx3
  replace hb3 := hb3.ext hx3
  have hx03 := hx02.trans' hx3
  have hg4w : w.heap.size ≤ g4 := by have := hx02.size; omega
  have hne24 : ¬ g2 = g4 := by omega
  have hne34 : ¬ g3 = g4 := by omega
  have hbad : ∀ w6 (er : Int), Ext w w6 → Blk w6 g4 45 (tcells t0 (.slice none 0 0)).toArray → attT t g = (t0, er) → ∀ w7, Blk w7 g4 45 (tcells t0 (.slice none 0 0)).toArray → w6.grownBy w7 (some g4) → TRet w (attT t g) (.returned (.tuple #[.agg (tcells t0 (.slice none 0 0)).toArray, .int .i64 er])) w7 := by
    intro w6 er hx6 _ ha w7 hb7 hgr
    rw [ha]
    exact ⟨none, 0, rfl, GOwn.zero _ _, (Keeps.of_only hgr (S := (· = g4)) rfl).ext hx6 (fun j hj => by have hj : j = g4 := hj; omega)⟩
  refine go_Tok5 (k := ?_)
  refine OW_loadX agg_Token rfl (tcells t (.slice B t.line.length cB)) hTl hb2.atL ?_
  refine go_Tok5 (k := ?_)
  refine OW_callV Try.func77 (by kernel_rfl) rfl (ref9May_any w3 t B cB (hB.ext hx03) (by omega)) rfl ?_
  intro w4 hx4
  have hx04 := hx03.trans' hx4
  replace hb2 := hb2.ext hx4
  replace hb3 := hb3.ext hx4
  replace hb4 := hb4.ext hx4
  cases hm : mayT t with
  | false =>
    have ha : attT t g = (t0, 2) := by unfold attT; rw [hm]; rfl
    refine go_Tok5 (k := ?_)
    refine OW_build _ _ bld_T0 rfl ?_
    refine go_Tok5 (k := ?_)
    refine OW_storeA agg_Token rfl (tcells t0 (.slice none 0 0)) rfl rfl hb4 (by kernel_rfl) (tcells_one _ _ _ _) ?_
    intro w7 hb7 hgr7
    refine go_Tok5 (k := ?_)
    exact bodyE_retc2 rfl agg_Token rfl (tcells t0 (.slice none 0 0)) (.int .i64 2) rfl rfl (Blk.range hb7) (hbad w4 2 hx04 hb4 ha w7 hb7 hgr7)
  | true =>
  refine go_Tok5 (k := ?_)
  refine OW_loadX agg_Grant rfl (gcells g) rfl hb3.atL ?_
  refine go_Tok5 (k := ?_)
  refine OW_callV Try.func80 (by kernel_rfl) rfl (ref8May_any w4 g) rfl ?_
  intro w5 hx5
  have hx05 := hx04.trans' hx5
  replace hb2 := hb2.ext hx5
  replace hb3 := hb3.ext hx5
  replace hb4 := hb4.ext hx5
  cases hgm : mayG g with
  | false =>
    have ha : attT t g = (t0, 2) := by unfold attT; rw [hm, hgm]; rfl
    refine go_Tok5 (k := ?_)
    refine OW_build _ _ bld_T0 rfl ?_
    refine go_Tok5 (k := ?_)
    refine OW_storeA agg_Token rfl (tcells t0 (.slice none 0 0)) rfl rfl hb4 (by kernel_rfl) (tcells_one _ _ _ _) ?_
    intro w7 hb7 hgr7
    refine go_Tok5 (k := ?_)
    exact bodyE_retc2 rfl agg_Token rfl (tcells t0 (.slice none 0 0)) (.int .i64 2) rfl rfl (Blk.range hb7) (hbad w5 2 hx05 hb4 ha w7 hb7 hgr7)
  | true =>
  have hp := mayT_parts hm
  refine go_Tok5 (k := ?_)
  refine CW_cond _ rfl (fun hh => ?_) (fun hh => ?_)
  · have ha : attT t g = (t0, 4) := by unfold attT; rw [hm, hgm, Bool.and_self, if_pos rfl, if_pos (by have := of_decide_eq_true hh; omega)]
    refine go_Tok5 (k := ?_)
    refine OW_build _ _ bld_T0 rfl ?_
    refine go_Tok5 (k := ?_)
    refine OW_storeA agg_Token rfl (tcells t0 (.slice none 0 0)) rfl rfl hb4 (by kernel_rfl) (tcells_one _ _ _ _) ?_
    intro w7 hb7 hgr7
    refine go_Tok5 (k := ?_)
    exact bodyE_retc2 rfl agg_Token rfl (tcells t0 (.slice none 0 0)) (.int .i64 4) rfl rfl (Blk.range hb7) (hbad w5 4 hx05 hb4 ha w7 hb7 hgr7)
  have h4 : ¬ t.line.length = 4 := by have := of_decide_eq_false hh; omega
  have ha : attT t g = (⟨t.ten, t.line ++ [g], hmacL t.tag (grantB g)⟩, 0) := by unfold attT; rw [hm, hgm, Bool.and_self, if_pos rfl, if_neg h4]; rfl
  rw [ha]
  clear hh hbad
  have hs5 := hx05.size
  have hlt4b := hb4.lt
  have hlt2b := hb2.lt
  have hlt3b := hb3.lt
  refine go_Tok5 (k := ?_)
  refine CW_meet (fun e' w' => ∃ gT A8 c8, e' 2 = .pointer (some ⟨g2, 0, none⟩) ∧ e' 3 = .pointer (some ⟨g3, 0, none⟩) ∧ e' 4 = .pointer (some ⟨g4, 0, none⟩) ∧ e' 6 = .pointer (some ⟨gT, 0, none⟩) ∧ w5.heap.size ≤ gT ∧ Blk w' gT 45 (tcells ⟨t.ten, t.line ++ [g], tzS⟩ (.slice A8 (t.line ++ [g]).length c8)).toArray ∧ GOwn w' w5.heap.size A8 c8 (t.line ++ [g]) ∧ Ext w5 w') ?_ ?_
  · obtain ⟨C, hC⟩ : ∃ C : World → Prop, C = fun v => Ext w5 v := ⟨_, rfl⟩
    have y2 := blkE hC hb2
    have y3 : ∀ v, C v → AtM v ⟨g3, 0, none⟩ (gcells g) 3 := by rw [hC]; exact fun v hv => gAt (hb3.ext hv).atL
    refine CW_tree2 [1, 4, 6] (.p 0 (.q 1 (.p 3 (.q 4 (.q 6 (Ty.graft (.a3 2 (.a3 5 (.a2 7 (.a2 8 (.p 9 (.a 10 .done)) 10 (.a 8 (.p 9 .done))) 10 (.a 7 (.a 8 (.p 9 .done)))) 7 (.a2 5 (.a2 8 (.p 9 (.a 10 .done)) 10 (.a 8 (.p 9 .done))) 10 (.a 5 (.a 8 (.p 9 .done)))) 10 (.a2 5 (.a 7 (.a 8 (.p 9 .done))) 7 (.a 5 (.a 8 (.p 9 .done))))) 7 (.a2 2 (.a2 5 (.a2 8 (.p 9 (.a 10 .done)) 10 (.a 8 (.p 9 .done))) 10 (.a 5 (.a 8 (.p 9 .done)))) 10 (.a 2 (.a 5 (.a 8 (.p 9 .done))))) 10 (.a2 2 (.a2 5 (.a 7 (.a 8 (.p 9 .done))) 7 (.a 5 (.a 8 (.p 9 .done)))) 7 (.a 2 (.a 5 (.a 8 (.p 9 .done)))))) (.d 11 .done))))))) (C) (by kernel_rfl) (by kernel_rfl) (by kernel_rfl) ?_ ?_
    · exact inE hC
    intro wq hywq h_C
    refine oy_Tok5 (k := ?_)
    refine OY_a3 (actY_of rfl ?_) (actY_of rfl ?_) (actY_of rfl ?_)
    · skip
      refine OW_litM [] und_Grants agg_Grant rfl rfl (by simp) (by decide) ?_
      intro w101 gE hbE hgE hltE hxc
      have hyw101 := hywq.trans' hxc
      have hoE : GOwn w101 w5.heap.size (some ⟨gE, 0, none⟩) 0 [] := GOwn.nil hbE (by have := hywq.size; omega)
      have szw101 := hxc.size
      first | refine OW_nil (goY_mkE hC (hyw101) ?_) | refine OW_nil (goY_dropE hC (hyw101) ?_)
      refine oy_Tok5 (k := ?_)
      refine OY_a3 (actY_of rfl ?_) (actY_of rfl ?_) (actY_of rfl ?_)
      · skip
        refine OW_apG (l := []) rfl rfl hoE (hB.ext (hx05.trans' hyw101)) (by simp; omega) hyw101.size ?_
        intro w102 A5 c5 ho5 hT5 hk5 hbel5
        rw [List.nil_append] at ho5 ⊢
        have hyw102 : Ext w5 w102 := hyw101.trans hbel5
        first | refine OW_nil (goY_mkE hC (hyw102) ?_) | refine OW_nil (goY_dropE hC (hyw102) ?_)
        refine oy_Tok5 (k := ?_)
        refine OY_a2 (actY_of rfl ?_) (actY_of rfl ?_)
        · skip
          refine OW_litM [gcells g] und_Grants agg_Grant rfl rfl (by intro v hv; rw [List.mem_singleton] at hv; subst hv; rfl) (by decide) ?_
          intro w103 g7 hb7 hg7 hlt7 hxc
          have hyw103 := hyw102.trans' hxc
          have hb7 : Blk w103 g7 49 (gcells g).toArray := by simpa using hb7
          have szw103 := hxc.size
          replace ho5 := ho5.ext hxc
          first | refine OW_nil (goY_mkE hC (hyw103) ?_) | refine OW_nil (goY_dropE hC (hyw103) ?_)
          refine oy_Tok5 (k := ?_)
          refine OY_a2 (actY_of rfl ?_) (actY_of rfl ?_)
          · skip
            refine OW_apG rfl (l' := [g]) rfl ho5 (grd_one hb7) (by simp; omega) hyw103.size ?_
            intro w104 A8 c8 ho8 hT8 hk8 hbel8
            have hyw104 : Ext w5 w104 := hyw103.trans hbel8
            first | refine OW_nil (goY_mkE hC (hyw104) ?_) | refine OW_nil (goY_dropE hC (hyw104) ?_)
            refine oy_Tok5 (k := ?_)
            refine OW_allocA agg_Token ?_
            intro w105 gT hbT hgT hltT hxc
            have hyw105 := hyw104.trans' hxc
            have hgT0 : w5.heap.size ≤ gT := by have := hyw104.size; omega
            have szw105 := hxc.size
            replace ho8 := ho8.ext hxc
            first | refine OW_nil (goY_mkE hC (hyw105) ?_) | refine OW_nil (goY_dropE hC (hyw105) ?_)
            refine oy_Tok5 (k := ?_)
            refine OW_storeA agg_Token rfl (tcells ⟨t.ten, t.line ++ [g], tzS⟩ (.slice A8 (t.line ++ [g]).length c8)) rfl rfl hbT (by kernel_rfl) (tcells_one _ _ _ _) ?_
            intro w106 hbR hgR
            have hkR := Keeps.of_only hgR (S := (· = gT)) rfl
            have hxR : Ext w5 w106 := hkR.ext hyw105 (fun j hj => by have hj : j = gT := hj; omega)
            have hoR : GOwn w106 w5.heap.size A8 c8 (t.line ++ [g]) := ownN_keeps ho8 hkR (ho8.ne hbT (by decide))
            refine OW_nil (goY_drop (fun v => v = w106) rfl ?_)
            refine oy_Tok5 (k := ?_)
            skip
            skip
            exact ⟨rfl, gT, A8, c8, rfl, rfl, rfl, rfl, hgT0, hbR, hoR, hxR⟩
          · skip
            refine OW_allocA agg_Token ?_
            intro w107 gT hbT hgT hltT hxc
            have hyw107 := hyw103.trans' hxc
            have hgT0 : w5.heap.size ≤ gT := by have := hyw103.size; omega
            have szw107 := hxc.size
            replace ho5 := ho5.ext hxc
            replace hb7 := hb7.ext hxc
            first | refine OW_nil (goY_mkE hC (hyw107) ?_) | refine OW_nil (goY_dropE hC (hyw107) ?_)
            refine oy_Tok5 (k := ?_)
            refine OW_apG rfl (l' := [g]) rfl ho5 (grd_one hb7) (by simp; omega) hyw107.size ?_
            intro w108 A8 c8 ho8 hT8 hk8 hbel8
            have hyw108 : Ext w5 w108 := hyw107.trans hbel8
            replace hbT := hT8 _ _ _ (by decide) hbT
            first | refine OW_nil (goY_mkE hC (hyw108) ?_) | refine OW_nil (goY_dropE hC (hyw108) ?_)
            refine oy_Tok5 (k := ?_)
            refine OW_storeA agg_Token rfl (tcells ⟨t.ten, t.line ++ [g], tzS⟩ (.slice A8 (t.line ++ [g]).length c8)) rfl rfl hbT (by kernel_rfl) (tcells_one _ _ _ _) ?_
            intro w109 hbR hgR
            have hkR := Keeps.of_only hgR (S := (· = gT)) rfl
            have hxR : Ext w5 w109 := hkR.ext hyw108 (fun j hj => by have hj : j = gT := hj; omega)
            have hoR : GOwn w109 w5.heap.size A8 c8 (t.line ++ [g]) := ownN_keeps ho8 hkR (ho8.ne hbT (by decide))
            refine OW_nil (goY_drop (fun v => v = w109) rfl ?_)
            refine oy_Tok5 (k := ?_)
            skip
            skip
            exact ⟨rfl, gT, A8, c8, rfl, rfl, rfl, rfl, hgT0, hbR, hoR, hxR⟩
        · skip
          refine OW_allocA agg_Token ?_
          intro w110 gT hbT hgT hltT hxc
          have hyw110 := hyw102.trans' hxc
          have hgT0 : w5.heap.size ≤ gT := by have := hyw102.size; omega
          have szw110 := hxc.size
          replace ho5 := ho5.ext hxc
          first | refine OW_nil (goY_mkE hC (hyw110) ?_) | refine OW_nil (goY_dropE hC (hyw110) ?_)
          refine oy_Tok5 (k := ?_)
          refine OW_litM [gcells g] und_Grants agg_Grant rfl rfl (by intro v hv; rw [List.mem_singleton] at hv; subst hv; rfl) (by decide) ?_
          intro w111 g7 hb7 hg7 hlt7 hxc
          have hyw111 := hyw110.trans' hxc
          have hb7 : Blk w111 g7 49 (gcells g).toArray := by simpa using hb7
          have szw111 := hxc.size
          replace ho5 := ho5.ext hxc
          replace hbT := hbT.ext hxc
          first | refine OW_nil (goY_mkE hC (hyw111) ?_) | refine OW_nil (goY_dropE hC (hyw111) ?_)
          refine oy_Tok5 (k := ?_)
          refine OW_apG rfl (l' := [g]) rfl ho5 (grd_one hb7) (by simp; omega) hyw111.size ?_
          intro w112 A8 c8 ho8 hT8 hk8 hbel8
          have hyw112 : Ext w5 w112 := hyw111.trans hbel8
          replace hbT := hT8 _ _ _ (by decide) hbT
          first | refine OW_nil (goY_mkE hC (hyw112) ?_) | refine OW_nil (goY_dropE hC (hyw112) ?_)
          refine oy_Tok5 (k := ?_)
          refine OW_storeA agg_Token rfl (tcells ⟨t.ten, t.line ++ [g], tzS⟩ (.slice A8 (t.line ++ [g]).length c8)) rfl rfl hbT (by kernel_rfl) (tcells_one _ _ _ _) ?_
          intro w113 hbR hgR
          have hkR := Keeps.of_only hgR (S := (· = gT)) rfl
          have hxR : Ext w5 w113 := hkR.ext hyw112 (fun j hj => by have hj : j = gT := hj; omega)
          have hoR : GOwn w113 w5.heap.size A8 c8 (t.line ++ [g]) := ownN_keeps ho8 hkR (ho8.ne hbT (by decide))
          refine OW_nil (goY_drop (fun v => v = w113) rfl ?_)
          refine oy_Tok5 (k := ?_)
          skip
          skip
          exact ⟨rfl, gT, A8, c8, rfl, rfl, rfl, rfl, hgT0, hbR, hoR, hxR⟩
      · skip
        refine OW_litM [gcells g] und_Grants agg_Grant rfl rfl (by intro v hv; rw [List.mem_singleton] at hv; subst hv; rfl) (by decide) ?_
        intro w114 g7 hb7 hg7 hlt7 hxc
        have hyw114 := hyw101.trans' hxc
        have hb7 : Blk w114 g7 49 (gcells g).toArray := by simpa using hb7
        have szw114 := hxc.size
        replace hoE := hoE.ext hxc
        first | refine OW_nil (goY_mkE hC (hyw114) ?_) | refine OW_nil (goY_dropE hC (hyw114) ?_)
        refine oy_Tok5 (k := ?_)
        refine OY_a2 (actY_of rfl ?_) (actY_of rfl ?_)
        · skip
          refine OW_apG (l := []) rfl rfl hoE (hB.ext (hx05.trans' hyw114)) (by simp; omega) hyw114.size ?_
          intro w115 A5 c5 ho5 hT5 hk5 hbel5
          rw [List.nil_append] at ho5 ⊢
          have hyw115 : Ext w5 w115 := hyw114.trans hbel5
          replace hb7 := hb7.keeps hk5 (fun ⟨ad, ha, hb⟩ => by cases ha; have hb : gE = g7 := hb; omega)
          first | refine OW_nil (goY_mkE hC (hyw115) ?_) | refine OW_nil (goY_dropE hC (hyw115) ?_)
          refine oy_Tok5 (k := ?_)
          refine OY_a2 (actY_of rfl ?_) (actY_of rfl ?_)
          · skip
            refine OW_apG rfl (l' := [g]) rfl ho5 (grd_one hb7) (by simp; omega) hyw115.size ?_
            intro w116 A8 c8 ho8 hT8 hk8 hbel8
            have hyw116 : Ext w5 w116 := hyw115.trans hbel8
            first | refine OW_nil (goY_mkE hC (hyw116) ?_) | refine OW_nil (goY_dropE hC (hyw116) ?_)
            refine oy_Tok5 (k := ?_)
            refine OW_allocA agg_Token ?_
            intro w117 gT hbT hgT hltT hxc
            have hyw117 := hyw116.trans' hxc
            have hgT0 : w5.heap.size ≤ gT := by have := hyw116.size; omega
            have szw117 := hxc.size
            replace ho8 := ho8.ext hxc
            first | refine OW_nil (goY_mkE hC (hyw117) ?_) | refine OW_nil (goY_dropE hC (hyw117) ?_)
            refine oy_Tok5 (k := ?_)
            refine OW_storeA agg_Token rfl (tcells ⟨t.ten, t.line ++ [g], tzS⟩ (.slice A8 (t.line ++ [g]).length c8)) rfl rfl hbT (by kernel_rfl) (tcells_one _ _ _ _) ?_
            intro w118 hbR hgR
            have hkR := Keeps.of_only hgR (S := (· = gT)) rfl
            have hxR : Ext w5 w118 := hkR.ext hyw117 (fun j hj => by have hj : j = gT := hj; omega)
            have hoR : GOwn w118 w5.heap.size A8 c8 (t.line ++ [g]) := ownN_keeps ho8 hkR (ho8.ne hbT (by decide))
            refine OW_nil (goY_drop (fun v => v = w118) rfl ?_)
            refine oy_Tok5 (k := ?_)
            skip
            skip
            exact ⟨rfl, gT, A8, c8, rfl, rfl, rfl, rfl, hgT0, hbR, hoR, hxR⟩
          · skip
            refine OW_allocA agg_Token ?_
            intro w119 gT hbT hgT hltT hxc
            have hyw119 := hyw115.trans' hxc
            have hgT0 : w5.heap.size ≤ gT := by have := hyw115.size; omega
            have szw119 := hxc.size
            replace hb7 := hb7.ext hxc
            replace ho5 := ho5.ext hxc
            first | refine OW_nil (goY_mkE hC (hyw119) ?_) | refine OW_nil (goY_dropE hC (hyw119) ?_)
            refine oy_Tok5 (k := ?_)
            refine OW_apG rfl (l' := [g]) rfl ho5 (grd_one hb7) (by simp; omega) hyw119.size ?_
            intro w120 A8 c8 ho8 hT8 hk8 hbel8
            have hyw120 : Ext w5 w120 := hyw119.trans hbel8
            replace hbT := hT8 _ _ _ (by decide) hbT
            first | refine OW_nil (goY_mkE hC (hyw120) ?_) | refine OW_nil (goY_dropE hC (hyw120) ?_)
            refine oy_Tok5 (k := ?_)
            refine OW_storeA agg_Token rfl (tcells ⟨t.ten, t.line ++ [g], tzS⟩ (.slice A8 (t.line ++ [g]).length c8)) rfl rfl hbT (by kernel_rfl) (tcells_one _ _ _ _) ?_
            intro w121 hbR hgR
            have hkR := Keeps.of_only hgR (S := (· = gT)) rfl
            have hxR : Ext w5 w121 := hkR.ext hyw120 (fun j hj => by have hj : j = gT := hj; omega)
            have hoR : GOwn w121 w5.heap.size A8 c8 (t.line ++ [g]) := ownN_keeps ho8 hkR (ho8.ne hbT (by decide))
            refine OW_nil (goY_drop (fun v => v = w121) rfl ?_)
            refine oy_Tok5 (k := ?_)
            skip
            skip
            exact ⟨rfl, gT, A8, c8, rfl, rfl, rfl, rfl, hgT0, hbR, hoR, hxR⟩
        · skip
          refine OW_allocA agg_Token ?_
          intro w122 gT hbT hgT hltT hxc
          have hyw122 := hyw114.trans' hxc
          have hgT0 : w5.heap.size ≤ gT := by have := hyw114.size; omega
          have szw122 := hxc.size
          replace hoE := hoE.ext hxc
          replace hb7 := hb7.ext hxc
          first | refine OW_nil (goY_mkE hC (hyw122) ?_) | refine OW_nil (goY_dropE hC (hyw122) ?_)
          refine oy_Tok5 (k := ?_)
          refine OW_apG (l := []) rfl rfl hoE (hB.ext (hx05.trans' hyw122)) (by simp; omega) hyw122.size ?_
          intro w123 A5 c5 ho5 hT5 hk5 hbel5
          rw [List.nil_append] at ho5 ⊢
          have hyw123 : Ext w5 w123 := hyw122.trans hbel5
          replace hb7 := hb7.keeps hk5 (fun ⟨ad, ha, hb⟩ => by cases ha; have hb : gE = g7 := hb; omega)
          replace hbT := hT5 _ _ _ (by decide) hbT
          first | refine OW_nil (goY_mkE hC (hyw123) ?_) | refine OW_nil (goY_dropE hC (hyw123) ?_)
          refine oy_Tok5 (k := ?_)
          refine OW_apG rfl (l' := [g]) rfl ho5 (grd_one hb7) (by simp; omega) hyw123.size ?_
          intro w124 A8 c8 ho8 hT8 hk8 hbel8
          have hyw124 : Ext w5 w124 := hyw123.trans hbel8
          replace hbT := hT8 _ _ _ (by decide) hbT
          first | refine OW_nil (goY_mkE hC (hyw124) ?_) | refine OW_nil (goY_dropE hC (hyw124) ?_)
          refine oy_Tok5 (k := ?_)
          refine OW_storeA agg_Token rfl (tcells ⟨t.ten, t.line ++ [g], tzS⟩ (.slice A8 (t.line ++ [g]).length c8)) rfl rfl hbT (by kernel_rfl) (tcells_one _ _ _ _) ?_
          intro w125 hbR hgR
          have hkR := Keeps.of_only hgR (S := (· = gT)) rfl
          have hxR : Ext w5 w125 := hkR.ext hyw124 (fun j hj => by have hj : j = gT := hj; omega)
          have hoR : GOwn w125 w5.heap.size A8 c8 (t.line ++ [g]) := ownN_keeps ho8 hkR (ho8.ne hbT (by decide))
          refine OW_nil (goY_drop (fun v => v = w125) rfl ?_)
          refine oy_Tok5 (k := ?_)
          skip
          skip
          exact ⟨rfl, gT, A8, c8, rfl, rfl, rfl, rfl, hgT0, hbR, hoR, hxR⟩
      · skip
        refine OW_allocA agg_Token ?_
        intro w126 gT hbT hgT hltT hxc
        have hyw126 := hyw101.trans' hxc
        have hgT0 : w5.heap.size ≤ gT := by have := hyw101.size; omega
        have szw126 := hxc.size
        replace hoE := hoE.ext hxc
        first | refine OW_nil (goY_mkE hC (hyw126) ?_) | refine OW_nil (goY_dropE hC (hyw126) ?_)
        refine oy_Tok5 (k := ?_)
        refine OY_a2 (actY_of rfl ?_) (actY_of rfl ?_)
        · skip
          refine OW_apG (l := []) rfl rfl hoE (hB.ext (hx05.trans' hyw126)) (by simp; omega) hyw126.size ?_
          intro w127 A5 c5 ho5 hT5 hk5 hbel5
          rw [List.nil_append] at ho5 ⊢
          have hyw127 : Ext w5 w127 := hyw126.trans hbel5
          replace hbT := hT5 _ _ _ (by decide) hbT
          first | refine OW_nil (goY_mkE hC (hyw127) ?_) | refine OW_nil (goY_dropE hC (hyw127) ?_)
          refine oy_Tok5 (k := ?_)
          refine OW_litM [gcells g] und_Grants agg_Grant rfl rfl (by intro v hv; rw [List.mem_singleton] at hv; subst hv; rfl) (by decide) ?_
          intro w128 g7 hb7 hg7 hlt7 hxc
          have hyw128 := hyw127.trans' hxc
          have hb7 : Blk w128 g7 49 (gcells g).toArray := by simpa using hb7
          have szw128 := hxc.size
          replace hbT := hbT.ext hxc
          replace ho5 := ho5.ext hxc
          first | refine OW_nil (goY_mkE hC (hyw128) ?_) | refine OW_nil (goY_dropE hC (hyw128) ?_)
          refine oy_Tok5 (k := ?_)
          refine OW_apG rfl (l' := [g]) rfl ho5 (grd_one hb7) (by simp; omega) hyw128.size ?_
          intro w129 A8 c8 ho8 hT8 hk8 hbel8
          have hyw129 : Ext w5 w129 := hyw128.trans hbel8
          replace hbT := hT8 _ _ _ (by decide) hbT
          first | refine OW_nil (goY_mkE hC (hyw129) ?_) | refine OW_nil (goY_dropE hC (hyw129) ?_)
          refine oy_Tok5 (k := ?_)
          refine OW_storeA agg_Token rfl (tcells ⟨t.ten, t.line ++ [g], tzS⟩ (.slice A8 (t.line ++ [g]).length c8)) rfl rfl hbT (by kernel_rfl) (tcells_one _ _ _ _) ?_
          intro w130 hbR hgR
          have hkR := Keeps.of_only hgR (S := (· = gT)) rfl
          have hxR : Ext w5 w130 := hkR.ext hyw129 (fun j hj => by have hj : j = gT := hj; omega)
          have hoR : GOwn w130 w5.heap.size A8 c8 (t.line ++ [g]) := ownN_keeps ho8 hkR (ho8.ne hbT (by decide))
          refine OW_nil (goY_drop (fun v => v = w130) rfl ?_)
          refine oy_Tok5 (k := ?_)
          skip
          skip
          exact ⟨rfl, gT, A8, c8, rfl, rfl, rfl, rfl, hgT0, hbR, hoR, hxR⟩
        · skip
          refine OW_litM [gcells g] und_Grants agg_Grant rfl rfl (by intro v hv; rw [List.mem_singleton] at hv; subst hv; rfl) (by decide) ?_
          intro w131 g7 hb7 hg7 hlt7 hxc
          have hyw131 := hyw126.trans' hxc
          have hb7 : Blk w131 g7 49 (gcells g).toArray := by simpa using hb7
          have szw131 := hxc.size
          replace hoE := hoE.ext hxc
          replace hbT := hbT.ext hxc
          first | refine OW_nil (goY_mkE hC (hyw131) ?_) | refine OW_nil (goY_dropE hC (hyw131) ?_)
          refine oy_Tok5 (k := ?_)
          refine OW_apG (l := []) rfl rfl hoE (hB.ext (hx05.trans' hyw131)) (by simp; omega) hyw131.size ?_
          intro w132 A5 c5 ho5 hT5 hk5 hbel5
          rw [List.nil_append] at ho5 ⊢
          have hyw132 : Ext w5 w132 := hyw131.trans hbel5
          replace hbT := hT5 _ _ _ (by decide) hbT
          replace hb7 := hb7.keeps hk5 (fun ⟨ad, ha, hb⟩ => by cases ha; have hb : gE = g7 := hb; omega)
          first | refine OW_nil (goY_mkE hC (hyw132) ?_) | refine OW_nil (goY_dropE hC (hyw132) ?_)
          refine oy_Tok5 (k := ?_)
          refine OW_apG rfl (l' := [g]) rfl ho5 (grd_one hb7) (by simp; omega) hyw132.size ?_
          intro w133 A8 c8 ho8 hT8 hk8 hbel8
          have hyw133 : Ext w5 w133 := hyw132.trans hbel8
          replace hbT := hT8 _ _ _ (by decide) hbT
          first | refine OW_nil (goY_mkE hC (hyw133) ?_) | refine OW_nil (goY_dropE hC (hyw133) ?_)
          refine oy_Tok5 (k := ?_)
          refine OW_storeA agg_Token rfl (tcells ⟨t.ten, t.line ++ [g], tzS⟩ (.slice A8 (t.line ++ [g]).length c8)) rfl rfl hbT (by kernel_rfl) (tcells_one _ _ _ _) ?_
          intro w134 hbR hgR
          have hkR := Keeps.of_only hgR (S := (· = gT)) rfl
          have hxR : Ext w5 w134 := hkR.ext hyw133 (fun j hj => by have hj : j = gT := hj; omega)
          have hoR : GOwn w134 w5.heap.size A8 c8 (t.line ++ [g]) := ownN_keeps ho8 hkR (ho8.ne hbT (by decide))
          refine OW_nil (goY_drop (fun v => v = w134) rfl ?_)
          refine oy_Tok5 (k := ?_)
          skip
          skip
          exact ⟨rfl, gT, A8, c8, rfl, rfl, rfl, rfl, hgT0, hbR, hoR, hxR⟩
    · skip
      refine OW_litM [gcells g] und_Grants agg_Grant rfl rfl (by intro v hv; rw [List.mem_singleton] at hv; subst hv; rfl) (by decide) ?_
      intro w135 g7 hb7 hg7 hlt7 hxc
      have hyw135 := hywq.trans' hxc
      have hb7 : Blk w135 g7 49 (gcells g).toArray := by simpa using hb7
      have szw135 := hxc.size
      first | refine OW_nil (goY_mkE hC (hyw135) ?_) | refine OW_nil (goY_dropE hC (hyw135) ?_)
      refine oy_Tok5 (k := ?_)
      refine OY_a2 (actY_of rfl ?_) (actY_of rfl ?_)
      · skip
        refine OW_litM [] und_Grants agg_Grant rfl rfl (by simp) (by decide) ?_
        intro w136 gE hbE hgE hltE hxc
        have hyw136 := hyw135.trans' hxc
        have hoE : GOwn w136 w5.heap.size (some ⟨gE, 0, none⟩) 0 [] := GOwn.nil hbE (by have := hyw135.size; omega)
        have szw136 := hxc.size
        replace hb7 := hb7.ext hxc
        first | refine OW_nil (goY_mkE hC (hyw136) ?_) | refine OW_nil (goY_dropE hC (hyw136) ?_)
        refine oy_Tok5 (k := ?_)
        refine OY_a2 (actY_of rfl ?_) (actY_of rfl ?_)
        · skip
          refine OW_apG (l := []) rfl rfl hoE (hB.ext (hx05.trans' hyw136)) (by simp; omega) hyw136.size ?_
          intro w137 A5 c5 ho5 hT5 hk5 hbel5
          rw [List.nil_append] at ho5 ⊢
          have hyw137 : Ext w5 w137 := hyw136.trans hbel5
          replace hb7 := hb7.keeps hk5 (fun ⟨ad, ha, hb⟩ => by cases ha; have hb : gE = g7 := hb; omega)
          first | refine OW_nil (goY_mkE hC (hyw137) ?_) | refine OW_nil (goY_dropE hC (hyw137) ?_)
          refine oy_Tok5 (k := ?_)
          refine OY_a2 (actY_of rfl ?_) (actY_of rfl ?_)
          · skip
            refine OW_apG rfl (l' := [g]) rfl ho5 (grd_one hb7) (by simp; omega) hyw137.size ?_
            intro w138 A8 c8 ho8 hT8 hk8 hbel8
            have hyw138 : Ext w5 w138 := hyw137.trans hbel8
            first | refine OW_nil (goY_mkE hC (hyw138) ?_) | refine OW_nil (goY_dropE hC (hyw138) ?_)
            refine oy_Tok5 (k := ?_)
            refine OW_allocA agg_Token ?_
            intro w139 gT hbT hgT hltT hxc
            have hyw139 := hyw138.trans' hxc
            have hgT0 : w5.heap.size ≤ gT := by have := hyw138.size; omega
            have szw139 := hxc.size
            replace ho8 := ho8.ext hxc
            first | refine OW_nil (goY_mkE hC (hyw139) ?_) | refine OW_nil (goY_dropE hC (hyw139) ?_)
            refine oy_Tok5 (k := ?_)
            refine OW_storeA agg_Token rfl (tcells ⟨t.ten, t.line ++ [g], tzS⟩ (.slice A8 (t.line ++ [g]).length c8)) rfl rfl hbT (by kernel_rfl) (tcells_one _ _ _ _) ?_
            intro w140 hbR hgR
            have hkR := Keeps.of_only hgR (S := (· = gT)) rfl
            have hxR : Ext w5 w140 := hkR.ext hyw139 (fun j hj => by have hj : j = gT := hj; omega)
            have hoR : GOwn w140 w5.heap.size A8 c8 (t.line ++ [g]) := ownN_keeps ho8 hkR (ho8.ne hbT (by decide))
            refine OW_nil (goY_drop (fun v => v = w140) rfl ?_)
            refine oy_Tok5 (k := ?_)
            skip
            skip
            exact ⟨rfl, gT, A8, c8, rfl, rfl, rfl, rfl, hgT0, hbR, hoR, hxR⟩
          · skip
            refine OW_allocA agg_Token ?_
            intro w141 gT hbT hgT hltT hxc
            have hyw141 := hyw137.trans' hxc
            have hgT0 : w5.heap.size ≤ gT := by have := hyw137.size; omega
            have szw141 := hxc.size
            replace hb7 := hb7.ext hxc
            replace ho5 := ho5.ext hxc
            first | refine OW_nil (goY_mkE hC (hyw141) ?_) | refine OW_nil (goY_dropE hC (hyw141) ?_)
            refine oy_Tok5 (k := ?_)
            refine OW_apG rfl (l' := [g]) rfl ho5 (grd_one hb7) (by simp; omega) hyw141.size ?_
            intro w142 A8 c8 ho8 hT8 hk8 hbel8
            have hyw142 : Ext w5 w142 := hyw141.trans hbel8
            replace hbT := hT8 _ _ _ (by decide) hbT
            first | refine OW_nil (goY_mkE hC (hyw142) ?_) | refine OW_nil (goY_dropE hC (hyw142) ?_)
            refine oy_Tok5 (k := ?_)
            refine OW_storeA agg_Token rfl (tcells ⟨t.ten, t.line ++ [g], tzS⟩ (.slice A8 (t.line ++ [g]).length c8)) rfl rfl hbT (by kernel_rfl) (tcells_one _ _ _ _) ?_
            intro w143 hbR hgR
            have hkR := Keeps.of_only hgR (S := (· = gT)) rfl
            have hxR : Ext w5 w143 := hkR.ext hyw142 (fun j hj => by have hj : j = gT := hj; omega)
            have hoR : GOwn w143 w5.heap.size A8 c8 (t.line ++ [g]) := ownN_keeps ho8 hkR (ho8.ne hbT (by decide))
            refine OW_nil (goY_drop (fun v => v = w143) rfl ?_)
            refine oy_Tok5 (k := ?_)
            skip
            skip
            exact ⟨rfl, gT, A8, c8, rfl, rfl, rfl, rfl, hgT0, hbR, hoR, hxR⟩
        · skip
          refine OW_allocA agg_Token ?_
          intro w144 gT hbT hgT hltT hxc
          have hyw144 := hyw136.trans' hxc
          have hgT0 : w5.heap.size ≤ gT := by have := hyw136.size; omega
          have szw144 := hxc.size
          replace hb7 := hb7.ext hxc
          replace hoE := hoE.ext hxc
          first | refine OW_nil (goY_mkE hC (hyw144) ?_) | refine OW_nil (goY_dropE hC (hyw144) ?_)
          refine oy_Tok5 (k := ?_)
          refine OW_apG (l := []) rfl rfl hoE (hB.ext (hx05.trans' hyw144)) (by simp; omega) hyw144.size ?_
          intro w145 A5 c5 ho5 hT5 hk5 hbel5
          rw [List.nil_append] at ho5 ⊢
          have hyw145 : Ext w5 w145 := hyw144.trans hbel5
          replace hb7 := hb7.keeps hk5 (fun ⟨ad, ha, hb⟩ => by cases ha; have hb : gE = g7 := hb; omega)
          replace hbT := hT5 _ _ _ (by decide) hbT
          first | refine OW_nil (goY_mkE hC (hyw145) ?_) | refine OW_nil (goY_dropE hC (hyw145) ?_)
          refine oy_Tok5 (k := ?_)
          refine OW_apG rfl (l' := [g]) rfl ho5 (grd_one hb7) (by simp; omega) hyw145.size ?_
          intro w146 A8 c8 ho8 hT8 hk8 hbel8
          have hyw146 : Ext w5 w146 := hyw145.trans hbel8
          replace hbT := hT8 _ _ _ (by decide) hbT
          first | refine OW_nil (goY_mkE hC (hyw146) ?_) | refine OW_nil (goY_dropE hC (hyw146) ?_)
          refine oy_Tok5 (k := ?_)
          refine OW_storeA agg_Token rfl (tcells ⟨t.ten, t.line ++ [g], tzS⟩ (.slice A8 (t.line ++ [g]).length c8)) rfl rfl hbT (by kernel_rfl) (tcells_one _ _ _ _) ?_
          intro w147 hbR hgR
          have hkR := Keeps.of_only hgR (S := (· = gT)) rfl
          have hxR : Ext w5 w147 := hkR.ext hyw146 (fun j hj => by have hj : j = gT := hj; omega)
          have hoR : GOwn w147 w5.heap.size A8 c8 (t.line ++ [g]) := ownN_keeps ho8 hkR (ho8.ne hbT (by decide))
          refine OW_nil (goY_drop (fun v => v = w147) rfl ?_)
          refine oy_Tok5 (k := ?_)
          skip
          skip
          exact ⟨rfl, gT, A8, c8, rfl, rfl, rfl, rfl, hgT0, hbR, hoR, hxR⟩
      · skip
        refine OW_allocA agg_Token ?_
        intro w148 gT hbT hgT hltT hxc
        have hyw148 := hyw135.trans' hxc
        have hgT0 : w5.heap.size ≤ gT := by have := hyw135.size; omega
        have szw148 := hxc.size
        replace hb7 := hb7.ext hxc
        first | refine OW_nil (goY_mkE hC (hyw148) ?_) | refine OW_nil (goY_dropE hC (hyw148) ?_)
        refine oy_Tok5 (k := ?_)
        refine OW_litM [] und_Grants agg_Grant rfl rfl (by simp) (by decide) ?_
        intro w149 gE hbE hgE hltE hxc
        have hyw149 := hyw148.trans' hxc
        have hoE : GOwn w149 w5.heap.size (some ⟨gE, 0, none⟩) 0 [] := GOwn.nil hbE (by have := hyw148.size; omega)
        have szw149 := hxc.size
        replace hb7 := hb7.ext hxc
        replace hbT := hbT.ext hxc
        first | refine OW_nil (goY_mkE hC (hyw149) ?_) | refine OW_nil (goY_dropE hC (hyw149) ?_)
        refine oy_Tok5 (k := ?_)
        refine OW_apG (l := []) rfl rfl hoE (hB.ext (hx05.trans' hyw149)) (by simp; omega) hyw149.size ?_
        intro w150 A5 c5 ho5 hT5 hk5 hbel5
        rw [List.nil_append] at ho5 ⊢
        have hyw150 : Ext w5 w150 := hyw149.trans hbel5
        replace hb7 := hb7.keeps hk5 (fun ⟨ad, ha, hb⟩ => by cases ha; have hb : gE = g7 := hb; omega)
        replace hbT := hT5 _ _ _ (by decide) hbT
        first | refine OW_nil (goY_mkE hC (hyw150) ?_) | refine OW_nil (goY_dropE hC (hyw150) ?_)
        refine oy_Tok5 (k := ?_)
        refine OW_apG rfl (l' := [g]) rfl ho5 (grd_one hb7) (by simp; omega) hyw150.size ?_
        intro w151 A8 c8 ho8 hT8 hk8 hbel8
        have hyw151 : Ext w5 w151 := hyw150.trans hbel8
        replace hbT := hT8 _ _ _ (by decide) hbT
        first | refine OW_nil (goY_mkE hC (hyw151) ?_) | refine OW_nil (goY_dropE hC (hyw151) ?_)
        refine oy_Tok5 (k := ?_)
        refine OW_storeA agg_Token rfl (tcells ⟨t.ten, t.line ++ [g], tzS⟩ (.slice A8 (t.line ++ [g]).length c8)) rfl rfl hbT (by kernel_rfl) (tcells_one _ _ _ _) ?_
        intro w152 hbR hgR
        have hkR := Keeps.of_only hgR (S := (· = gT)) rfl
        have hxR : Ext w5 w152 := hkR.ext hyw151 (fun j hj => by have hj : j = gT := hj; omega)
        have hoR : GOwn w152 w5.heap.size A8 c8 (t.line ++ [g]) := ownN_keeps ho8 hkR (ho8.ne hbT (by decide))
        refine OW_nil (goY_drop (fun v => v = w152) rfl ?_)
        refine oy_Tok5 (k := ?_)
        skip
        skip
        exact ⟨rfl, gT, A8, c8, rfl, rfl, rfl, rfl, hgT0, hbR, hoR, hxR⟩
    · skip
      refine OW_allocA agg_Token ?_
      intro w153 gT hbT hgT hltT hxc
      have hyw153 := hywq.trans' hxc
      have hgT0 : w5.heap.size ≤ gT := by have := hywq.size; omega
      have szw153 := hxc.size
      first | refine OW_nil (goY_mkE hC (hyw153) ?_) | refine OW_nil (goY_dropE hC (hyw153) ?_)
      refine oy_Tok5 (k := ?_)
      refine OY_a2 (actY_of rfl ?_) (actY_of rfl ?_)
      · skip
        refine OW_litM [] und_Grants agg_Grant rfl rfl (by simp) (by decide) ?_
        intro w154 gE hbE hgE hltE hxc
        have hyw154 := hyw153.trans' hxc
        have hoE : GOwn w154 w5.heap.size (some ⟨gE, 0, none⟩) 0 [] := GOwn.nil hbE (by have := hyw153.size; omega)
        have szw154 := hxc.size
        replace hbT := hbT.ext hxc
        first | refine OW_nil (goY_mkE hC (hyw154) ?_) | refine OW_nil (goY_dropE hC (hyw154) ?_)
        refine oy_Tok5 (k := ?_)
        refine OY_a2 (actY_of rfl ?_) (actY_of rfl ?_)
        · skip
          refine OW_apG (l := []) rfl rfl hoE (hB.ext (hx05.trans' hyw154)) (by simp; omega) hyw154.size ?_
          intro w155 A5 c5 ho5 hT5 hk5 hbel5
          rw [List.nil_append] at ho5 ⊢
          have hyw155 : Ext w5 w155 := hyw154.trans hbel5
          replace hbT := hT5 _ _ _ (by decide) hbT
          first | refine OW_nil (goY_mkE hC (hyw155) ?_) | refine OW_nil (goY_dropE hC (hyw155) ?_)
          refine oy_Tok5 (k := ?_)
          refine OW_litM [gcells g] und_Grants agg_Grant rfl rfl (by intro v hv; rw [List.mem_singleton] at hv; subst hv; rfl) (by decide) ?_
          intro w156 g7 hb7 hg7 hlt7 hxc
          have hyw156 := hyw155.trans' hxc
          have hb7 : Blk w156 g7 49 (gcells g).toArray := by simpa using hb7
          have szw156 := hxc.size
          replace hbT := hbT.ext hxc
          replace ho5 := ho5.ext hxc
          first | refine OW_nil (goY_mkE hC (hyw156) ?_) | refine OW_nil (goY_dropE hC (hyw156) ?_)
          refine oy_Tok5 (k := ?_)
          refine OW_apG rfl (l' := [g]) rfl ho5 (grd_one hb7) (by simp; omega) hyw156.size ?_
          intro w157 A8 c8 ho8 hT8 hk8 hbel8
          have hyw157 : Ext w5 w157 := hyw156.trans hbel8
          replace hbT := hT8 _ _ _ (by decide) hbT
          first | refine OW_nil (goY_mkE hC (hyw157) ?_) | refine OW_nil (goY_dropE hC (hyw157) ?_)
          refine oy_Tok5 (k := ?_)
          refine OW_storeA agg_Token rfl (tcells ⟨t.ten, t.line ++ [g], tzS⟩ (.slice A8 (t.line ++ [g]).length c8)) rfl rfl hbT (by kernel_rfl) (tcells_one _ _ _ _) ?_
          intro w158 hbR hgR
          have hkR := Keeps.of_only hgR (S := (· = gT)) rfl
          have hxR : Ext w5 w158 := hkR.ext hyw157 (fun j hj => by have hj : j = gT := hj; omega)
          have hoR : GOwn w158 w5.heap.size A8 c8 (t.line ++ [g]) := ownN_keeps ho8 hkR (ho8.ne hbT (by decide))
          refine OW_nil (goY_drop (fun v => v = w158) rfl ?_)
          refine oy_Tok5 (k := ?_)
          skip
          skip
          exact ⟨rfl, gT, A8, c8, rfl, rfl, rfl, rfl, hgT0, hbR, hoR, hxR⟩
        · skip
          refine OW_litM [gcells g] und_Grants agg_Grant rfl rfl (by intro v hv; rw [List.mem_singleton] at hv; subst hv; rfl) (by decide) ?_
          intro w159 g7 hb7 hg7 hlt7 hxc
          have hyw159 := hyw154.trans' hxc
          have hb7 : Blk w159 g7 49 (gcells g).toArray := by simpa using hb7
          have szw159 := hxc.size
          replace hbT := hbT.ext hxc
          replace hoE := hoE.ext hxc
          first | refine OW_nil (goY_mkE hC (hyw159) ?_) | refine OW_nil (goY_dropE hC (hyw159) ?_)
          refine oy_Tok5 (k := ?_)
          refine OW_apG (l := []) rfl rfl hoE (hB.ext (hx05.trans' hyw159)) (by simp; omega) hyw159.size ?_
          intro w160 A5 c5 ho5 hT5 hk5 hbel5
          rw [List.nil_append] at ho5 ⊢
          have hyw160 : Ext w5 w160 := hyw159.trans hbel5
          replace hbT := hT5 _ _ _ (by decide) hbT
          replace hb7 := hb7.keeps hk5 (fun ⟨ad, ha, hb⟩ => by cases ha; have hb : gE = g7 := hb; omega)
          first | refine OW_nil (goY_mkE hC (hyw160) ?_) | refine OW_nil (goY_dropE hC (hyw160) ?_)
          refine oy_Tok5 (k := ?_)
          refine OW_apG rfl (l' := [g]) rfl ho5 (grd_one hb7) (by simp; omega) hyw160.size ?_
          intro w161 A8 c8 ho8 hT8 hk8 hbel8
          have hyw161 : Ext w5 w161 := hyw160.trans hbel8
          replace hbT := hT8 _ _ _ (by decide) hbT
          first | refine OW_nil (goY_mkE hC (hyw161) ?_) | refine OW_nil (goY_dropE hC (hyw161) ?_)
          refine oy_Tok5 (k := ?_)
          refine OW_storeA agg_Token rfl (tcells ⟨t.ten, t.line ++ [g], tzS⟩ (.slice A8 (t.line ++ [g]).length c8)) rfl rfl hbT (by kernel_rfl) (tcells_one _ _ _ _) ?_
          intro w162 hbR hgR
          have hkR := Keeps.of_only hgR (S := (· = gT)) rfl
          have hxR : Ext w5 w162 := hkR.ext hyw161 (fun j hj => by have hj : j = gT := hj; omega)
          have hoR : GOwn w162 w5.heap.size A8 c8 (t.line ++ [g]) := ownN_keeps ho8 hkR (ho8.ne hbT (by decide))
          refine OW_nil (goY_drop (fun v => v = w162) rfl ?_)
          refine oy_Tok5 (k := ?_)
          skip
          skip
          exact ⟨rfl, gT, A8, c8, rfl, rfl, rfl, rfl, hgT0, hbR, hoR, hxR⟩
      · skip
        refine OW_litM [gcells g] und_Grants agg_Grant rfl rfl (by intro v hv; rw [List.mem_singleton] at hv; subst hv; rfl) (by decide) ?_
        intro w163 g7 hb7 hg7 hlt7 hxc
        have hyw163 := hyw153.trans' hxc
        have hb7 : Blk w163 g7 49 (gcells g).toArray := by simpa using hb7
        have szw163 := hxc.size
        replace hbT := hbT.ext hxc
        first | refine OW_nil (goY_mkE hC (hyw163) ?_) | refine OW_nil (goY_dropE hC (hyw163) ?_)
        refine oy_Tok5 (k := ?_)
        refine OW_litM [] und_Grants agg_Grant rfl rfl (by simp) (by decide) ?_
        intro w164 gE hbE hgE hltE hxc
        have hyw164 := hyw163.trans' hxc
        have hoE : GOwn w164 w5.heap.size (some ⟨gE, 0, none⟩) 0 [] := GOwn.nil hbE (by have := hyw163.size; omega)
        have szw164 := hxc.size
        replace hbT := hbT.ext hxc
        replace hb7 := hb7.ext hxc
        first | refine OW_nil (goY_mkE hC (hyw164) ?_) | refine OW_nil (goY_dropE hC (hyw164) ?_)
        refine oy_Tok5 (k := ?_)
        refine OW_apG (l := []) rfl rfl hoE (hB.ext (hx05.trans' hyw164)) (by simp; omega) hyw164.size ?_
        intro w165 A5 c5 ho5 hT5 hk5 hbel5
        rw [List.nil_append] at ho5 ⊢
        have hyw165 : Ext w5 w165 := hyw164.trans hbel5
        replace hbT := hT5 _ _ _ (by decide) hbT
        replace hb7 := hb7.keeps hk5 (fun ⟨ad, ha, hb⟩ => by cases ha; have hb : gE = g7 := hb; omega)
        first | refine OW_nil (goY_mkE hC (hyw165) ?_) | refine OW_nil (goY_dropE hC (hyw165) ?_)
        refine oy_Tok5 (k := ?_)
        refine OW_apG rfl (l' := [g]) rfl ho5 (grd_one hb7) (by simp; omega) hyw165.size ?_
        intro w166 A8 c8 ho8 hT8 hk8 hbel8
        have hyw166 : Ext w5 w166 := hyw165.trans hbel8
        replace hbT := hT8 _ _ _ (by decide) hbT
        first | refine OW_nil (goY_mkE hC (hyw166) ?_) | refine OW_nil (goY_dropE hC (hyw166) ?_)
        refine oy_Tok5 (k := ?_)
        refine OW_storeA agg_Token rfl (tcells ⟨t.ten, t.line ++ [g], tzS⟩ (.slice A8 (t.line ++ [g]).length c8)) rfl rfl hbT (by kernel_rfl) (tcells_one _ _ _ _) ?_
        intro w167 hbR hgR
        have hkR := Keeps.of_only hgR (S := (· = gT)) rfl
        have hxR : Ext w5 w167 := hkR.ext hyw166 (fun j hj => by have hj : j = gT := hj; omega)
        have hoR : GOwn w167 w5.heap.size A8 c8 (t.line ++ [g]) := ownN_keeps ho8 hkR (ho8.ne hbT (by decide))
        refine OW_nil (goY_drop (fun v => v = w167) rfl ?_)
        refine oy_Tok5 (k := ?_)
        skip
        skip
        exact ⟨rfl, gT, A8, c8, rfl, rfl, rfl, rfl, hgT0, hbR, hoR, hxR⟩
  rintro e6 w6 ⟨gT, A8, c8, q2, q3, q4, q6, hgT, hbT, hoG, hx56⟩
  rw [upd_self q2, upd_self q3, upd_self q4, upd_self q6]
  have hx06 := hx05.trans' hx56
  replace hb2 := hb2.ext hx56
  replace hb3 := hb3.ext hx56
  replace hb4 := hb4.ext hx56
  have hltTb := hbT.lt
  clear q2 q3 q4 q6
  refine go_Tok5 (k := ?_)
  obtain ⟨C, hC⟩ : ∃ C : World → Prop, C = fun v => Ext w6 v := ⟨_, rfl⟩
  have y3 : ∀ v, C v → AtM v ⟨g3, 0, none⟩ (gcells g) 3 := by rw [hC]; exact fun v hv => gAt (hb3.ext hv).atL
  refine CW_tree2 [4] (.p 1 (.p 2 (.q 4 (.a 0 (.a 3 (.d 5 (.d 6 (.p 7 (.d 8 .done))))))))) (C) (by kernel_rfl) (by kernel_rfl) (by kernel_rfl) ?_ ?_
  · exact inE hC
  intro wq hywq h_C
  refine oy_Tok5 (k := ?_)
  refine OW_lit [] und_bytes info_u8 rfl rfl (by simp) (by decide) ?_
  intro w301 gE hbE hgE hxc
  have hyw301 := hywq.trans' hxc
  have hoE : w301.ownsRow w6.heap.size 5 1 (.slice (some ⟨gE, 0, none⟩) 0 0) 0 [] := own_of_blk (by have := hywq.size; omega) hbE rfl (Nat.le_refl _) (by decide) rfl
  first | refine OW_nil (goY_mkE hC (hyw301) ?_) | refine OW_nil (goY_dropE hC (hyw301) ?_)
  refine oy_Tok5 (k := ?_)
  refine OW_apU (l := []) rfl (l' := t.tag) (by rw [htg]; rfl) hoE (at_bsT (tag_in (hb2.ext hyw301))) (by rw [htg]; decide) hyw301.size ?_
  intro w302 A5 c5 ho5 hT5 hbel5
  rw [List.nil_append] at ho5 ⊢
  have hyw302 : Ext w6 w302 := hyw301.trans hbel5
  first | refine OW_nil (goY_mkE hC (hyw302) ?_) | refine OW_nil (goY_dropE hC (hyw302) ?_)
  refine oy_Tok5 (k := ?_)
  refine OW_callBs Try.func82 (by kernel_rfl) rfl (refGrant_any w302 g) rfl ?_
  intro w303 A9 c9 hf9
  have hxc := hf9.ext
  have hyw303 := hyw302.trans' hxc
  have hB9 := hf9.bs
  replace ho5 := own_ext ho5 hxc
  first | refine OW_nil (goY_mkE hC (hyw303) ?_) | refine OW_nil (goY_dropE hC (hyw303) ?_)
  refine oy_Tok5 (k := ?_)
  refine OW_callV Try.func81 (by kernel_rfl) rfl (refHSum_any w303 A5 A9 c5 c9 t.tag (grantB g) (own_rd ho5) (by omega) hB9 (by rw [grantB_len]; decide)) rfl ?_
  intro w304 hxc
  have hyw304 := hyw303.trans' hxc
  first | refine OW_nil (goY_mkE hC (hyw304) ?_) | refine OW_nil (goY_dropE hC (hyw304) ?_)
  refine oy_Tok5 (k := ?_)
  refine OW_storeM s_agg_Tag rfl ((hmacL t.tag (grantB g)).map bv) rfl (by rw [List.length_map, hXl]) (hbT.ext hyw304) (by rw [tcells_length rfl]; decide) (bv_one _) ?_
  intro w305 hbS hgS
  rw [set_tag _ _ _ rfl] at hbS
  have hbS : Blk w305 gT 45 (tcells ⟨t.ten, t.line ++ [g], hmacL t.tag (grantB g)⟩ (.slice A8 (t.line ++ [g]).length c8)).toArray := hbS
  have hkS := Keeps.of_only hgS (S := (· = gT)) rfl
  have hx0S : Ext w w305 := hkS.ext (hx06.trans' hyw304) (fun j hj => by have hj : j = gT := hj; omega)
  have hb4S := (hb4.ext hyw304).keeps hkS (by omega)
  have hoS : GOwn w305 w.heap.size A8 c8 (t.line ++ [g]) := GOwn.mono (show GOwn w305 w5.heap.size A8 c8 (t.line ++ [g]) from ownN_keeps (hoG.ext hyw304) hkS (hoG.ne hbT (by decide))) hs5
  refine OW_nil (goY_drop (fun v => v = w305) rfl ?_)
  refine oy_Tok5 (k := ?_)
  refine go_Tok5 (k := ?_)
  refine OW_loadX agg_Token rfl (tcells ⟨t.ten, t.line ++ [g], hmacL t.tag (grantB g)⟩ (.slice A8 (t.line ++ [g]).length c8)) (tcells_length hXl _) hbS.atL ?_
  refine go_Tok5 (k := ?_)
  refine OW_storeA agg_Token rfl (tcells ⟨t.ten, t.line ++ [g], hmacL t.tag (grantB g)⟩ (.slice A8 (t.line ++ [g]).length c8)) rfl (tcells_length hXl _) hb4S (by kernel_rfl) (tcells_one _ _ _ _) ?_
  intro wR hbR hgR
  have hkR := Keeps.of_only hgR (S := (· = g4)) rfl
  have hx0R : Ext w wR := hkR.ext hx0S (fun j hj => by have hj : j = g4 := hj; omega)
  have hoR : GOwn wR w.heap.size A8 c8 (t.line ++ [g]) := ownN_keeps hoS hkR (hoS.ne hb4S (by decide))
  refine go_Tok5 (k := ?_)
  exact bodyE_retc2 rfl agg_Token rfl (tcells ⟨t.ten, t.line ++ [g], hmacL t.tag (grantB g)⟩ (.slice A8 (t.line ++ [g]).length c8)) (.int .i64 0) rfl (tcells_length hXl _) (Blk.range hbR) ⟨A8, c8, rfl, hoR, hx0R⟩
end Go.Proofs.Ytdpcahfgdpikfaa
