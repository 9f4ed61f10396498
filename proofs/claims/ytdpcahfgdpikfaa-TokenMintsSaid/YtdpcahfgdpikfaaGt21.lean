/- Several texts in one, as they stand in wip/src. -/
import Derived.Test.YtdpcahfgdpikfaaGt20
/- Walks: grants put behind one another; the reference's Tag; Mint, of the program and of the reference. -/
namespace Go.Proofs.Ytdpcahfgdpikfaa
open Go Go.RowKit Go.ChangeShapes Go.WideShapes
set_option linter.unusedVariables false
set_option maxRecDepth 4000
theorem go_Tok4 {A B : Prop} (h : Held B → A := by
  intro hEnd
  repeat (first | (refine OW_isLoad ?_; refine OW_loadM (by first | with_reducible exact agg_Grant | with_reducible exact s_agg_Tag | with_reducible exact agg_Token) rfl (by first | assumption | (apply_assumption; assumption)) ?_) | refine OW_idxN und_Grants el_Grant rfl rfl 0 rfl (by omega) ?_ | refine OW_sliceP h_slp_Tag rfl ?_ | refine OW_slicePOT a_slp_TagT rfl ?_ | refine OW_fieldB fldo_G0 rfl ?_ | refine OW_fieldB fldo_G1 rfl ?_ | refine OW_fieldB fldo_G2 rfl ?_ | refine OW_fieldB fldo_T0 rfl ?_ | refine OW_fieldB fldo_T1 rfl ?_ | refine OW_fieldB fldo_T2 rfl ?_ | refine OW_lenS und_Grants rfl ?_ | refine OW_idxN und_Grants el_Grant rfl rfl _ rfl (by omega) ?_ | refine OW_moveV (.int _ _) rfl ?_ | refine OW_moveV (.slice _ _ _) rfl ?_ | refine OW_moveV (.bool _) rfl ?_ | refine OW_moveV (.pointer _) rfl ?_ | refine OW_moveV (.string _) rfl ?_ | refine OW_moveV (.agg _) rfl ?_ | refine OW_moveV (.tuple _) rfl ?_ | refine OW_nil ?_ | refine thenE_normal ?_ | refine CW_seq ?_ | refine CW_region (by kernel_rfl) ?_ | refine OW_assignV (.int _ _) rfl ?_ | refine OW_assignV (.slice _ _ _) rfl ?_ | refine OW_assignV (.bool _) rfl ?_ | refine OW_assignV (.pointer _) rfl ?_ | refine OW_assignV (.string _) rfl ?_ | refine OW_assignV (.agg _) rfl ?_ | refine OW_assignV (.tuple _) rfl ?_ | refine OW_addI rfl rfl (by omega) ?_ | refine OW_subI rfl rfl (by omega) ?_ | refine OW_mulI rfl rfl (by omega) ?_ | refine OW_lss rfl rfl ?_ | refine OW_extract rfl rfl ?_ | refine OW_gtr rfl rfl ?_ | refine OW_leq rfl rfl ?_ | refine OW_geq rfl rfl ?_ | refine OW_eql rfl rfl ?_ | refine OW_neq rfl rfl ?_ | refine OW_not rfl ?_ | refine OW_pickT rfl _ rfl ?_ | refine OW_pickF rfl (.bool _) rfl ?_ | refine OW_pickB rfl rfl rfl ?_ | refine OW_move ?_ | refine OW_assign ?_ | refine OW_pass rfl ?_ | refine OW_take rfl ?_ | refine OW_lenS (by first | with_reducible exact und_bytes | with_reducible exact und_bytess) rfl ?_ | refine OW_convInt (by first | with_reducible exact und_u8 | with_reducible exact und_u64 | with_reducible exact und_int | with_reducible exact und_u32) (by first | with_reducible exact und_u8 | with_reducible exact und_u64 | with_reducible exact und_int | with_reducible exact und_u32) rfl ?_ | refine OW_add rfl rfl ?_ | refine OW_sub rfl rfl ?_ | refine OW_mul rfl rfl ?_ | refine OW_min2 rfl rfl ?_ | refine OW_max2 rfl rfl ?_ | refine OW_neg rfl ?_ | refine CW_block ?_ | refine CW_condT rfl ?_ | refine CW_condF rfl ?_ | refine CW_exit ?_ | refine CW_ret ?_ | refine CW_skip ?_ | refine LW_seq ?_ | refine LW_regC ?_ | refine LW_condC ?_ | refine LW_regF ?_ | refine LW_condF ?_ | refine FW_seq ?_ | refine FW_region (by kernel_rfl) ?_ | refine FW_block ?_ | refine FW_condT rfl ?_ | refine FW_condF rfl ?_ | refine FW_exit ?_ | refine FW_ret ?_ | refine FW_skip ?_ | refine LW_ret ?_ | refine LW_skip ?_ | refine thenE_exit ?_ | refine thenE_ret ?_ | refine inBlockE_normal ?_ | refine inBlockE_same ?_ | refine inBlockE_ret ?_ | refine inBlockE_ne (by rfl) ?_ | refine OW_eqlB (by with_reducible exact und_bool) rfl rfl ?_ | refine OW_neqB (by with_reducible exact und_bool) rfl rfl ?_ | refine OW_idxS (by with_reducible exact und_bytes) one_u8 rfl rfl _ rfl (by omega) ?_ | refine OW_idxS (by with_reducible exact und_bytess) one_bytes rfl rfl _ rfl (by omega) ?_ | refine OW_load1 (by first | with_reducible exact one_u8 | with_reducible exact one_bytes) rfl _ (by assumption) ?_ | (refine OW_isLoad ?_; refine OW_loadBk (by first | with_reducible exact s_int | with_reducible exact one_u8 | with_reducible exact one_grants) rfl (by assumption) _ (by rfl) ?_) | refine OW_load1 s_int rfl _ (by assumption) ?_)
  exact hEnd.out) (k : B) : A := h ⟨k⟩
theorem oy_Tok4 {A B : Prop} (h : Held B → A := by
  intro hEnd
  repeat (first
    | refine OY_done ?_
    | (apply OY_p _ rfl
       · intro wd
         (first | (refine OW_isLoad ?_; refine OW_loadM (by first | with_reducible exact agg_Grant | with_reducible exact s_agg_Tag | with_reducible exact agg_Token) rfl (by first | assumption | (apply_assumption; assumption)) ?_) | refine OW_idxN und_Grants el_Grant rfl rfl 0 rfl (by omega) ?_ | refine OW_sliceP h_slp_Tag rfl ?_ | refine OW_slicePOT a_slp_TagT rfl ?_ | refine OW_fieldB fldo_G0 rfl ?_ | refine OW_fieldB fldo_G1 rfl ?_ | refine OW_fieldB fldo_G2 rfl ?_ | refine OW_fieldB fldo_T0 rfl ?_ | refine OW_fieldB fldo_T1 rfl ?_ | refine OW_fieldB fldo_T2 rfl ?_ | refine OW_lenS und_Grants rfl ?_ | refine OW_idxN und_Grants el_Grant rfl rfl _ rfl (by omega) ?_ | refine OW_moveV (.int _ _) rfl ?_ | refine OW_moveV (.slice _ _ _) rfl ?_ | refine OW_moveV (.bool _) rfl ?_ | refine OW_moveV (.pointer _) rfl ?_ | refine OW_moveV (.string _) rfl ?_ | refine OW_moveV (.agg _) rfl ?_ | refine OW_moveV (.tuple _) rfl ?_ | refine OW_nil ?_ | refine thenE_normal ?_ | refine CW_seq ?_ | refine CW_region (by kernel_rfl) ?_ | refine OW_assignV (.int _ _) rfl ?_ | refine OW_assignV (.slice _ _ _) rfl ?_ | refine OW_assignV (.bool _) rfl ?_ | refine OW_assignV (.pointer _) rfl ?_ | refine OW_assignV (.string _) rfl ?_ | refine OW_assignV (.agg _) rfl ?_ | refine OW_assignV (.tuple _) rfl ?_ | refine OW_addI rfl rfl (by omega) ?_ | refine OW_subI rfl rfl (by omega) ?_ | refine OW_mulI rfl rfl (by omega) ?_ | refine OW_lss rfl rfl ?_ | refine OW_extract rfl rfl ?_ | refine OW_gtr rfl rfl ?_ | refine OW_leq rfl rfl ?_ | refine OW_geq rfl rfl ?_ | refine OW_eql rfl rfl ?_ | refine OW_neq rfl rfl ?_ | refine OW_not rfl ?_ | refine OW_pickT rfl _ rfl ?_ | refine OW_pickF rfl (.bool _) rfl ?_ | refine OW_pickB rfl rfl rfl ?_ | refine OW_move ?_ | refine OW_assign ?_ | refine OW_pass rfl ?_ | refine OW_take rfl ?_ | refine OW_lenS (by first | with_reducible exact und_bytes | with_reducible exact und_bytess) rfl ?_ | refine OW_convInt (by first | with_reducible exact und_u8 | with_reducible exact und_u64 | with_reducible exact und_int | with_reducible exact und_u32) (by first | with_reducible exact und_u8 | with_reducible exact und_u64 | with_reducible exact und_int | with_reducible exact und_u32) rfl ?_ | refine OW_add rfl rfl ?_ | refine OW_sub rfl rfl ?_ | refine OW_mul rfl rfl ?_ | refine OW_min2 rfl rfl ?_ | refine OW_max2 rfl rfl ?_ | refine OW_neg rfl ?_ | refine CW_block ?_ | refine CW_condT rfl ?_ | refine CW_condF rfl ?_ | refine CW_exit ?_ | refine CW_ret ?_ | refine CW_skip ?_ | refine LW_seq ?_ | refine LW_regC ?_ | refine LW_condC ?_ | refine LW_regF ?_ | refine LW_condF ?_ | refine FW_seq ?_ | refine FW_region (by kernel_rfl) ?_ | refine FW_block ?_ | refine FW_condT rfl ?_ | refine FW_condF rfl ?_ | refine FW_exit ?_ | refine FW_ret ?_ | refine FW_skip ?_ | refine LW_ret ?_ | refine LW_skip ?_ | refine thenE_exit ?_ | refine thenE_ret ?_ | refine inBlockE_normal ?_ | refine inBlockE_same ?_ | refine inBlockE_ret ?_ | refine inBlockE_ne (by rfl) ?_ | refine OW_eqlB (by with_reducible exact und_bool) rfl rfl ?_ | refine OW_neqB (by with_reducible exact und_bool) rfl rfl ?_ | refine OW_idxS (by with_reducible exact und_bytes) one_u8 rfl rfl _ rfl (by omega) ?_ | refine OW_idxS (by with_reducible exact und_bytess) one_bytes rfl rfl _ rfl (by omega) ?_ | refine OW_load1 (by first | with_reducible exact one_u8 | with_reducible exact one_bytes) rfl _ (by assumption) ?_ | (refine OW_isLoad ?_; refine OW_loadBk (by first | with_reducible exact s_int | with_reducible exact one_u8 | with_reducible exact one_grants) rfl (by assumption) _ (by rfl) ?_) | refine OW_load1 s_int rfl _ (by assumption) ?_)
         refine OW_nil ?_
         exact stay_mk _ _ _ _)
    | (apply OY_q _ rfl
       · intro wd hwd
         (first | (refine OW_isLoad ?_; refine OW_loadM (by first | with_reducible exact agg_Grant | with_reducible exact s_agg_Tag | with_reducible exact agg_Token) rfl (by first | assumption | (apply_assumption; assumption)) ?_) | refine OW_idxN und_Grants el_Grant rfl rfl 0 rfl (by omega) ?_ | refine OW_sliceP h_slp_Tag rfl ?_ | refine OW_slicePOT a_slp_TagT rfl ?_ | refine OW_fieldB fldo_G0 rfl ?_ | refine OW_fieldB fldo_G1 rfl ?_ | refine OW_fieldB fldo_G2 rfl ?_ | refine OW_fieldB fldo_T0 rfl ?_ | refine OW_fieldB fldo_T1 rfl ?_ | refine OW_fieldB fldo_T2 rfl ?_ | refine OW_lenS und_Grants rfl ?_ | refine OW_idxN und_Grants el_Grant rfl rfl _ rfl (by omega) ?_ | refine OW_moveV (.int _ _) rfl ?_ | refine OW_moveV (.slice _ _ _) rfl ?_ | refine OW_moveV (.bool _) rfl ?_ | refine OW_moveV (.pointer _) rfl ?_ | refine OW_moveV (.string _) rfl ?_ | refine OW_moveV (.agg _) rfl ?_ | refine OW_moveV (.tuple _) rfl ?_ | refine OW_nil ?_ | refine thenE_normal ?_ | refine CW_seq ?_ | refine CW_region (by kernel_rfl) ?_ | refine OW_assignV (.int _ _) rfl ?_ | refine OW_assignV (.slice _ _ _) rfl ?_ | refine OW_assignV (.bool _) rfl ?_ | refine OW_assignV (.pointer _) rfl ?_ | refine OW_assignV (.string _) rfl ?_ | refine OW_assignV (.agg _) rfl ?_ | refine OW_assignV (.tuple _) rfl ?_ | refine OW_addI rfl rfl (by omega) ?_ | refine OW_subI rfl rfl (by omega) ?_ | refine OW_mulI rfl rfl (by omega) ?_ | refine OW_lss rfl rfl ?_ | refine OW_extract rfl rfl ?_ | refine OW_gtr rfl rfl ?_ | refine OW_leq rfl rfl ?_ | refine OW_geq rfl rfl ?_ | refine OW_eql rfl rfl ?_ | refine OW_neq rfl rfl ?_ | refine OW_not rfl ?_ | refine OW_pickT rfl _ rfl ?_ | refine OW_pickF rfl (.bool _) rfl ?_ | refine OW_pickB rfl rfl rfl ?_ | refine OW_move ?_ | refine OW_assign ?_ | refine OW_pass rfl ?_ | refine OW_take rfl ?_ | refine OW_lenS (by first | with_reducible exact und_bytes | with_reducible exact und_bytess) rfl ?_ | refine OW_convInt (by first | with_reducible exact und_u8 | with_reducible exact und_u64 | with_reducible exact und_int | with_reducible exact und_u32) (by first | with_reducible exact und_u8 | with_reducible exact und_u64 | with_reducible exact und_int | with_reducible exact und_u32) rfl ?_ | refine OW_add rfl rfl ?_ | refine OW_sub rfl rfl ?_ | refine OW_mul rfl rfl ?_ | refine OW_min2 rfl rfl ?_ | refine OW_max2 rfl rfl ?_ | refine OW_neg rfl ?_ | refine CW_block ?_ | refine CW_condT rfl ?_ | refine CW_condF rfl ?_ | refine CW_exit ?_ | refine CW_ret ?_ | refine CW_skip ?_ | refine LW_seq ?_ | refine LW_regC ?_ | refine LW_condC ?_ | refine LW_regF ?_ | refine LW_condF ?_ | refine FW_seq ?_ | refine FW_region (by kernel_rfl) ?_ | refine FW_block ?_ | refine FW_condT rfl ?_ | refine FW_condF rfl ?_ | refine FW_exit ?_ | refine FW_ret ?_ | refine FW_skip ?_ | refine LW_ret ?_ | refine LW_skip ?_ | refine thenE_exit ?_ | refine thenE_ret ?_ | refine inBlockE_normal ?_ | refine inBlockE_same ?_ | refine inBlockE_ret ?_ | refine inBlockE_ne (by rfl) ?_ | refine OW_eqlB (by with_reducible exact und_bool) rfl rfl ?_ | refine OW_neqB (by with_reducible exact und_bool) rfl rfl ?_ | refine OW_idxS (by with_reducible exact und_bytes) one_u8 rfl rfl _ rfl (by omega) ?_ | refine OW_idxS (by with_reducible exact und_bytess) one_bytes rfl rfl _ rfl (by omega) ?_ | refine OW_load1 (by first | with_reducible exact one_u8 | with_reducible exact one_bytes) rfl _ (by assumption) ?_ | (refine OW_isLoad ?_; refine OW_loadBk (by first | with_reducible exact s_int | with_reducible exact one_u8 | with_reducible exact one_grants) rfl (by assumption) _ (by rfl) ?_) | refine OW_load1 s_int rfl _ (by assumption) ?_ | (refine OW_isLoad ?_; refine OW_loadBk (by first | with_reducible exact one_u8 | with_reducible exact one_bytes | with_reducible exact one_bool | with_reducible exact one_int | with_reducible exact one_errno | with_reducible exact one_u32 | with_reducible exact one_u64 | with_reducible exact one_string | with_reducible exact s_int | with_reducible exact one_u8 | with_reducible exact one_grants) rfl (by apply_assumption; assumption) _ (by first | assumption | rfl) ?_) | refine OW_load1 (by first | with_reducible exact one_u8 | with_reducible exact one_bytes | with_reducible exact one_bool | with_reducible exact one_int | with_reducible exact one_errno | with_reducible exact one_u32 | with_reducible exact one_u64 | with_reducible exact one_string | with_reducible exact s_int | with_reducible exact one_u8 | with_reducible exact one_grants) rfl _ (by apply_assumption; assumption) ?_)
         refine OW_nil ?_
         exact stay_mk _ _ _ _)
    | refine OY_ppass rfl rfl ?_
    | refine OY_qpass rfl rfl ?_
    | (apply OY_ptake _ rfl rfl
       · intro wd
         (first | (refine OW_isLoad ?_; refine OW_loadM (by first | with_reducible exact agg_Grant | with_reducible exact s_agg_Tag | with_reducible exact agg_Token) rfl (by first | assumption | (apply_assumption; assumption)) ?_) | refine OW_idxN und_Grants el_Grant rfl rfl 0 rfl (by omega) ?_ | refine OW_sliceP h_slp_Tag rfl ?_ | refine OW_slicePOT a_slp_TagT rfl ?_ | refine OW_fieldB fldo_G0 rfl ?_ | refine OW_fieldB fldo_G1 rfl ?_ | refine OW_fieldB fldo_G2 rfl ?_ | refine OW_fieldB fldo_T0 rfl ?_ | refine OW_fieldB fldo_T1 rfl ?_ | refine OW_fieldB fldo_T2 rfl ?_ | refine OW_lenS und_Grants rfl ?_ | refine OW_idxN und_Grants el_Grant rfl rfl _ rfl (by omega) ?_ | refine OW_moveV (.int _ _) rfl ?_ | refine OW_moveV (.slice _ _ _) rfl ?_ | refine OW_moveV (.bool _) rfl ?_ | refine OW_moveV (.pointer _) rfl ?_ | refine OW_moveV (.string _) rfl ?_ | refine OW_moveV (.agg _) rfl ?_ | refine OW_moveV (.tuple _) rfl ?_ | refine OW_nil ?_ | refine thenE_normal ?_ | refine CW_seq ?_ | refine CW_region (by kernel_rfl) ?_ | refine OW_assignV (.int _ _) rfl ?_ | refine OW_assignV (.slice _ _ _) rfl ?_ | refine OW_assignV (.bool _) rfl ?_ | refine OW_assignV (.pointer _) rfl ?_ | refine OW_assignV (.string _) rfl ?_ | refine OW_assignV (.agg _) rfl ?_ | refine OW_assignV (.tuple _) rfl ?_ | refine OW_addI rfl rfl (by omega) ?_ | refine OW_subI rfl rfl (by omega) ?_ | refine OW_mulI rfl rfl (by omega) ?_ | refine OW_lss rfl rfl ?_ | refine OW_extract rfl rfl ?_ | refine OW_gtr rfl rfl ?_ | refine OW_leq rfl rfl ?_ | refine OW_geq rfl rfl ?_ | refine OW_eql rfl rfl ?_ | refine OW_neq rfl rfl ?_ | refine OW_not rfl ?_ | refine OW_pickT rfl _ rfl ?_ | refine OW_pickF rfl (.bool _) rfl ?_ | refine OW_pickB rfl rfl rfl ?_ | refine OW_move ?_ | refine OW_assign ?_ | refine OW_pass rfl ?_ | refine OW_take rfl ?_ | refine OW_lenS (by first | with_reducible exact und_bytes | with_reducible exact und_bytess) rfl ?_ | refine OW_convInt (by first | with_reducible exact und_u8 | with_reducible exact und_u64 | with_reducible exact und_int | with_reducible exact und_u32) (by first | with_reducible exact und_u8 | with_reducible exact und_u64 | with_reducible exact und_int | with_reducible exact und_u32) rfl ?_ | refine OW_add rfl rfl ?_ | refine OW_sub rfl rfl ?_ | refine OW_mul rfl rfl ?_ | refine OW_min2 rfl rfl ?_ | refine OW_max2 rfl rfl ?_ | refine OW_neg rfl ?_ | refine CW_block ?_ | refine CW_condT rfl ?_ | refine CW_condF rfl ?_ | refine CW_exit ?_ | refine CW_ret ?_ | refine CW_skip ?_ | refine LW_seq ?_ | refine LW_regC ?_ | refine LW_condC ?_ | refine LW_regF ?_ | refine LW_condF ?_ | refine FW_seq ?_ | refine FW_region (by kernel_rfl) ?_ | refine FW_block ?_ | refine FW_condT rfl ?_ | refine FW_condF rfl ?_ | refine FW_exit ?_ | refine FW_ret ?_ | refine FW_skip ?_ | refine LW_ret ?_ | refine LW_skip ?_ | refine thenE_exit ?_ | refine thenE_ret ?_ | refine inBlockE_normal ?_ | refine inBlockE_same ?_ | refine inBlockE_ret ?_ | refine inBlockE_ne (by rfl) ?_ | refine OW_eqlB (by with_reducible exact und_bool) rfl rfl ?_ | refine OW_neqB (by with_reducible exact und_bool) rfl rfl ?_ | refine OW_idxS (by with_reducible exact und_bytes) one_u8 rfl rfl _ rfl (by omega) ?_ | refine OW_idxS (by with_reducible exact und_bytess) one_bytes rfl rfl _ rfl (by omega) ?_ | refine OW_load1 (by first | with_reducible exact one_u8 | with_reducible exact one_bytes) rfl _ (by assumption) ?_ | (refine OW_isLoad ?_; refine OW_loadBk (by first | with_reducible exact s_int | with_reducible exact one_u8 | with_reducible exact one_grants) rfl (by assumption) _ (by rfl) ?_) | refine OW_load1 s_int rfl _ (by assumption) ?_)
         refine OW_nil ?_
         exact stay_mk _ _ _ _)
    | (apply OY_qtake _ rfl rfl
       · intro wd hwd
         (first | (refine OW_isLoad ?_; refine OW_loadM (by first | with_reducible exact agg_Grant | with_reducible exact s_agg_Tag | with_reducible exact agg_Token) rfl (by first | assumption | (apply_assumption; assumption)) ?_) | refine OW_idxN und_Grants el_Grant rfl rfl 0 rfl (by omega) ?_ | refine OW_sliceP h_slp_Tag rfl ?_ | refine OW_slicePOT a_slp_TagT rfl ?_ | refine OW_fieldB fldo_G0 rfl ?_ | refine OW_fieldB fldo_G1 rfl ?_ | refine OW_fieldB fldo_G2 rfl ?_ | refine OW_fieldB fldo_T0 rfl ?_ | refine OW_fieldB fldo_T1 rfl ?_ | refine OW_fieldB fldo_T2 rfl ?_ | refine OW_lenS und_Grants rfl ?_ | refine OW_idxN und_Grants el_Grant rfl rfl _ rfl (by omega) ?_ | refine OW_moveV (.int _ _) rfl ?_ | refine OW_moveV (.slice _ _ _) rfl ?_ | refine OW_moveV (.bool _) rfl ?_ | refine OW_moveV (.pointer _) rfl ?_ | refine OW_moveV (.string _) rfl ?_ | refine OW_moveV (.agg _) rfl ?_ | refine OW_moveV (.tuple _) rfl ?_ | refine OW_nil ?_ | refine thenE_normal ?_ | refine CW_seq ?_ | refine CW_region (by kernel_rfl) ?_ | refine OW_assignV (.int _ _) rfl ?_ | refine OW_assignV (.slice _ _ _) rfl ?_ | refine OW_assignV (.bool _) rfl ?_ | refine OW_assignV (.pointer _) rfl ?_ | refine OW_assignV (.string _) rfl ?_ | refine OW_assignV (.agg _) rfl ?_ | refine OW_assignV (.tuple _) rfl ?_ | refine OW_addI rfl rfl (by omega) ?_ | refine OW_subI rfl rfl (by omega) ?_ | refine OW_mulI rfl rfl (by omega) ?_ | refine OW_lss rfl rfl ?_ | refine OW_extract rfl rfl ?_ | refine OW_gtr rfl rfl ?_ | refine OW_leq rfl rfl ?_ | refine OW_geq rfl rfl ?_ | refine OW_eql rfl rfl ?_ | refine OW_neq rfl rfl ?_ | refine OW_not rfl ?_ | refine OW_pickT rfl _ rfl ?_ | refine OW_pickF rfl (.bool _) rfl ?_ | refine OW_pickB rfl rfl rfl ?_ | refine OW_move ?_ | refine OW_assign ?_ | refine OW_pass rfl ?_ | refine OW_take rfl ?_ | refine OW_lenS (by first | with_reducible exact und_bytes | with_reducible exact und_bytess) rfl ?_ | refine OW_convInt (by first | with_reducible exact und_u8 | with_reducible exact und_u64 | with_reducible exact und_int | with_reducible exact und_u32) (by first | with_reducible exact und_u8 | with_reducible exact und_u64 | with_reducible exact und_int | with_reducible exact und_u32) rfl ?_ | refine OW_add rfl rfl ?_ | refine OW_sub rfl rfl ?_ | refine OW_mul rfl rfl ?_ | refine OW_min2 rfl rfl ?_ | refine OW_max2 rfl rfl ?_ | refine OW_neg rfl ?_ | refine CW_block ?_ | refine CW_condT rfl ?_ | refine CW_condF rfl ?_ | refine CW_exit ?_ | refine CW_ret ?_ | refine CW_skip ?_ | refine LW_seq ?_ | refine LW_regC ?_ | refine LW_condC ?_ | refine LW_regF ?_ | refine LW_condF ?_ | refine FW_seq ?_ | refine FW_region (by kernel_rfl) ?_ | refine FW_block ?_ | refine FW_condT rfl ?_ | refine FW_condF rfl ?_ | refine FW_exit ?_ | refine FW_ret ?_ | refine FW_skip ?_ | refine LW_ret ?_ | refine LW_skip ?_ | refine thenE_exit ?_ | refine thenE_ret ?_ | refine inBlockE_normal ?_ | refine inBlockE_same ?_ | refine inBlockE_ret ?_ | refine inBlockE_ne (by rfl) ?_ | refine OW_eqlB (by with_reducible exact und_bool) rfl rfl ?_ | refine OW_neqB (by with_reducible exact und_bool) rfl rfl ?_ | refine OW_idxS (by with_reducible exact und_bytes) one_u8 rfl rfl _ rfl (by omega) ?_ | refine OW_idxS (by with_reducible exact und_bytess) one_bytes rfl rfl _ rfl (by omega) ?_ | refine OW_load1 (by first | with_reducible exact one_u8 | with_reducible exact one_bytes) rfl _ (by assumption) ?_ | (refine OW_isLoad ?_; refine OW_loadBk (by first | with_reducible exact s_int | with_reducible exact one_u8 | with_reducible exact one_grants) rfl (by assumption) _ (by rfl) ?_) | refine OW_load1 s_int rfl _ (by assumption) ?_ | (refine OW_isLoad ?_; refine OW_loadBk (by first | with_reducible exact one_u8 | with_reducible exact one_bytes | with_reducible exact one_bool | with_reducible exact one_int | with_reducible exact one_errno | with_reducible exact one_u32 | with_reducible exact one_u64 | with_reducible exact one_string | with_reducible exact s_int | with_reducible exact one_u8 | with_reducible exact one_grants) rfl (by apply_assumption; assumption) _ (by first | assumption | rfl) ?_) | refine OW_load1 (by first | with_reducible exact one_u8 | with_reducible exact one_bytes | with_reducible exact one_bool | with_reducible exact one_int | with_reducible exact one_errno | with_reducible exact one_u32 | with_reducible exact one_u64 | with_reducible exact one_string | with_reducible exact s_int | with_reducible exact one_u8 | with_reducible exact one_grants) rfl _ (by apply_assumption; assumption) ?_)
         refine OW_nil ?_
         exact stay_mk _ _ _ _)
    | refine OY_a (actY_of rfl ?_)
    | refine OY_d (actY_of rfl ?_)
    | refine OY_a (actY_pass rfl rfl ?_)
    | refine OY_d (actY_pass rfl rfl ?_)
    | refine OY_a (actY_take rfl rfl ?_)
    | refine OY_d (actY_take rfl rfl ?_))
  exact hEnd.out) (k : B) : A := h ⟨k⟩
theorem info_Grant : (Try.prog.info? 49).map (fun i => (i.zero, i.size, i.bytes)) = some (some (.agg (gcells ⟨0, 0, 0⟩).toArray), 3, 24) := by kernel_rfl
/-- Grants of the call's own. -/
def GOwn (w : World) (base : Nat) (A : Option Addr) (c : Nat) (l : List GD) : Prop := w.ownsRow base 49 3 (.slice A l.length c) l.length (l.map gcells).flatten
theorem grants_len (l : List GD) : ∀ x ∈ l.map gcells, x.length = 3 := fun x hx => by
  obtain ⟨y, _, rfl⟩ := List.mem_map.1 hx
  rfl
theorem grants_one (l : List GD) : ∀ u ∈ (l.map gcells).flatten, u.oneCell' = true := by
  intro u hu
  obtain ⟨cs, hcs, hu⟩ := List.mem_flatten.1 hu
  obtain ⟨x, _, rfl⟩ := List.mem_map.1 hcs
  exact gcells_one x u hu
theorem GOwn.rd {w : World} {base : Nat} {A : Option Addr} {c : Nat} {l : List GD} (h : GOwn w base A c l) : GRd w A l := ⟨ownN_rd h, grants_len l⟩
theorem GOwn.ext {w w' : World} {base : Nat} {A : Option Addr} {c : Nat} {l : List GD} (h : GOwn w base A c l) (hx : Ext w w') : GOwn w' base A c l := ownN_ext h hx
theorem GOwn.mono {w : World} {base base' : Nat} {A : Option Addr} {c : Nat} {l : List GD} (h : GOwn w base A c l) (hb : base' ≤ base) : GOwn w base' A c l := ownN_mono h hb
theorem GOwn.cap {w : World} {base : Nat} {A : Option Addr} {c : Nat} {l : List GD} (h : GOwn w base A c l) : l.length ≤ c := (ownN_cap h).1
theorem GOwn.zero (w : World) (base : Nat) : GOwn w base none 0 [] := World.ownsRow_nil _ _ _ _
theorem GOwn.nil {w : World} {base g : Nat} (hb : Blk w g 49 #[]) (hg : base ≤ g) : GOwn w base (some ⟨g, 0, none⟩) 0 [] := ownN_of_blk hg hb rfl (Nat.le_refl _) (by decide) (by simp)
section
variable {ops : Array Oper} {Q : Exit → (Nat → Value) → World → Prop} {rest : List Oper} {e : Nat → Value} {w : World} {d : Tmp} {ty : TypeId} {pos : String} {aft : Array Edge}
/-- A row behind a pointer into the midst of a block, whole. -/
structure SlPOT (P : Program) (t : TypeId) (n : Nat) : Prop where
  run : ∀ w g o, (Instr.sliceAt t (.pointer (some ⟨g, o, none⟩)) none none none).run P w = .ok (.slice (some ⟨g, o, none⟩) n n) w
theorem OW_slicePOT {P : Program} {x : Operand} {t : TypeId} {g o n : Nat} (hr : SlPOT P t n) (hx : ev e x = .pointer (some ⟨g, o, none⟩)) (h : OW P ops Q rest (upd e d (.slice (some ⟨g, o, none⟩) n n)) w) : OW P ops Q (⟨some d, .slice t x none none none, ty, pos, aft, none⟩ :: rest) e w :=
  OW_val _ rfl (by simp only [execOp, hx, Option.map, Sem.run_bind, hr.run w g o]; rfl) h
theorem OW_apG {x y : Operand} {base : Nat} {A A' : Option Addr} {c c' : Nat} {l l' : List GD} (hx : ev e x = .slice A l.length c) (hy : ev e y = .slice A' l'.length c') (ho : GOwn w base A c l) (hr : GRd w A' l') (hl : l.length + l'.length ≤ 100000) (hbase : base ≤ w.heap.size)
    (h : ∀ w' A2 c2, GOwn w' base A2 c2 (l ++ l') → (∀ g T cs, T ≠ 49 → Blk w g T cs → Blk w' g T cs) → Keeps w w' (fun k => ∃ ad, A = some ad ∧ ad.block = k) → Below base w w' → OW Try.prog ops Q rest (upd e d (.slice A2 (l ++ l').length c2)) w') :
    OW Try.prog ops Q (⟨some d, .call { callee := .builtin .append, args := #[x, y], argTypes := #[43, 43] }, ty, pos, aft, none⟩ :: rest) e w := by
  refine OW_appendN (k := 3) und_Grants info_Grant rfl (by decide) hx hy ho hr.rd (by rw [flat_len hr.len, List.length_map]) (grants_one l') (by unfold maxLen; omega) (by omega) hbase ?_
  intro w' A2 c2 ho2 hg _
  have hk : Keeps w w' (fun k => ∃ ad, A = some ad ∧ ad.block = k) := Keeps.of_grown hg (fun b hb => by
    cases A with
    | none => cases hb
    | some ad => cases hb; exact ⟨ad, rfl, rfl⟩)
  rw [← List.length_append]
  refine h w' A2 c2 ?_ (fun g T cs hT hB => hB.keeps hk (fun ⟨ad, ha, hb⟩ => ?_)) hk ?_
  · unfold GOwn
    rw [List.length_append, List.map_append, List.flatten_append]
    exact ho2
  · obtain ⟨g2, cur, hA2, _, hB2, _⟩ := ownN_blk ho (by rw [ha]; simp)
    rw [ha] at hA2
    cases hA2
    have hb : g2 = g := hb
    subst hb
    have hB2 : w.heap[g2]? = some (.cells cur 49 (0, 0)) := hB2
    have hB : w.heap[g2]? = some (.cells cs T (0, 0)) := hB
    rw [hB2] at hB
    injection hB with hB
    injection hB with _ hB
    exact hT hB.symm
  · refine Keeps.below (S := fun k => ∃ ad, A = some ad ∧ ad.block = k) hk ?_ hbase
    rintro k ⟨ad, ha, rfl⟩
    exact (ownN_block ho ad ha).1
end
theorem a_slp_TagT : SlPOT Try.prog 29 32 := ⟨fun w g o => by kernel_rfl⟩
set_option maxHeartbeats 8000000 in
theorem gdClone_any (w : World) (A : Option Addr) (c : Nat) (l : List GD) (hr : GRd w A l) (hn : l.length ≤ 10000) : Calls Try.prog 78 #[.slice A l.length c] w
    (fun en w' => ∃ A2 c2, en = .returned (.slice A2 l.length c2) ∧ GOwn w' w.heap.size A2 c2 l ∧ Ext w w') := by
  refine calls_of_CW Try.func78 rfl (by simp [Try.ntmps78]) ?_
  rw [Try.ntmps78]
  refine go_Tok4 (k := ?_)
  refine OW_eqlSz und_Grants rfl ?_
  refine go_Tok4 (k := ?_)
  cases A with
  | none =>
    have hz : l = [] := by
      cases l with
      | nil => rfl
      | cons a r =>
        obtain ⟨ad, ha, _⟩ := hr.at_ (i := 0) (by simp)
        cases ha
    subst hz
    refine go_Tok4 (k := ?_)
    exact bodyE_ret1 rfl (.slice none 0 0) rfl ⟨none, 0, rfl, GOwn.zero _ _, Ext.rfl' w⟩
  | some ad =>
    refine go_Tok4 (k := ?_)
    refine OW_litM [] und_Grants agg_Grant rfl rfl (by simp) (by decide) ?_
    intro w1 g1 hb1 hg1 hlt1 hx1
    have ho1 : GOwn w1 w.heap.size (some ⟨g1, 0, none⟩) 0 [] := GOwn.nil hb1 hg1
    refine go_Tok4 (k := ?_)
    refine OW_apG (l := []) rfl rfl ho1 (hr.ext hx1) (by simp; omega) hx1.size ?_
    intro w2 A2 c2 ho2 _ _ hbel
    rw [List.nil_append] at ho2 ⊢
    refine go_Tok4 (k := ?_)
    exact bodyE_ret1 rfl _ rfl ⟨A2, c2, rfl, ho2, hx1.trans hbel⟩
theorem set_tag (t : TK) (v : Value) (s : List UInt8) (h : t.tag.length = 32) : (tcells t v).take 2 ++ s.map bv ++ (tcells t v).drop (2 + 32) = tcells { t with tag := s } v := by
  simp [tcells, h]
theorem bld_T0 : ∀ w, (Instr.build 45 [].toArray).run Try.prog w = .ok (.agg (tcells t0 (.slice none 0 0)).toArray) w := fun w => by kernel_rfl
theorem bld_T2 (n : Int) (A : Option Addr) (k c : Nat) (l : List GD) : ∀ w, (Instr.build 45 [(0, .int .i64 n), (1, .slice A k c)].toArray).run Try.prog w = .ok (.agg (tcells ⟨n, l, tzS⟩ (.slice A k c)).toArray) w := fun w => by kernel_rfl
theorem bld_T3a (n : Int) (A : Option Addr) (k c : Nat) (l : List GD) (h0 h1 h2 h3 h4 h5 h6 h7 h8 h9 h10 h11 h12 h13 h14 h15 h16 h17 h18 h19 h20 h21 h22 h23 h24 h25 h26 h27 h28 h29 h30 h31 : UInt8) : ∀ w, (Instr.build 45 [(0, .int .i64 n), (1, .slice A k c), (2, .agg ([h0, h1, h2, h3, h4, h5, h6, h7, h8, h9, h10, h11, h12, h13, h14, h15, h16, h17, h18, h19, h20, h21, h22, h23, h24, h25, h26, h27, h28, h29, h30, h31].map bv).toArray)].toArray).run Try.prog w = .ok (.agg (tcells ⟨n, l, [h0, h1, h2, h3, h4, h5, h6, h7, h8, h9, h10, h11, h12, h13, h14, h15, h16, h17, h18, h19, h20, h21, h22, h23, h24, h25, h26, h27, h28, h29, h30, h31]⟩ (.slice A k c)).toArray) w := fun w => by kernel_rfl
theorem bld_T3 (n : Int) (A : Option Addr) (k c : Nat) (l : List GD) (t : List UInt8) (ht : t.length = 32) : ∀ w, (Instr.build 45 [(0, .int .i64 n), (1, .slice A k c), (2, .agg (t.map bv).toArray)].toArray).run Try.prog w = .ok (.agg (tcells ⟨n, l, t⟩ (.slice A k c)).toArray) w := by
  match t, ht with
  | [h0, h1, h2, h3, h4, h5, h6, h7, h8, h9, h10, h11, h12, h13, h14, h15, h16, h17, h18, h19, h20, h21, h22, h23, h24, h25, h26, h27, h28, h29, h30, h31], _ => exact bld_T3a n A k c l h0 h1 h2 h3 h4 h5 h6 h7 h8 h9 h10 h11 h12 h13 h14 h15 h16 h17 h18 h19 h20 h21 h22 h23 h24 h25 h26 h27 h28 h29 h30 h31
/-- A token that is told, and an error. -/
def TRet (w : World) (r : TK × Int) : Ending → World → Prop := fun en w' => ∃ A c, en = .returned (.tuple #[.agg (tcells r.1 (.slice A r.1.line.length c)).toArray, .int .i64 r.2]) ∧ GOwn w' w.heap.size A c r.1.line ∧ Ext w w'
set_option maxHeartbeats 8000000 in
theorem refTag_any (w : World) (A B : Option Addr) (cA cB : Nat) (key : List UInt8) (t : TK) (ha : Bs w A key) (hca : key.length ≤ cA) (hla : key.length ≤ 80000) (hB : GRd w B t.line) (hcB : t.line.length ≤ cB) (hpos : 1 ≤ t.line.length) (hn : t.line.length ≤ 1000000) (htg : t.tag.length = 32) :
    Calls Try.prog 36 #[.slice A key.length cA, .agg (tcells t (.slice B t.line.length cB)).toArray] w (RetV w (.agg ((tagL key t.ten t.line).map bv).toArray)) := by
  have hp8 := putL_length (u64N t.ten) 8
  have hNum : numsB [t.ten] = putL (u64N t.ten) 8 := by simp [numsB]
  have htl := fun k => tagL_len key t.ten (t.line.take k)
  refine calls_of_CW Try.func36 rfl (by simp [Try.ntmps36]) ?_
  rw [Try.ntmps36]
  refine go_Tok4 (k := ?_)
  refine OW_box _ rfl ?_
  intro w1 g3 hb3 hg3 hlt3 hx1
  have hb3 : Blk w1 g3 45 (tcells t (.slice B t.line.length cB)).toArray := hb3
  refine go_Tok4 (k := ?_)
  refine OW_allocA s_agg_Tag ?_
  intro w2 g4 hb4 hg4 hlt4 hx2
  refine go_Tok4 (k := ?_)
  refine OW_allocA s_agg_Tag ?_
  intro w3 gT hbT hgT hltT hx3
  have hx03 := (hx1.trans' hx2).trans' hx3
  have hs1 := hx1.size
  have hs2 := hx2.size
  refine go_Tok4 (k := ?_)
  refine CW_loop (fun e' w' => ∃ k : Nat, k ≤ t.line.length ∧ e' 0 = .slice A key.length cA ∧ e' 3 = .pointer (some ⟨g3, 0, none⟩) ∧ e' 4 = .pointer (some ⟨g4, 0, none⟩) ∧ e' 5 = .pointer (some ⟨gT, 0, none⟩) ∧ e' 6 = .int .i64 k ∧ Blk w' g3 45 (tcells t (.slice B t.line.length cB)).toArray ∧ Blk w' g4 29 (tzS.map bv).toArray ∧ Blk w' gT 29 ((tagL key t.ten (t.line.take k)).map bv).toArray ∧ Ext w w') (fun e' _ => t.line.length - (intOf (e' 6)).toNat) ⟨0, Nat.zero_le _, rfl, rfl, rfl, rfl, rfl, hb3.ext (hx2.trans' hx3), hb4.ext hx3, hbT, hx03⟩ ?_
  clear hb3 hb4 hbT hx03
  rintro e6 w6 ⟨k, hk, q0, q3, q4, q5, q6, hb3, hb4, hbT, hx06⟩
  rw [upd_self q0, upd_self q3, upd_self q4, upd_self q5, upd_self q6]
  clear q0 q3 q4 q5 q6
  refine go_Tok4 (k := ?_)
  refine CW_cond _ rfl (fun hh => ?_) (fun hh => ?_)
  · have hlt : k < t.line.length := by have := of_decide_eq_true hh; omega
    clear hh
    obtain ⟨ad, hA0, hat⟩ := (hB.ext hx06).at_ (i := k) hlt
    have hsn : k ≠ 0 → tagL key t.ten (t.line.take (k + 1)) = tagS (tagL key t.ten (t.line.take k)) t.line[k] := fun hk0 => by
      rw [List.take_succ_eq_append_getElem hlt, tagL_snoc]
      intro h
      have := congrArg List.length h
      rw [List.length_take, List.length_nil] at this
      omega
    have hs0 : k = 0 → tagL key t.ten (t.line.take (k + 1)) = hmacL key (numsB [t.ten] ++ grantB t.line[k]) := fun hk0 => by
      subst hk0
      rw [List.take_succ_eq_append_getElem hlt, List.take_zero]
      rfl
    have ho32 := htl k
    generalize t.line[k] = gk at *
    generalize tagL key t.ten (t.line.take k) = o at *
    obtain ⟨R, hR⟩ : ∃ R, tagL key t.ten (t.line.take (k + 1)) = R := ⟨_, rfl⟩
    rw [hR] at hsn hs0
    have hgk := gAt hat
    subst hA0
    refine go_Tok4 (k := ?_)
    refine CW_cond _ rfl (fun hh => ?_) (fun hh => ?_)
    · have hk0 : k = 0 := by have := eq_of_beq hh; omega
      subst hk0
      clear hh
      refine go_Tok4 (k := ?_)
      obtain ⟨C, hC⟩ : ∃ C : World → Prop, C = fun v => Ext w6 v := ⟨_, rfl⟩
      have y3 := blkE hC hb3
      have yG : ∀ v, C v → AtM v (ad.add (0 * 3)) (gcells gk) 3 := by rw [hC]; exact fun v hv => hgk.ext hv
      refine CW_tree2 [3, 7, 9] (.p 0 (.p 2 (.q 3 (.p 6 (.q 7 (.p 8 (.q 9 (Ty.graft (.a2 1 (.a 4 .done) 4 (.a 1 .done)) (.a 5 (.d 10 (.d 11 (.d 12 (.d 13 .done))))))))))))) (C) (by kernel_rfl) (by kernel_rfl) (by kernel_rfl) ?_ ?_
      · exact inE hC
      intro wq hywq h_C
      refine oy_Tok4 (k := ?_)
      have hl8 : (numsB [t.ten]).length = 8 := numsB_length _
      refine OY_a2 (actY_of rfl ?_) (actY_of rfl ?_)
      · skip
        refine OW_lit [] und_bytes info_u8 rfl rfl (by simp) (by decide) ?_
        intro w101 gE hbE hgE hxc
        have hyw101 := hywq.trans' hxc
        have hoE : w101.ownsRow w6.heap.size 5 1 (.slice (some ⟨gE, 0, none⟩) 0 0) 0 [] := own_of_blk (by have := hywq.size; omega) hbE rfl (Nat.le_refl _) (by decide) rfl
        first | refine OW_nil (goY_mkE hC (hyw101) ?_) | refine OW_nil (goY_dropE hC (hyw101) ?_)
        refine oy_Tok4 (k := ?_)
        refine OW_callBs Try.func83 (by kernel_rfl) rfl (refNumber_any w101 t.ten) rfl ?_
        intro w102 A4 c4 hf4
        have hxc := hf4.ext
        have hyw102 := hyw101.trans' hxc
        have hb4n := hf4.bs
        replace hoE := own_ext hoE hxc
        first | refine OW_nil (goY_mkE hC (hyw102) ?_) | refine OW_nil (goY_dropE hC (hyw102) ?_)
        refine oy_Tok4 (k := ?_)
        refine OW_apU (l := []) rfl rfl hoE hb4n (by rw [hp8]; decide) hyw102.size ?_
        intro w103 A5 c5 ho5 hT5 hbel5
        rw [List.nil_append] at ho5 ⊢
        rw [← hNum] at ho5 ⊢
        have hyw103 : Ext w6 w103 := hyw102.trans hbel5
        first | refine OW_nil (goY_mkE hC (hyw103) ?_) | refine OW_nil (goY_dropE hC (hyw103) ?_)
        refine oy_Tok4 (k := ?_)
        refine OW_callBs Try.func82 (by kernel_rfl) rfl (refGrant_any w103 gk) rfl ?_
        intro w104 A9 c9 hf9
        have hxc := hf9.ext
        have hyw104 := hyw103.trans' hxc
        have hB9 := hf9.bs
        replace ho5 := own_ext ho5 hxc
        first | refine OW_nil (goY_mkE hC (hyw104) ?_) | refine OW_nil (goY_dropE hC (hyw104) ?_)
        refine oy_Tok4 (k := ?_)
        refine OW_apU rfl rfl ho5 hB9 (by rw [hl8, grantB_len]; decide) hyw104.size ?_
        intro w105 A10 c10 ho10 hT10 hbel10
        have hyw105 : Ext w6 w105 := hyw104.trans hbel10
        first | refine OW_nil (goY_mkE hC (hyw105) ?_) | refine OW_nil (goY_dropE hC (hyw105) ?_)
        refine oy_Tok4 (k := ?_)
        refine OW_callV Try.func81 (by kernel_rfl) rfl (refHSum_any w105 A A10 cA c10 key (numsB [t.ten] ++ grantB gk) (ha.ext (hx06.trans' hyw105)) (by omega) (own_rd ho10) (by rw [List.length_append, hl8, grantB_len]; decide)) rfl ?_
        intro w106 hxc
        have hyw106 := hyw105.trans' hxc
        rw [← hs0 rfl]
        first | refine OW_nil (goY_mkE hC (hyw106) ?_) | refine OW_nil (goY_dropE hC (hyw106) ?_)
        refine oy_Tok4 (k := ?_)
        have hXl : R.length = 32 := by rw [← hR]; exact tagL_len _ _ _
        refine OW_storeA s_agg_Tag rfl (R.map bv) rfl (by rw [List.length_map, hXl]) (hbT.ext hyw106) (by rw [List.size_toArray, List.length_map, ho32]) (bv_one _) ?_
        intro w107 hbS hgS
        have hkS := Keeps.of_only hgS (S := (· = gT)) rfl
        have hx0S : Ext w w107 := hkS.ext (hx06.trans' hyw106) (fun j hj => by have hj : j = gT := hj; omega)
        have hb3S := (hb3.ext hyw106).keeps hkS (by omega)
        have hb4S := (hb4.ext hyw106).keeps hkS (by omega)
        refine OW_nil (goY_drop (fun v => v = w107) rfl ?_)
        refine oy_Tok4 (k := ?_)
        have hyw107 := hx0S
        refine go_Tok4 (k := ?_)
        refine ⟨⟨0 + 1, by omega, rfl, rfl, rfl, rfl, rfl, hb3S, hb4S, by rw [hR]; exact hbS, hx0S⟩, ?_⟩
        show t.line.length - (((0 : Nat) : Int) + 1).toNat < t.line.length - ((0 : Nat) : Int).toNat
        omega
      · skip
        refine OW_callBs Try.func83 (by kernel_rfl) rfl (refNumber_any wq t.ten) rfl ?_
        intro w108 A4 c4 hf4
        have hxc := hf4.ext
        have hyw108 := hywq.trans' hxc
        have hb4n := hf4.bs
        first | refine OW_nil (goY_mkE hC (hyw108) ?_) | refine OW_nil (goY_dropE hC (hyw108) ?_)
        refine oy_Tok4 (k := ?_)
        refine OW_lit [] und_bytes info_u8 rfl rfl (by simp) (by decide) ?_
        intro w109 gE hbE hgE hxc
        have hyw109 := hyw108.trans' hxc
        have hoE : w109.ownsRow w6.heap.size 5 1 (.slice (some ⟨gE, 0, none⟩) 0 0) 0 [] := own_of_blk (by have := hyw108.size; omega) hbE rfl (Nat.le_refl _) (by decide) rfl
        replace hb4n := hb4n.ext hxc
        first | refine OW_nil (goY_mkE hC (hyw109) ?_) | refine OW_nil (goY_dropE hC (hyw109) ?_)
        refine oy_Tok4 (k := ?_)
        refine OW_apU (l := []) rfl rfl hoE hb4n (by rw [hp8]; decide) hyw109.size ?_
        intro w110 A5 c5 ho5 hT5 hbel5
        rw [List.nil_append] at ho5 ⊢
        rw [← hNum] at ho5 ⊢
        have hyw110 : Ext w6 w110 := hyw109.trans hbel5
        first | refine OW_nil (goY_mkE hC (hyw110) ?_) | refine OW_nil (goY_dropE hC (hyw110) ?_)
        refine oy_Tok4 (k := ?_)
        refine OW_callBs Try.func82 (by kernel_rfl) rfl (refGrant_any w110 gk) rfl ?_
        intro w111 A9 c9 hf9
        have hxc := hf9.ext
        have hyw111 := hyw110.trans' hxc
        have hB9 := hf9.bs
        replace ho5 := own_ext ho5 hxc
        first | refine OW_nil (goY_mkE hC (hyw111) ?_) | refine OW_nil (goY_dropE hC (hyw111) ?_)
        refine oy_Tok4 (k := ?_)
        refine OW_apU rfl rfl ho5 hB9 (by rw [hl8, grantB_len]; decide) hyw111.size ?_
        intro w112 A10 c10 ho10 hT10 hbel10
        have hyw112 : Ext w6 w112 := hyw111.trans hbel10
        first | refine OW_nil (goY_mkE hC (hyw112) ?_) | refine OW_nil (goY_dropE hC (hyw112) ?_)
        refine oy_Tok4 (k := ?_)
        refine OW_callV Try.func81 (by kernel_rfl) rfl (refHSum_any w112 A A10 cA c10 key (numsB [t.ten] ++ grantB gk) (ha.ext (hx06.trans' hyw112)) (by omega) (own_rd ho10) (by rw [List.length_append, hl8, grantB_len]; decide)) rfl ?_
        intro w113 hxc
        have hyw113 := hyw112.trans' hxc
        rw [← hs0 rfl]
        first | refine OW_nil (goY_mkE hC (hyw113) ?_) | refine OW_nil (goY_dropE hC (hyw113) ?_)
        refine oy_Tok4 (k := ?_)
        have hXl : R.length = 32 := by rw [← hR]; exact tagL_len _ _ _
        refine OW_storeA s_agg_Tag rfl (R.map bv) rfl (by rw [List.length_map, hXl]) (hbT.ext hyw113) (by rw [List.size_toArray, List.length_map, ho32]) (bv_one _) ?_
        intro w114 hbS hgS
        have hkS := Keeps.of_only hgS (S := (· = gT)) rfl
        have hx0S : Ext w w114 := hkS.ext (hx06.trans' hyw113) (fun j hj => by have hj : j = gT := hj; omega)
        have hb3S := (hb3.ext hyw113).keeps hkS (by omega)
        have hb4S := (hb4.ext hyw113).keeps hkS (by omega)
        refine OW_nil (goY_drop (fun v => v = w114) rfl ?_)
        refine oy_Tok4 (k := ?_)
        have hyw114 := hx0S
        refine go_Tok4 (k := ?_)
        refine ⟨⟨0 + 1, by omega, rfl, rfl, rfl, rfl, rfl, hb3S, hb4S, by rw [hR]; exact hbS, hx0S⟩, ?_⟩
        show t.line.length - (((0 : Nat) : Int) + 1).toNat < t.line.length - ((0 : Nat) : Int).toNat
        omega
    · have hk0 : k ≠ 0 := by
        intro h
        subst h
        exact absurd hh (by decide)
      clear hh
      have hsn := hsn hk0
      refine go_Tok4 (k := ?_)
      obtain ⟨C, hC⟩ : ∃ C : World → Prop, C = fun v => Ext w6 v := ⟨_, rfl⟩
      have y3 := blkE hC hb3
      have yG : ∀ v, C v → AtM v (ad.add (k * 3)) (gcells gk) 3 := by rw [hC]; exact fun v hv => hgk.ext hv
      refine CW_tree2 [4, 7] (.p 1 (.p 3 (.q 4 (.p 5 (.p 6 (.q 7 (.a 0 (.a 2 (.d 8 (.d 9 (.d 10 .done))))))))))) (C) (by kernel_rfl) (by kernel_rfl) (by kernel_rfl) ?_ ?_
      · exact inE hC
      intro wq hywq h_C
      refine oy_Tok4 (k := ?_)
      refine OW_lit [] und_bytes info_u8 rfl rfl (by simp) (by decide) ?_
      intro w301 gE hbE hgE hxc
      have hyw301 := hywq.trans' hxc
      have hoE : w301.ownsRow w6.heap.size 5 1 (.slice (some ⟨gE, 0, none⟩) 0 0) 0 [] := own_of_blk (by have := hywq.size; omega) hbE rfl (Nat.le_refl _) (by decide) rfl
      first | refine OW_nil (goY_mkE hC (hyw301) ?_) | refine OW_nil (goY_dropE hC (hyw301) ?_)
      refine oy_Tok4 (k := ?_)
      refine OW_apU (l := []) rfl (l' := o) (by rw [ho32]; rfl) hoE (bs_row (hbT.ext hyw301)) (by rw [ho32]; decide) hyw301.size ?_
      intro w302 A5 c5 ho5 hT5 hbel5
      rw [List.nil_append] at ho5 ⊢
      have hyw302 : Ext w6 w302 := hyw301.trans hbel5
      first | refine OW_nil (goY_mkE hC (hyw302) ?_) | refine OW_nil (goY_dropE hC (hyw302) ?_)
      refine oy_Tok4 (k := ?_)
      refine OW_callBs Try.func82 (by kernel_rfl) rfl (refGrant_any w302 gk) rfl ?_
      intro w303 A9 c9 hf9
      have hxc := hf9.ext
      have hyw303 := hyw302.trans' hxc
      have hB9 := hf9.bs
      replace ho5 := own_ext ho5 hxc
      first | refine OW_nil (goY_mkE hC (hyw303) ?_) | refine OW_nil (goY_dropE hC (hyw303) ?_)
      refine oy_Tok4 (k := ?_)
      refine OW_callV Try.func81 (by kernel_rfl) rfl (refHSum_any w303 A5 A9 c5 c9 o (grantB gk) (own_rd ho5) (by omega) hB9 (by rw [grantB_len]; decide)) rfl ?_
      intro w304 hxc
      have hyw304 := hyw303.trans' hxc
      rw [show hmacL o (grantB gk) = R from hsn.symm]
      first | refine OW_nil (goY_mkE hC (hyw304) ?_) | refine OW_nil (goY_dropE hC (hyw304) ?_)
      refine oy_Tok4 (k := ?_)
      have hXl : R.length = 32 := by rw [← hR]; exact tagL_len _ _ _
      refine OW_storeA s_agg_Tag rfl (R.map bv) rfl (by rw [List.length_map, hXl]) (hbT.ext hyw304) (by rw [List.size_toArray, List.length_map, ho32]) (bv_one _) ?_
      intro w305 hbS hgS
      have hkS := Keeps.of_only hgS (S := (· = gT)) rfl
      have hx0S : Ext w w305 := hkS.ext (hx06.trans' hyw304) (fun j hj => by have hj : j = gT := hj; omega)
      have hb3S := (hb3.ext hyw304).keeps hkS (by omega)
      have hb4S := (hb4.ext hyw304).keeps hkS (by omega)
      refine OW_nil (goY_drop (fun v => v = w305) rfl ?_)
      refine oy_Tok4 (k := ?_)
      have hyw305 := hx0S
      refine go_Tok4 (k := ?_)
      refine ⟨⟨k + 1, by omega, rfl, rfl, rfl, rfl, rfl, hb3S, hb4S, by rw [hR]; exact hbS, hx0S⟩, ?_⟩
      show t.line.length - ((k : Int) + 1).toNat < t.line.length - (k : Int).toNat
      omega
  · have hge : k = t.line.length := by have := of_decide_eq_false hh; omega
    rw [hge, List.take_length] at hbT
    have hX := tagL_len key t.ten t.line
    generalize tagL key t.ten t.line = X2 at *
    clear hh
    refine go_Tok4 (k := ?_)
    refine OW_loadX s_agg_Tag rfl (X2.map bv) (by rw [List.length_map, hX]) hbT.atL ?_
    refine go_Tok4 (k := ?_)
    refine OW_storeA s_agg_Tag rfl (X2.map bv) rfl (by rw [List.length_map, hX]) hb4 rfl (bv_one _) ?_
    intro w7 hb7 hg7
    have hx07 : Ext w w7 := (Keeps.of_only hg7 (S := (· = g4)) rfl).ext hx06 (fun j hj => by have hj : j = g4 := hj; omega)
    refine go_Tok4 (k := ?_)
    exact bodyE_retc rfl s_agg_Tag rfl (X2.map bv) (by rw [List.length_map, hX]) (Blk.range hb7) ⟨rfl, hx07⟩
set_option maxHeartbeats 8000000 in
theorem tokMint_any (w : World) (A : Option Addr) (cA : Nat) (key : List UInt8) (ten : Int) (g : GD) (ha : Bs w A key) (hca : key.length ≤ cA) (hla : key.length ≤ 80000) : Calls Try.prog 29 #[.slice A key.length cA, .int .i64 ten, .agg (gcells g).toArray] w (TRet w (mintT key ten g)) := by
  refine calls_of_CW Try.func29 rfl (by simp [Try.ntmps29]) ?_
  rw [Try.ntmps29]
  refine go_Tok4 (k := ?_)
  refine OW_box _ rfl ?_
  intro w1 g5 hb5 hg5 hlt5 hx1
  have hb5 : Blk w1 g5 49 (gcells g).toArray := hb5
  refine go_Tok4 (k := ?_)
  refine OW_allocA agg_Token ?_
  intro w2 g6 hb6 hg6 hlt6 hx2
  have hx02 := hx1.trans' hx2
  replace hb5 := hb5.ext hx2
  refine go_Tok4 (k := ?_)
  refine OW_loadX agg_Grant rfl (gcells g) rfl hb5.atL ?_
  refine go_Tok4 (k := ?_)
  refine OW_litM [gcells g] und_Grants agg_Grant rfl rfl (by intro v hv; rw [List.mem_singleton] at hv; subst hv; rfl) (by decide) ?_
  intro w3 g3 hb3 hg3 hlt3 hx3
  have hb3 : Blk w3 g3 49 (gcells g).toArray := by simpa using hb3
  have hx03 := hx02.trans' hx3
  replace hb6 := hb6.ext hx3
  refine go_Tok4 (k := ?_)
  refine OW_build _ _ (bld_T2 ten (some ⟨g3, 0, none⟩) 1 1 [g]) rfl ?_
  refine go_Tok4 (k := ?_)
  refine OW_allocA agg_Token ?_
  intro w4 g8 hb8 hg8 hlt8 hx4
  replace hb6 := hb6.ext hx4
  refine go_Tok4 (k := ?_)
  refine OW_storeA agg_Token rfl (tcells ⟨ten, [g], tzS⟩ (.slice (some ⟨g3, 0, none⟩) 1 1)) rfl rfl hb8 (by kernel_rfl) (tcells_one _ _ _ _) ?_
  intro w5 hb8 hgr5
  have hb8 : Blk w5 g8 45 (tcells ⟨ten, [g], tzS⟩ (.slice (some ⟨g3, 0, none⟩) 1 1)).toArray := hb8
  have hx35 : Ext w3 w5 := (Keeps.of_only hgr5 (S := (· = g8)) rfl).ext hx4 (fun j hj => by have hj : j = g8 := hj; omega)
  replace hb6 := hb6.keeps (Keeps.of_only hgr5 (S := (· = g8)) rfl) (by omega)
  have hx05 := hx03.trans' hx35
  have hoG : GOwn w5 w.heap.size (some ⟨g3, 0, none⟩) 1 [g] := GOwn.ext (w := w3) (ownN_of_blk (by have := hx02.size; omega) hb3 rfl (Nat.le_refl _) (by decide) (by simp; rfl)) hx35
  clear hgr5 hb3
  refine go_Tok4 (k := ?_)
  refine OW_loadX agg_Token rfl (tcells ⟨ten, [g], tzS⟩ (.slice (some ⟨g3, 0, none⟩) 1 1)) rfl hb8.atL ?_
  refine go_Tok4 (k := ?_)
  refine OW_callV Try.func75 (by kernel_rfl) rfl (tMay_any w5 ⟨ten, [g], tzS⟩ (some ⟨g3, 0, none⟩) 1 hoG.rd (by show 1 ≤ 1000000; decide)) rfl ?_
  intro w6 hx6
  replace hb6 := hb6.ext hx6
  replace hb8 := hb8.ext hx6
  replace hoG := hoG.ext hx6
  have hx06 := hx05.trans' hx6
  cases hm : mayT ⟨ten, [g], tzS⟩ with
  | false =>
    have hmt : mintT key ten g = (t0, 2) := by unfold mintT; rw [hm]; rfl
    rw [hmt]
    refine go_Tok4 (k := ?_)
    refine OW_build _ _ bld_T0 rfl ?_
    refine go_Tok4 (k := ?_)
    refine OW_storeA agg_Token rfl (tcells t0 (.slice none 0 0)) rfl rfl hb6 (by kernel_rfl) (tcells_one _ _ _ _) ?_
    intro w7 hb7 hgr7
    have hx07 : Ext w w7 := (Keeps.of_only hgr7 (S := (· = g6)) rfl).ext hx06 (fun j hj => by have hj : j = g6 := hj; have := hx1.size; omega)
    refine go_Tok4 (k := ?_)
    exact bodyE_retc2 rfl agg_Token rfl (tcells t0 (.slice none 0 0)) (.int .i64 2) rfl rfl (Blk.range hb7) ⟨none, 0, rfl, GOwn.zero _ _, hx07⟩
  | true =>
    have hmt : mintT key ten g = (⟨ten, [g], tagL key ten [g]⟩, 0) := by unfold mintT; rw [hm]; rfl
    rw [hmt]
    refine go_Tok4 (k := ?_)
    refine OW_loadX agg_Token rfl (tcells ⟨ten, [g], tzS⟩ (.slice (some ⟨g3, 0, none⟩) 1 1)) rfl hb8.atL ?_
    refine go_Tok4 (k := ?_)
    refine OW_callV Try.func76 (by kernel_rfl) rfl (tokTag_any w6 A (some ⟨g3, 0, none⟩) cA 1 key ⟨ten, [g], tzS⟩ (ha.ext hx06) hca (by omega) hoG.rd (Nat.le_refl _) (Nat.le_refl _) (by show 1 ≤ 1000000; decide) rfl) rfl ?_
    intro w7 hx7
    have htl := tagL_len key ten [g]
    replace hb6 := hb6.ext hx7
    replace hb8 := hb8.ext hx7
    replace hoG := hoG.ext hx7
    have hx07 := hx06.trans' hx7
    generalize tagL key ten [g] = X at *
    refine go_Tok4 (k := ?_)
    refine OW_storeM s_agg_Tag rfl (X.map bv) rfl (by rw [List.length_map, htl]) hb8 (by rw [tcells_length rfl]; decide) (bv_one _) ?_
    intro w8 hb9 hgr8
    rw [set_tag _ _ _ rfl] at hb9
    have hb9 : Blk w8 g8 45 (tcells ⟨ten, [g], X⟩ (.slice (some ⟨g3, 0, none⟩) 1 1)).toArray := hb9
    have hk8 := Keeps.of_only hgr8 (S := (· = g8)) rfl
    have hx08 : Ext w w8 := hk8.ext hx07 (fun j hj => by have hj : j = g8 := hj; have := hx03.size; omega)
    replace hb6 := hb6.keeps hk8 (by omega)
    replace hoG : GOwn w8 w.heap.size (some ⟨g3, 0, none⟩) 1 [g] := ownN_keeps hoG hk8 (fun ad h => by cases h; show ¬ g3 = g8; omega)
    refine go_Tok4 (k := ?_)
    refine OW_loadX agg_Token rfl (tcells ⟨ten, [g], X⟩ (.slice (some ⟨g3, 0, none⟩) 1 1)) (tcells_length htl _) hb9.atL ?_
    refine go_Tok4 (k := ?_)
    refine OW_storeA agg_Token rfl (tcells ⟨ten, [g], X⟩ (.slice (some ⟨g3, 0, none⟩) 1 1)) rfl (tcells_length htl _) hb6 (by kernel_rfl) (tcells_one _ _ _ _) ?_
    intro w9 hbR hgr9
    have hk9 := Keeps.of_only hgr9 (S := (· = g6)) rfl
    have hx09 : Ext w w9 := hk9.ext hx08 (fun j hj => by have hj : j = g6 := hj; have := hx1.size; omega)
    replace hoG : GOwn w9 w.heap.size (some ⟨g3, 0, none⟩) 1 [g] := ownN_keeps hoG hk9 (fun ad h => by cases h; show ¬ g3 = g6; omega)
    refine go_Tok4 (k := ?_)
    exact bodyE_retc2 rfl agg_Token rfl (tcells ⟨ten, [g], X⟩ (.slice (some ⟨g3, 0, none⟩) 1 1)) (.int .i64 0) rfl (tcells_length htl _) (Blk.range hbR) ⟨some ⟨g3, 0, none⟩, 1, rfl, hoG, hx09⟩
set_option maxHeartbeats 8000000 in
theorem refMint_any (w : World) (A : Option Addr) (cA : Nat) (key : List UInt8) (ten : Int) (g : GD) (ha : Bs w A key) (hca : key.length ≤ cA) (hla : key.length ≤ 80000) : Calls Try.prog 30 #[.slice A key.length cA, .int .i64 ten, .agg (gcells g).toArray] w (TRet w (mintT key ten g)) := by
  refine calls_of_CW Try.func30 rfl (by simp [Try.ntmps30]) ?_
  rw [Try.ntmps30]
  refine go_Tok4 (k := ?_)
  refine OW_box _ rfl ?_
  intro w1 g5 hb5 hg5 hlt5 hx1
  have hb5 : Blk w1 g5 49 (gcells g).toArray := hb5
  refine go_Tok4 (k := ?_)
  refine OW_allocA agg_Token ?_
  intro w2 g6 hb6 hg6 hlt6 hx2
  have hx02 := hx1.trans' hx2
  replace hb5 := hb5.ext hx2
  refine go_Tok4 (k := ?_)
  refine OW_loadX agg_Grant rfl (gcells g) rfl hb5.atL ?_
  refine go_Tok4 (k := ?_)
  refine OW_litM [gcells g] und_Grants agg_Grant rfl rfl (by intro v hv; rw [List.mem_singleton] at hv; subst hv; rfl) (by decide) ?_
  intro w3 g3 hb3 hg3 hlt3 hx3
  have hb3 : Blk w3 g3 49 (gcells g).toArray := by simpa using hb3
  have hx03 := hx02.trans' hx3
  replace hb6 := hb6.ext hx3
  refine go_Tok4 (k := ?_)
  refine OW_build _ _ (bld_T2 ten (some ⟨g3, 0, none⟩) 1 1 [g]) rfl ?_
  refine go_Tok4 (k := ?_)
  refine OW_allocA agg_Token ?_
  intro w4 g8 hb8 hg8 hlt8 hx4
  replace hb6 := hb6.ext hx4
  refine go_Tok4 (k := ?_)
  refine OW_storeA agg_Token rfl (tcells ⟨ten, [g], tzS⟩ (.slice (some ⟨g3, 0, none⟩) 1 1)) rfl rfl hb8 (by kernel_rfl) (tcells_one _ _ _ _) ?_
  intro w5 hb8 hgr5
  have hb8 : Blk w5 g8 45 (tcells ⟨ten, [g], tzS⟩ (.slice (some ⟨g3, 0, none⟩) 1 1)).toArray := hb8
  have hx35 : Ext w3 w5 := (Keeps.of_only hgr5 (S := (· = g8)) rfl).ext hx4 (fun j hj => by have hj : j = g8 := hj; omega)
  replace hb6 := hb6.keeps (Keeps.of_only hgr5 (S := (· = g8)) rfl) (by omega)
  have hx05 := hx03.trans' hx35
  have hoG : GOwn w5 w.heap.size (some ⟨g3, 0, none⟩) 1 [g] := GOwn.ext (w := w3) (ownN_of_blk (by have := hx02.size; omega) hb3 rfl (Nat.le_refl _) (by decide) (by simp; rfl)) hx35
  clear hgr5 hb3
  refine go_Tok4 (k := ?_)
  refine OW_loadX agg_Token rfl (tcells ⟨ten, [g], tzS⟩ (.slice (some ⟨g3, 0, none⟩) 1 1)) rfl hb8.atL ?_
  refine go_Tok4 (k := ?_)
  refine OW_callV Try.func77 (by kernel_rfl) rfl (ref9May_any w5 ⟨ten, [g], tzS⟩ (some ⟨g3, 0, none⟩) 1 hoG.rd (by show 1 ≤ 1000000; decide)) rfl ?_
  intro w6 hx6
  replace hb6 := hb6.ext hx6
  replace hb8 := hb8.ext hx6
  replace hoG := hoG.ext hx6
  have hx06 := hx05.trans' hx6
  cases hm : mayT ⟨ten, [g], tzS⟩ with
  | false =>
    have hmt : mintT key ten g = (t0, 2) := by unfold mintT; rw [hm]; rfl
    rw [hmt]
    refine go_Tok4 (k := ?_)
    refine OW_build _ _ bld_T0 rfl ?_
    refine go_Tok4 (k := ?_)
    refine OW_storeA agg_Token rfl (tcells t0 (.slice none 0 0)) rfl rfl hb6 (by kernel_rfl) (tcells_one _ _ _ _) ?_
    intro w7 hb7 hgr7
    have hx07 : Ext w w7 := (Keeps.of_only hgr7 (S := (· = g6)) rfl).ext hx06 (fun j hj => by have hj : j = g6 := hj; have := hx1.size; omega)
    refine go_Tok4 (k := ?_)
    exact bodyE_retc2 rfl agg_Token rfl (tcells t0 (.slice none 0 0)) (.int .i64 2) rfl rfl (Blk.range hb7) ⟨none, 0, rfl, GOwn.zero _ _, hx07⟩
  | true =>
    have hmt : mintT key ten g = (⟨ten, [g], tagL key ten [g]⟩, 0) := by unfold mintT; rw [hm]; rfl
    rw [hmt]
    refine go_Tok4 (k := ?_)
    refine OW_loadX agg_Token rfl (tcells ⟨ten, [g], tzS⟩ (.slice (some ⟨g3, 0, none⟩) 1 1)) rfl hb8.atL ?_
    refine go_Tok4 (k := ?_)
    refine OW_callV Try.func36 (by kernel_rfl) rfl (refTag_any w6 A (some ⟨g3, 0, none⟩) cA 1 key ⟨ten, [g], tzS⟩ (ha.ext hx06) hca (by omega) hoG.rd (Nat.le_refl _) (Nat.le_refl _) (by show 1 ≤ 1000000; decide) rfl) rfl ?_
    intro w7 hx7
    have htl := tagL_len key ten [g]
    replace hb6 := hb6.ext hx7
    replace hb8 := hb8.ext hx7
    replace hoG := hoG.ext hx7
    have hx07 := hx06.trans' hx7
    generalize tagL key ten [g] = X at *
    refine go_Tok4 (k := ?_)
    refine OW_storeM s_agg_Tag rfl (X.map bv) rfl (by rw [List.length_map, htl]) hb8 (by rw [tcells_length rfl]; decide) (bv_one _) ?_
    intro w8 hb9 hgr8
    rw [set_tag _ _ _ rfl] at hb9
    have hb9 : Blk w8 g8 45 (tcells ⟨ten, [g], X⟩ (.slice (some ⟨g3, 0, none⟩) 1 1)).toArray := hb9
    have hk8 := Keeps.of_only hgr8 (S := (· = g8)) rfl
    have hx08 : Ext w w8 := hk8.ext hx07 (fun j hj => by have hj : j = g8 := hj; have := hx03.size; omega)
    replace hb6 := hb6.keeps hk8 (by omega)
    replace hoG : GOwn w8 w.heap.size (some ⟨g3, 0, none⟩) 1 [g] := ownN_keeps hoG hk8 (fun ad h => by cases h; show ¬ g3 = g8; omega)
    refine go_Tok4 (k := ?_)
    refine OW_loadX agg_Token rfl (tcells ⟨ten, [g], X⟩ (.slice (some ⟨g3, 0, none⟩) 1 1)) (tcells_length htl _) hb9.atL ?_
    refine go_Tok4 (k := ?_)
    refine OW_storeA agg_Token rfl (tcells ⟨ten, [g], X⟩ (.slice (some ⟨g3, 0, none⟩) 1 1)) rfl (tcells_length htl _) hb6 (by kernel_rfl) (tcells_one _ _ _ _) ?_
    intro w9 hbR hgr9
    have hk9 := Keeps.of_only hgr9 (S := (· = g6)) rfl
    have hx09 : Ext w w9 := hk9.ext hx08 (fun j hj => by have hj : j = g6 := hj; have := hx1.size; omega)
    replace hoG : GOwn w9 w.heap.size (some ⟨g3, 0, none⟩) 1 [g] := ownN_keeps hoG hk9 (fun ad h => by cases h; show ¬ g3 = g6; omega)
    refine go_Tok4 (k := ?_)
    exact bodyE_retc2 rfl agg_Token rfl (tcells ⟨ten, [g], X⟩ (.slice (some ⟨g3, 0, none⟩) 1 1)) (.int .i64 0) rfl (tcells_length htl _) (Blk.range hbR) ⟨some ⟨g3, 0, none⟩, 1, rfl, hoG, hx09⟩
end Go.Proofs.Ytdpcahfgdpikfaa
