/- Several texts in one, as they stand in wip/src. -/
import Derived.Test.YtdpcahfgdpikfaaGt12
import Derived.Test.YtdpcahfgdpikfaaGt19
/- Walks: a token's tag, by the program. -/
namespace Go.Proofs.Ytdpcahfgdpikfaa
open Go Go.RowKit Go.ChangeShapes Go.WideShapes
set_option linter.unusedVariables false
set_option maxRecDepth 4000
theorem go_Tok3 {A B : Prop} (h : Held B → A := by
  intro hEnd
  repeat (first | (refine OW_isLoad ?_; refine OW_loadM (by first | with_reducible exact agg_Grant | with_reducible exact s_agg_Tag) rfl (by first | assumption | (apply_assumption; assumption)) ?_) | refine OW_idxN und_Grants el_Grant rfl rfl 0 rfl (by omega) ?_ | refine OW_sliceP h_slp_Tag rfl ?_ | refine OW_fieldB fldo_G0 rfl ?_ | refine OW_fieldB fldo_G1 rfl ?_ | refine OW_fieldB fldo_G2 rfl ?_ | refine OW_fieldB fldo_T0 rfl ?_ | refine OW_fieldB fldo_T1 rfl ?_ | refine OW_fieldB fldo_T2 rfl ?_ | refine OW_lenS und_Grants rfl ?_ | refine OW_idxN und_Grants el_Grant rfl rfl _ rfl (by omega) ?_ | refine OW_moveV (.int _ _) rfl ?_ | refine OW_moveV (.slice _ _ _) rfl ?_ | refine OW_moveV (.bool _) rfl ?_ | refine OW_moveV (.pointer _) rfl ?_ | refine OW_moveV (.string _) rfl ?_ | refine OW_moveV (.agg _) rfl ?_ | refine OW_moveV (.tuple _) rfl ?_ | refine OW_nil ?_ | refine thenE_normal ?_ | refine CW_seq ?_ | refine CW_region (by kernel_rfl) ?_ | refine OW_assignV (.int _ _) rfl ?_ | refine OW_assignV (.slice _ _ _) rfl ?_ | refine OW_assignV (.bool _) rfl ?_ | refine OW_assignV (.pointer _) rfl ?_ | refine OW_assignV (.string _) rfl ?_ | refine OW_assignV (.agg _) rfl ?_ | refine OW_assignV (.tuple _) rfl ?_ | refine OW_addI rfl rfl (by omega) ?_ | refine OW_subI rfl rfl (by omega) ?_ | refine OW_mulI rfl rfl (by omega) ?_ | refine OW_lss rfl rfl ?_ | refine OW_extract rfl rfl ?_ | refine OW_gtr rfl rfl ?_ | refine OW_leq rfl rfl ?_ | refine OW_geq rfl rfl ?_ | refine OW_eql rfl rfl ?_ | refine OW_neq rfl rfl ?_ | refine OW_not rfl ?_ | refine OW_pickT rfl _ rfl ?_ | refine OW_pickF rfl (.bool _) rfl ?_ | refine OW_pickB rfl rfl rfl ?_ | refine OW_move ?_ | refine OW_assign ?_ | refine OW_pass rfl ?_ | refine OW_take rfl ?_ | refine OW_lenS (by first | with_reducible exact und_bytes | with_reducible exact und_bytess) rfl ?_ | refine OW_convInt (by first | with_reducible exact und_u8 | with_reducible exact und_u64 | with_reducible exact und_int | with_reducible exact und_u32) (by first | with_reducible exact und_u8 | with_reducible exact und_u64 | with_reducible exact und_int | with_reducible exact und_u32) rfl ?_ | refine OW_add rfl rfl ?_ | refine OW_sub rfl rfl ?_ | refine OW_mul rfl rfl ?_ | refine OW_min2 rfl rfl ?_ | refine OW_max2 rfl rfl ?_ | refine OW_neg rfl ?_ | refine CW_block ?_ | refine CW_condT rfl ?_ | refine CW_condF rfl ?_ | refine CW_exit ?_ | refine CW_ret ?_ | refine CW_skip ?_ | refine LW_seq ?_ | refine LW_regC ?_ | refine LW_condC ?_ | refine LW_regF ?_ | refine LW_condF ?_ | refine FW_seq ?_ | refine FW_region (by kernel_rfl) ?_ | refine FW_block ?_ | refine FW_condT rfl ?_ | refine FW_condF rfl ?_ | refine FW_exit ?_ | refine FW_ret ?_ | refine FW_skip ?_ | refine LW_ret ?_ | refine LW_skip ?_ | refine thenE_exit ?_ | refine thenE_ret ?_ | refine inBlockE_normal ?_ | refine inBlockE_same ?_ | refine inBlockE_ret ?_ | refine inBlockE_ne (by rfl) ?_ | refine OW_eqlB (by with_reducible exact und_bool) rfl rfl ?_ | refine OW_neqB (by with_reducible exact und_bool) rfl rfl ?_ | refine OW_idxS (by with_reducible exact und_bytes) one_u8 rfl rfl _ rfl (by omega) ?_ | refine OW_idxS (by with_reducible exact und_bytess) one_bytes rfl rfl _ rfl (by omega) ?_ | refine OW_load1 (by first | with_reducible exact one_u8 | with_reducible exact one_bytes) rfl _ (by assumption) ?_ | (refine OW_isLoad ?_; refine OW_loadBk (by first | with_reducible exact s_int | with_reducible exact one_u8 | with_reducible exact one_grants) rfl (by assumption) _ (by rfl) ?_) | refine OW_load1 s_int rfl _ (by assumption) ?_)
  exact hEnd.out) (k : B) : A := h ⟨k⟩
theorem oy_Tok3 {A B : Prop} (h : Held B → A := by
  intro hEnd
  repeat (first
    | refine OY_done ?_
    | (apply OY_p _ rfl
       · intro wd
         (first | (refine OW_isLoad ?_; refine OW_loadM (by first | with_reducible exact agg_Grant | with_reducible exact s_agg_Tag) rfl (by first | assumption | (apply_assumption; assumption)) ?_) | refine OW_idxN und_Grants el_Grant rfl rfl 0 rfl (by omega) ?_ | refine OW_sliceP h_slp_Tag rfl ?_ | refine OW_fieldB fldo_G0 rfl ?_ | refine OW_fieldB fldo_G1 rfl ?_ | refine OW_fieldB fldo_G2 rfl ?_ | refine OW_fieldB fldo_T0 rfl ?_ | refine OW_fieldB fldo_T1 rfl ?_ | refine OW_fieldB fldo_T2 rfl ?_ | refine OW_lenS und_Grants rfl ?_ | refine OW_idxN und_Grants el_Grant rfl rfl _ rfl (by omega) ?_ | refine OW_moveV (.int _ _) rfl ?_ | refine OW_moveV (.slice _ _ _) rfl ?_ | refine OW_moveV (.bool _) rfl ?_ | refine OW_moveV (.pointer _) rfl ?_ | refine OW_moveV (.string _) rfl ?_ | refine OW_moveV (.agg _) rfl ?_ | refine OW_moveV (.tuple _) rfl ?_ | refine OW_nil ?_ | refine thenE_normal ?_ | refine CW_seq ?_ | refine CW_region (by kernel_rfl) ?_ | refine OW_assignV (.int _ _) rfl ?_ | refine OW_assignV (.slice _ _ _) rfl ?_ | refine OW_assignV (.bool _) rfl ?_ | refine OW_assignV (.pointer _) rfl ?_ | refine OW_assignV (.string _) rfl ?_ | refine OW_assignV (.agg _) rfl ?_ | refine OW_assignV (.tuple _) rfl ?_ | refine OW_addI rfl rfl (by omega) ?_ | refine OW_subI rfl rfl (by omega) ?_ | refine OW_mulI rfl rfl (by omega) ?_ | refine OW_lss rfl rfl ?_ | refine OW_extract rfl rfl ?_ | refine OW_gtr rfl rfl ?_ | refine OW_leq rfl rfl ?_ | refine OW_geq rfl rfl ?_ | refine OW_eql rfl rfl ?_ | refine OW_neq rfl rfl ?_ | refine OW_not rfl ?_ | refine OW_pickT rfl _ rfl ?_ | refine OW_pickF rfl (.bool _) rfl ?_ | refine OW_pickB rfl rfl rfl ?_ | refine OW_move ?_ | refine OW_assign ?_ | refine OW_pass rfl ?_ | refine OW_take rfl ?_ | refine OW_lenS (by first | with_reducible exact und_bytes | with_reducible exact und_bytess) rfl ?_ | refine OW_convInt (by first | with_reducible exact und_u8 | with_reducible exact und_u64 | with_reducible exact und_int | with_reducible exact und_u32) (by first | with_reducible exact und_u8 | with_reducible exact und_u64 | with_reducible exact und_int | with_reducible exact und_u32) rfl ?_ | refine OW_add rfl rfl ?_ | refine OW_sub rfl rfl ?_ | refine OW_mul rfl rfl ?_ | refine OW_min2 rfl rfl ?_ | refine OW_max2 rfl rfl ?_ | refine OW_neg rfl ?_ | refine CW_block ?_ | refine CW_condT rfl ?_ | refine CW_condF rfl ?_ | refine CW_exit ?_ | refine CW_ret ?_ | refine CW_skip ?_ | refine LW_seq ?_ | refine LW_regC ?_ | refine LW_condC ?_ | refine LW_regF ?_ | refine LW_condF ?_ | refine FW_seq ?_ | refine FW_region (by kernel_rfl) ?_ | refine FW_block ?_ | refine FW_condT rfl ?_ | refine FW_condF rfl ?_ | refine FW_exit ?_ | refine FW_ret ?_ | refine FW_skip ?_ | refine LW_ret ?_ | refine LW_skip ?_ | refine thenE_exit ?_ | refine thenE_ret ?_ | refine inBlockE_normal ?_ | refine inBlockE_same ?_ | refine inBlockE_ret ?_ | refine inBlockE_ne (by rfl) ?_ | refine OW_eqlB (by with_reducible exact und_bool) rfl rfl ?_ | refine OW_neqB (by with_reducible exact und_bool) rfl rfl ?_ | refine OW_idxS (by with_reducible exact und_bytes) one_u8 rfl rfl _ rfl (by omega) ?_ | refine OW_idxS (by with_reducible exact und_bytess) one_bytes rfl rfl _ rfl (by omega) ?_ | refine OW_load1 (by first | with_reducible exact one_u8 | with_reducible exact one_bytes) rfl _ (by assumption) ?_ | (refine OW_isLoad ?_; refine OW_loadBk (by first | with_reducible exact s_int | with_reducible exact one_u8 | with_reducible exact one_grants) rfl (by assumption) _ (by rfl) ?_) | refine OW_load1 s_int rfl _ (by assumption) ?_)
         refine OW_nil ?_
         exact stay_mk _ _ _ _)
    | (apply OY_q _ rfl
       · intro wd hwd
         (first | (refine OW_isLoad ?_; refine OW_loadM (by first | with_reducible exact agg_Grant | with_reducible exact s_agg_Tag) rfl (by first | assumption | (apply_assumption; assumption)) ?_) | refine OW_idxN und_Grants el_Grant rfl rfl 0 rfl (by omega) ?_ | refine OW_sliceP h_slp_Tag rfl ?_ | refine OW_fieldB fldo_G0 rfl ?_ | refine OW_fieldB fldo_G1 rfl ?_ | refine OW_fieldB fldo_G2 rfl ?_ | refine OW_fieldB fldo_T0 rfl ?_ | refine OW_fieldB fldo_T1 rfl ?_ | refine OW_fieldB fldo_T2 rfl ?_ | refine OW_lenS und_Grants rfl ?_ | refine OW_idxN und_Grants el_Grant rfl rfl _ rfl (by omega) ?_ | refine OW_moveV (.int _ _) rfl ?_ | refine OW_moveV (.slice _ _ _) rfl ?_ | refine OW_moveV (.bool _) rfl ?_ | refine OW_moveV (.pointer _) rfl ?_ | refine OW_moveV (.string _) rfl ?_ | refine OW_moveV (.agg _) rfl ?_ | refine OW_moveV (.tuple _) rfl ?_ | refine OW_nil ?_ | refine thenE_normal ?_ | refine CW_seq ?_ | refine CW_region (by kernel_rfl) ?_ | refine OW_assignV (.int _ _) rfl ?_ | refine OW_assignV (.slice _ _ _) rfl ?_ | refine OW_assignV (.bool _) rfl ?_ | refine OW_assignV (.pointer _) rfl ?_ | refine OW_assignV (.string _) rfl ?_ | refine OW_assignV (.agg _) rfl ?_ | refine OW_assignV (.tuple _) rfl ?_ | refine OW_addI rfl rfl (by omega) ?_ | refine OW_subI rfl rfl (by omega) ?_ | refine OW_mulI rfl rfl (by omega) ?_ | refine OW_lss rfl rfl ?_ | refine OW_extract rfl rfl ?_ | refine OW_gtr rfl rfl ?_ | refine OW_leq rfl rfl ?_ | refine OW_geq rfl rfl ?_ | refine OW_eql rfl rfl ?_ | refine OW_neq rfl rfl ?_ | refine OW_not rfl ?_ | refine OW_pickT rfl _ rfl ?_ | refine OW_pickF rfl (.bool _) rfl ?_ | refine OW_pickB rfl rfl rfl ?_ | refine OW_move ?_ | refine OW_assign ?_ | refine OW_pass rfl ?_ | refine OW_take rfl ?_ | refine OW_lenS (by first | with_reducible exact und_bytes | with_reducible exact und_bytess) rfl ?_ | refine OW_convInt (by first | with_reducible exact und_u8 | with_reducible exact und_u64 | with_reducible exact und_int | with_reducible exact und_u32) (by first | with_reducible exact und_u8 | with_reducible exact und_u64 | with_reducible exact und_int | with_reducible exact und_u32) rfl ?_ | refine OW_add rfl rfl ?_ | refine OW_sub rfl rfl ?_ | refine OW_mul rfl rfl ?_ | refine OW_min2 rfl rfl ?_ | refine OW_max2 rfl rfl ?_ | refine OW_neg rfl ?_ | refine CW_block ?_ | refine CW_condT rfl ?_ | refine CW_condF rfl ?_ | refine CW_exit ?_ | refine CW_ret ?_ | refine CW_skip ?_ | refine LW_seq ?_ | refine LW_regC ?_ | refine LW_condC ?_ | refine LW_regF ?_ | refine LW_condF ?_ | refine FW_seq ?_ | refine FW_region (by kernel_rfl) ?_ | refine FW_block ?_ | refine FW_condT rfl ?_ | refine FW_condF rfl ?_ | refine FW_exit ?_ | refine FW_ret ?_ | refine FW_skip ?_ | refine LW_ret ?_ | refine LW_skip ?_ | refine thenE_exit ?_ | refine thenE_ret ?_ | refine inBlockE_normal ?_ | refine inBlockE_same ?_ | refine inBlockE_ret ?_ | refine inBlockE_ne (by rfl) ?_ | refine OW_eqlB (by with_reducible exact und_bool) rfl rfl ?_ | refine OW_neqB (by with_reducible exact und_bool) rfl rfl ?_ | refine OW_idxS (by with_reducible exact und_bytes) one_u8 rfl rfl _ rfl (by omega) ?_ | refine OW_idxS (by with_reducible exact und_bytess) one_bytes rfl rfl _ rfl (by omega) ?_ | refine OW_load1 (by first | with_reducible exact one_u8 | with_reducible exact one_bytes) rfl _ (by assumption) ?_ | (refine OW_isLoad ?_; refine OW_loadBk (by first | with_reducible exact s_int | with_reducible exact one_u8 | with_reducible exact one_grants) rfl (by assumption) _ (by rfl) ?_) | refine OW_load1 s_int rfl _ (by assumption) ?_ | (refine OW_isLoad ?_; refine OW_loadBk (by first | with_reducible exact one_u8 | with_reducible exact one_bytes | with_reducible exact one_bool | with_reducible exact one_int | with_reducible exact one_errno | with_reducible exact one_u32 | with_reducible exact one_u64 | with_reducible exact one_string | with_reducible exact s_int | with_reducible exact one_u8 | with_reducible exact one_grants) rfl (by apply_assumption; assumption) _ (by first | assumption | rfl) ?_) | refine OW_load1 (by first | with_reducible exact one_u8 | with_reducible exact one_bytes | with_reducible exact one_bool | with_reducible exact one_int | with_reducible exact one_errno | with_reducible exact one_u32 | with_reducible exact one_u64 | with_reducible exact one_string | with_reducible exact s_int | with_reducible exact one_u8 | with_reducible exact one_grants) rfl _ (by apply_assumption; assumption) ?_)
         refine OW_nil ?_
         exact stay_mk _ _ _ _)
    | refine OY_ppass rfl rfl ?_
    | refine OY_qpass rfl rfl ?_
    | (apply OY_ptake _ rfl rfl
       · intro wd
         (first | (refine OW_isLoad ?_; refine OW_loadM (by first | with_reducible exact agg_Grant | with_reducible exact s_agg_Tag) rfl (by first | assumption | (apply_assumption; assumption)) ?_) | refine OW_idxN und_Grants el_Grant rfl rfl 0 rfl (by omega) ?_ | refine OW_sliceP h_slp_Tag rfl ?_ | refine OW_fieldB fldo_G0 rfl ?_ | refine OW_fieldB fldo_G1 rfl ?_ | refine OW_fieldB fldo_G2 rfl ?_ | refine OW_fieldB fldo_T0 rfl ?_ | refine OW_fieldB fldo_T1 rfl ?_ | refine OW_fieldB fldo_T2 rfl ?_ | refine OW_lenS und_Grants rfl ?_ | refine OW_idxN und_Grants el_Grant rfl rfl _ rfl (by omega) ?_ | refine OW_moveV (.int _ _) rfl ?_ | refine OW_moveV (.slice _ _ _) rfl ?_ | refine OW_moveV (.bool _) rfl ?_ | refine OW_moveV (.pointer _) rfl ?_ | refine OW_moveV (.string _) rfl ?_ | refine OW_moveV (.agg _) rfl ?_ | refine OW_moveV (.tuple _) rfl ?_ | refine OW_nil ?_ | refine thenE_normal ?_ | refine CW_seq ?_ | refine CW_region (by kernel_rfl) ?_ | refine OW_assignV (.int _ _) rfl ?_ | refine OW_assignV (.slice _ _ _) rfl ?_ | refine OW_assignV (.bool _) rfl ?_ | refine OW_assignV (.pointer _) rfl ?_ | refine OW_assignV (.string _) rfl ?_ | refine OW_assignV (.agg _) rfl ?_ | refine OW_assignV (.tuple _) rfl ?_ | refine OW_addI rfl rfl (by omega) ?_ | refine OW_subI rfl rfl (by omega) ?_ | refine OW_mulI rfl rfl (by omega) ?_ | refine OW_lss rfl rfl ?_ | refine OW_extract rfl rfl ?_ | refine OW_gtr rfl rfl ?_ | refine OW_leq rfl rfl ?_ | refine OW_geq rfl rfl ?_ | refine OW_eql rfl rfl ?_ | refine OW_neq rfl rfl ?_ | refine OW_not rfl ?_ | refine OW_pickT rfl _ rfl ?_ | refine OW_pickF rfl (.bool _) rfl ?_ | refine OW_pickB rfl rfl rfl ?_ | refine OW_move ?_ | refine OW_assign ?_ | refine OW_pass rfl ?_ | refine OW_take rfl ?_ | refine OW_lenS (by first | with_reducible exact und_bytes | with_reducible exact und_bytess) rfl ?_ | refine OW_convInt (by first | with_reducible exact und_u8 | with_reducible exact und_u64 | with_reducible exact und_int | with_reducible exact und_u32) (by first | with_reducible exact und_u8 | with_reducible exact und_u64 | with_reducible exact und_int | with_reducible exact und_u32) rfl ?_ | refine OW_add rfl rfl ?_ | refine OW_sub rfl rfl ?_ | refine OW_mul rfl rfl ?_ | refine OW_min2 rfl rfl ?_ | refine OW_max2 rfl rfl ?_ | refine OW_neg rfl ?_ | refine CW_block ?_ | refine CW_condT rfl ?_ | refine CW_condF rfl ?_ | refine CW_exit ?_ | refine CW_ret ?_ | refine CW_skip ?_ | refine LW_seq ?_ | refine LW_regC ?_ | refine LW_condC ?_ | refine LW_regF ?_ | refine LW_condF ?_ | refine FW_seq ?_ | refine FW_region (by kernel_rfl) ?_ | refine FW_block ?_ | refine FW_condT rfl ?_ | refine FW_condF rfl ?_ | refine FW_exit ?_ | refine FW_ret ?_ | refine FW_skip ?_ | refine LW_ret ?_ | refine LW_skip ?_ | refine thenE_exit ?_ | refine thenE_ret ?_ | refine inBlockE_normal ?_ | refine inBlockE_same ?_ | refine inBlockE_ret ?_ | refine inBlockE_ne (by rfl) ?_ | refine OW_eqlB (by with_reducible exact und_bool) rfl rfl ?_ | refine OW_neqB (by with_reducible exact und_bool) rfl rfl ?_ | refine OW_idxS (by with_reducible exact und_bytes) one_u8 rfl rfl _ rfl (by omega) ?_ | refine OW_idxS (by with_reducible exact und_bytess) one_bytes rfl rfl _ rfl (by omega) ?_ | refine OW_load1 (by first | with_reducible exact one_u8 | with_reducible exact one_bytes) rfl _ (by assumption) ?_ | (refine OW_isLoad ?_; refine OW_loadBk (by first | with_reducible exact s_int | with_reducible exact one_u8 | with_reducible exact one_grants) rfl (by assumption) _ (by rfl) ?_) | refine OW_load1 s_int rfl _ (by assumption) ?_)
         refine OW_nil ?_
         exact stay_mk _ _ _ _)
    | (apply OY_qtake _ rfl rfl
       · intro wd hwd
         (first | (refine OW_isLoad ?_; refine OW_loadM (by first | with_reducible exact agg_Grant | with_reducible exact s_agg_Tag) rfl (by first | assumption | (apply_assumption; assumption)) ?_) | refine OW_idxN und_Grants el_Grant rfl rfl 0 rfl (by omega) ?_ | refine OW_sliceP h_slp_Tag rfl ?_ | refine OW_fieldB fldo_G0 rfl ?_ | refine OW_fieldB fldo_G1 rfl ?_ | refine OW_fieldB fldo_G2 rfl ?_ | refine OW_fieldB fldo_T0 rfl ?_ | refine OW_fieldB fldo_T1 rfl ?_ | refine OW_fieldB fldo_T2 rfl ?_ | refine OW_lenS und_Grants rfl ?_ | refine OW_idxN und_Grants el_Grant rfl rfl _ rfl (by omega) ?_ | refine OW_moveV (.int _ _) rfl ?_ | refine OW_moveV (.slice _ _ _) rfl ?_ | refine OW_moveV (.bool _) rfl ?_ | refine OW_moveV (.pointer _) rfl ?_ | refine OW_moveV (.string _) rfl ?_ | refine OW_moveV (.agg _) rfl ?_ | refine OW_moveV (.tuple _) rfl ?_ | refine OW_nil ?_ | refine thenE_normal ?_ | refine CW_seq ?_ | refine CW_region (by kernel_rfl) ?_ | refine OW_assignV (.int _ _) rfl ?_ | refine OW_assignV (.slice _ _ _) rfl ?_ | refine OW_assignV (.bool _) rfl ?_ | refine OW_assignV (.pointer _) rfl ?_ | refine OW_assignV (.string _) rfl ?_ | refine OW_assignV (.agg _) rfl ?_ | refine OW_assignV (.tuple _) rfl ?_ | refine OW_addI rfl rfl (by omega) ?_ | refine OW_subI rfl rfl (by omega) ?_ | refine OW_mulI rfl rfl (by omega) ?_ | refine OW_lss rfl rfl ?_ | refine OW_extract rfl rfl ?_ | refine OW_gtr rfl rfl ?_ | refine OW_leq rfl rfl ?_ | refine OW_geq rfl rfl ?_ | refine OW_eql rfl rfl ?_ | refine OW_neq rfl rfl ?_ | refine OW_not rfl ?_ | refine OW_pickT rfl _ rfl ?_ | refine OW_pickF rfl (.bool _) rfl ?_ | refine OW_pickB rfl rfl rfl ?_ | refine OW_move ?_ | refine OW_assign ?_ | refine OW_pass rfl ?_ | refine OW_take rfl ?_ | refine OW_lenS (by first | with_reducible exact und_bytes | with_reducible exact und_bytess) rfl ?_ | refine OW_convInt (by first | with_reducible exact und_u8 | with_reducible exact und_u64 | with_reducible exact und_int | with_reducible exact und_u32) (by first | with_reducible exact und_u8 | with_reducible exact und_u64 | with_reducible exact und_int | with_reducible exact und_u32) rfl ?_ | refine OW_add rfl rfl ?_ | refine OW_sub rfl rfl ?_ | refine OW_mul rfl rfl ?_ | refine OW_min2 rfl rfl ?_ | refine OW_max2 rfl rfl ?_ | refine OW_neg rfl ?_ | refine CW_block ?_ | refine CW_condT rfl ?_ | refine CW_condF rfl ?_ | refine CW_exit ?_ | refine CW_ret ?_ | refine CW_skip ?_ | refine LW_seq ?_ | refine LW_regC ?_ | refine LW_condC ?_ | refine LW_regF ?_ | refine LW_condF ?_ | refine FW_seq ?_ | refine FW_region (by kernel_rfl) ?_ | refine FW_block ?_ | refine FW_condT rfl ?_ | refine FW_condF rfl ?_ | refine FW_exit ?_ | refine FW_ret ?_ | refine FW_skip ?_ | refine LW_ret ?_ | refine LW_skip ?_ | refine thenE_exit ?_ | refine thenE_ret ?_ | refine inBlockE_normal ?_ | refine inBlockE_same ?_ | refine inBlockE_ret ?_ | refine inBlockE_ne (by rfl) ?_ | refine OW_eqlB (by with_reducible exact und_bool) rfl rfl ?_ | refine OW_neqB (by with_reducible exact und_bool) rfl rfl ?_ | refine OW_idxS (by with_reducible exact und_bytes) one_u8 rfl rfl _ rfl (by omega) ?_ | refine OW_idxS (by with_reducible exact und_bytess) one_bytes rfl rfl _ rfl (by omega) ?_ | refine OW_load1 (by first | with_reducible exact one_u8 | with_reducible exact one_bytes) rfl _ (by assumption) ?_ | (refine OW_isLoad ?_; refine OW_loadBk (by first | with_reducible exact s_int | with_reducible exact one_u8 | with_reducible exact one_grants) rfl (by assumption) _ (by rfl) ?_) | refine OW_load1 s_int rfl _ (by assumption) ?_ | (refine OW_isLoad ?_; refine OW_loadBk (by first | with_reducible exact one_u8 | with_reducible exact one_bytes | with_reducible exact one_bool | with_reducible exact one_int | with_reducible exact one_errno | with_reducible exact one_u32 | with_reducible exact one_u64 | with_reducible exact one_string | with_reducible exact s_int | with_reducible exact one_u8 | with_reducible exact one_grants) rfl (by apply_assumption; assumption) _ (by first | assumption | rfl) ?_) | refine OW_load1 (by first | with_reducible exact one_u8 | with_reducible exact one_bytes | with_reducible exact one_bool | with_reducible exact one_int | with_reducible exact one_errno | with_reducible exact one_u32 | with_reducible exact one_u64 | with_reducible exact one_string | with_reducible exact s_int | with_reducible exact one_u8 | with_reducible exact one_grants) rfl _ (by apply_assumption; assumption) ?_)
         refine OW_nil ?_
         exact stay_mk _ _ _ _)
    | refine OY_a (actY_of rfl ?_)
    | refine OY_d (actY_of rfl ?_)
    | refine OY_a (actY_pass rfl rfl ?_)
    | refine OY_d (actY_pass rfl rfl ?_)
    | refine OY_a (actY_take rfl rfl ?_)
    | refine OY_d (actY_take rfl rfl ?_))
  exact hEnd.out) (k : B) : A := h ⟨k⟩
set_option maxHeartbeats 8000000 in
theorem tokTag_any (w : World) (A B : Option Addr) (cA cB : Nat) (key : List UInt8) (t : TK) (ha : Bs w A key) (hca : key.length ≤ cA) (hla : key.length ≤ 100000) (hB : GRd w B t.line) (hcB : t.line.length ≤ cB) (hpos : 1 ≤ t.line.length) (hn : t.line.length ≤ 1000000) (htg : t.tag.length = 32) :
    Calls Try.prog 76 #[.slice A key.length cA, .agg (tcells t (.slice B t.line.length cB)).toArray] w (RetV w (.agg ((tagL key t.ten t.line).map bv).toArray)) := by
  have hl8 : (numsB [t.ten]).length = 8 := numsB_length _
  have htl := fun k => tagL_len key t.ten (t.line.take k)
  refine calls_of_CW Try.func76 rfl (by simp [Try.ntmps76]) ?_
  rw [Try.ntmps76]
  refine go_Tok3 (k := ?_)
  refine OW_box _ rfl ?_
  intro w1 g3 hb3 hg3 hlt3 hx1
  have hb3 : Blk w1 g3 45 (tcells t (.slice B t.line.length cB)).toArray := hb3
  refine go_Tok3 (k := ?_)
  refine OW_allocA s_agg_Tag ?_
  intro w3 g4 hb4 hg4 hlt4 hx3
  replace hb3 := hb3.ext hx3
  have hx03 := hx1.trans' hx3
  obtain ⟨ad0, hA0, hat0⟩ := (hB.ext hx03).at_ (i := 0) (by omega)
  have h1 : tagL key t.ten (t.line.take 1) = hmacL key (numsB [t.ten] ++ grantB t.line[0]) := by
    rw [List.take_succ_eq_append_getElem (by omega : 0 < t.line.length), List.take_zero]
    rfl
  generalize t.line[0] = g0 at *
  have hg0 := gAt hat0
  subst hA0
  obtain ⟨X, hX⟩ : ∃ X, hmacL key (numsB [t.ten] ++ grantB g0) = X := ⟨_, rfl⟩
  have hXl : X.length = 32 := by rw [← hX]; exact hmacL_length _ _
  rw [hX] at h1
  have hyw3 := Ext.rfl' w3
  refine go_Tok3 (k := ?_)
  refine CW_meet (fun e' w' => ∃ gT, e' 3 = .pointer (some ⟨g3, 0, none⟩) ∧ e' 4 = .pointer (some ⟨g4, 0, none⟩) ∧ e' 5 = .pointer (some ⟨gT, 0, none⟩) ∧ w3.heap.size ≤ gT ∧ Blk w' g3 45 (tcells t (.slice (some ad0) t.line.length cB)).toArray ∧ Blk w' g4 29 (tzS.map bv).toArray ∧ Blk w' gT 29 (X.map bv).toArray ∧ Ext w w') ?_ ?_
  · obtain ⟨C, hC⟩ : ∃ C : World → Prop, C = fun v => Ext w3 v := ⟨_, rfl⟩
    have y3 := blkE hC hb3
    have yG : ∀ v, C v → AtM v (ad0.add (0 * 3)) (gcells g0) 3 := by rw [hC]; exact fun v hv => hg0.ext hv
    refine CW_tree2 [2, 6, 8] (.p 0 (.p 1 (.q 2 (.p 5 (.q 6 (.p 7 (.q 8 (Ty.graft (.a2 3 (.a2 4 (.a2 9 (.a2 10 (.a2 11 (.a 12 .done) 12 (.d 11 .done)) 12 (.d 10 (.d 11 .done))) 12 (.d 9 (.d 10 (.d 11 .done)))) 12 (.a 4 (.d 9 (.d 10 (.d 11 .done))))) 12 (.a 3 (.a 4 (.d 9 (.d 10 (.d 11 .done)))))) (.d 13 .done))))))))) (C) (by kernel_rfl) (by kernel_rfl) (by kernel_rfl) ?_ ?_
    · exact inE hC
    intro wq hywq h_C
    refine oy_Tok3 (k := ?_)
    clear hyw3
    refine OY_a2 (actY_of rfl ?_) (actY_of rfl ?_)
    · skip
      refine OW_lit [.int .i64 t.ten] und_ints a_info_intT rfl rfl (by simp [Value.oneCell']) (by decide) ?_
      intro w101 gL hbL hgL hxL
      have hyw101 := hywq.trans' hxL
      have hIs : Is w101 (some ⟨gL, 0, none⟩) [t.ten] := by unfold Is; simpa [iv] using hbL.rd
      clear hbL
      first | refine OW_nil (goY_mkE hC (hyw101) ?_) | refine OW_nil (goY_dropE hC (hyw101) ?_)
      refine oy_Tok3 (k := ?_)
      refine OY_a2 (actY_of rfl ?_) (actY_of rfl ?_)
      · skip
        refine OW_callBs Try.func87 (by kernel_rfl) rfl (tokNums_any w101 (some ⟨gL, 0, none⟩) 1 [t.ten] hIs (by show 1 ≤ 1000; decide)) rfl ?_
        intro w102 A4 c4 hf4
        have hyw102 := hyw101.trans' hf4.ext
        have ho4 := own_mono hf4.own hyw101.size
        have hxc := hf4.ext
        clear hIs hf4
        first | refine OW_nil (goY_mkE hC (hyw102) ?_) | refine OW_nil (goY_dropE hC (hyw102) ?_)
        refine oy_Tok3 (k := ?_)
        refine OY_a2 (actY_of rfl ?_) (actY_of rfl ?_)
        · skip
          refine OW_callBs Try.func79 (by kernel_rfl) rfl (tokGrant_any w102 g0) rfl ?_
          intro w103 A9 c9 hf9
          have hyw103 := hyw102.trans' hf9.ext
          have hB9 := hf9.bs
          have hxc := hf9.ext
          clear hf9
          replace ho4 := own_ext ho4 hxc
          first | refine OW_nil (goY_mkE hC (hyw103) ?_) | refine OW_nil (goY_dropE hC (hyw103) ?_)
          refine oy_Tok3 (k := ?_)
          refine OY_a2 (actY_of rfl ?_) (actY_of rfl ?_)
          · skip
            refine OW_apU rfl rfl ho4 hB9 (by rw [hl8, grantB_len]; decide) hyw103.size ?_
            intro w104 A10 c10 ho10 hT10 hbel10
            have hyw104 : Ext w3 w104 := hyw103.trans hbel10
            clear ho4 hB9
            first | refine OW_nil (goY_mkE hC (hyw104) ?_) | refine OW_nil (goY_dropE hC (hyw104) ?_)
            refine oy_Tok3 (k := ?_)
            refine OY_a2 (actY_of rfl ?_) (actY_of rfl ?_)
            · skip
              refine OW_callV Try.func18 (by kernel_rfl) rfl (hmacSum_any w104 A A10 cA c10 key (numsB [t.ten] ++ grantB g0) (ha.ext (hx03.trans' hyw104)) hca hla (own_rd ho10) (by rw [List.length_append, hl8, grantB_len]; decide)) rfl ?_
              intro w105 hxc
              rw [hX]
              have hyw105 := hyw104.trans' hxc
              clear ho10
              first | refine OW_nil (goY_mkE hC (hyw105) ?_) | refine OW_nil (goY_dropE hC (hyw105) ?_)
              refine oy_Tok3 (k := ?_)
              refine OW_allocA s_agg_Tag ?_
              intro w106 gT hbT hgT hltT hxT
              have hyw106 := hyw105.trans' hxT
              have hgT0 : w3.heap.size ≤ gT := by have := hyw105.size; omega
              first | refine OW_nil (goY_mkE hC (hyw106) ?_) | refine OW_nil (goY_dropE hC (hyw106) ?_)
              refine oy_Tok3 (k := ?_)
              refine OW_storeA s_agg_Tag rfl (X.map bv) rfl (by rw [List.length_map, hXl]) hbT rfl (bv_one _) ?_
              intro w107 hbS hgS
              have hyw107 : Ext w3 w107 := (Keeps.of_only hgS (S := (· = gT)) rfl).ext hyw106 (fun j hj => by have hj : j = gT := hj; omega)
              first | refine OW_nil (goY_mkE hC (hyw107) ?_) | refine OW_nil (goY_dropE hC (hyw107) ?_)
              refine oy_Tok3 (k := ?_)
              exact ⟨rfl, gT, rfl, rfl, rfl, hgT0, hb3.ext hyw107, hb4.ext hyw107, hbS, hx03.trans' hyw107⟩
            · skip
              refine OW_allocA s_agg_Tag ?_
              intro w108 gT hbT hgT hltT hxT
              have hyw108 := hyw104.trans' hxT
              have hgT0 : w3.heap.size ≤ gT := by have := hyw104.size; omega
              replace ho10 := own_ext ho10 hxT
              first | refine OW_nil (goY_mkE hC (hyw108) ?_) | refine OW_nil (goY_dropE hC (hyw108) ?_)
              refine oy_Tok3 (k := ?_)
              refine OW_callV Try.func18 (by kernel_rfl) rfl (hmacSum_any w108 A A10 cA c10 key (numsB [t.ten] ++ grantB g0) (ha.ext (hx03.trans' hyw108)) hca hla (own_rd ho10) (by rw [List.length_append, hl8, grantB_len]; decide)) rfl ?_
              intro w109 hxc
              rw [hX]
              have hyw109 := hyw108.trans' hxc
              clear ho10
              replace hbT := hbT.ext hxc
              first | refine OW_nil (goY_mkE hC (hyw109) ?_) | refine OW_nil (goY_dropE hC (hyw109) ?_)
              refine oy_Tok3 (k := ?_)
              refine OW_storeA s_agg_Tag rfl (X.map bv) rfl (by rw [List.length_map, hXl]) hbT rfl (bv_one _) ?_
              intro w110 hbS hgS
              have hyw110 : Ext w3 w110 := (Keeps.of_only hgS (S := (· = gT)) rfl).ext hyw109 (fun j hj => by have hj : j = gT := hj; omega)
              first | refine OW_nil (goY_mkE hC (hyw110) ?_) | refine OW_nil (goY_dropE hC (hyw110) ?_)
              refine oy_Tok3 (k := ?_)
              exact ⟨rfl, gT, rfl, rfl, rfl, hgT0, hb3.ext hyw110, hb4.ext hyw110, hbS, hx03.trans' hyw110⟩
          · skip
            refine OW_allocA s_agg_Tag ?_
            intro w111 gT hbT hgT hltT hxT
            have hyw111 := hyw103.trans' hxT
            have hgT0 : w3.heap.size ≤ gT := by have := hyw103.size; omega
            replace ho4 := own_ext ho4 hxT
            replace hB9 := hB9.ext hxT
            first | refine OW_nil (goY_mkE hC (hyw111) ?_) | refine OW_nil (goY_dropE hC (hyw111) ?_)
            refine oy_Tok3 (k := ?_)
            refine OW_apU rfl rfl ho4 hB9 (by rw [hl8, grantB_len]; decide) hyw111.size ?_
            intro w112 A10 c10 ho10 hT10 hbel10
            have hyw112 : Ext w3 w112 := hyw111.trans hbel10
            clear ho4 hB9
            replace hbT := hT10 _ _ _ (by decide) hbT
            first | refine OW_nil (goY_mkE hC (hyw112) ?_) | refine OW_nil (goY_dropE hC (hyw112) ?_)
            refine oy_Tok3 (k := ?_)
            refine OW_callV Try.func18 (by kernel_rfl) rfl (hmacSum_any w112 A A10 cA c10 key (numsB [t.ten] ++ grantB g0) (ha.ext (hx03.trans' hyw112)) hca hla (own_rd ho10) (by rw [List.length_append, hl8, grantB_len]; decide)) rfl ?_
            intro w113 hxc
            rw [hX]
            have hyw113 := hyw112.trans' hxc
            clear ho10
            replace hbT := hbT.ext hxc
            first | refine OW_nil (goY_mkE hC (hyw113) ?_) | refine OW_nil (goY_dropE hC (hyw113) ?_)
            refine oy_Tok3 (k := ?_)
            refine OW_storeA s_agg_Tag rfl (X.map bv) rfl (by rw [List.length_map, hXl]) hbT rfl (bv_one _) ?_
            intro w114 hbS hgS
            have hyw114 : Ext w3 w114 := (Keeps.of_only hgS (S := (· = gT)) rfl).ext hyw113 (fun j hj => by have hj : j = gT := hj; omega)
            first | refine OW_nil (goY_mkE hC (hyw114) ?_) | refine OW_nil (goY_dropE hC (hyw114) ?_)
            refine oy_Tok3 (k := ?_)
            exact ⟨rfl, gT, rfl, rfl, rfl, hgT0, hb3.ext hyw114, hb4.ext hyw114, hbS, hx03.trans' hyw114⟩
        · skip
          refine OW_allocA s_agg_Tag ?_
          intro w115 gT hbT hgT hltT hxT
          have hyw115 := hyw102.trans' hxT
          have hgT0 : w3.heap.size ≤ gT := by have := hyw102.size; omega
          replace ho4 := own_ext ho4 hxT
          first | refine OW_nil (goY_mkE hC (hyw115) ?_) | refine OW_nil (goY_dropE hC (hyw115) ?_)
          refine oy_Tok3 (k := ?_)
          refine OW_callBs Try.func79 (by kernel_rfl) rfl (tokGrant_any w115 g0) rfl ?_
          intro w116 A9 c9 hf9
          have hyw116 := hyw115.trans' hf9.ext
          have hB9 := hf9.bs
          have hxc := hf9.ext
          clear hf9
          replace ho4 := own_ext ho4 hxc
          replace hbT := hbT.ext hxc
          first | refine OW_nil (goY_mkE hC (hyw116) ?_) | refine OW_nil (goY_dropE hC (hyw116) ?_)
          refine oy_Tok3 (k := ?_)
          refine OW_apU rfl rfl ho4 hB9 (by rw [hl8, grantB_len]; decide) hyw116.size ?_
          intro w117 A10 c10 ho10 hT10 hbel10
          have hyw117 : Ext w3 w117 := hyw116.trans hbel10
          clear ho4 hB9
          replace hbT := hT10 _ _ _ (by decide) hbT
          first | refine OW_nil (goY_mkE hC (hyw117) ?_) | refine OW_nil (goY_dropE hC (hyw117) ?_)
          refine oy_Tok3 (k := ?_)
          refine OW_callV Try.func18 (by kernel_rfl) rfl (hmacSum_any w117 A A10 cA c10 key (numsB [t.ten] ++ grantB g0) (ha.ext (hx03.trans' hyw117)) hca hla (own_rd ho10) (by rw [List.length_append, hl8, grantB_len]; decide)) rfl ?_
          intro w118 hxc
          rw [hX]
          have hyw118 := hyw117.trans' hxc
          clear ho10
          replace hbT := hbT.ext hxc
          first | refine OW_nil (goY_mkE hC (hyw118) ?_) | refine OW_nil (goY_dropE hC (hyw118) ?_)
          refine oy_Tok3 (k := ?_)
          refine OW_storeA s_agg_Tag rfl (X.map bv) rfl (by rw [List.length_map, hXl]) hbT rfl (bv_one _) ?_
          intro w119 hbS hgS
          have hyw119 : Ext w3 w119 := (Keeps.of_only hgS (S := (· = gT)) rfl).ext hyw118 (fun j hj => by have hj : j = gT := hj; omega)
          first | refine OW_nil (goY_mkE hC (hyw119) ?_) | refine OW_nil (goY_dropE hC (hyw119) ?_)
          refine oy_Tok3 (k := ?_)
          exact ⟨rfl, gT, rfl, rfl, rfl, hgT0, hb3.ext hyw119, hb4.ext hyw119, hbS, hx03.trans' hyw119⟩
      · skip
        refine OW_allocA s_agg_Tag ?_
        intro w120 gT hbT hgT hltT hxT
        have hyw120 := hyw101.trans' hxT
        have hgT0 : w3.heap.size ≤ gT := by have := hyw101.size; omega
        replace hIs := hIs.ext hxT
        first | refine OW_nil (goY_mkE hC (hyw120) ?_) | refine OW_nil (goY_dropE hC (hyw120) ?_)
        refine oy_Tok3 (k := ?_)
        refine OW_callBs Try.func87 (by kernel_rfl) rfl (tokNums_any w120 (some ⟨gL, 0, none⟩) 1 [t.ten] hIs (by show 1 ≤ 1000; decide)) rfl ?_
        intro w121 A4 c4 hf4
        have hyw121 := hyw120.trans' hf4.ext
        have ho4 := own_mono hf4.own hyw120.size
        have hxc := hf4.ext
        clear hIs hf4
        replace hbT := hbT.ext hxc
        first | refine OW_nil (goY_mkE hC (hyw121) ?_) | refine OW_nil (goY_dropE hC (hyw121) ?_)
        refine oy_Tok3 (k := ?_)
        refine OW_callBs Try.func79 (by kernel_rfl) rfl (tokGrant_any w121 g0) rfl ?_
        intro w122 A9 c9 hf9
        have hyw122 := hyw121.trans' hf9.ext
        have hB9 := hf9.bs
        have hxc := hf9.ext
        clear hf9
        replace hbT := hbT.ext hxc
        replace ho4 := own_ext ho4 hxc
        first | refine OW_nil (goY_mkE hC (hyw122) ?_) | refine OW_nil (goY_dropE hC (hyw122) ?_)
        refine oy_Tok3 (k := ?_)
        refine OW_apU rfl rfl ho4 hB9 (by rw [hl8, grantB_len]; decide) hyw122.size ?_
        intro w123 A10 c10 ho10 hT10 hbel10
        have hyw123 : Ext w3 w123 := hyw122.trans hbel10
        clear ho4 hB9
        replace hbT := hT10 _ _ _ (by decide) hbT
        first | refine OW_nil (goY_mkE hC (hyw123) ?_) | refine OW_nil (goY_dropE hC (hyw123) ?_)
        refine oy_Tok3 (k := ?_)
        refine OW_callV Try.func18 (by kernel_rfl) rfl (hmacSum_any w123 A A10 cA c10 key (numsB [t.ten] ++ grantB g0) (ha.ext (hx03.trans' hyw123)) hca hla (own_rd ho10) (by rw [List.length_append, hl8, grantB_len]; decide)) rfl ?_
        intro w124 hxc
        rw [hX]
        have hyw124 := hyw123.trans' hxc
        clear ho10
        replace hbT := hbT.ext hxc
        first | refine OW_nil (goY_mkE hC (hyw124) ?_) | refine OW_nil (goY_dropE hC (hyw124) ?_)
        refine oy_Tok3 (k := ?_)
        refine OW_storeA s_agg_Tag rfl (X.map bv) rfl (by rw [List.length_map, hXl]) hbT rfl (bv_one _) ?_
        intro w125 hbS hgS
        have hyw125 : Ext w3 w125 := (Keeps.of_only hgS (S := (· = gT)) rfl).ext hyw124 (fun j hj => by have hj : j = gT := hj; omega)
        first | refine OW_nil (goY_mkE hC (hyw125) ?_) | refine OW_nil (goY_dropE hC (hyw125) ?_)
        refine oy_Tok3 (k := ?_)
        exact ⟨rfl, gT, rfl, rfl, rfl, hgT0, hb3.ext hyw125, hb4.ext hyw125, hbS, hx03.trans' hyw125⟩
    · skip
      refine OW_allocA s_agg_Tag ?_
      intro w126 gT hbT hgT hltT hxT
      have hyw126 := hywq.trans' hxT
      have hgT0 : w3.heap.size ≤ gT := by have := hywq.size; omega
      first | refine OW_nil (goY_mkE hC (hyw126) ?_) | refine OW_nil (goY_dropE hC (hyw126) ?_)
      refine oy_Tok3 (k := ?_)
      refine OW_lit [.int .i64 t.ten] und_ints a_info_intT rfl rfl (by simp [Value.oneCell']) (by decide) ?_
      intro w127 gL hbL hgL hxL
      have hyw127 := hyw126.trans' hxL
      have hIs : Is w127 (some ⟨gL, 0, none⟩) [t.ten] := by unfold Is; simpa [iv] using hbL.rd
      clear hbL
      replace hbT := hbT.ext hxL
      first | refine OW_nil (goY_mkE hC (hyw127) ?_) | refine OW_nil (goY_dropE hC (hyw127) ?_)
      refine oy_Tok3 (k := ?_)
      refine OW_callBs Try.func87 (by kernel_rfl) rfl (tokNums_any w127 (some ⟨gL, 0, none⟩) 1 [t.ten] hIs (by show 1 ≤ 1000; decide)) rfl ?_
      intro w128 A4 c4 hf4
      have hyw128 := hyw127.trans' hf4.ext
      have ho4 := own_mono hf4.own hyw127.size
      have hxc := hf4.ext
      clear hIs hf4
      replace hbT := hbT.ext hxc
      first | refine OW_nil (goY_mkE hC (hyw128) ?_) | refine OW_nil (goY_dropE hC (hyw128) ?_)
      refine oy_Tok3 (k := ?_)
      refine OW_callBs Try.func79 (by kernel_rfl) rfl (tokGrant_any w128 g0) rfl ?_
      intro w129 A9 c9 hf9
      have hyw129 := hyw128.trans' hf9.ext
      have hB9 := hf9.bs
      have hxc := hf9.ext
      clear hf9
      replace hbT := hbT.ext hxc
      replace ho4 := own_ext ho4 hxc
      first | refine OW_nil (goY_mkE hC (hyw129) ?_) | refine OW_nil (goY_dropE hC (hyw129) ?_)
      refine oy_Tok3 (k := ?_)
      refine OW_apU rfl rfl ho4 hB9 (by rw [hl8, grantB_len]; decide) hyw129.size ?_
      intro w130 A10 c10 ho10 hT10 hbel10
      have hyw130 : Ext w3 w130 := hyw129.trans hbel10
      clear ho4 hB9
      replace hbT := hT10 _ _ _ (by decide) hbT
      first | refine OW_nil (goY_mkE hC (hyw130) ?_) | refine OW_nil (goY_dropE hC (hyw130) ?_)
      refine oy_Tok3 (k := ?_)
      refine OW_callV Try.func18 (by kernel_rfl) rfl (hmacSum_any w130 A A10 cA c10 key (numsB [t.ten] ++ grantB g0) (ha.ext (hx03.trans' hyw130)) hca hla (own_rd ho10) (by rw [List.length_append, hl8, grantB_len]; decide)) rfl ?_
      intro w131 hxc
      rw [hX]
      have hyw131 := hyw130.trans' hxc
      clear ho10
      replace hbT := hbT.ext hxc
      first | refine OW_nil (goY_mkE hC (hyw131) ?_) | refine OW_nil (goY_dropE hC (hyw131) ?_)
      refine oy_Tok3 (k := ?_)
      refine OW_storeA s_agg_Tag rfl (X.map bv) rfl (by rw [List.length_map, hXl]) hbT rfl (bv_one _) ?_
      intro w132 hbS hgS
      have hyw132 : Ext w3 w132 := (Keeps.of_only hgS (S := (· = gT)) rfl).ext hyw131 (fun j hj => by have hj : j = gT := hj; omega)
      first | refine OW_nil (goY_mkE hC (hyw132) ?_) | refine OW_nil (goY_dropE hC (hyw132) ?_)
      refine oy_Tok3 (k := ?_)
      exact ⟨rfl, gT, rfl, rfl, rfl, hgT0, hb3.ext hyw132, hb4.ext hyw132, hbS, hx03.trans' hyw132⟩
  rintro e5 w5 ⟨gT, q3, q4, q5, hgT, hb3, hb4, hbT, hx05⟩
  rw [upd_self q3, upd_self q4, upd_self q5]
  rw [← h1] at hbT
  have hgT : w.heap.size ≤ gT := by have := hx03.size; omega
  have hg4T : g4 ≠ gT := by omega
  clear hg0 hat0 h1 hX hXl hyw3
  have hrd : RdN w (cutN (some ad0) cB 1 3) 3 (((t.line.map gcells).drop 1).take (t.line.length - 1)) := RdN.cut hB cB 1 _ (by omega)
  rw [← List.map_drop, List.take_of_length_le (by rw [List.length_map, List.length_drop]; exact Nat.le_refl _)] at hrd
  have hrd2 : GRd w (cutN (some ad0) cB 1 3) (t.line.drop 1) := hrd
  have hdl : (t.line.drop 1).length = t.line.length - 1 := List.length_drop ..
  clear hrd
  refine go_Tok3 (k := ?_)
  refine OW_sliceLoN 1 und_Grants el_Grant rfl rfl rfl ⟨hpos, hcB⟩ ?_
  generalize cutN (some ad0) cB 1 3 = B1 at *
  refine go_Tok3 (k := ?_)
  refine CW_loop (fun e' w' => ∃ k : Nat, k ≤ t.line.length - 1 ∧ e' 4 = .pointer (some ⟨g4, 0, none⟩) ∧ e' 5 = .pointer (some ⟨gT, 0, none⟩) ∧ e' 22 = .slice B1 (t.line.length - 1) (cB - 1) ∧ e' 23 = .int .i64 ((t.line.length - 1 : Nat) : Int) ∧ e' 24 = .int .i64 k ∧ Blk w' g4 29 (tzS.map bv).toArray ∧ Blk w' gT 29 ((tagL key t.ten (t.line.take (k + 1))).map bv).toArray ∧ Ext w w') (fun e' _ => (t.line.length - 1) - (intOf (e' 24)).toNat) ⟨0, Nat.zero_le _, rfl, rfl, rfl, rfl, rfl, hb4, hbT, hx05⟩ ?_
  clear hb3 hb4 hbT hx05 q3 q4 q5
  rintro e6 w6 ⟨k, hk, q4, q5, q22, q23, q24, hb4, hbT, hx06⟩
  rw [upd_self q4, upd_self q5, upd_self q22, upd_self q23, upd_self q24]
  refine go_Tok3 (k := ?_)
  refine CW_cond _ rfl (fun hh => ?_) (fun hh => ?_)
  · have hlt : k < t.line.length - 1 := by have := of_decide_eq_true hh; omega
    clear hh
    obtain ⟨ad, rfl, hat⟩ := (hrd2.ext hx06).at_ (i := k) (by omega)
    have hel : (t.line.drop 1)[k]'(by omega) = t.line[k + 1]'(by omega) := by rw [List.getElem_drop]; congr 1; omega
    rw [hel] at hat
    have hsn : tagL key t.ten (t.line.take (k + 1 + 1)) = tagS (tagL key t.ten (t.line.take (k + 1))) (t.line[k + 1]'(by omega)) := by
      rw [List.take_succ_eq_append_getElem (by omega : k + 1 < t.line.length), tagL_snoc]
      intro h
      have := congrArg List.length h
      rw [List.length_take, List.length_nil] at this
      omega
    have ho32 := htl (k + 1)
    generalize t.line[k + 1]'(by omega) = gk at *
    generalize tagL key t.ten (t.line.take (k + 1)) = o at *
    have hgk := gAt hat
    refine go_Tok3 (k := ?_)
    refine OW_allocA agg_Grant ?_
    intro w7 g7 hb7 hg7 hlt7 hx7
    refine go_Tok3 (k := ?_)
    refine OW_storeA agg_Grant rfl (gcells gk) rfl rfl hb7 (by kernel_rfl) (gcells_one _) ?_
    intro w8 hb8 hg8
    have hx68 : Ext w6 w8 := (Keeps.of_only hg8 (S := (· = g7)) rfl).ext hx7 (fun j hj => by have hj : j = g7 := hj; omega)
    have hx08 := hx06.trans' hx68
    replace hb4 := hb4.ext hx68
    replace hbT := hbT.ext hx68
    have hb8 : Blk w8 g7 49 (gcells gk).toArray := hb8
    clear hb7 hg8
    refine go_Tok3 (k := ?_)
    obtain ⟨C, hC⟩ : ∃ C : World → Prop, C = fun v => Ext w8 v := ⟨_, rfl⟩
    have yG : ∀ v, C v → AtM v ⟨g7, 0, none⟩ (gcells gk) 3 := by rw [hC]; exact fun v hv => gAt (hb8.ext hv).atL
    refine CW_tree2 [1] (.p 0 (.q 1 (.d 2 (.d 3 (.d 4 .done))))) (C) (by kernel_rfl) (by kernel_rfl) (by kernel_rfl) ?_ ?_
    · exact inE hC
    intro w9 hx9 h_C
    refine oy_Tok3 (k := ?_)
    refine OW_callBs Try.func79 (by kernel_rfl) rfl (tokGrant_any w9 gk) rfl ?_
    intro w10 A10 c10 hf10
    have hy10 := hx9.trans' hf10.ext
    first | refine OW_nil (goY_mkE hC (hy10) ?_) | refine OW_nil (goY_dropE hC (hy10) ?_)
    refine oy_Tok3 (k := ?_)
    refine OW_callV Try.func18 (by kernel_rfl) rfl (hmacSum_any w10 (some ⟨gT, 0, none⟩) A10 32 c10 o (grantB gk) (bs_row (hbT.ext hy10)) (by omega) (by omega) hf10.bs (by rw [grantB_len]; decide)) (by rw [ho32]; rfl) ?_
    intro w11 hx11
    have hy11 := hy10.trans' hx11
    first | refine OW_nil (goY_mkE hC (hy11) ?_) | refine OW_nil (goY_dropE hC (hy11) ?_)
    refine oy_Tok3 (k := ?_)
    have hXl : (hmacL o (grantB gk)).length = 32 := hmacL_length _ _
    refine OW_storeA s_agg_Tag rfl ((hmacL o (grantB gk)).map bv) rfl (by rw [List.length_map, hXl]) (hbT.ext hy11) (by rw [List.size_toArray, List.length_map, ho32]) (bv_one _) ?_
    intro w12 hb12 hg12
    have hx012 : Ext w w12 := (Keeps.of_only hg12 (S := (· = gT)) rfl).ext (hx08.trans' hy11) (fun j hj => by have hj : j = gT := hj; omega)
    have hb4' := (hb4.ext hy11).keeps (Keeps.of_only hg12 (S := (· = gT)) rfl) hg4T
    refine OW_nil (goY_drop (fun v => v = w12) rfl ?_)
    refine oy_Tok3 (k := ?_)
    refine go_Tok3 (k := ?_)
    refine ⟨⟨k + 1, by omega, rfl, rfl, rfl, rfl, rfl, hb4', by rw [hsn]; exact hb12, hx012⟩, ?_⟩
    show (t.line.length - 1) - ((k : Int) + 1).toNat < (t.line.length - 1) - (k : Int).toNat
    omega
  · have hge : k + 1 = t.line.length := by have := of_decide_eq_false hh; omega
    rw [hge, List.take_length] at hbT
    have hX := tagL_len key t.ten t.line
    generalize tagL key t.ten t.line = X2 at *
    clear hh
    refine go_Tok3 (k := ?_)
    refine OW_loadX s_agg_Tag rfl (X2.map bv) (by rw [List.length_map, hX]) hbT.atL ?_
    refine go_Tok3 (k := ?_)
    refine OW_storeA s_agg_Tag rfl (X2.map bv) rfl (by rw [List.length_map, hX]) hb4 rfl (bv_one _) ?_
    intro w7 hb7 hg7
    have hx07 : Ext w w7 := (Keeps.of_only hg7 (S := (· = g4)) rfl).ext hx06 (fun j hj => by have hj : j = g4 := hj; have := hx1.size; omega)
    refine go_Tok3 (k := ?_)
    exact bodyE_retc rfl s_agg_Tag rfl (X2.map bv) (by rw [List.length_map, hX]) (Blk.range hb7) ⟨rfl, hx07⟩
end Go.Proofs.Ytdpcahfgdpikfaa
