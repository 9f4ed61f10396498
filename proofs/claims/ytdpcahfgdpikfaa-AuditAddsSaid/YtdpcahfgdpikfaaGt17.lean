/- Several texts in one, as they stand in wip/src. -/
import Derived.Test.YtdpcahfgdpikfaaGt16
/- Walks: the reference's Add; chains of acts; the chapter's examples. -/
namespace Go.Proofs.Ytdpcahfgdpikfaa
open Go Go.RowKit
set_option linter.unusedVariables false
set_option maxRecDepth 4000
theorem go_Aud4 {A B : Prop} (h : Held B → A := by
  intro hEnd
  repeat (first | refine OW_eqlIT rfl rfl (by first | rfl | assumption) ?_ | refine OW_eqlQT s_eqr_Tag rfl rfl (by assumption) (by first | rfl | assumption) ?_ | refine OW_eqlKT rfl rfl (by assumption) ?_ | refine OW_sliceLoN 1 und_Links el_Link rfl rfl rfl (by decide) ?_ | refine OW_neqIF rfl rfl (by first | rfl | assumption) ?_ | (refine OW_isLoad ?_; refine OW_loadM (by first | with_reducible exact s_agg_Tag | with_reducible exact agg_Link) rfl (by apply_assumption; assumption) ?_) | refine OW_neqKF rfl rfl (by assumption) ?_ | refine OW_neqIT rfl rfl (by assumption) ?_ | refine OW_neqQF s_eqr_Tag rfl rfl (by assumption) (by assumption) ?_ | refine OW_neqQT s_eqr_Tag rfl rfl (by assumption) (by assumption) (by assumption) ?_ | refine OW_fieldB fldo_L0 rfl ?_ | refine OW_fieldB fldo_L1 rfl ?_ | refine OW_fieldB fldo_L2 rfl ?_ | refine OW_fieldB fldo_L3 rfl ?_ | refine OW_fieldB fldo_L4 rfl ?_ | refine OW_fieldB fldo_L5 rfl ?_ | refine OW_fieldB fldo_L6 rfl ?_ | refine OW_fieldB fldo_L7 rfl ?_ | refine OW_fieldB fldo_L8 rfl ?_ | refine OW_fieldO fldo_L0 rfl ?_ | refine OW_fieldO fldo_L7 rfl ?_ | refine OW_fieldO fldo_L8 rfl ?_ | refine OW_lenS und_Links rfl ?_ | refine OW_idxN und_Links el_Link rfl rfl _ rfl (by omega) ?_ | refine OW_lenS und_Acts rfl ?_ | refine OW_idxN und_Acts el_Act13 rfl rfl _ rfl (by omega) ?_ | refine OW_fieldO fldo_AA0 rfl ?_ | refine OW_fieldO fldo_AA1 rfl ?_ | refine OW_fieldO fldo_AA2 rfl ?_ | refine OW_fieldO fldo_AA3 rfl ?_ | refine OW_fieldO fldo_AA4 rfl ?_ | refine OW_fieldO fldo_AA5 rfl ?_ | refine OW_moveV (.int _ _) rfl ?_ | refine OW_moveV (.slice _ _ _) rfl ?_ | refine OW_moveV (.bool _) rfl ?_ | refine OW_moveV (.pointer _) rfl ?_ | refine OW_moveV (.string _) rfl ?_ | refine OW_moveV (.agg _) rfl ?_ | refine OW_moveV (.tuple _) rfl ?_ | refine OW_nil ?_ | refine thenE_normal ?_ | refine CW_seq ?_ | refine CW_region (by kernel_rfl) ?_ | refine OW_assignV (.int _ _) rfl ?_ | refine OW_assignV (.slice _ _ _) rfl ?_ | refine OW_assignV (.bool _) rfl ?_ | refine OW_assignV (.pointer _) rfl ?_ | refine OW_assignV (.string _) rfl ?_ | refine OW_assignV (.agg _) rfl ?_ | refine OW_assignV (.tuple _) rfl ?_ | refine OW_addI rfl rfl (by omega) ?_ | refine OW_subI rfl rfl (by omega) ?_ | refine OW_mulI rfl rfl (by omega) ?_ | refine OW_lss rfl rfl ?_ | refine OW_extract rfl rfl ?_ | refine OW_gtr rfl rfl ?_ | refine OW_leq rfl rfl ?_ | refine OW_geq rfl rfl ?_ | refine OW_eql rfl rfl ?_ | refine OW_neq rfl rfl ?_ | refine OW_not rfl ?_ | refine OW_pickT rfl _ rfl ?_ | refine OW_pickF rfl (.bool _) rfl ?_ | refine OW_pickB rfl rfl rfl ?_ | refine OW_move ?_ | refine OW_assign ?_ | refine OW_pass rfl ?_ | refine OW_take rfl ?_ | refine OW_lenS (by first | with_reducible exact und_bytes | with_reducible exact und_bytess) rfl ?_ | refine OW_convInt (by first | with_reducible exact und_u8 | with_reducible exact und_u64 | with_reducible exact und_int | with_reducible exact und_u32) (by first | with_reducible exact und_u8 | with_reducible exact und_u64 | with_reducible exact und_int | with_reducible exact und_u32) rfl ?_ | refine OW_add rfl rfl ?_ | refine OW_sub rfl rfl ?_ | refine OW_mul rfl rfl ?_ | refine OW_min2 rfl rfl ?_ | refine OW_max2 rfl rfl ?_ | refine OW_neg rfl ?_ | refine CW_block ?_ | refine CW_condT rfl ?_ | refine CW_condF rfl ?_ | refine CW_exit ?_ | refine CW_ret ?_ | refine CW_skip ?_ | refine LW_seq ?_ | refine LW_regC ?_ | refine LW_condC ?_ | refine LW_regF ?_ | refine LW_condF ?_ | refine FW_seq ?_ | refine FW_region (by kernel_rfl) ?_ | refine FW_block ?_ | refine FW_condT rfl ?_ | refine FW_condF rfl ?_ | refine FW_exit ?_ | refine FW_ret ?_ | refine FW_skip ?_ | refine LW_ret ?_ | refine LW_skip ?_ | refine thenE_exit ?_ | refine thenE_ret ?_ | refine inBlockE_normal ?_ | refine inBlockE_same ?_ | refine inBlockE_ret ?_ | refine inBlockE_ne (by rfl) ?_ | refine OW_eqlB (by with_reducible exact und_bool) rfl rfl ?_ | refine OW_neqB (by with_reducible exact und_bool) rfl rfl ?_ | refine OW_idxS (by with_reducible exact und_bytes) one_u8 rfl rfl _ rfl (by omega) ?_ | refine OW_idxS (by with_reducible exact und_bytess) one_bytes rfl rfl _ rfl (by omega) ?_ | refine OW_load1 (by first | with_reducible exact one_u8 | with_reducible exact one_bytes) rfl _ (by assumption) ?_ | refine OW_load1 s_int rfl _ (by assumption) ?_)
  exact hEnd.out) (k : B) : A := h ⟨k⟩
theorem oy_Aud4 {A B : Prop} (h : Held B → A := by
  intro hEnd
  repeat (first
    | refine OY_done ?_
    | (apply OY_p _ rfl
       · intro wd
         (first | refine OW_eqlIT rfl rfl (by first | rfl | assumption) ?_ | refine OW_eqlQT s_eqr_Tag rfl rfl (by assumption) (by first | rfl | assumption) ?_ | refine OW_eqlKT rfl rfl (by assumption) ?_ | refine OW_sliceLoN 1 und_Links el_Link rfl rfl rfl (by decide) ?_ | refine OW_neqIF rfl rfl (by first | rfl | assumption) ?_ | (refine OW_isLoad ?_; refine OW_loadM (by first | with_reducible exact s_agg_Tag | with_reducible exact agg_Link) rfl (by apply_assumption; assumption) ?_) | refine OW_neqKF rfl rfl (by assumption) ?_ | refine OW_neqIT rfl rfl (by assumption) ?_ | refine OW_neqQF s_eqr_Tag rfl rfl (by assumption) (by assumption) ?_ | refine OW_neqQT s_eqr_Tag rfl rfl (by assumption) (by assumption) (by assumption) ?_ | refine OW_fieldB fldo_L0 rfl ?_ | refine OW_fieldB fldo_L1 rfl ?_ | refine OW_fieldB fldo_L2 rfl ?_ | refine OW_fieldB fldo_L3 rfl ?_ | refine OW_fieldB fldo_L4 rfl ?_ | refine OW_fieldB fldo_L5 rfl ?_ | refine OW_fieldB fldo_L6 rfl ?_ | refine OW_fieldB fldo_L7 rfl ?_ | refine OW_fieldB fldo_L8 rfl ?_ | refine OW_fieldO fldo_L0 rfl ?_ | refine OW_fieldO fldo_L7 rfl ?_ | refine OW_fieldO fldo_L8 rfl ?_ | refine OW_lenS und_Links rfl ?_ | refine OW_idxN und_Links el_Link rfl rfl _ rfl (by omega) ?_ | refine OW_lenS und_Acts rfl ?_ | refine OW_idxN und_Acts el_Act13 rfl rfl _ rfl (by omega) ?_ | refine OW_fieldO fldo_AA0 rfl ?_ | refine OW_fieldO fldo_AA1 rfl ?_ | refine OW_fieldO fldo_AA2 rfl ?_ | refine OW_fieldO fldo_AA3 rfl ?_ | refine OW_fieldO fldo_AA4 rfl ?_ | refine OW_fieldO fldo_AA5 rfl ?_ | refine OW_moveV (.int _ _) rfl ?_ | refine OW_moveV (.slice _ _ _) rfl ?_ | refine OW_moveV (.bool _) rfl ?_ | refine OW_moveV (.pointer _) rfl ?_ | refine OW_moveV (.string _) rfl ?_ | refine OW_moveV (.agg _) rfl ?_ | refine OW_moveV (.tuple _) rfl ?_ | refine OW_nil ?_ | refine thenE_normal ?_ | refine CW_seq ?_ | refine CW_region (by kernel_rfl) ?_ | refine OW_assignV (.int _ _) rfl ?_ | refine OW_assignV (.slice _ _ _) rfl ?_ | refine OW_assignV (.bool _) rfl ?_ | refine OW_assignV (.pointer _) rfl ?_ | refine OW_assignV (.string _) rfl ?_ | refine OW_assignV (.agg _) rfl ?_ | refine OW_assignV (.tuple _) rfl ?_ | refine OW_addI rfl rfl (by omega) ?_ | refine OW_subI rfl rfl (by omega) ?_ | refine OW_mulI rfl rfl (by omega) ?_ | refine OW_lss rfl rfl ?_ | refine OW_extract rfl rfl ?_ | refine OW_gtr rfl rfl ?_ | refine OW_leq rfl rfl ?_ | refine OW_geq rfl rfl ?_ | refine OW_eql rfl rfl ?_ | refine OW_neq rfl rfl ?_ | refine OW_not rfl ?_ | refine OW_pickT rfl _ rfl ?_ | refine OW_pickF rfl (.bool _) rfl ?_ | refine OW_pickB rfl rfl rfl ?_ | refine OW_move ?_ | refine OW_assign ?_ | refine OW_pass rfl ?_ | refine OW_take rfl ?_ | refine OW_lenS (by first | with_reducible exact und_bytes | with_reducible exact und_bytess) rfl ?_ | refine OW_convInt (by first | with_reducible exact und_u8 | with_reducible exact und_u64 | with_reducible exact und_int | with_reducible exact und_u32) (by first | with_reducible exact und_u8 | with_reducible exact und_u64 | with_reducible exact und_int | with_reducible exact und_u32) rfl ?_ | refine OW_add rfl rfl ?_ | refine OW_sub rfl rfl ?_ | refine OW_mul rfl rfl ?_ | refine OW_min2 rfl rfl ?_ | refine OW_max2 rfl rfl ?_ | refine OW_neg rfl ?_ | refine CW_block ?_ | refine CW_condT rfl ?_ | refine CW_condF rfl ?_ | refine CW_exit ?_ | refine CW_ret ?_ | refine CW_skip ?_ | refine LW_seq ?_ | refine LW_regC ?_ | refine LW_condC ?_ | refine LW_regF ?_ | refine LW_condF ?_ | refine FW_seq ?_ | refine FW_region (by kernel_rfl) ?_ | refine FW_block ?_ | refine FW_condT rfl ?_ | refine FW_condF rfl ?_ | refine FW_exit ?_ | refine FW_ret ?_ | refine FW_skip ?_ | refine LW_ret ?_ | refine LW_skip ?_ | refine thenE_exit ?_ | refine thenE_ret ?_ | refine inBlockE_normal ?_ | refine inBlockE_same ?_ | refine inBlockE_ret ?_ | refine inBlockE_ne (by rfl) ?_ | refine OW_eqlB (by with_reducible exact und_bool) rfl rfl ?_ | refine OW_neqB (by with_reducible exact und_bool) rfl rfl ?_ | refine OW_idxS (by with_reducible exact und_bytes) one_u8 rfl rfl _ rfl (by omega) ?_ | refine OW_idxS (by with_reducible exact und_bytess) one_bytes rfl rfl _ rfl (by omega) ?_ | refine OW_load1 (by first | with_reducible exact one_u8 | with_reducible exact one_bytes) rfl _ (by assumption) ?_ | refine OW_load1 s_int rfl _ (by assumption) ?_)
         refine OW_nil ?_
         exact stay_mk _ _ _ _)
    | (apply OY_q _ rfl
       · intro wd hwd
         (first | refine OW_eqlIT rfl rfl (by first | rfl | assumption) ?_ | refine OW_eqlQT s_eqr_Tag rfl rfl (by assumption) (by first | rfl | assumption) ?_ | refine OW_eqlKT rfl rfl (by assumption) ?_ | refine OW_sliceLoN 1 und_Links el_Link rfl rfl rfl (by decide) ?_ | refine OW_neqIF rfl rfl (by first | rfl | assumption) ?_ | (refine OW_isLoad ?_; refine OW_loadM (by first | with_reducible exact s_agg_Tag | with_reducible exact agg_Link) rfl (by apply_assumption; assumption) ?_) | refine OW_neqKF rfl rfl (by assumption) ?_ | refine OW_neqIT rfl rfl (by assumption) ?_ | refine OW_neqQF s_eqr_Tag rfl rfl (by assumption) (by assumption) ?_ | refine OW_neqQT s_eqr_Tag rfl rfl (by assumption) (by assumption) (by assumption) ?_ | refine OW_fieldB fldo_L0 rfl ?_ | refine OW_fieldB fldo_L1 rfl ?_ | refine OW_fieldB fldo_L2 rfl ?_ | refine OW_fieldB fldo_L3 rfl ?_ | refine OW_fieldB fldo_L4 rfl ?_ | refine OW_fieldB fldo_L5 rfl ?_ | refine OW_fieldB fldo_L6 rfl ?_ | refine OW_fieldB fldo_L7 rfl ?_ | refine OW_fieldB fldo_L8 rfl ?_ | refine OW_fieldO fldo_L0 rfl ?_ | refine OW_fieldO fldo_L7 rfl ?_ | refine OW_fieldO fldo_L8 rfl ?_ | refine OW_lenS und_Links rfl ?_ | refine OW_idxN und_Links el_Link rfl rfl _ rfl (by omega) ?_ | refine OW_lenS und_Acts rfl ?_ | refine OW_idxN und_Acts el_Act13 rfl rfl _ rfl (by omega) ?_ | refine OW_fieldO fldo_AA0 rfl ?_ | refine OW_fieldO fldo_AA1 rfl ?_ | refine OW_fieldO fldo_AA2 rfl ?_ | refine OW_fieldO fldo_AA3 rfl ?_ | refine OW_fieldO fldo_AA4 rfl ?_ | refine OW_fieldO fldo_AA5 rfl ?_ | refine OW_moveV (.int _ _) rfl ?_ | refine OW_moveV (.slice _ _ _) rfl ?_ | refine OW_moveV (.bool _) rfl ?_ | refine OW_moveV (.pointer _) rfl ?_ | refine OW_moveV (.string _) rfl ?_ | refine OW_moveV (.agg _) rfl ?_ | refine OW_moveV (.tuple _) rfl ?_ | refine OW_nil ?_ | refine thenE_normal ?_ | refine CW_seq ?_ | refine CW_region (by kernel_rfl) ?_ | refine OW_assignV (.int _ _) rfl ?_ | refine OW_assignV (.slice _ _ _) rfl ?_ | refine OW_assignV (.bool _) rfl ?_ | refine OW_assignV (.pointer _) rfl ?_ | refine OW_assignV (.string _) rfl ?_ | refine OW_assignV (.agg _) rfl ?_ | refine OW_assignV (.tuple _) rfl ?_ | refine OW_addI rfl rfl (by omega) ?_ | refine OW_subI rfl rfl (by omega) ?_ | refine OW_mulI rfl rfl (by omega) ?_ | refine OW_lss rfl rfl ?_ | refine OW_extract rfl rfl ?_ | refine OW_gtr rfl rfl ?_ | refine OW_leq rfl rfl ?_ | refine OW_geq rfl rfl ?_ | refine OW_eql rfl rfl ?_ | refine OW_neq rfl rfl ?_ | refine OW_not rfl ?_ | refine OW_pickT rfl _ rfl ?_ | refine OW_pickF rfl (.bool _) rfl ?_ | refine OW_pickB rfl rfl rfl ?_ | refine OW_move ?_ | refine OW_assign ?_ | refine OW_pass rfl ?_ | refine OW_take rfl ?_ | refine OW_lenS (by first | with_reducible exact und_bytes | with_reducible exact und_bytess) rfl ?_ | refine OW_convInt (by first | with_reducible exact und_u8 | with_reducible exact und_u64 | with_reducible exact und_int | with_reducible exact und_u32) (by first | with_reducible exact und_u8 | with_reducible exact und_u64 | with_reducible exact und_int | with_reducible exact und_u32) rfl ?_ | refine OW_add rfl rfl ?_ | refine OW_sub rfl rfl ?_ | refine OW_mul rfl rfl ?_ | refine OW_min2 rfl rfl ?_ | refine OW_max2 rfl rfl ?_ | refine OW_neg rfl ?_ | refine CW_block ?_ | refine CW_condT rfl ?_ | refine CW_condF rfl ?_ | refine CW_exit ?_ | refine CW_ret ?_ | refine CW_skip ?_ | refine LW_seq ?_ | refine LW_regC ?_ | refine LW_condC ?_ | refine LW_regF ?_ | refine LW_condF ?_ | refine FW_seq ?_ | refine FW_region (by kernel_rfl) ?_ | refine FW_block ?_ | refine FW_condT rfl ?_ | refine FW_condF rfl ?_ | refine FW_exit ?_ | refine FW_ret ?_ | refine FW_skip ?_ | refine LW_ret ?_ | refine LW_skip ?_ | refine thenE_exit ?_ | refine thenE_ret ?_ | refine inBlockE_normal ?_ | refine inBlockE_same ?_ | refine inBlockE_ret ?_ | refine inBlockE_ne (by rfl) ?_ | refine OW_eqlB (by with_reducible exact und_bool) rfl rfl ?_ | refine OW_neqB (by with_reducible exact und_bool) rfl rfl ?_ | refine OW_idxS (by with_reducible exact und_bytes) one_u8 rfl rfl _ rfl (by omega) ?_ | refine OW_idxS (by with_reducible exact und_bytess) one_bytes rfl rfl _ rfl (by omega) ?_ | refine OW_load1 (by first | with_reducible exact one_u8 | with_reducible exact one_bytes) rfl _ (by assumption) ?_ | refine OW_load1 s_int rfl _ (by assumption) ?_ | (refine OW_isLoad ?_; refine OW_loadBk (by first | with_reducible exact one_u8 | with_reducible exact one_bytes | with_reducible exact one_bool | with_reducible exact one_int | with_reducible exact one_errno | with_reducible exact one_u32 | with_reducible exact one_u64 | with_reducible exact one_string | with_reducible exact s_int | with_reducible exact one_u8) rfl (by apply_assumption; assumption) _ (by first | assumption | rfl) ?_) | refine OW_load1 (by first | with_reducible exact one_u8 | with_reducible exact one_bytes | with_reducible exact one_bool | with_reducible exact one_int | with_reducible exact one_errno | with_reducible exact one_u32 | with_reducible exact one_u64 | with_reducible exact one_string | with_reducible exact s_int | with_reducible exact one_u8) rfl _ (by apply_assumption; assumption) ?_)
         refine OW_nil ?_
         exact stay_mk _ _ _ _)
    | refine OY_ppass rfl rfl ?_
    | refine OY_qpass rfl rfl ?_
    | (apply OY_ptake _ rfl rfl
       · intro wd
         (first | refine OW_eqlIT rfl rfl (by first | rfl | assumption) ?_ | refine OW_eqlQT s_eqr_Tag rfl rfl (by assumption) (by first | rfl | assumption) ?_ | refine OW_eqlKT rfl rfl (by assumption) ?_ | refine OW_sliceLoN 1 und_Links el_Link rfl rfl rfl (by decide) ?_ | refine OW_neqIF rfl rfl (by first | rfl | assumption) ?_ | (refine OW_isLoad ?_; refine OW_loadM (by first | with_reducible exact s_agg_Tag | with_reducible exact agg_Link) rfl (by apply_assumption; assumption) ?_) | refine OW_neqKF rfl rfl (by assumption) ?_ | refine OW_neqIT rfl rfl (by assumption) ?_ | refine OW_neqQF s_eqr_Tag rfl rfl (by assumption) (by assumption) ?_ | refine OW_neqQT s_eqr_Tag rfl rfl (by assumption) (by assumption) (by assumption) ?_ | refine OW_fieldB fldo_L0 rfl ?_ | refine OW_fieldB fldo_L1 rfl ?_ | refine OW_fieldB fldo_L2 rfl ?_ | refine OW_fieldB fldo_L3 rfl ?_ | refine OW_fieldB fldo_L4 rfl ?_ | refine OW_fieldB fldo_L5 rfl ?_ | refine OW_fieldB fldo_L6 rfl ?_ | refine OW_fieldB fldo_L7 rfl ?_ | refine OW_fieldB fldo_L8 rfl ?_ | refine OW_fieldO fldo_L0 rfl ?_ | refine OW_fieldO fldo_L7 rfl ?_ | refine OW_fieldO fldo_L8 rfl ?_ | refine OW_lenS und_Links rfl ?_ | refine OW_idxN und_Links el_Link rfl rfl _ rfl (by omega) ?_ | refine OW_lenS und_Acts rfl ?_ | refine OW_idxN und_Acts el_Act13 rfl rfl _ rfl (by omega) ?_ | refine OW_fieldO fldo_AA0 rfl ?_ | refine OW_fieldO fldo_AA1 rfl ?_ | refine OW_fieldO fldo_AA2 rfl ?_ | refine OW_fieldO fldo_AA3 rfl ?_ | refine OW_fieldO fldo_AA4 rfl ?_ | refine OW_fieldO fldo_AA5 rfl ?_ | refine OW_moveV (.int _ _) rfl ?_ | refine OW_moveV (.slice _ _ _) rfl ?_ | refine OW_moveV (.bool _) rfl ?_ | refine OW_moveV (.pointer _) rfl ?_ | refine OW_moveV (.string _) rfl ?_ | refine OW_moveV (.agg _) rfl ?_ | refine OW_moveV (.tuple _) rfl ?_ | refine OW_nil ?_ | refine thenE_normal ?_ | refine CW_seq ?_ | refine CW_region (by kernel_rfl) ?_ | refine OW_assignV (.int _ _) rfl ?_ | refine OW_assignV (.slice _ _ _) rfl ?_ | refine OW_assignV (.bool _) rfl ?_ | refine OW_assignV (.pointer _) rfl ?_ | refine OW_assignV (.string _) rfl ?_ | refine OW_assignV (.agg _) rfl ?_ | refine OW_assignV (.tuple _) rfl ?_ | refine OW_addI rfl rfl (by omega) ?_ | refine OW_subI rfl rfl (by omega) ?_ | refine OW_mulI rfl rfl (by omega) ?_ | refine OW_lss rfl rfl ?_ | refine OW_extract rfl rfl ?_ | refine OW_gtr rfl rfl ?_ | refine OW_leq rfl rfl ?_ | refine OW_geq rfl rfl ?_ | refine OW_eql rfl rfl ?_ | refine OW_neq rfl rfl ?_ | refine OW_not rfl ?_ | refine OW_pickT rfl _ rfl ?_ | refine OW_pickF rfl (.bool _) rfl ?_ | refine OW_pickB rfl rfl rfl ?_ | refine OW_move ?_ | refine OW_assign ?_ | refine OW_pass rfl ?_ | refine OW_take rfl ?_ | refine OW_lenS (by first | with_reducible exact und_bytes | with_reducible exact und_bytess) rfl ?_ | refine OW_convInt (by first | with_reducible exact und_u8 | with_reducible exact und_u64 | with_reducible exact und_int | with_reducible exact und_u32) (by first | with_reducible exact und_u8 | with_reducible exact und_u64 | with_reducible exact und_int | with_reducible exact und_u32) rfl ?_ | refine OW_add rfl rfl ?_ | refine OW_sub rfl rfl ?_ | refine OW_mul rfl rfl ?_ | refine OW_min2 rfl rfl ?_ | refine OW_max2 rfl rfl ?_ | refine OW_neg rfl ?_ | refine CW_block ?_ | refine CW_condT rfl ?_ | refine CW_condF rfl ?_ | refine CW_exit ?_ | refine CW_ret ?_ | refine CW_skip ?_ | refine LW_seq ?_ | refine LW_regC ?_ | refine LW_condC ?_ | refine LW_regF ?_ | refine LW_condF ?_ | refine FW_seq ?_ | refine FW_region (by kernel_rfl) ?_ | refine FW_block ?_ | refine FW_condT rfl ?_ | refine FW_condF rfl ?_ | refine FW_exit ?_ | refine FW_ret ?_ | refine FW_skip ?_ | refine LW_ret ?_ | refine LW_skip ?_ | refine thenE_exit ?_ | refine thenE_ret ?_ | refine inBlockE_normal ?_ | refine inBlockE_same ?_ | refine inBlockE_ret ?_ | refine inBlockE_ne (by rfl) ?_ | refine OW_eqlB (by with_reducible exact und_bool) rfl rfl ?_ | refine OW_neqB (by with_reducible exact und_bool) rfl rfl ?_ | refine OW_idxS (by with_reducible exact und_bytes) one_u8 rfl rfl _ rfl (by omega) ?_ | refine OW_idxS (by with_reducible exact und_bytess) one_bytes rfl rfl _ rfl (by omega) ?_ | refine OW_load1 (by first | with_reducible exact one_u8 | with_reducible exact one_bytes) rfl _ (by assumption) ?_ | refine OW_load1 s_int rfl _ (by assumption) ?_)
         refine OW_nil ?_
         exact stay_mk _ _ _ _)
    | (apply OY_qtake _ rfl rfl
       · intro wd hwd
         (first | refine OW_eqlIT rfl rfl (by first | rfl | assumption) ?_ | refine OW_eqlQT s_eqr_Tag rfl rfl (by assumption) (by first | rfl | assumption) ?_ | refine OW_eqlKT rfl rfl (by assumption) ?_ | refine OW_sliceLoN 1 und_Links el_Link rfl rfl rfl (by decide) ?_ | refine OW_neqIF rfl rfl (by first | rfl | assumption) ?_ | (refine OW_isLoad ?_; refine OW_loadM (by first | with_reducible exact s_agg_Tag | with_reducible exact agg_Link) rfl (by apply_assumption; assumption) ?_) | refine OW_neqKF rfl rfl (by assumption) ?_ | refine OW_neqIT rfl rfl (by assumption) ?_ | refine OW_neqQF s_eqr_Tag rfl rfl (by assumption) (by assumption) ?_ | refine OW_neqQT s_eqr_Tag rfl rfl (by assumption) (by assumption) (by assumption) ?_ | refine OW_fieldB fldo_L0 rfl ?_ | refine OW_fieldB fldo_L1 rfl ?_ | refine OW_fieldB fldo_L2 rfl ?_ | refine OW_fieldB fldo_L3 rfl ?_ | refine OW_fieldB fldo_L4 rfl ?_ | refine OW_fieldB fldo_L5 rfl ?_ | refine OW_fieldB fldo_L6 rfl ?_ | refine OW_fieldB fldo_L7 rfl ?_ | refine OW_fieldB fldo_L8 rfl ?_ | refine OW_fieldO fldo_L0 rfl ?_ | refine OW_fieldO fldo_L7 rfl ?_ | refine OW_fieldO fldo_L8 rfl ?_ | refine OW_lenS und_Links rfl ?_ | refine OW_idxN und_Links el_Link rfl rfl _ rfl (by omega) ?_ | refine OW_lenS und_Acts rfl ?_ | refine OW_idxN und_Acts el_Act13 rfl rfl _ rfl (by omega) ?_ | refine OW_fieldO fldo_AA0 rfl ?_ | refine OW_fieldO fldo_AA1 rfl ?_ | refine OW_fieldO fldo_AA2 rfl ?_ | refine OW_fieldO fldo_AA3 rfl ?_ | refine OW_fieldO fldo_AA4 rfl ?_ | refine OW_fieldO fldo_AA5 rfl ?_ | refine OW_moveV (.int _ _) rfl ?_ | refine OW_moveV (.slice _ _ _) rfl ?_ | refine OW_moveV (.bool _) rfl ?_ | refine OW_moveV (.pointer _) rfl ?_ | refine OW_moveV (.string _) rfl ?_ | refine OW_moveV (.agg _) rfl ?_ | refine OW_moveV (.tuple _) rfl ?_ | refine OW_nil ?_ | refine thenE_normal ?_ | refine CW_seq ?_ | refine CW_region (by kernel_rfl) ?_ | refine OW_assignV (.int _ _) rfl ?_ | refine OW_assignV (.slice _ _ _) rfl ?_ | refine OW_assignV (.bool _) rfl ?_ | refine OW_assignV (.pointer _) rfl ?_ | refine OW_assignV (.string _) rfl ?_ | refine OW_assignV (.agg _) rfl ?_ | refine OW_assignV (.tuple _) rfl ?_ | refine OW_addI rfl rfl (by omega) ?_ | refine OW_subI rfl rfl (by omega) ?_ | refine OW_mulI rfl rfl (by omega) ?_ | refine OW_lss rfl rfl ?_ | refine OW_extract rfl rfl ?_ | refine OW_gtr rfl rfl ?_ | refine OW_leq rfl rfl ?_ | refine OW_geq rfl rfl ?_ | refine OW_eql rfl rfl ?_ | refine OW_neq rfl rfl ?_ | refine OW_not rfl ?_ | refine OW_pickT rfl _ rfl ?_ | refine OW_pickF rfl (.bool _) rfl ?_ | refine OW_pickB rfl rfl rfl ?_ | refine OW_move ?_ | refine OW_assign ?_ | refine OW_pass rfl ?_ | refine OW_take rfl ?_ | refine OW_lenS (by first | with_reducible exact und_bytes | with_reducible exact und_bytess) rfl ?_ | refine OW_convInt (by first | with_reducible exact und_u8 | with_reducible exact und_u64 | with_reducible exact und_int | with_reducible exact und_u32) (by first | with_reducible exact und_u8 | with_reducible exact und_u64 | with_reducible exact und_int | with_reducible exact und_u32) rfl ?_ | refine OW_add rfl rfl ?_ | refine OW_sub rfl rfl ?_ | refine OW_mul rfl rfl ?_ | refine OW_min2 rfl rfl ?_ | refine OW_max2 rfl rfl ?_ | refine OW_neg rfl ?_ | refine CW_block ?_ | refine CW_condT rfl ?_ | refine CW_condF rfl ?_ | refine CW_exit ?_ | refine CW_ret ?_ | refine CW_skip ?_ | refine LW_seq ?_ | refine LW_regC ?_ | refine LW_condC ?_ | refine LW_regF ?_ | refine LW_condF ?_ | refine FW_seq ?_ | refine FW_region (by kernel_rfl) ?_ | refine FW_block ?_ | refine FW_condT rfl ?_ | refine FW_condF rfl ?_ | refine FW_exit ?_ | refine FW_ret ?_ | refine FW_skip ?_ | refine LW_ret ?_ | refine LW_skip ?_ | refine thenE_exit ?_ | refine thenE_ret ?_ | refine inBlockE_normal ?_ | refine inBlockE_same ?_ | refine inBlockE_ret ?_ | refine inBlockE_ne (by rfl) ?_ | refine OW_eqlB (by with_reducible exact und_bool) rfl rfl ?_ | refine OW_neqB (by with_reducible exact und_bool) rfl rfl ?_ | refine OW_idxS (by with_reducible exact und_bytes) one_u8 rfl rfl _ rfl (by omega) ?_ | refine OW_idxS (by with_reducible exact und_bytess) one_bytes rfl rfl _ rfl (by omega) ?_ | refine OW_load1 (by first | with_reducible exact one_u8 | with_reducible exact one_bytes) rfl _ (by assumption) ?_ | refine OW_load1 s_int rfl _ (by assumption) ?_ | (refine OW_isLoad ?_; refine OW_loadBk (by first | with_reducible exact one_u8 | with_reducible exact one_bytes | with_reducible exact one_bool | with_reducible exact one_int | with_reducible exact one_errno | with_reducible exact one_u32 | with_reducible exact one_u64 | with_reducible exact one_string | with_reducible exact s_int | with_reducible exact one_u8) rfl (by apply_assumption; assumption) _ (by first | assumption | rfl) ?_) | refine OW_load1 (by first | with_reducible exact one_u8 | with_reducible exact one_bytes | with_reducible exact one_bool | with_reducible exact one_int | with_reducible exact one_errno | with_reducible exact one_u32 | with_reducible exact one_u64 | with_reducible exact one_string | with_reducible exact s_int | with_reducible exact one_u8) rfl _ (by apply_assumption; assumption) ?_)
         refine OW_nil ?_
         exact stay_mk _ _ _ _)
    | refine OY_a (actY_of rfl ?_)
    | refine OY_d (actY_of rfl ?_)
    | refine OY_a (actY_pass rfl rfl ?_)
    | refine OY_d (actY_pass rfl rfl ?_)
    | refine OY_a (actY_take rfl rfl ?_)
    | refine OY_d (actY_take rfl rfl ?_))
  exact hEnd.out) (k : B) : A := h ⟨k⟩
section
variable {ops : Array Oper} {Q : Exit → (Nat → Value) → World → Prop} {rest : List Oper} {e : Nat → Value} {w : World} {d : Tmp} {ty : TypeId} {pos : String} {aft : Array Edge}
theorem OW_eqlQT {P : Program} {x y : Operand} {t t' : TypeId} {n : Nat} (hq : EqR P t n) {a b : List UInt8} (hx : ev e x = .agg (a.map bv).toArray) (hy : ev e y = .agg (b.map bv).toArray) (ha : a.length = n) (hab : a = b)
    (h : OW P ops Q rest (upd e d (.bool true)) w) : OW P ops Q (⟨some d, .binOp .eql t x y t', ty, pos, aft, none⟩ :: rest) e w := by
  refine OW_eqlR hq hx hy ha (by rw [← hab]; exact ha) ?_
  rw [decide_eq_true hab]
  exact h
theorem OW_eqlKT {x y : Operand} {t' : TypeId} {a : LK} (hx : ev e x = .agg (lcells a).toArray) (hy : ev e y = .agg (lcells a).toArray) (ha : LOk a) (h : OW Try.prog ops Q rest (upd e d (.bool true)) w) : OW Try.prog ops Q (⟨some d, .binOp .eql 76 x y t', ty, pos, aft, none⟩ :: rest) e w :=
  OW_eqlK hx hy ha ha true (by simp) h
end
def aacells (a : AC) : List Value := [.int .i64 a.stamp, bv a.op, .int .i64 a.ten, .int .i64 a.a, .int .i64 a.b, .int .i64 a.c]
structure AcOk (a : AC) : Prop where
  i : I64 a.stamp ∧ I64 a.ten ∧ I64 a.a ∧ I64 a.b ∧ I64 a.c
def kAct13 : KD Try.prog 89 AC where
  n := 6
  hn := by kernel_rfl
  R := fun w cs a => cs = aacells a ∧ AcOk a
  ext := fun hx h => h
  opn := fun {H enc w fuel cs x} h hw => by
    obtain ⟨hl, hp⟩ := kd_parts Try.underlying89 h hw
    have hl : cs.length = 6 := by rw [hl]; kernel_rfl
    obtain ⟨a0, h0, r0⟩ := hp 0 _ rfl kI
    obtain ⟨a1, h1⟩ := hp 1 _ rfl kB8
    obtain ⟨a2, h2, r2⟩ := hp 2 _ rfl kI
    obtain ⟨a3, h3, r3⟩ := hp 3 _ rfl kI
    obtain ⟨a4, h4, r4⟩ := hp 4 _ rfl kI
    obtain ⟨a5, h5, r5⟩ := hp 5 _ rfl kI
    have e0 : (cs.drop 0).take 1 = [.int .i64 a0] := h0
    have e1 : (cs.drop (0 + 1)).take 1 = [bv a1] := h1
    have e2 : (cs.drop (0 + 1 + 1)).take 1 = [.int .i64 a2] := h2
    have e3 : (cs.drop (0 + 1 + 1 + 1)).take 1 = [.int .i64 a3] := h3
    have e4 : (cs.drop (0 + 1 + 1 + 1 + 1)).take 1 = [.int .i64 a4] := h4
    have e5 : (cs.drop (0 + 1 + 1 + 1 + 1 + 1)).take 1 = [.int .i64 a5] := h5
    have eN : cs.drop (0 + 1 + 1 + 1 + 1 + 1 + 1) = [] := List.drop_of_length_le (by omega)
    have := cut_cons cs 0 1
    rw [cut_cons cs (0 + 1) 1, cut_cons cs (0 + 1 + 1) 1, cut_cons cs (0 + 1 + 1 + 1) 1, cut_cons cs (0 + 1 + 1 + 1 + 1) 1, cut_cons cs (0 + 1 + 1 + 1 + 1 + 1) 1, e0, e1, e2, e3, e4, e5, eN, List.drop_zero] at this
    rw [this]
    refine ⟨⟨a0, a1, a2, a3, a4, a5⟩, ?_, r0, r2, r3, r4, r5⟩
    simp [aacells]
theorem und_Acts : Try.prog.underlying 86 = some (.slice 89) := Try.underlying86
theorem el_Act13 : ElT Try.prog 89 6 := ⟨by kernel_rfl⟩
def kActs13 : KD Try.prog 86 (List AC) := kSlice kAct13 und_Acts (by kernel_rfl) (of_decide_eq_true (by kernel_rfl))
theorem agg_Act13 : AggT Try.prog 89 6 (aacells ⟨0, 0, 0, 0, 0, 0⟩) := ⟨⟨_, Try.underlying89, rfl⟩, by kernel_rfl, fun w => by kernel_rfl⟩
theorem fldo_AA0 : FldO Try.prog 89 0 0 := ⟨fun w a => by kernel_rfl⟩
theorem fldo_AA1 : FldO Try.prog 89 1 1 := ⟨fun w a => by kernel_rfl⟩
theorem fldo_AA2 : FldO Try.prog 89 2 2 := ⟨fun w a => by kernel_rfl⟩
theorem fldo_AA3 : FldO Try.prog 89 3 3 := ⟨fun w a => by kernel_rfl⟩
theorem fldo_AA4 : FldO Try.prog 89 4 4 := ⟨fun w a => by kernel_rfl⟩
theorem fldo_AA5 : FldO Try.prog 89 5 5 := ⟨fun w a => by kernel_rfl⟩
theorem acts_of {w : World} {A : Option Addr} {l : List AC} (h : SlR kAct13.n kAct13.R w A l) : RdN w A 6 (l.map aacells) ∧ ∀ x ∈ l, AcOk x :=
  ⟨slr_rdN aacells (by decide) (fun cs a hr => hr.1) h, fun x hx => by
    obtain ⟨i, hi, rfl⟩ := List.mem_iff_getElem.1 hx
    obtain ⟨ad, ce, e1, e2, e3, e4⟩ := h i hi
    exact e4.2⟩
set_option maxHeartbeats 8000000 in
theorem refAdd_any (w : World) (A : Option Addr) (c : Nat) (l : List LK) (hl : LRd w A l) (hk : ∀ x ∈ l, LOk x) (hc : l.length ≤ c) (hn : l.length ≤ 100000) (stamp ten a b cc : Int) (op : UInt8) (hi : I64 stamp ∧ I64 ten ∧ I64 a ∧ I64 b ∧ I64 cc) : Calls Try.prog 50 #[.slice A l.length c, .int .i64 stamp, bv op, .int .i64 ten, .int .i64 a, .int .i64 b, .int .i64 cc] w
    (fun en w' => ∃ A2 c2, en = .returned (.slice A2 (l ++ [nextL l stamp op ten a b cc]).length c2) ∧ LOwn w' w.heap.size A2 c2 (l ++ [nextL l stamp op ten a b cc]) ∧ Ext w w') := by
  have hhl := headL_len hk
  refine calls_of_CW Try.func50 rfl (by simp [Try.ntmps50]) ?_
  rw [Try.ntmps50]
  refine go_Aud4 (k := ?_)
  refine OW_build _ _ (bld_lk6 ((l.length : Int) + 1) stamp ten a b cc op) rfl ?_
  refine go_Aud4 (k := ?_)
  refine OW_allocA agg_Link ?_
  intro w1 g2 hb1 hg2 hlt2 hx1
  refine go_Aud4 (k := ?_)
  refine OW_storeA agg_Link rfl (lcells ⟨(l.length : Int) + 1, stamp, op, ten, a, b, cc, tzS, tzS⟩) rfl rfl hb1 (by kernel_rfl) (lcells_one _) ?_
  intro w2 hb2 hg2b
  have hx02 : Ext w w2 := (Keeps.of_only hg2b (S := (· = g2)) rfl).ext hx1 (fun j hj => by have hj : j = g2 := hj; omega)
  clear hb1 hg2b
  refine go_Aud4 (k := ?_)
  refine CW_meet (fun e' w' => e' 0 = .slice A l.length c ∧ e' 15 = .pointer (some ⟨g2, 0, none⟩) ∧ Blk w' g2 76 (lcells ⟨(l.length : Int) + 1, stamp, op, ten, a, b, cc, headL l, tzS⟩).toArray ∧ Ext w w') ?_ ?_
  · refine CW_cond _ rfl (fun hh => ?_) (fun hh => ?_)
    · have hpos : 0 < l.length := by have := of_decide_eq_true hh; omega
      clear hh
      obtain ⟨ad, hA, hat⟩ := (hl.ext hx02).at_ (i := l.length - 1) (by omega)
      have hlast : headL l = (l[l.length - 1]'(by omega)).self := by
        unfold headL
        rw [List.getLast?_eq_getElem?, List.getElem?_eq_getElem (by omega)]
      have hokx := hk _ (List.getElem_mem (show l.length - 1 < l.length by omega))
      rw [hlast]
      generalize l[l.length - 1]'(by omega) = y at *
      have hsy := sAt hokx hat
      subst hA
      refine go_Aud4 (k := ?_)
      refine OW_idxN und_Links el_Link rfl rfl (l.length - 1) (by omega) (by omega) ?_
      refine OW_fieldO fldo_L8 rfl ?_
      refine OW_loadX s_agg_Tag rfl (y.self.map bv) hsy.len hsy.at_ ?_
      refine OW_fieldB fldo_L7 rfl ?_
      refine OW_storeM s_agg_Tag rfl (y.self.map bv) rfl hsy.len hb2 (by rw [lcells_length ⟨rfl, rfl, by unfold I64; simp only; omega, hi.1, hi.2.1, hi.2.2.1, hi.2.2.2.1, hi.2.2.2.2⟩]; decide) (bv_one _) ?_
      intro w3 hb3 hg3
      rw [set_ahead _ _ _ _ _ _ _ _ _ _ rfl rfl] at hb3
      refine go_Aud4 (k := ?_)
      exact ⟨rfl, rfl, rfl, hb3, (Keeps.of_only hg3 (S := (· = g2)) rfl).ext hx02 (fun j hj => by have hj : j = g2 := hj; omega)⟩
    · have hz : l = [] := List.eq_nil_of_length_eq_zero (by have := of_decide_eq_false hh; omega)
      have hh0 : headL l = tzS := by rw [hz]; rfl
      rw [hh0]
      refine go_Aud4 (k := ?_)
      exact ⟨rfl, rfl, rfl, hb2, hx02⟩
  clear hb2
  rintro e3 w3 ⟨q0, q15, hb3, hx03⟩
  rw [upd_self q0, upd_self q15]
  obtain ⟨hd, hhd⟩ : ∃ hd, headL l = hd := ⟨_, rfl⟩
  rw [hhd] at hhl hb3
  obtain ⟨x0, hx0⟩ : ∃ x0 : LK, x0 = ⟨(l.length : Int) + 1, stamp, op, ten, a, b, cc, hd, tzS⟩ := ⟨_, rfl⟩
  rw [← hx0] at hb3
  have hnx : nextL l stamp op ten a b cc = { x0 with self := linkH x0 } := by rw [hx0, ← hhd]; rfl
  have hok0 : LOk x0 := by rw [hx0]; exact ⟨hhl, rfl, by unfold I64; simp only; omega, hi.1, hi.2.1, hi.2.2.1, hi.2.2.2.1, hi.2.2.2.2⟩
  have hx0l := lcells_length hok0
  refine go_Aud4 (k := ?_)
  refine OW_loadX agg_Link rfl (lcells x0) hx0l hb3.atL ?_
  refine go_Aud4 (k := ?_)
  refine OW_callV Try.func53 (by kernel_rfl) rfl (refLHash_any w3 x0 hok0) rfl ?_
  intro w4 hx4
  have hHl : (linkH x0).length = 32 := shaL_length _
  obtain ⟨H, hH⟩ : ∃ H, linkH x0 = H := ⟨_, rfl⟩
  rw [hH] at hHl hnx ⊢
  refine go_Aud4 (k := ?_)
  refine OW_storeM s_agg_Tag rfl (H.map bv) rfl (by rw [List.length_map, hHl]) (hb3.ext hx4) (by rw [hx0l]; decide) (bv_one _) ?_
  intro w5 hb5 hg5
  have hx05 : Ext w w5 := (Keeps.of_only hg5 (S := (· = g2)) rfl).ext (hx03.trans' hx4) (fun j hj => by have hj : j = g2 := hj; omega)
  obtain ⟨x, hxe⟩ : ∃ x : LK, x = { x0 with self := H } := ⟨_, rfl⟩
  rw [← hxe] at hnx
  rw [hnx]
  have hsx : (lcells x0).take 39 ++ H.map bv ++ (lcells x0).drop (39 + 32) = lcells x := by
    have := set_self x0.n x0.stamp x0.ten x0.a x0.b x0.c x0.op x0.ahead x0.self H hok0.ahead hok0.self
    rw [hxe]
    exact this
  rw [hsx] at hb5
  have hxl : (lcells x).length = 71 := by rw [hxe]; exact lcells_length ⟨hok0.ahead, hHl, hok0.i⟩
  have hr0 : RdN w A 71 (l.map lcells) := hl
  have hlen : (l.map lcells).length = l.length := List.length_map _
  have hfl := flat_len hr0.len
  clear hb3 hx0 hhd hg5 hsx hnx
  refine go_Aud4 (k := ?_)
  obtain ⟨C, hC⟩ : ∃ C : World → Prop, C = fun v => Ext w5 v := ⟨_, rfl⟩
  have yX : ∀ v, C v → AtM v ⟨g2, 0, none⟩ (lcells x) 71 := by rw [hC]; exact fun v hv => ⟨(hb5.ext hv).atL, hxl⟩
  refine CW_tree2 [3] (.p 1 (.q 3 (Ty.graft (.a2 0 (.a2 2 (.d 4 .done) 4 (.a 2 .done)) 4 (.a 0 (.a 2 .done))) (.d 5 (.p 6 .done))))) (C) (by kernel_rfl) (by kernel_rfl) (by kernel_rfl) ?_ ?_
  · exact inE hC
  intro w6 hy6 h_C
  refine oy_Aud4 (k := ?_)
  refine OY_a2 (actY_of rfl ?_) (actY_of rfl ?_)
  · skip
    refine OW_litM [] und_Links agg_Link rfl rfl (by simp) (by decide) ?_
    intro w7 gE hbE hgE hlE hx7
    have hoE : w7.ownsRow w5.heap.size 76 71 (.slice (some ⟨gE, 0, none⟩) 0 0) 0 [] := ownN_of_blk (by have := hy6.size; omega) hbE rfl (Nat.le_refl _) (by decide) (by simp)
    have hy7 := hy6.trans' hx7
    first | refine OW_nil (goY_mkE hC (hy7) ?_) | refine OW_nil (goY_dropE hC (hy7) ?_)
    refine oy_Aud4 (k := ?_)
    refine OY_a2 (actY_of rfl ?_) (actY_of rfl ?_)
    · skip
      refine OW_appendN (k := 71) und_Links info_Link rfl (by decide) rfl rfl (ownN_ext hoE (Ext.rfl' _)) (hr0.rd.ext (hx05.trans' hy7)) (by rw [hfl, hlen]) (links_one l) (by unfold maxLen; omega) (by omega) hy7.size ?_
      intro w8 AP cP hoP hgP _
      rw [Nat.zero_add, List.nil_append] at hoP
      rw [Nat.zero_add]
      have hkP : Keeps w7 w8 (· = gE) := Keeps.of_grown hgP (fun b hb => by cases hb; rfl)
      have hy8 : Ext w5 w8 := hkP.ext hy7 (fun j hj => by have hj : j = gE := hj; have := hy6.size; omega)
      first | refine OW_nil (goY_mkE hC (hy8) ?_) | refine OW_nil (goY_dropE hC (hy8) ?_)
      refine oy_Aud4 (k := ?_)
      refine OW_litM [lcells x] und_Links agg_Link rfl rfl (by intro v hv; rw [List.mem_singleton] at hv; subst hv; exact hxl) (by decide) ?_
      intro w9 gB hbB hgB hlB hx9
      have hbB : Blk w9 gB 76 (lcells x).toArray := by simpa using hbB
      have hy9 := hy8.trans' hx9
      first | refine OW_nil (goY_mkE hC (hy9) ?_) | refine OW_nil (goY_dropE hC (hy9) ?_)
      refine oy_Aud4 (k := ?_)
      have hbB2 := hbB
      refine OW_appendN (k := 71) und_Links info_Link rfl (by decide) rfl rfl (ownN_ext hoP hx9) (by simpa using hbB2.rd) (by rw [hxl]) (lcells_one x) (by unfold maxLen; omega) (by omega) (by have := hy9.size; omega) ?_
      intro w20 A20 c20 ho20 hg20 _
      have hk20 : Keeps w9 w20 (fun j => w5.heap.size ≤ j) := Keeps.of_grown hg20 (fun b hb => by
        cases AP with
        | none => cases hb
        | some ad => cases hb; exact (ownN_block hoP ad rfl).1)
      have hy20 : Ext w5 w20 := hk20.ext hy9 (fun j hj => hj)
      first | refine OW_nil (goY_mkE hC (hy20) ?_) | refine OW_nil (goY_dropE hC (hy20) ?_)
      refine oy_Aud4 (k := ?_)
      refine go_Aud4 (k := ?_)
      refine bodyE_ret1 rfl (.slice A20 (l.length + 1) c20) rfl ⟨A20, c20, by rw [List.length_append]; rfl, ?_, hx05.trans' hy20⟩
      unfold LOwn
      rw [List.length_append, List.map_append, List.flatten_append, List.length_singleton]
      simp only [List.map_cons, List.map_nil, List.flatten_cons, List.flatten_nil, List.append_nil]
      exact ownN_mono ho20 hx05.size
    · skip
      refine OW_litM [lcells x] und_Links agg_Link rfl rfl (by intro v hv; rw [List.mem_singleton] at hv; subst hv; exact hxl) (by decide) ?_
      intro w8 gB hbB hgB hlB hx8
      have hbB : Blk w8 gB 76 (lcells x).toArray := by simpa using hbB
      have hy8 := hy7.trans' hx8
      first | refine OW_nil (goY_mkE hC (hy8) ?_) | refine OW_nil (goY_dropE hC (hy8) ?_)
      refine oy_Aud4 (k := ?_)
      refine OW_appendN (k := 71) und_Links info_Link rfl (by decide) rfl rfl (ownN_ext hoE hx8) (hr0.rd.ext (hx05.trans' hy8)) (by rw [hfl, hlen]) (links_one l) (by unfold maxLen; omega) (by omega) hy8.size ?_
      intro w9 AP cP hoP hgP _
      rw [Nat.zero_add, List.nil_append] at hoP
      rw [Nat.zero_add]
      have hkP : Keeps w8 w9 (· = gE) := Keeps.of_grown hgP (fun b hb => by cases hb; rfl)
      have hy9 : Ext w5 w9 := hkP.ext hy8 (fun j hj => by have hj : j = gE := hj; have := hy6.size; omega)
      first | refine OW_nil (goY_mkE hC (hy9) ?_) | refine OW_nil (goY_dropE hC (hy9) ?_)
      refine oy_Aud4 (k := ?_)
      have hbB2 := (hbB.keeps hkP (by omega))
      refine OW_appendN (k := 71) und_Links info_Link rfl (by decide) rfl rfl hoP (by simpa using hbB2.rd) (by rw [hxl]) (lcells_one x) (by unfold maxLen; omega) (by omega) (by have := hy9.size; omega) ?_
      intro w20 A20 c20 ho20 hg20 _
      have hk20 : Keeps w9 w20 (fun j => w5.heap.size ≤ j) := Keeps.of_grown hg20 (fun b hb => by
        cases AP with
        | none => cases hb
        | some ad => cases hb; exact (ownN_block hoP ad rfl).1)
      have hy20 : Ext w5 w20 := hk20.ext hy9 (fun j hj => hj)
      first | refine OW_nil (goY_mkE hC (hy20) ?_) | refine OW_nil (goY_dropE hC (hy20) ?_)
      refine oy_Aud4 (k := ?_)
      refine go_Aud4 (k := ?_)
      refine bodyE_ret1 rfl (.slice A20 (l.length + 1) c20) rfl ⟨A20, c20, by rw [List.length_append]; rfl, ?_, hx05.trans' hy20⟩
      unfold LOwn
      rw [List.length_append, List.map_append, List.flatten_append, List.length_singleton]
      simp only [List.map_cons, List.map_nil, List.flatten_cons, List.flatten_nil, List.append_nil]
      exact ownN_mono ho20 hx05.size
  · skip
    refine OW_litM [lcells x] und_Links agg_Link rfl rfl (by intro v hv; rw [List.mem_singleton] at hv; subst hv; exact hxl) (by decide) ?_
    intro w7 gB hbB hgB hlB hx7
    have hbB : Blk w7 gB 76 (lcells x).toArray := by simpa using hbB
    have hy7 := hy6.trans' hx7
    first | refine OW_nil (goY_mkE hC (hy7) ?_) | refine OW_nil (goY_dropE hC (hy7) ?_)
    refine oy_Aud4 (k := ?_)
    refine OW_litM [] und_Links agg_Link rfl rfl (by simp) (by decide) ?_
    intro w8 gE hbE hgE hlE hx8
    have hoE : w8.ownsRow w5.heap.size 76 71 (.slice (some ⟨gE, 0, none⟩) 0 0) 0 [] := ownN_of_blk (by have := hy7.size; omega) hbE rfl (Nat.le_refl _) (by decide) (by simp)
    have hy8 := hy7.trans' hx8
    first | refine OW_nil (goY_mkE hC (hy8) ?_) | refine OW_nil (goY_dropE hC (hy8) ?_)
    refine oy_Aud4 (k := ?_)
    refine OW_appendN (k := 71) und_Links info_Link rfl (by decide) rfl rfl (ownN_ext hoE (Ext.rfl' _)) (hr0.rd.ext (hx05.trans' hy8)) (by rw [hfl, hlen]) (links_one l) (by unfold maxLen; omega) (by omega) hy8.size ?_
    intro w9 AP cP hoP hgP _
    rw [Nat.zero_add, List.nil_append] at hoP
    rw [Nat.zero_add]
    have hkP : Keeps w8 w9 (· = gE) := Keeps.of_grown hgP (fun b hb => by cases hb; rfl)
    have hy9 : Ext w5 w9 := hkP.ext hy8 (fun j hj => by have hj : j = gE := hj; have := hy7.size; omega)
    first | refine OW_nil (goY_mkE hC (hy9) ?_) | refine OW_nil (goY_dropE hC (hy9) ?_)
    refine oy_Aud4 (k := ?_)
    have hbB2 := ((hbB.ext hx8).keeps hkP (by have := hbB.lt; omega))
    refine OW_appendN (k := 71) und_Links info_Link rfl (by decide) rfl rfl hoP (by simpa using hbB2.rd) (by rw [hxl]) (lcells_one x) (by unfold maxLen; omega) (by omega) (by have := hy9.size; omega) ?_
    intro w20 A20 c20 ho20 hg20 _
    have hk20 : Keeps w9 w20 (fun j => w5.heap.size ≤ j) := Keeps.of_grown hg20 (fun b hb => by
      cases AP with
      | none => cases hb
      | some ad => cases hb; exact (ownN_block hoP ad rfl).1)
    have hy20 : Ext w5 w20 := hk20.ext hy9 (fun j hj => hj)
    first | refine OW_nil (goY_mkE hC (hy20) ?_) | refine OW_nil (goY_dropE hC (hy20) ?_)
    refine oy_Aud4 (k := ?_)
    refine go_Aud4 (k := ?_)
    refine bodyE_ret1 rfl (.slice A20 (l.length + 1) c20) rfl ⟨A20, c20, by rw [List.length_append]; rfl, ?_, hx05.trans' hy20⟩
    unfold LOwn
    rw [List.length_append, List.map_append, List.flatten_append, List.length_singleton]
    simp only [List.map_cons, List.map_nil, List.flatten_cons, List.flatten_nil, List.append_nil]
    exact ownN_mono ho20 hx05.size
set_option maxHeartbeats 8000000 in
theorem chain_any (w : World) (A : Option Addr) (c : Nat) (l : List AC) (hl : RdN w A 6 (l.map aacells)) (hk : ∀ x ∈ l, AcOk x) (hn : l.length ≤ 1000) : Calls Try.prog 59 #[.slice A l.length c] w
    (fun en w' => ∃ A2 c2, en = .returned (.slice A2 (chainL l).length c2) ∧ LOwn w' w.heap.size A2 c2 (chainL l) ∧ Ext w w') := by
  have hcok : ∀ k, ∀ x ∈ chainL (l.take k), LOk x := fun k => chainL_ok (by rw [List.length_take]; omega) (fun x hx => (hk x (List.mem_of_mem_take hx)).i)
  have hcl : ∀ k, (chainL (l.take k)).length ≤ 1000 := fun k => by rw [chainL_len, List.length_take]; omega
  refine calls_of_CW Try.func59 rfl (by simp [Try.ntmps59]) ?_
  rw [Try.ntmps59]
  refine go_Aud4 (k := ?_)
  refine CW_loop (fun e' w' => ∃ (k : Nat) (A2 : Option Addr) (c2 : Nat), k ≤ l.length ∧ e' 0 = .slice A l.length c ∧ e' 3 = .slice A2 (chainL (l.take k)).length c2 ∧ e' 4 = .int .i64 k ∧ LOwn w' w.heap.size A2 c2 (chainL (l.take k)) ∧ Ext w w') (fun e' _ => l.length - (intOf (e' 4)).toNat) ⟨0, none, 0, Nat.zero_le _, rfl, rfl, rfl, LOwn.nil _ _, Ext.rfl' _⟩ ?_
  rintro e' w1 ⟨k, A2, c2, hk2, e0, e3, e4, hO, hx1⟩
  rw [upd_self e0, upd_self e3, upd_self e4]
  refine go_Aud4 (k := ?_)
  refine CW_cond _ rfl (fun hh => ?_) (fun hh => ?_)
  · have hlt : k < l.length := by have := of_decide_eq_true hh; omega
    clear hh
    obtain ⟨ad, hA, hat⟩ := (hl.ext hx1).at_ (by decide) (i := k) (by simpa using hlt)
    have hact := hk _ (List.getElem_mem hlt)
    have hsucc : chainL (l.take (k + 1)) = chainL (l.take k) ++ [nextL (chainL (l.take k)) l[k].stamp l[k].op l[k].ten l[k].a l[k].b l[k].c] := by rw [List.take_succ_eq_append_getElem hlt, chainL_snoc]; rfl
    rw [List.getElem_map] at hat
    have hok := hcok k
    have hll := hcl k
    generalize l[k] = x at *
    generalize chainL (l.take k) = z at *
    subst hA
    have c0 : w1.cell? ((ad.add (k * 6)).add 0) = some (.int .i64 x.stamp) := hat 0 _ rfl
    have c1 : w1.cell? ((ad.add (k * 6)).add 1) = some (bv x.op) := hat 1 _ rfl
    have c2b : w1.cell? ((ad.add (k * 6)).add 2) = some (.int .i64 x.ten) := hat 2 _ rfl
    have c3 : w1.cell? ((ad.add (k * 6)).add 3) = some (.int .i64 x.a) := hat 3 _ rfl
    have c4 : w1.cell? ((ad.add (k * 6)).add 4) = some (.int .i64 x.b) := hat 4 _ rfl
    have c5 : w1.cell? ((ad.add (k * 6)).add 5) = some (.int .i64 x.c) := hat 5 _ rfl
    refine go_Aud4 (k := ?_)
    obtain ⟨C, hC⟩ : ∃ C : World → Prop, C = fun v => Ext w1 v := ⟨_, rfl⟩
    have y_c0 := cellE hC c0
    have y_c1 := cellE hC c1
    have y_c2b := cellE hC c2b
    have y_c3 := cellE hC c3
    have y_c4 := cellE hC c4
    have y_c5 := cellE hC c5
    refine CW_tree2 [5, 10, 15, 20, 25, 30] (.p 0 (.p 1 (.p 2 (.p 3 (.p 4 (.q 5 (.p 6 (.p 7 (.p 8 (.p 9 (.q 10 (.p 11 (.p 12 (.p 13 (.p 14 (.q 15 (.p 16 (.p 17 (.p 18 (.p 19 (.q 20 (.p 21 (.p 22 (.p 23 (.p 24 (.q 25 (.p 26 (.p 27 (.p 28 (.p 29 (.q 30 (.d 31 (.p 32 .done))))))))))))))))))))))))))))))))) (C) (by kernel_rfl) (by kernel_rfl) (by kernel_rfl) ?_ ?_
    · exact inE hC
    intro w2 hx2 h_C
    refine oy_Aud4 (k := ?_)
    refine OW_callC Try.func49 (by kernel_rfl) rfl (audAdd_any w2 A2 c2 z ((hO.ext hx2).rd hok) hok (hO.cap) (by omega) x.stamp x.ten x.a x.b x.c x.op hact.i) rfl ?_
    rintro en w3 ⟨A3, c3b, rfl, hO3, hx3⟩
    refine ⟨_, rfl, ?_⟩
    rw [← hsucc] at hO3 ⊢
    first | refine OW_nil (goY_mkE hC (hx2.trans' hx3) ?_) | refine OW_nil (goY_dropE hC (hx2.trans' hx3) ?_)
    refine oy_Aud4 (k := ?_)
    refine go_Aud4 (k := ?_)
    refine ⟨⟨k + 1, A3, c3b, by omega, rfl, rfl, rfl, hO3.mono (hx1.trans' hx2).size, hx1.trans' (hx2.trans' hx3)⟩, ?_⟩
    show l.length - ((k : Int) + 1).toNat < l.length - (k : Int).toNat
    omega
  · have hge : k = l.length := by have := of_decide_eq_false hh; omega
    subst hge
    rw [List.take_length] at hO ⊢
    refine go_Aud4 (k := ?_)
    exact bodyE_ret1 rfl _ rfl ⟨A2, c2, rfl, hO, hx1⟩
end Go.Proofs.Ytdpcahfgdpikfaa
